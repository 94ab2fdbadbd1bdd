/- A part of the proof: WSame24 -/
import Derived.Test.YtllcdbgjeidlkaaGreatDoorT29
import Derived.Test.YtllcdbgjeidlkaaGreatDoorT11
import Derived.Test.YtllcdbgjeidlkaaGreatDoorT28
import Derived.Test.YtllcdbgjeidlkaaGreatDoorT00
import Derived.Test.YtllcdbgjeidlkaaGreatDoorT12
import Derived.Test.YtllcdbgjeidlkaaGreatDoorT01
import Derived.Test.YtllcdbgjeidlkaaGreatDoorT04
import Derived.Test.YtllcdbgjeidlkaaGreatDoorT18
import Derived.Test.YtllcdbgjeidlkaaGreatDoorT21
import Derived.Test.YtllcdbgjeidlkaaGreatDoorT22
set_option maxHeartbeats 80000000
set_option maxRecDepth 100000
set_option linter.unusedSimpArgs false
set_option linter.unusedVariables false
namespace Go.Proofs.YtllcdbgjeidlkaaGreatDoor
open Go.Proofs.Tryz
open Go.RowKit
def zxB (l:Nat->List It) (t:Int):Bool:=
 inC t&&(decide (t%86400%60=0)&&(inB (l 0) 0 59 (t%86400 / 60%60)&&(inB (l 1) 0 23 (t%86400 / 3600)&&(inB (l 3) 1 12 (mD (t / 86400))&&
 (if zwV (l 2)||zwV (l 4) then inB (l 2) 1 31 (dD (t / 86400))&&(inB (l 4) 0 7 (wdD (t / 86400))||(decide (wdD (t / 86400)=7)&&inB (l 4) 0 7 0))
  else inB (l 2) 1 31 (dD (t / 86400))||(inB (l 4) 0 7 (wdD (t / 86400))||(decide (wdD (t / 86400)=7)&&inB (l 4) 0 7 0)))))))
end Go.Proofs.YtllcdbgjeidlkaaGreatDoor
namespace Go.Proofs.YtllcdbgjeidlkaaGreatDoor
open Go.Proofs.Tryz
def zbx (m:Nat):List Int:=(zam m).map fun(k:Nat)=>(k:Int)
theorem zji {m:Nat} {x:Int}:x∈zbx m↔∃k:Nat,k<64/\m.testBit k=true/\x=(k:Int):=by
 unfold zbx;rw[List.mem_map];constructor
 ·rintro ⟨k,hk,rfl⟩;obtain⟨h1,h2⟩:=zaN.1 hk;exact⟨k,h1,h2,rfl⟩
 ·rintro ⟨k,h1,h2,rfl⟩;exact⟨k,zaN.2 ⟨h1,h2⟩,rfl⟩
theorem zv1 (m:Nat):(zbx m).Pairwise (·< ·):=by
 unfold zbx;rw[List.pairwise_map];exact(zaW m).imp fun h=>by omega
theorem zgt (m:Nat):(zbx m).length<65:=by
 unfold zbx;rw[List.length_map];exact Nat.lt_succ_of_le (zdw m)
def BdM (lo hi:Nat) (m:Nat):Prop:=∀k,k<64->m.testBit k=true->lo<=k/\k<=hi
theorem BdM.numb {lo hi m:Nat} (h:BdM lo hi m) (hle:lo<=hi) (h9:hi<=999):Numb (lo:Int) (hi:Int) (zbx m):=⟨by omega,by omega,by omega,fun x hx=>by
 obtain⟨k,h1,h2,rfl⟩:=zji.1 hx;have:=h k h1 h2;omega,zv1 m⟩
def zwP (w:Nat):Nat:=mkN (fun k=>if k=0 then w.testBit 0||w.testBit 7 else decide (k≠7)&&w.testBit k) 64
def zxC (m j:Nat):Nat:=mkN (fun k=>decide (k≠j)&&m.testBit k) 64
def zdP (mo:Nat):Int:=(zam mo).foldl (fun(a:Int) (m:Nat)=>max a (zbt 2000 (m:Int))) 0
theorem ztp {mo:Nat} {d:Int} (h0:1<=d) (h:d<=zdP mo):∃m∈zam mo,d<=zbt 2000 (m:Int):=by
 unfold zdP at h;have:∀(l:List Nat) (a:Int),d<=l.foldl (fun(a:Int) (m:Nat)=>max a (zbt 2000 (m:Int))) a->d<=a\/∃m∈l,d<=zbt 2000 (m:Int):=by
  intro l;induction l with
  |nil=>intro a h;exact .inl h
  |cons b l ih=>
   intro a h;rw[List.foldl_cons] at h;rcases ih _ h with h|⟨m,hm,h⟩
   ·by_cases hb:d<=zbt 2000 (b:Int)
    ·exact .inr ⟨b,by simp,hb⟩
    ·exact .inl oQ
   ·exact .inr ⟨m,by simp[hm],h⟩
 rcases this _ 0 h with h|h
 ·omega
 ·exact h
def zlN (mo d:Nat):Bool:=(List.range 32).all fun k=>!decide (1<=k/\(k:Int)<=zdP mo)||d.testBit k
def zqW (w:Nat):Bool:=(List.range 7).all fun k=>(zwP w).testBit k
def zuW (mi ho mo:Nat) (day week:List It) (k:Nat):List It:=
 if k=0 then zae 0 59 (zbx mi) true else if k=1 then zae 0 23 (zbx ho) true else if k=2 then day else if k=3 then zae 1 12 (zbx mo) true else week
def zv2 (mo d w:Nat):List It:=if zlN mo d then [⟨0,0,0,1⟩] else if zqW w then zae 1 31 (zbx d) false else if d.testBit 1 then⟨0,0,0,31⟩::zae 1 31 (zbx (zxC d 1)) false else zae 1 31 (zbx d) false
def ztq (mo d w:Nat):List It:=if zqW w then [⟨0,0,0,1⟩] else if zlN mo d then zae 0 6 (zbx (zwP w)) false else if d.testBit 1 then zae 0 6 (zbx (zwP w)) false else⟨0,0,0,8⟩::zae 0 6 (zbx (zxC (zwP w) 0)) false
def zqX (mo d w:Nat):Bool:=zlN mo d||(zqW w||(d.testBit 1||(zwP w).testBit 0))
noncomputable def ztr (P:Int->Nat->Bool):Nat->List It:=zuW (zlK P) (zeT P) (zhw P) (zv2 (zhw P) (zhI P) (wkF P)) (ztq (zhw P) (zhI P) (wkF P))
noncomputable def zlO (P:Int->Nat->Bool):Nat->List It:=zuW (zlK P) (zeT P) (zhw P) (zae 1 31 (zbx (domW P)) false) (zae 0 6 (zbx (zwP (wkW P))) false)
def noneL (k:Nat):List It:=if k=0 then [⟨1,0,0,0⟩] else if k=1 then [⟨1,0,0,0⟩] else if k=2 then [⟨1,30,0,0⟩] else if k=3 then [⟨1,2,0,0⟩] else [⟨0,0,0,1⟩]
def lineP (x:Nat->List It) (n:Int) (s:Nat):Bool:=zxB x (n * 86400+(s:Int))
def zqY (x:Nat->List It) (P:Int->Nat->Bool):Prop:=chk x=(5,0)/\zv0 (lineP x) P
inductive Rais (P:Int->Nat->Bool):Option (Nat->List It)->Prop
 |empty:¬zk6 P->Rais P (some noneL)
 |both:zk6 P->zqX (zhw P) (zhI P) (wkF P)=true->zqY (ztr P) P->Rais P (some (ztr P))
 |either:zk6 P->¬(zqX (zhw P) (zhI P) (wkF P)=true/\zqY (ztr P) P)->domW P≠0->wkW P≠0->zqY (zlO P) P->Rais P (some (zlO P))
 |none:zk6 P->¬(zqX (zhw P) (zhI P) (wkF P)=true/\zqY (ztr P) P)->¬(domW P≠0/\wkW P≠0/\zqY (zlO P) P)->Rais P Option.none
end Go.Proofs.YtllcdbgjeidlkaaGreatDoor
namespace Go.Proofs.YtllcdbgjeidlkaaGreatDoor
open Go.Proofs.Tryz
open Go.RowKit
attribute [local go_sem] Oper.semAt_some
theorem zon {F:Fence} {n:Nat} {P:Program} {α:Type} {c:Code} {Q:Exit->Act->World->Prop} {a:Act} {w:World} (ds:α->List (Nat×Value)) (R:α->World->Prop) (h2:c.wpIn F n P (zxu ds R a) a w) (h1:∀x w',R x w'->Q .normal (zdO (ds x) a) w'):c.wpIn F n P Q a w:=
 Go.wpIn_mono h2 (by rintro e a' w' ⟨rfl,x,rfl,hr⟩;exact h1 x w' hr)
def zlP (l:List Nat):Int:=l.foldl (fun(a:Int) (m:Nat)=>max a (zbt 2000 (m:Int))) 0
theorem zoo (l:List Nat) (x:Nat):zlP (l++[x])=max (zlP l) (zbt 2000 (x:Int)):=by
 unfold zlP;rw[List.foldl_append];rfl
end Go.Proofs.YtllcdbgjeidlkaaGreatDoor
namespace Go.Proofs.YtllcdbgjeidlkaaGreatDoor
open Go.Proofs.Tryz
open Go.RowKit Go.Shelf
attribute [local go_sem] Oper.semAt_some
abbrev zxD (l:List Nat):List Value:=l.map fun(k:Nat)=>Value.int .i64 (k:Int)
def zlQ (l:List Nat) (w:World) (e:Ending) (w':World):Prop:=∃v,e=.returned v/\w'.ownsRow w.heap.size 3 1 v l.length (zxD l)/\Below w.heap.size w w'
theorem KpT.of_below {p q B:Nat} {W W':World} (h:Below B W W') (hq:q<=B) (hg:0<B):KpT p q W W':=
 ⟨⟨h.size,fun k _ h2=>h.block k oQ⟩,fun t j hj=>by
   have:=t j hj;exact(wbK (h.block _ hg)).trans this⟩
theorem zjj (gf:Nat) (lb:Array Value) (L:List Nat) (p q N:Nat) (w:World) (hN:N<=1000000) (hq:q<=w.heap.size) (hg:0<w.heap.size)
 (eg:∀args w,(callFunc gf args).run prog w=.ok (.enter gf args) w) (hseq:∀W,Below w.heap.size w W->SeqStopsK Fence.wide 2 prog gf lb (fun k:Nat=> #[.int .i64 (k:Int)]) (KpT p q) (fun xs=>xs=L) (fun pre=>pre<+:L) N W):
 Calls prog 153 #[.slice none 0 0,.func (.func gf) #[] lb] w (zlQ L w):=by
 obtain⟨i0,hi,hz0,hz1,hz2⟩:=info_parts zgg;refine(wbP (n:=3)).1 ?_;refine callsIn_of_wp_marks func153 rfl trivial ?_ rfl;simp only[ntmps153,wbQ,waG,List.length_nil,Nat.reduceAdd,Nat.reduceSub,wbR,wbS,List.push_toArray,List.append_toArray,wbN,wbT]
 gi_wp2
 have bO:=Boxed.new w 87 (.slice none 0 0);have hB0:Below w.heap.size w (w.alloc (.cells #[.slice none 0 0] 87)):=(waC _ w).alloc (waJ _) _;refine wpIn_rangeFunc_ownF rfl dQ (gf:=gf) (lb:=lb) rfl trivial eg (hseq _ hB0) (fun h k=>h.trans k) (fun W l o o' hl ho hc _=>KpT.putObj o' (by simp at hl;omega) ho hc) (waC _ _) (fun _=>rfl)
  (fun pre W=>(∃v,Boxed W w.heap.size 87 v/\W.ownsRow w.heap.size 3 1 v pre.length (zxD pre)/\True)/\Below w.heap.size w W)
  (fun _ _ _=>False)
  (OwnFrom.and (Own.from (holdsRow_own w.heap.size w.heap.size 87 3 1 (fun pre:List Nat=>pre.length) (fun pre=>zxD pre) (fun pre v=>True)) _) (ownFrom_below (waJ _) (by simp)))
  (fun _ _ _ _ _ hs _ _=>hs)
  ⟨⟨_,bO,World.ownsRow_nil _ _ _ _,trivial⟩,hB0⟩
  (fun x=>{tmps:=#[.slice none 0 0,.func (.func gf) #[] lb,.pointer (some ⟨w.heap.size,0,none⟩),undef,.slice none 0 0,.int .i64 (x:Int),.func (.func gf) #[] lb,.int .i64 (x:Int),undef,undef,undef,undef,undef],defers:=[]}) ?assign ?body ?done ?stop
 case assign=>
  intro l x W K hK
  gi_wp2
  exact hK
 case body=>
  rintro l pre x W ⟨⟨v,hv,hrow,_⟩,hB⟩ hlt;have hc:=hv.cell
  gi_wp2_with (gi_at_builtin;refine wpListIn_append_own _ rfl _ _ 87 rfl w.heap.size 3 i0 (.int .i64 0) 1 8 underlying87 hi hz0 hz1 hz2 rfl dQ _ _ _ rfl (hrow.alloc _) ⟨W.heap.size,0,none⟩ 1 1 [.int .i64 (x:Int)] rfl rfl (cell_one_new _ _ _) (by simp[Value.oneCell']) (by unfold maxLen;omega) oQ (by have:=hB.size;simp;omega) ?_;intro v' w1 hown' hgrow _;obtain⟨g',cap',rfl⟩:=ownsRow_succ hown';obtain⟨hv1,hv2,hr2,hk2,hb2⟩:=hv.appended dQ hrow hB.size (waJ _) hown' hgrow;have hc1:=hv1.cell;have hf1:=hv1.frozen)
  exact⟨hk2,KpT.of_below hb2 hq hg,⟨_,hv2,by simpa[zxD] using hr2,trivial⟩,hB.trans hb2⟩
 case done=>
  rintro D ys W hD rfl ⟨⟨v,hv,hrow,_⟩,hB⟩ hK;have hc:=hv.cell
  gi_wp2
  refine⟨by simp,.inl ⟨_,_,rfl,run_takeDeferred hK,?_⟩⟩
  exact⟨_,results_tmp rfl _ _ _,v,rfl,ownsRow_putObj hrow _ hK rfl,hB.trans (belowK_b (w:=w) (waJ _) W D _ _ (by simp at hD;omega) hK rfl rfl)⟩
 case stop=>
  rintro D c pre W _ _ h _;exact h.elim
theorem zlR (gf:Nat) (lb:Array Value) (L:List Nat) (p q N:Nat) (w:World) (hN:N<=1000000) (hq:q<=w.heap.size) (hg:0<w.heap.size)
 (eg:∀args w,(callFunc gf args).run prog w=.ok (.enter gf args) w) (hseq:∀W,Below w.heap.size w W->SeqStopsK Fence.wide 2 prog gf lb (fun k:Nat=> #[.int .i64 (k:Int)]) (KpT p q) (fun xs=>xs=L) (fun pre=>pre<+:L) N W):
 Calls prog 89 #[.func (.func gf) #[] lb] w (zlQ L w):=by
 have H:=waV (zjj gf lb L p q N w hN hq hg eg hseq);clear hseq eg;go_enter func89,ntmps89;go_wp2_with fail;refine H.out.mono ?_;rintro e w1 ⟨v,rfl,hv,hb⟩;have HV:=waV hv;clear hv;go_wp2;go_ret;exact⟨_,rfl,HV.out,hb⟩
theorem zqZ {w:World} {A B n k:Nat} {v:Value} {t:TypeId} {xs:List Value} (h:w.ownsRow B t k v n xs) (hA:A<=B):w.ownsRow A t k v n xs:=by
 refine⟨h.1,?_⟩;rcases h.2 with h|⟨g,cap,cur,h1,h2,h3⟩
 ·exact .inl h
 ·exact .inr ⟨g,cap,cur,h1,waW hA h2,h3⟩
theorem Tz.lt {w:World} (h:Tz w):0<w.heap.size:=waR w _ (h 0 dQ)
end Go.Proofs.YtllcdbgjeidlkaaGreatDoor
namespace Go.Proofs.YtllcdbgjeidlkaaGreatDoor
open Go.Proofs.Tryz
open Go.RowKit
attribute [local go_sem] Oper.semAt_some
theorem zq0 (l:List Nat):(l.map fun(k:Nat)=>(k:Int)).flatMap zcY=zxD l:=by
 induction l with
 |nil=>rfl
 |cons a l ih=>
  rw[List.map_cons,List.flatMap_cons,ih];rfl
def zv3 (m:Nat) (w:World) (e:Ending) (w':World):Prop:=∃A n c,e=.returned (.slice A n c)/\zaI w' A n (zbx m)/\n<=c/\c<=maxLen/\Below w.heap.size w w'/\n=(zbx m).length
end Go.Proofs.YtllcdbgjeidlkaaGreatDoor
namespace Go.Proofs.YtllcdbgjeidlkaaGreatDoor
open Go.Proofs.Tryz
open Go.RowKit
def zbs:Value->Nat
 | .int _ k=>k.toNat
 |_=>0
structure FaceG (g:Nat->Value):Prop where
 m:∀i,i<46->∃k:Nat,k<18446744073709551616/\g i=.int .u64 (k:Int)
 a:∃z,g 46=.int .i64 z
 z:∃z,g 47=.int .i64 z
 d:∃z,g 48=.int .i64 z
 e:∃b,g 49=.bool b
 s:∃b,g 50=.bool b
theorem FaceG.nat {g:Nat->Value} (h:FaceG g) {i:Nat} (hi:i<46):g i=.int .u64 (zbs (g i):Int)/\zbs (g i)<18446744073709551616:=by
 obtain⟨k,h1,h2⟩:=h.m i hi;rw[h2];exact⟨rfl,h1⟩
structure FaceAt (W:World) (fb:Nat) (g:Nat->Value):Prop where
 obj:∃cs,W.heap[fb]?=some (.cells cs 43 (0,0))/\cs.size=51/\∀i,i<51->cs[i]?=some (g i)
 g:FaceG g
theorem FaceAt.lt {W:World} {fb:Nat} {g:Nat->Value} (h:FaceAt W fb g):fb<W.heap.size:=by
 obtain⟨cs,hc,_⟩:=h.obj;exact(waL.1 hc).1
theorem FaceAt.cell {W:World} {fb:Nat} {g:Nat->Value} (h:FaceAt W fb g) {i:Nat} (hi:i<51):W.cell? ⟨fb,i,none⟩=some (g i):=by
 obtain⟨cs,hc,_,hg⟩:=h.obj;simp[World.cell?,hc,hg i hi]
theorem FaceAt.frozen {W:World} {fb:Nat} {g:Nat->Value} (h:FaceAt W fb g) (i:Nat):W.frozen? ⟨fb,i,none⟩=false:=by
 obtain⟨cs,hc,_⟩:=h.obj;simp[World.frozen?,hc]
theorem FaceAt.same {W V:World} {fb:Nat} {g:Nat->Value} (h:FaceAt W fb g) (e:V.heap[fb]?=W.heap[fb]?):FaceAt V fb g:=⟨by
 obtain⟨cs,hc,h1,h2⟩:=h.obj;exact⟨cs,e.trans hc,h1,h2⟩,h.g⟩
theorem FaceAt.rls {S:Nat->Prop} {W V:World} {fb:Nat} {g:Nat->Value} (h:FaceAt W fb g) (hr:RlS S W V) (hS:¬S fb):FaceAt V fb g:=h.same (hr.block _ h.lt hS)
theorem FaceAt.below {W V:World} {fb:Nat} {g:Nat->Value} (h:FaceAt W fb g) (hb:Below W.heap.size W V):FaceAt V fb g:=h.same (hb.block _ h.lt)
theorem FaceAt.set {W:World} {fb:Nat} {g:Nat->Value} (h:FaceAt W fb g) {i:Nat} (hi:i<51) {v:Value} (hg:FaceG (updG g i v)):FaceAt (W.setCell ⟨fb,i,none⟩ v) fb (updG g i v):=⟨by
 obtain⟨cs,hc,h1,h2⟩:=h.obj;obtain⟨hlt,hk⟩:=waL.1 hc;refine⟨cs.setIfInBounds i v,?_,by simpa using h1,fun j hj=>?_⟩
 ·show(W.heap.modify fb _)[fb]?=_;rw[wbI (by rw[Array.size_modify];exact hlt),Array.getElem_modify_self,hk]
  rfl
 ·unfold updG
  by_cases e:j=i
  ·subst e;rw[if_pos rfl,Array.getElem?_setIfInBounds_self_of_lt (by omega)]
  ·rw[if_neg e,Array.getElem?_setIfInBounds_ne (fun g=>e g.symm)];exact h2 j hj,hg⟩
def orI {α:Type} (f:α->Nat) (l:List α):Nat:=l.foldl (fun a s=>a|||2^f s) 0
theorem zfu {α:Type} (f:α->Nat) (l:List α) (x:α):orI f (l++[x])=orI f l|||2^f x:=by simp[orI]
theorem zq1 {α:Type} (f:α->Nat) (l:List α) (k:Nat):(orI f l).testBit k=true↔∃s∈l,f s=k:=by
 have:∀(l:List α) (a:Nat),(l.foldl (fun a s=>a|||2^f s) a).testBit k=true↔a.testBit k=true\/∃s∈l,f s=k:=by
  intro l;induction l with
  |nil=>intro a;simp
  |cons b l ih=>
   intro a;rw[List.foldl_cons,ih,Nat.testBit_or,wbF,Nat.testBit_two_pow];simp only[List.mem_cons,waM];constructor
   ·rintro ((h|h)|⟨s,hs,h⟩)
    ·exact .inl h
    ·exact .inr ⟨b,.inl rfl,h⟩
    ·exact .inr ⟨s,.inr hs,h⟩
   ·rintro (h|⟨s,(rfl|hs),h⟩)
    ·exact .inl (.inl h)
    ·exact .inl (.inr h)
    ·exact .inr ⟨s,hs,h⟩
 have h:=this l 0;rw[Nat.zero_testBit] at h;unfold orI;rw[h];simp
def tOf (i s:Nat):Nat:=if i=0 then s%60 else if i=1 then s / 60%60 else s / 3600
theorem zq2 {i s:Nat} (hs:s<86400):tOf i s<64:=by unfold tOf;(repeat' split)<;>omega
structure AloneR (c:Cl) (g g':Nat->Value):Prop where
 rest:∀i,3<=i->g' i=g i
 t:∀i,i<3->∀k,(zbs (g' i)).testBit k=true↔(zbs (g i)).testBit k=true\/∃n s,zdD (zay [c]) n s/\tOf i s=k
structure AloneI (c:Cl) (g g':Nat->Value) (pre:List (Int×Nat)):Prop where
 rest:∀i,3<=i->g' i=g i
 t:∀i,i<3->∀k,(zbs (g' i)).testBit k=true↔(zbs (g i)).testBit k=true\/∃x∈pre,∃s,s<86400/\zay [c] x.1 s=true/\tOf i s=k
theorem AloneI.nil (c:Cl) (g:Nat->Value):AloneI c g g []:=⟨fun _ _=>rfl,fun i hi k=>by simp⟩
theorem AloneI.known {c:Cl} {g g':Nat->Value} {pre:List (Int×Nat)} (h:AloneI c g g' pre) {x y:Int×Nat} (hy:y∈pre) (hs:zgY (zay [c] y.1) (zay [c] x.1)):AloneI c g g' (pre++[x]):=⟨h.rest,fun i hi k=>by
 rw[h.t i hi k];constructor
 ·rintro (h1|⟨z,hz,s,h2,h3,h4⟩)
  ·exact .inl h1
  ·exact .inr ⟨z,by simp[hz],s,h2,h3,h4⟩
 ·rintro (h1|⟨z,hz,s,h2,h3,h4⟩)
  ·exact .inl h1
  ·rcases wbB.1 hz with hz|hz
   ·exact .inr ⟨z,hz,s,h2,h3,h4⟩
   ·rw[wbC.1 hz] at h3;exact .inr ⟨y,hy,s,h2,(hs s h2).trans h3,h4⟩⟩
theorem AloneI.new {c:Cl} {g g' g'':Nat->Value} {pre:List (Int×Nat)} (h:AloneI c g g' pre) {x:Int×Nat} (hr:∀i,3<=i->g'' i=g' i) (ht:∀i,i<3->zbs (g'' i)=zbs (g' i)|||orN (tOf i) (zeu (zay [c] x.1))):AloneI c g g'' (pre++[x]):=⟨fun i hi=>(hr i hi).trans (h.rest i hi),fun i hi k=>by
 rw[ht i hi,Nat.testBit_or,wbF,h.t i hi k,zqw];constructor
 ·rintro ((h1|⟨z,hz,s,h2,h3,h4⟩)|⟨s,hs,h4⟩)
  ·exact .inl h1
  ·exact .inr ⟨z,by simp[hz],s,h2,h3,h4⟩
  ·obtain⟨h2,h3⟩:=zev.1 hs;exact .inr ⟨x,by simp,s,h2,h3,h4⟩
 ·rintro (h1|⟨z,hz,s,h2,h3,h4⟩)
  ·exact .inl (.inl h1)
  ·rcases wbB.1 hz with hz|hz
   ·exact .inl (.inr ⟨z,hz,s,h2,h3,h4⟩)
   ·rw[wbC.1 hz] at h3;exact .inr ⟨s,zev.2 ⟨h2,h3⟩,h4⟩⟩
theorem zgu {L:List Cl} {n:Int} {s:Nat} (h:zdD (zay L) n s):n∈zhF L (mxI (bdF L 0) 0) (mnI (bdT L 146096) 146096):=by
 obtain⟨h0,h1,hs,hp⟩:=h;obtain⟨h2,h3⟩:=zvK (L:=L) (f:=0) (t:=146096) (n:=n) h0 oQ ⟨s,hs,hp⟩;unfold zhF zg7;rw[List.mem_filter,zcu,zeO,zeP,zgq];exact⟨⟨by omega,by omega⟩,s,hs,hp⟩
theorem zgv {L:List Cl} {n:Int} (h:n∈zhF L (mxI (bdF L 0) 0) (mnI (bdT L 146096) 146096)):zcy (zay L) n:=by
 unfold zhF zg7 at h;rw[List.mem_filter,zcu,zeO,zeP,zgq] at h;obtain⟨⟨h0,h1⟩,s,hs,hp⟩:=h;exact⟨s,by omega,by omega,hs,hp⟩
theorem AloneI.all {c:Cl} {g g':Nat->Value} {xs:List (Int×Nat)} (h:AloneI c g g' xs) (hx:xs.map Prod.fst=zhF [c] (mxI (bdF [c] 0) 0) (mnI (bdT [c] 146096) 146096)):AloneR c g g':=⟨h.rest,fun i hi k=>by
 rw[h.t i hi k];constructor
 ·rintro (h1|⟨z,hz,s,h2,h3,h4⟩)
  ·exact .inl h1
  ·have hz:z.1∈xs.map Prod.fst:=List.mem_map_of_mem hz;rw[hx] at hz;obtain⟨a,b⟩:=(zgv hz).win;exact .inr ⟨z.1,s,⟨a,b,h2,h3⟩,h4⟩
 ·rintro (h1|⟨n,s,hl,h4⟩)
  ·exact .inl h1
  ·have hm:=zgu hl;rw[<-hx] at hm;obtain⟨z,hz,rfl⟩:=List.mem_map.1 hm;exact .inr ⟨z,hz,s,hl.2.2.1,hl.2.2.2,h4⟩⟩
theorem zv4 {c:Cl} {n:Int} {s:Nat} (h:zay [c] n s=true):zsz c (n * 86400+(s:Int))=true:=by
 unfold zay zuL at h;rw[waN] at h;simpa using h.2
theorem zjk {m:Int} {k:Nat} (h0:0<=m) (h:zbA m (k:Int)=true):m.toNat.testBit k=true:=by
 have e:=waA h;rw[show m=(m.toNat:Int) by omega,zbw _ _ (by omega)] at h
 exact h
theorem zop {c:Cl} {n:Int} {s:Nat} (hm:∀k,k<7->M64 (c.m k)) (h:zdD (zay [c]) n s):∀i,i<3->(c.m i).toNat.testBit (tOf i s)=true:=fun i hi=>by
 obtain⟨h0,h1,hs,hp⟩:=h;have hh:=zv4 hp;unfold zsz at hh;simp only[waN] at hh;obtain⟨_,_,_,ht,_⟩:=hh;have e:(n * 86400+(s:Int))%86400=(s:Int):=by omega
 rw[e] at ht;unfold zdh at ht;simp only[waN] at ht;obtain⟨a,b,d⟩:=ht;obtain rfl|rfl|rfl:i=0\/i=1\/i=2:=by omega
 ·exact zjk (hm 0 (by decide)).1 (by rw[show ((tOf 0 s:Nat):Int)=(s:Int)%60 by simp[tOf]];exact d)
 ·exact zjk (hm 1 (by decide)).1 (by rw[show ((tOf 1 s:Nat):Int)=(s:Int) / 60%60 by simp[tOf]];exact b)
 ·exact zjk (hm 2 (by decide)).1 (by rw[show ((tOf 2 s:Nat):Int)=(s:Int) / 3600 by simp[tOf]];exact a)
theorem AloneI.stop {c:Cl} {g g':Nat->Value} {pre:List (Int×Nat)} (h:AloneI c g g' pre) (hm:∀k,k<7->M64 (c.m k)) (hw:∀x∈pre,0<=x.1/\x.1<146097) (hs:∀i,i<3->∀k,(c.m i).toNat.testBit k=true->(zbs (g' i)).testBit k=true):AloneR c g g':=⟨h.rest,fun i hi k=>by
 constructor
 ·intro h1;rcases(h.t i hi k).1 h1 with h1|⟨z,hz,s,h2,h3,h4⟩
  ·exact .inl h1
  ·exact .inr ⟨z.1,s,⟨(hw z hz).1,(hw z hz).2,h2,h3⟩,h4⟩
 ·rintro (h1|⟨n,s,hl,h4⟩)
  ·exact(h.t i hi k).2 (.inl h1)
  ·rw[<-h4];exact hs i hi _ (zop hm hl i hi)⟩
structure AllR (L:List Cl) (g g':Nat->Value):Prop where
 rest:∀i,3<=i->g' i=g i
 t:∀i,i<3->∀k,(zbs (g' i)).testBit k=true↔(zbs (g i)).testBit k=true\/∃c∈L,∃n s,zdD (zay [c]) n s/\tOf i s=k
theorem AllR.nil (g:Nat->Value):AllR [] g g:=⟨fun _ _=>rfl,fun i hi k=>by simp⟩
theorem AllR.snoc {L:List Cl} {c:Cl} {g g' g'':Nat->Value} (h:AllR L g g') (k:AloneR c g' g''):AllR (L++[c]) g g'':=⟨fun i hi=>(k.rest i hi).trans (h.rest i hi),fun i hi j=>by
 rw[k.t i hi j,h.t i hi j];constructor
 ·rintro ((h1|⟨z,hz,h1⟩)|h1)
  ·exact .inl h1
  ·exact .inr ⟨z,by simp[hz],h1⟩
  ·exact .inr ⟨c,by simp,h1⟩
 ·rintro (h1|⟨z,hz,h1⟩)
  ·exact .inl (.inl h1)
  ·rcases wbB.1 hz with hz|hz
   ·exact .inl (.inr ⟨z,hz,h1⟩)
   ·rw[wbC.1 hz] at h1;exact .inr h1⟩
theorem zjl {L:List Cl} (h:zeJ L=true) {c:Cl} (hc:c∈L):zeJ [c]=true:=by
 unfold zeJ at h ⊢;rw[waN,List.all_eq_true] at h;have:=h.2 c hc;simp[this]
theorem znf {L:List Cl} (h:zeJ L=true) (n:Int) (s:Nat):zdD (zay L) n s↔∃c∈L,zdD (zay [c]) n s:=by
 unfold zdD zay zuL;rw[h,Bool.true_and,List.any_eq_true];constructor
 ·rintro ⟨a,b,d,c,hc,e⟩;exact⟨c,hc,a,b,d,by rw[zjl h hc];simpa using e⟩
 ·rintro ⟨c,hc,a,b,d,e⟩;rw[zjl h hc] at e;exact⟨a,b,d,c,hc,by simpa using e⟩
theorem AllR.live {L:List Cl} (hs:zeJ L=true) {g g':Nat->Value} (h:AllR L g g') {i:Nat} (hi:i<3) (h0:zbs (g i)=0) (k:Nat):(zbs (g' i)).testBit k=true↔∃n s,zdD (zay L) n s/\tOf i s=k:=by
 rw[h.t i hi k,h0,Nat.zero_testBit];constructor
 ·rintro (h1|⟨c,hc,n,s,hl,e⟩)
  ·cases h1
  ·exact⟨n,s,(znf hs n s).2 ⟨c,hc,hl⟩,e⟩
 ·rintro ⟨n,s,hl,e⟩;obtain⟨c,hc,hl⟩:=(znf hs n s).1 hl;exact .inr ⟨c,hc,n,s,hl,e⟩
theorem AllR.masks {L:List Cl} (hs:zeJ L=true) {g g':Nat->Value} (h:AllR L g g') (hg:FaceG g') (h0:∀i,i<3->zbs (g i)=0):zbs (g' 1)=zlK (zay L)/\zbs (g' 2)=zeT (zay L)/\zbs (g' 0)=zo0 (zay L):=by
 refine⟨zf5 (hg.nat dQ).2 fun k hk=>?_,zf5 (hg.nat dQ).2 fun k hk=>?_,zf5 (hg.nat dQ).2 fun k hk=>?_⟩
 ·rw[h.live hs (by decide) (h0 1 (by decide))];rfl
 ·rw[h.live hs (by decide) (h0 2 (by decide))];rfl
 ·rw[h.live hs (by decide) (h0 0 (by decide))];rfl
structure DateR (n:Int) (g g':Nat->Value):Prop where
 r:∀i,i<3->g' i=g i
 mo:zbs (g' 3)=zbs (g 3)|||2^(mD n).toNat
 dm:zbs (g' 4)=zbs (g 4)|||2^(dD n).toNat
 wk:zbs (g' 6)=zbs (g 6)|||2^(wdD n).toNat
 d:∀z,g 48=.int .i64 z->g' 48=.int .i64 (wrap64 (z+1))
 en:zbs (g' 5)=zbs (g 5)|||2^(bkD n).toNat
 ye:∀i,7<=i->i<14->zbs (g' i)=zbs (g i)|||(if i=yI n then 2^yK n else 0)
structure DaysI (g g':Nat->Value) (pre:List (Int×Nat)):Prop where
 r:∀i,i<3->g' i=g i
 mo:zbs (g' 3)=orI (fun x=>(mD x.1).toNat) pre
 dm:zbs (g' 4)=orI (fun x=>(dD x.1).toNat) pre
 wk:zbs (g' 6)=orI (fun x=>(wdD x.1).toNat) pre
 d:g' 48=.int .i64 (pre.length:Int)
 en:zbs (g' 5)=orI (fun x=>(bkD x.1).toNat) pre
 ye:∀i,7<=i->i<14->zbs (g' i)=orI (fun x=>yK x.1) (pre.filter fun x=>yI x.1==i)
theorem DaysI.snoc {g g' g'' g3:Nat->Value} {pre:List (Int×Nat)} {x:Int×Nat} (h:DaysI g g' pre) (e1:∀i,i<46\/i=48->g'' i=g' i) (k:DateR x.1 g'' g3) (hl:pre.length<1000000):DaysI g g3 (pre++[x]):=⟨fun i hi=>(k.r i hi).trans ((e1 i oQ).trans (h.r i hi)),
 by rw[k.mo,e1 3 (by decide),h.mo,zfu],by rw[k.dm,e1 4 (by decide),h.dm,zfu],by rw[k.wk,e1 6 (by decide),h.wk,zfu],
 by rw[k.d _ ((e1 48 (by decide)).trans h.d),show wrap64 ((pre.length:Int)+1)=(pre.length:Int)+1 by unfold wrap64;omega];simp,by rw[k.en,e1 5 (by decide),h.en,zfu],fun i hi1 hi2=>by
  rw[k.ye i hi1 hi2,e1 i (by omega),h.ye i hi1 hi2,List.filter_append]
  by_cases e:i=yI x.1
  ·rw[if_pos e,List.filter_cons_of_pos (by simp[e]),List.filter_nil,zfu]
  ·rw[if_neg e,List.filter_cons_of_neg (by simp;exact fun g=>e g.symm),List.filter_nil,List.append_nil,Nat.or_zero]⟩
theorem DaysI.same {g g' g'':Nat->Value} {pre:List (Int×Nat)} (h:DaysI g g' pre) (e:∀i,i<49->g'' i=g' i):DaysI g g'' pre:=⟨fun i hi=>(e i oQ).trans (h.r i hi),
 by rw[e 3 (by decide)];exact h.mo,by rw[e 4 (by decide)];exact h.dm,by rw[e 6 (by decide)];exact h.wk,by rw[e 48 (by decide)];exact h.d,by rw[e 5 (by decide)];exact h.en,fun i hi1 hi2=>by rw[e i (by omega)];exact h.ye i hi1 hi2⟩
structure FaceOf (P:Int->Nat->Bool) (g:Nat->Value):Prop where
 f:FaceG g
 mi:g 1=.int .u64 (zlK P:Int)
 ho:g 2=.int .u64 (zeT P:Int)
 mo:g 3=.int .u64 (zhw P:Int)
 dm:g 4=.int .u64 (zhI P:Int)
 wk:g 6=.int .u64 (wkF P:Int)
 d:∃z:Nat,g 48=.int .i64 (z:Int)/\(z=0↔¬zk6 P)
 se:g 0=.int .u64 (zo0 P:Int)
 en:g 5=.int .u64 (zr5 P:Int)
 ye:∀i,i<7->g (7+i)=.int .u64 (yrF P i:Int)
theorem DaysI.all {L:List Cl} {g g':Nat->Value} {xs:List (Int×Nat)} (hg:FaceG g') (h1:zbs (g 1)=zlK (zay L)) (h2:zbs (g 2)=zeT (zay L)) (h0:zbs (g 0)=zo0 (zay L)) (h:DaysI g g' xs) (hx:xs.map Prod.fst=zhF L (mxI (bdF L 0) 0) (mnI (bdT L 146096) 146096)):FaceOf (zay L) g':=by
 have hmem:∀(f:Int->Int),(∀n,0<=n->n<146097->0<=f n)->∀k,(orI (fun x:Int×Nat=>(f x.1).toNat) xs).testBit k=true↔∃n,zcy (zay L) n/\f n=(k:Int):=fun f hf k=>by
  rw[zq1];constructor
  ·rintro ⟨z,hz,e⟩;have hz:z.1∈xs.map Prod.fst:=List.mem_map_of_mem hz;rw[hx] at hz;have hl:=zgv hz;have:=hf z.1 hl.win.1 hl.win.2;exact⟨z.1,hl,by omega⟩
  ·rintro ⟨n,⟨s,hl⟩,e⟩;have hm:=zgu hl;rw[<-hx] at hm;obtain⟨z,hz,rfl⟩:=List.mem_map.1 hm;exact⟨z,hz,by omega⟩
 have e1:=hg.nat (i:=1) dQ;have e2:=hg.nat (i:=2) dQ;have e3:=hg.nat (i:=3) dQ;have e4:=hg.nat (i:=4) dQ;have e6:=hg.nat (i:=6) dQ;have e0:=hg.nat (i:=0) dQ;have e5:=hg.nat (i:=5) dQ;refine⟨hg,?_,?_,?_,?_,?_,⟨xs.length,h.d,?_⟩,by rw[e0.1,h.r 0 (by decide),h0],?_,?_⟩
 ·rw[e1.1,h.r 1 (by decide),h1]
 ·rw[e2.1,h.r 2 (by decide),h2]
 ·rw[e3.1];congr 2;refine zf5 e3.2 fun k hk=>?_
  rw[h.mo];exact hmem mD (fun n h0 h1=>by have:=zbm h0 h1;omega) k
 ·rw[e4.1];congr 2;refine zf5 e4.2 fun k hk=>?_
  rw[h.dm];exact hmem dD (fun n h0 h1=>by have:=zbm h0 h1;omega) k
 ·rw[e6.1];congr 2;refine zf5 e6.2 fun k hk=>?_
  rw[h.wk];exact hmem wdD (fun n h0 h1=>by have:=zeH n;omega) k
 ·have hl:xs.length=(zhF L (mxI (bdF L 0) 0) (mnI (bdT L 146096) 146096)).length:=by rw[<-hx,List.length_map]
  rw[hl,List.length_eq_zero_iff];constructor
  ·intro h ⟨n,s,hn⟩;have:=zgu hn;rw[h] at this;cases this
  ·intro h;rw[List.eq_nil_iff_forall_not_mem];exact fun n hn=>h ⟨n,zgv hn⟩
 ·rw[e5.1];congr 2;refine zf5 e5.2 fun k hk=>?_
  rw[h.en];exact hmem bkD (fun n h0 h1=>by have:=zbm h0 h1;unfold bkD;omega) k
 ·intro i hi;have ei:=hg.nat (i:=7+i) oQ;rw[ei.1];congr 2;refine zf5 ei.2 fun k hk=>?_
  rw[h.ye (7+i) (by omega) (by omega),zq1]
  constructor
  ·rintro ⟨z,hz,e⟩;obtain⟨hz,hi2⟩:=List.mem_filter.1 hz;have hz:z.1∈xs.map Prod.fst:=List.mem_map_of_mem hz;rw[hx] at hz;have hl:=zgv hz;have hd:=zce hl.win.1 hl.win.2;have e2:yI z.1=7+i:=by simpa using hi2
   unfold yI at e2;unfold yK at e;exact⟨z.1,hl,by omega⟩
  ·rintro ⟨n,⟨s,hl⟩,e⟩;have hd:=zce hl.1 hl.2.1;have hm:=zgu hl;rw[<-hx] at hm;obtain⟨z,hz,rfl⟩:=List.mem_map.1 hm;refine⟨z,List.mem_filter.2 ⟨hz,?_⟩,?_⟩
   ·simp;unfold yI;omega
   ·unfold yK;omega
end Go.Proofs.YtllcdbgjeidlkaaGreatDoor
