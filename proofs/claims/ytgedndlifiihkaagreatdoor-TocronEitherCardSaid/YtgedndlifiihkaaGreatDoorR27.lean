/- A part of the proof: WTc3 WFace RCast -/
import Derived.Test.YtgedndlifiihkaaGreatDoorR26
import Derived.Test.YtgedndlifiihkaaGreatDoorR01
import Derived.Test.YtgedndlifiihkaaGreatDoorR05
import Derived.Test.YtgedndlifiihkaaGreatDoorR19
import Derived.Test.YtgedndlifiihkaaGreatDoorR09
import Derived.Test.YtgedndlifiihkaaGreatDoorR22
import Derived.Test.YtgedndlifiihkaaGreatDoorR21
set_option maxHeartbeats 80000000
set_option maxRecDepth 100000
set_option linter.unusedSimpArgs false
set_option linter.unusedVariables false
namespace Go.Proofs.YtgedndlifiihkaaGreatDoor
open Go.Proofs.Tryz
open Go.RowKit
attribute [local go_sem] Oper.semAt_some
theorem zqF (l:List Nat):(l.map fun(k:Nat)=>(k:Int)).flatMap zdZ=zvw l:=by
 induction l with
 |nil=>rfl
 |cons a l ih=>
  rw[List.map_cons,List.flatMap_cons,ih];rfl
def zur (m:Nat) (w:World) (e:Ending) (w':World):Prop:=∃A n c,e=.returned (.slice A n c)∧zaO w' A n (zax m)∧n≤c∧c≤maxLen∧Below w.heap.size w w'∧n=(zax m).length
theorem zf8 (m:Nat) (hm:m<18446744073709551616) (w:World) (hw:Tz w):Calls prog 78 #[.int .u64 m] w (zur m w):=by
 refine(zqE m hm w hw).mono ?_;rintro e w' ⟨v,rfl,hv,hb⟩;have hv':w'.ownsRow w.heap.size 3 1 v (zas m).length ((zax m).flatMap zdZ):=by
  unfold zax;rw[zqF];exact hv
 obtain⟨A,c,rfl,h1,h2,h3,_⟩:=Rd.of_own zhV hv' (by unfold zax;rw[List.length_map])
 exact⟨A,_,c,rfl,h3,h1,h2,hb,by unfold zax;rw[List.length_map]⟩
structure SomeS (w:World) (a z:Int) (w':World):Prop where
 b:Below w.heap.size w w'
 c0:w'.cell? ⟨w.heap.size,0,none⟩=some (.int .i64 a)
 c1:w'.cell? ⟨w.heap.size,1,none⟩=some (.int .i64 z)
 l:w.heap.size<w'.heap.size
theorem SomeS.below {w w' w'':World} {a z:Int} (h:SomeS w a z w') (hb:Below w'.heap.size w' w''):SomeS w a z w'':=
 ⟨h.b.trans (hb.mono h.b.size),((zad hb).1 _ _ h.l).trans h.c0,((zad hb).1 _ _ h.l).trans h.c1,waD h.l hb.size⟩
theorem zkP (m:Nat) (hm:m<18446744073709551616) (hl:(zax m).length≤1000000) (w:World) (hw:Tz w):Calls prog 30 #[.int .i64 2,.int .u64 m] w (zfa (zab 1 31 (zax m) false) w):=by
 have HL:=waV (fun V (hV:Below w.heap.size w V)=>zf8 m hm V (hw.below hV))
 have HO:=waV (fun A n c V (h:zaO V A n (zax m)) hn hnc hc=>zfN 1 31 A n c (zax m) false V h hn hnc hc)
 have HN:=waV hl;have hx:∀V,(Instr.index 138 (.agg #[.int .i64 0,.int .i64 59,.int .i64 0,.int .i64 23,.int .i64 1,.int .i64 31,.int .i64 1,.int .i64 12,.int .i64 0,.int .i64 6]) (.int .i64 2)).run prog V=.ok (.agg #[.int .i64 1,.int .i64 31]) V:=fun V=>by kernel_rfl
 clear hw hl;go_enter func30,ntmps30;go_wp2_with fail;have hb0:Below w.heap.size w (w.alloc (.cells #[.int .i64 1,.int .i64 31] 137)):=(waC _ w).alloc (waJ _) _;have hz0:(w.alloc (.cells #[.int .i64 1,.int .i64 31] 137)).heap.size=w.heap.size+1:=by simp
 have c0:=@zaa w #[.int .i64 1,.int .i64 31] 137 w.heap.size 0 (.int .i64 1) rfl rfl;have c1:=@zaa w #[.int .i64 1,.int .i64 31] 137 w.heap.size 1 (.int .i64 31) rfl rfl;generalize (w.alloc (.cells #[.int .i64 1,.int .i64 31] 137))=W0 at *;have l0:w.heap.size<W0.heap.size:=by omega
 refine zdO (α:=Value×Value) (fun y=>[(14,.pointer (some ⟨w.heap.size,0,none⟩)),(15,.int .i64 1),(16,.pointer (some ⟨w.heap.size,1,none⟩)),(17,.int .i64 31),(18,.int .u64 (m:Nat)),(19,y.1),(20,y.2),(4,y.2)]) (fun y w'=>zau w' w.heap.size y.2 (zab 1 31 (zax m) false)∧Below w.heap.size w w') ?ways ?on
 case ways=>
  have hHeld:Hid (SomeS w 1 31 W0.drew):=⟨hb0.drew,c0,c1,by simpa using l0⟩
  clear c0 c1 hb0 hz0 l0;refine zam 6 (fun w'=>Hid (SomeS w 1 31 w')) kQ ?_
  refine(kP 0 14 (h:=(kR 1 15 (fun w_ hSw_=>hSw_.out.c0) (h:=(kP 2 16 (h:=(kR 3 17 (fun w_ hSw_=>hSw_.out.c1) (h:=(kP 4 18 (h:=?_))))))))))
  simp only[Act.put,aPu1,aPu2,aPu3];refine zac (i:=5) kQ fun o_ ho_ K_ hK_=>?_
  obtain rfl:=waB ho_;have HK_:=waV hK_;clear hK_ ho_;go_wp2_with fail;refine(HL.out _ hHeld.out.b).mono ?_;rintro e w4 ⟨A,n,c,rfl,hr,hnc,hcm,hq4,hn⟩;have hH4:Hid (SomeS w 1 31 w4):=hHeld.out.below hq4;have hn6:n≤1000000:=by have:=HN.out;omega
  have HOr:=waV (HO.out A n c w4 hr hn6 hnc hcm);clear hr hn hnc hcm hn6 hq4 HO HL;go_wp2_with fail;refine HK_.out _ _ hH4 ?_;clear HK_;have hb4:=hH4.out.b;have hz4:=hb4.size;clear hHeld hH4;refine zaf (j:=2) dQ (.inr rfl) dQ kQ ?_;simp only[wbQ,waG,List.length_nil,Nat.reduceAdd,Nat.reduceSub,waZ,wbA];go_wp2_with fail;refine HOr.out.mono ?_;rintro e w5 ⟨v,rfl,ho,hq5⟩;have HOw:Hid (zau w5 w.heap.size v (zab 1 31 (zax m) false)):=zaq ho hz4;clear ho;go_wp2_with fail;refine⟨rfl,(.slice A n c,v),?_,HOw.out,hb4.trans (hq5.mono hz4)⟩;simp only[zcD,List.foldl,Act.put,wbU,wbV,wbW]
 case on=>
  rintro ⟨y1,y2⟩ w6 ⟨ho,hb6⟩;simp only[zcD,List.foldl,Act.put,wbU,wbW,wbV];have HOw:=waV ho;clear ho;go_wp2_with fail;go_ret;exact⟨_,rfl,HOw.out,hb6⟩
theorem zkQ (m:Nat) (hm:m<18446744073709551616) (hl:(zax m).length≤1000000) (w:World) (hw:Tz w):Calls prog 30 #[.int .i64 4,.int .u64 m] w (zfa (zab 0 6 (zax m) false) w):=by
 have HL:=waV (fun V (hV:Below w.heap.size w V)=>zf8 m hm V (hw.below hV))
 have HO:=waV (fun A n c V (h:zaO V A n (zax m)) hn hnc hc=>zfN 0 6 A n c (zax m) false V h hn hnc hc)
 have HN:=waV hl;have hx:∀V,(Instr.index 138 (.agg #[.int .i64 0,.int .i64 59,.int .i64 0,.int .i64 23,.int .i64 1,.int .i64 31,.int .i64 1,.int .i64 12,.int .i64 0,.int .i64 6]) (.int .i64 4)).run prog V=.ok (.agg #[.int .i64 0,.int .i64 6]) V:=fun V=>by kernel_rfl
 clear hw hl;go_enter func30,ntmps30;go_wp2_with fail;have hb0:Below w.heap.size w (w.alloc (.cells #[.int .i64 0,.int .i64 6] 137)):=(waC _ w).alloc (waJ _) _;have hz0:(w.alloc (.cells #[.int .i64 0,.int .i64 6] 137)).heap.size=w.heap.size+1:=by simp
 have c0:=@zaa w #[.int .i64 0,.int .i64 6] 137 w.heap.size 0 (.int .i64 0) rfl rfl;have c1:=@zaa w #[.int .i64 0,.int .i64 6] 137 w.heap.size 1 (.int .i64 6) rfl rfl;generalize (w.alloc (.cells #[.int .i64 0,.int .i64 6] 137))=W0 at *;have l0:w.heap.size<W0.heap.size:=by omega
 refine zdO (α:=Value×Value) (fun y=>[(14,.pointer (some ⟨w.heap.size,0,none⟩)),(15,.int .i64 0),(16,.pointer (some ⟨w.heap.size,1,none⟩)),(17,.int .i64 6),(18,.int .u64 (m:Nat)),(19,y.1),(20,y.2),(4,y.2)]) (fun y w'=>zau w' w.heap.size y.2 (zab 0 6 (zax m) false)∧Below w.heap.size w w') ?ways ?on
 case ways=>
  have hHeld:Hid (SomeS w 0 6 W0.drew):=⟨hb0.drew,c0,c1,by simpa using l0⟩
  clear c0 c1 hb0 hz0 l0;refine zam 6 (fun w'=>Hid (SomeS w 0 6 w')) kQ ?_
  refine(kP 0 14 (h:=(kR 1 15 (fun w_ hSw_=>hSw_.out.c0) (h:=(kP 2 16 (h:=(kR 3 17 (fun w_ hSw_=>hSw_.out.c1) (h:=(kP 4 18 (h:=?_))))))))))
  simp only[Act.put,aPu1,aPu2,aPu3];refine zac (i:=5) kQ fun o_ ho_ K_ hK_=>?_
  obtain rfl:=waB ho_;have HK_:=waV hK_;clear hK_ ho_;go_wp2_with fail;refine(HL.out _ hHeld.out.b).mono ?_;rintro e w4 ⟨A,n,c,rfl,hr,hnc,hcm,hq4,hn⟩;have hH4:Hid (SomeS w 0 6 w4):=hHeld.out.below hq4;have hn6:n≤1000000:=by have:=HN.out;omega
  have HOr:=waV (HO.out A n c w4 hr hn6 hnc hcm);clear hr hn hnc hcm hn6 hq4 HO HL;go_wp2_with fail;refine HK_.out _ _ hH4 ?_;clear HK_;have hb4:=hH4.out.b;have hz4:=hb4.size;clear hHeld hH4;refine zaf (j:=2) dQ (.inr rfl) dQ kQ ?_;simp only[wbQ,waG,List.length_nil,Nat.reduceAdd,Nat.reduceSub,waZ,wbA];go_wp2_with fail;refine HOr.out.mono ?_;rintro e w5 ⟨v,rfl,ho,hq5⟩;have HOw:Hid (zau w5 w.heap.size v (zab 0 6 (zax m) false)):=zaq ho hz4;clear ho;go_wp2_with fail;refine⟨rfl,(.slice A n c,v),?_,HOw.out,hb4.trans (hq5.mono hz4)⟩;simp only[zcD,List.foldl,Act.put,wbU,wbV,wbW]
 case on=>
  rintro ⟨y1,y2⟩ w6 ⟨ho,hb6⟩;simp only[zcD,List.foldl,Act.put,wbU,wbW,wbV];have HOw:=waV ho;clear ho;go_wp2_with fail;go_ret;exact⟨_,rfl,HOw.out,hb6⟩
end Go.Proofs.YtgedndlifiihkaaGreatDoor
namespace Go.Proofs.YtgedndlifiihkaaGreatDoor
open Go.Proofs.Tryz
open Go.RowKit
def zbS:Value→Nat
 | .int _ k=>k.toNat
 |_=>0
structure FaceG (g:Nat→Value):Prop where
 m:∀i,i<46→∃k:Nat,k<18446744073709551616∧g i=.int .u64 (k:Int)
 a:∃z,g 46=.int .i64 z
 z:∃z,g 47=.int .i64 z
 d:∃z,g 48=.int .i64 z
 e:∃b,g 49=.bool b
 s:∃b,g 50=.bool b
theorem FaceG.nat {g:Nat→Value} (h:FaceG g) {i:Nat} (hi:i<46):g i=.int .u64 (zbS (g i):Int)∧zbS (g i)<18446744073709551616:=by
 obtain⟨k,h1,h2⟩:=h.m i hi;rw[h2];exact⟨rfl,h1⟩
structure FaceAt (W:World) (fb:Nat) (g:Nat→Value):Prop where
 obj:∃cs,W.heap[fb]?=some (.cells cs 66 (0,0))∧cs.size=51∧∀i,i<51→cs[i]?=some (g i)
 g:FaceG g
theorem FaceAt.lt {W:World} {fb:Nat} {g:Nat→Value} (h:FaceAt W fb g):fb<W.heap.size:=by
 obtain⟨cs,hc,_⟩:=h.obj;exact(waL.1 hc).1
theorem FaceAt.cell {W:World} {fb:Nat} {g:Nat→Value} (h:FaceAt W fb g) {i:Nat} (hi:i<51):W.cell? ⟨fb,i,none⟩=some (g i):=by
 obtain⟨cs,hc,_,hg⟩:=h.obj;simp[World.cell?,hc,hg i hi]
theorem FaceAt.frozen {W:World} {fb:Nat} {g:Nat→Value} (h:FaceAt W fb g) (i:Nat):W.frozen? ⟨fb,i,none⟩=false:=by
 obtain⟨cs,hc,_⟩:=h.obj;simp[World.frozen?,hc]
theorem FaceAt.same {W V:World} {fb:Nat} {g:Nat→Value} (h:FaceAt W fb g) (e:V.heap[fb]?=W.heap[fb]?):FaceAt V fb g:=⟨by
 obtain⟨cs,hc,h1,h2⟩:=h.obj;exact⟨cs,e.trans hc,h1,h2⟩,h.g⟩
theorem FaceAt.rls {S:Nat→Prop} {W V:World} {fb:Nat} {g:Nat→Value} (h:FaceAt W fb g) (hr:RlS S W V) (hS:¬S fb):FaceAt V fb g:=h.same (hr.block _ h.lt hS)
theorem FaceAt.below {W V:World} {fb:Nat} {g:Nat→Value} (h:FaceAt W fb g) (hb:Below W.heap.size W V):FaceAt V fb g:=h.same (hb.block _ h.lt)
theorem FaceAt.set {W:World} {fb:Nat} {g:Nat→Value} (h:FaceAt W fb g) {i:Nat} (hi:i<51) {v:Value} (hg:FaceG (updG g i v)):FaceAt (W.setCell ⟨fb,i,none⟩ v) fb (updG g i v):=⟨by
 obtain⟨cs,hc,h1,h2⟩:=h.obj;obtain⟨hlt,hk⟩:=waL.1 hc;refine⟨cs.setIfInBounds i v,?_,by simpa using h1,fun j hj=>?_⟩
 ·show(W.heap.modify fb _)[fb]?=_;rw[wbI (by rw[Array.size_modify];exact hlt),Array.getElem_modify_self,hk]
  rfl
 ·unfold updG
  by_cases e:j=i
  ·subst e;rw[if_pos rfl,Array.getElem?_setIfInBounds_self_of_lt (by omega)]
  ·rw[if_neg e,Array.getElem?_setIfInBounds_ne (fun g=>e g.symm)];exact h2 j hj,hg⟩
def orI {α:Type} (f:α→Nat) (l:List α):Nat:=l.foldl (fun a s=>a|||2^f s) 0
theorem zjl {α:Type} (f:α→Nat) (l:List α) (x:α):orI f (l++[x])=orI f l|||2^f x:=by simp[orI]
theorem zus {α:Type} (f:α→Nat) (l:List α) (k:Nat):(orI f l).testBit k=true↔∃s∈l,f s=k:=by
 have:∀(l:List α) (a:Nat),(l.foldl (fun a s=>a|||2^f s) a).testBit k=true↔a.testBit k=true∨∃s∈l,f s=k:=by
  intro l;induction l with
  |nil=>intro a;simp
  |cons b l ih=>
   intro a;rw[List.foldl_cons,ih,Nat.testBit_or,wbF,Nat.testBit_two_pow];simp only[List.mem_cons,waM];constructor
   ·rintro ((h|h)|⟨s,hs,h⟩)
    ·exact .inl h
    ·exact .inr ⟨b,.inl rfl,h⟩
    ·exact .inr ⟨s,.inr hs,h⟩
   ·rintro (h|⟨s,(rfl|hs),h⟩)
    ·exact .inl (.inl h)
    ·exact .inl (.inr h)
    ·exact .inr ⟨s,hs,h⟩
 have h:=this l 0;rw[Nat.zero_testBit] at h;unfold orI;rw[h];simp
def tOf (i s:Nat):Nat:=if i=0 then s%60 else if i=1 then s / 60%60 else s / 3600
theorem zfJ {i s:Nat} (hs:s<86400):tOf i s<64:=by unfold tOf;(repeat' split)<;>omega
structure AloneR (c:Cl) (g g':Nat→Value):Prop where
 rest:∀i,3≤i→g' i=g i
 t:∀i,i<3→∀k,(zbS (g' i)).testBit k=true↔(zbS (g i)).testBit k=true∨∃n s,zde (zap [c]) n s∧tOf i s=k
structure AloneI (c:Cl) (g g':Nat→Value) (pre:List (Int×Nat)):Prop where
 rest:∀i,3≤i→g' i=g i
 t:∀i,i<3→∀k,(zbS (g' i)).testBit k=true↔(zbS (g i)).testBit k=true∨∃x∈pre,∃s,s<86400∧zap [c] x.1 s=true∧tOf i s=k
theorem AloneI.nil (c:Cl) (g:Nat→Value):AloneI c g g []:=⟨fun _ _=>rfl,fun i hi k=>by simp⟩
theorem AloneI.known {c:Cl} {g g':Nat→Value} {pre:List (Int×Nat)} (h:AloneI c g g' pre) {x y:Int×Nat} (hy:y∈pre) (hs:zf4 (zap [c] y.1) (zap [c] x.1)):AloneI c g g' (pre++[x]):=⟨h.rest,fun i hi k=>by
 rw[h.t i hi k];constructor
 ·rintro (h1|⟨z,hz,s,h2,h3,h4⟩)
  ·exact .inl h1
  ·exact .inr ⟨z,by simp[hz],s,h2,h3,h4⟩
 ·rintro (h1|⟨z,hz,s,h2,h3,h4⟩)
  ·exact .inl h1
  ·rcases wbB.1 hz with hz|hz
   ·exact .inr ⟨z,hz,s,h2,h3,h4⟩
   ·rw[wbC.1 hz] at h3;exact .inr ⟨y,hy,s,h2,(hs s h2).trans h3,h4⟩⟩
theorem AloneI.new {c:Cl} {g g' g'':Nat→Value} {pre:List (Int×Nat)} (h:AloneI c g g' pre) {x:Int×Nat} (hr:∀i,3≤i→g'' i=g' i) (ht:∀i,i<3→zbS (g'' i)=zbS (g' i)|||orN (tOf i) (zbV (zap [c] x.1))):AloneI c g g'' (pre++[x]):=⟨fun i hi=>(hr i hi).trans (h.rest i hi),fun i hi k=>by
 rw[ht i hi,Nat.testBit_or,wbF,h.t i hi k,zqq];constructor
 ·rintro ((h1|⟨z,hz,s,h2,h3,h4⟩)|⟨s,hs,h4⟩)
  ·exact .inl h1
  ·exact .inr ⟨z,by simp[hz],s,h2,h3,h4⟩
  ·obtain⟨h2,h3⟩:=zbW.1 hs;exact .inr ⟨x,by simp,s,h2,h3,h4⟩
 ·rintro (h1|⟨z,hz,s,h2,h3,h4⟩)
  ·exact .inl (.inl h1)
  ·rcases wbB.1 hz with hz|hz
   ·exact .inl (.inr ⟨z,hz,s,h2,h3,h4⟩)
   ·rw[wbC.1 hz] at h3;exact .inr ⟨s,zbW.2 ⟨h2,h3⟩,h4⟩⟩
theorem zjm {L:List Cl} {n:Int} {s:Nat} (h:zde (zap L) n s):n∈zhT L (mxI (bdF L 0) 0) (mnI (bdT L 146096) 146096):=by
 obtain⟨h0,h1,hs,hp⟩:=h;obtain⟨h2,h3⟩:=zuf (L:=L) (f:=0) (t:=146096) (n:=n) h0 oQ ⟨s,hs,hp⟩;unfold zhT zhv;rw[List.mem_filter,zaS,zeZ,ze0,zgG];exact⟨⟨by omega,by omega⟩,s,hs,hp⟩
theorem zjn {L:List Cl} {n:Int} (h:n∈zhT L (mxI (bdF L 0) 0) (mnI (bdT L 146096) 146096)):zbL (zap L) n:=by
 unfold zhT zhv at h;rw[List.mem_filter,zaS,zeZ,ze0,zgG] at h;obtain⟨⟨h0,h1⟩,s,hs,hp⟩:=h;exact⟨s,by omega,by omega,hs,hp⟩
theorem AloneI.all {c:Cl} {g g':Nat→Value} {xs:List (Int×Nat)} (h:AloneI c g g' xs) (hx:xs.map Prod.fst=zhT [c] (mxI (bdF [c] 0) 0) (mnI (bdT [c] 146096) 146096)):AloneR c g g':=⟨h.rest,fun i hi k=>by
 rw[h.t i hi k];constructor
 ·rintro (h1|⟨z,hz,s,h2,h3,h4⟩)
  ·exact .inl h1
  ·have hz:z.1∈xs.map Prod.fst:=List.mem_map_of_mem hz;rw[hx] at hz;obtain⟨a,b⟩:=(zjn hz).win;exact .inr ⟨z.1,s,⟨a,b,h2,h3⟩,h4⟩
 ·rintro (h1|⟨n,s,hl,h4⟩)
  ·exact .inl h1
  ·have hm:=zjm hl;rw[←hx] at hm;obtain⟨z,hz,rfl⟩:=List.mem_map.1 hm;exact .inr ⟨z,hz,s,hl.2.2.1,hl.2.2.2,h4⟩⟩
theorem zut {c:Cl} {n:Int} {s:Nat} (h:zap [c] n s=true):zrA c (n * 86400+(s:Int))=true:=by
 unfold zap zrB at h;rw[waN] at h;simpa using h.2
theorem zjo {m:Int} {k:Nat} (h0:0≤m) (h:zb3 m (k:Int)=true):m.toNat.testBit k=true:=by
 have e:=waA h;rw[show m=(m.toNat:Int) by omega,zbc _ _ (by omega)] at h
 exact h
theorem zn4 {c:Cl} {n:Int} {s:Nat} (hm:∀k,k<7→M64 (c.m k)) (h:zde (zap [c]) n s):∀i,i<3→(c.m i).toNat.testBit (tOf i s)=true:=fun i hi=>by
 obtain⟨h0,h1,hs,hp⟩:=h;have hh:=zut hp;unfold zrA at hh;simp only[waN] at hh;obtain⟨_,_,_,ht,_⟩:=hh;have e:(n * 86400+(s:Int))%86400=(s:Int):=by omega
 rw[e] at ht;unfold zcB at ht;simp only[waN] at ht;obtain⟨a,b,d⟩:=ht;obtain rfl|rfl|rfl:i=0∨i=1∨i=2:=by omega
 ·exact zjo (hm 0 (by decide)).1 (by rw[show ((tOf 0 s:Nat):Int)=(s:Int)%60 by simp[tOf]];exact d)
 ·exact zjo (hm 1 (by decide)).1 (by rw[show ((tOf 1 s:Nat):Int)=(s:Int) / 60%60 by simp[tOf]];exact b)
 ·exact zjo (hm 2 (by decide)).1 (by rw[show ((tOf 2 s:Nat):Int)=(s:Int) / 3600 by simp[tOf]];exact a)
theorem AloneI.stop {c:Cl} {g g':Nat→Value} {pre:List (Int×Nat)} (h:AloneI c g g' pre) (hm:∀k,k<7→M64 (c.m k)) (hw:∀x∈pre,0≤x.1∧x.1<146097) (hs:∀i,i<3→∀k,(c.m i).toNat.testBit k=true→(zbS (g' i)).testBit k=true):AloneR c g g':=⟨h.rest,fun i hi k=>by
 constructor
 ·intro h1;rcases(h.t i hi k).1 h1 with h1|⟨z,hz,s,h2,h3,h4⟩
  ·exact .inl h1
  ·exact .inr ⟨z.1,s,⟨(hw z hz).1,(hw z hz).2,h2,h3⟩,h4⟩
 ·rintro (h1|⟨n,s,hl,h4⟩)
  ·exact(h.t i hi k).2 (.inl h1)
  ·rw[←h4];exact hs i hi _ (zn4 hm hl i hi)⟩
structure AllR (L:List Cl) (g g':Nat→Value):Prop where
 rest:∀i,3≤i→g' i=g i
 t:∀i,i<3→∀k,(zbS (g' i)).testBit k=true↔(zbS (g i)).testBit k=true∨∃c∈L,∃n s,zde (zap [c]) n s∧tOf i s=k
theorem AllR.nil (g:Nat→Value):AllR [] g g:=⟨fun _ _=>rfl,fun i hi k=>by simp⟩
theorem AllR.snoc {L:List Cl} {c:Cl} {g g' g'':Nat→Value} (h:AllR L g g') (k:AloneR c g' g''):AllR (L++[c]) g g'':=⟨fun i hi=>(k.rest i hi).trans (h.rest i hi),fun i hi j=>by
 rw[k.t i hi j,h.t i hi j];constructor
 ·rintro ((h1|⟨z,hz,h1⟩)|h1)
  ·exact .inl h1
  ·exact .inr ⟨z,by simp[hz],h1⟩
  ·exact .inr ⟨c,by simp,h1⟩
 ·rintro (h1|⟨z,hz,h1⟩)
  ·exact .inl (.inl h1)
  ·rcases wbB.1 hz with hz|hz
   ·exact .inl (.inr ⟨z,hz,h1⟩)
   ·rw[wbC.1 hz] at h1;exact .inr h1⟩
theorem zjp {L:List Cl} (h:zeW L=true) {c:Cl} (hc:c∈L):zeW [c]=true:=by
 unfold zeW at h ⊢;rw[waN,List.all_eq_true] at h;have:=h.2 c hc;simp[this]
theorem zmZ {L:List Cl} (h:zeW L=true) (n:Int) (s:Nat):zde (zap L) n s↔∃c∈L,zde (zap [c]) n s:=by
 unfold zde zap zrB;rw[h,Bool.true_and,List.any_eq_true];constructor
 ·rintro ⟨a,b,d,c,hc,e⟩;exact⟨c,hc,a,b,d,by rw[zjp h hc];simpa using e⟩
 ·rintro ⟨c,hc,a,b,d,e⟩;rw[zjp h hc] at e;exact⟨a,b,d,c,hc,by simpa using e⟩
theorem AllR.live {L:List Cl} (hs:zeW L=true) {g g':Nat→Value} (h:AllR L g g') {i:Nat} (hi:i<3) (h0:zbS (g i)=0) (k:Nat):(zbS (g' i)).testBit k=true↔∃n s,zde (zap L) n s∧tOf i s=k:=by
 rw[h.t i hi k,h0,Nat.zero_testBit];constructor
 ·rintro (h1|⟨c,hc,n,s,hl,e⟩)
  ·cases h1
  ·exact⟨n,s,(zmZ hs n s).2 ⟨c,hc,hl⟩,e⟩
 ·rintro ⟨n,s,hl,e⟩;obtain⟨c,hc,hl⟩:=(zmZ hs n s).1 hl;exact .inr ⟨c,hc,n,s,hl,e⟩
theorem AllR.masks {L:List Cl} (hs:zeW L=true) {g g':Nat→Value} (h:AllR L g g') (hg:FaceG g') (h0:∀i,i<3→zbS (g i)=0):zbS (g' 1)=zcF (zap L)∧zbS (g' 2)=za5 (zap L):=by
 refine⟨zj3 (hg.nat dQ).2 fun k hk=>?_,zj3 (hg.nat dQ).2 fun k hk=>?_⟩
 ·rw[h.live hs (by decide) (h0 1 (by decide))];rfl
 ·rw[h.live hs (by decide) (h0 2 (by decide))];rfl
structure DateR (n:Int) (g g':Nat→Value):Prop where
 r:∀i,i<3→g' i=g i
 mo:zbS (g' 3)=zbS (g 3)|||2^(mD n).toNat
 dm:zbS (g' 4)=zbS (g 4)|||2^(dD n).toNat
 wk:zbS (g' 6)=zbS (g 6)|||2^(wdD n).toNat
 d:∀z,g 48=.int .i64 z→g' 48=.int .i64 (wrap64 (z+1))
structure DaysI (g g':Nat→Value) (pre:List (Int×Nat)):Prop where
 r:∀i,i<3→g' i=g i
 mo:zbS (g' 3)=orI (fun x=>(mD x.1).toNat) pre
 dm:zbS (g' 4)=orI (fun x=>(dD x.1).toNat) pre
 wk:zbS (g' 6)=orI (fun x=>(wdD x.1).toNat) pre
 d:g' 48=.int .i64 (pre.length:Int)
theorem DaysI.snoc {g g' g'' g3:Nat→Value} {pre:List (Int×Nat)} {x:Int×Nat} (h:DaysI g g' pre) (e1:∀i,i<46∨i=48→g'' i=g' i) (k:DateR x.1 g'' g3) (hl:pre.length<1000000):DaysI g g3 (pre++[x]):=⟨fun i hi=>(k.r i hi).trans ((e1 i oQ).trans (h.r i hi)),
 by rw[k.mo,e1 3 (by decide),h.mo,zjl],by rw[k.dm,e1 4 (by decide),h.dm,zjl],by rw[k.wk,e1 6 (by decide),h.wk,zjl],
 by rw[k.d _ ((e1 48 (by decide)).trans h.d),show wrap64 ((pre.length:Int)+1)=(pre.length:Int)+1 by unfold wrap64;omega];simp⟩
theorem DaysI.same {g g' g'':Nat→Value} {pre:List (Int×Nat)} (h:DaysI g g' pre) (e:∀i,i<49→g'' i=g' i):DaysI g g'' pre:=⟨fun i hi=>(e i oQ).trans (h.r i hi),
 by rw[e 3 (by decide)];exact h.mo,by rw[e 4 (by decide)];exact h.dm,by rw[e 6 (by decide)];exact h.wk,by rw[e 48 (by decide)];exact h.d⟩
structure FaceOf (P:Int→Nat→Bool) (g:Nat→Value):Prop where
 f:FaceG g
 mi:g 1=.int .u64 (zcF P:Int)
 ho:g 2=.int .u64 (za5 P:Int)
 mo:g 3=.int .u64 (zaY P:Int)
 dm:g 4=.int .u64 (zbB P:Int)
 wk:g 6=.int .u64 (wkF P:Int)
 d:∃z:Nat,g 48=.int .i64 (z:Int)∧(z=0↔¬zeX P)
theorem DaysI.all {L:List Cl} {g g':Nat→Value} {xs:List (Int×Nat)} (hg:FaceG g') (h1:zbS (g 1)=zcF (zap L)) (h2:zbS (g 2)=za5 (zap L)) (h:DaysI g g' xs) (hx:xs.map Prod.fst=zhT L (mxI (bdF L 0) 0) (mnI (bdT L 146096) 146096)):FaceOf (zap L) g':=by
 have hmem:∀(f:Int→Int),(∀n,0≤n→n<146097→0≤f n)→∀k,(orI (fun x:Int×Nat=>(f x.1).toNat) xs).testBit k=true↔∃n,zbL (zap L) n∧f n=(k:Int):=fun f hf k=>by
  rw[zus];constructor
  ·rintro ⟨z,hz,e⟩;have hz:z.1∈xs.map Prod.fst:=List.mem_map_of_mem hz;rw[hx] at hz;have hl:=zjn hz;have:=hf z.1 hl.win.1 hl.win.2;exact⟨z.1,hl,by omega⟩
  ·rintro ⟨n,⟨s,hl⟩,e⟩;have hm:=zjm hl;rw[←hx] at hm;obtain⟨z,hz,rfl⟩:=List.mem_map.1 hm;exact⟨z,hz,by omega⟩
 have e1:=hg.nat (i:=1) dQ;have e2:=hg.nat (i:=2) dQ;have e3:=hg.nat (i:=3) dQ;have e4:=hg.nat (i:=4) dQ;have e6:=hg.nat (i:=6) dQ;refine⟨hg,?_,?_,?_,?_,?_,xs.length,h.d,?_⟩
 ·rw[e1.1,h.r 1 (by decide),h1]
 ·rw[e2.1,h.r 2 (by decide),h2]
 ·rw[e3.1];congr 2;refine zj3 e3.2 fun k hk=>?_
  rw[h.mo];exact hmem mD (fun n h0 h1=>by have:=za4 h0 h1;omega) k
 ·rw[e4.1];congr 2;refine zj3 e4.2 fun k hk=>?_
  rw[h.dm];exact hmem dD (fun n h0 h1=>by have:=za4 h0 h1;omega) k
 ·rw[e6.1];congr 2;refine zj3 e6.2 fun k hk=>?_
  rw[h.wk];exact hmem wdD (fun n h0 h1=>by have:=zcm n;omega) k
 ·have hl:xs.length=(zhT L (mxI (bdF L 0) 0) (mnI (bdT L 146096) 146096)).length:=by rw[←hx,List.length_map]
  rw[hl,List.length_eq_zero_iff];constructor
  ·intro h ⟨n,s,hn⟩;have:=zjm hn;rw[h] at this;cases this
  ·intro h;rw[List.eq_nil_iff_forall_not_mem];exact fun n hn=>h ⟨n,zjn hn⟩
end Go.Proofs.YtgedndlifiihkaaGreatDoor
