/- A part of the proof: WTc2 WColl WTc3 WFace RCast -/
import Derived.Test.YtgedndlifiihkaaGreatDoorT25
import Derived.Test.YtgedndlifiihkaaGreatDoorT13
import Derived.Test.YtgedndlifiihkaaGreatDoorT01
import Derived.Test.YtgedndlifiihkaaGreatDoorT05
import Derived.Test.YtgedndlifiihkaaGreatDoorT19
import Derived.Test.YtgedndlifiihkaaGreatDoorT09
import Derived.Test.YtgedndlifiihkaaGreatDoorT21
import Derived.Test.YtgedndlifiihkaaGreatDoorT22
set_option maxHeartbeats 80000000
set_option maxRecDepth 100000
set_option linter.unusedSimpArgs false
set_option linter.unusedVariables false
namespace Go.Proofs.YtgedndlifiihkaaGreatDoor
open Go.Proofs.Tryz
open Go.RowKit
attribute [local go_sem] Oper.semAt_some
theorem zok {F:Fence} {n:Nat} {P:Program} {α:Type} {c:Code} {Q:Exit→Act→World→Prop} {a:Act} {w:World} (ds:α→List (Nat×Value)) (R:α→World→Prop) (h2:c.wpIn F n P (zwf ds R a) a w) (h1:∀x w',R x w'→Q .normal (zdS (ds x) a) w'):c.wpIn F n P Q a w:=
 Go.wpIn_mono h2 (by rintro e a' w' ⟨rfl,x,rfl,hr⟩;exact h1 x w' hr)
def zlY (l:List Nat):Int:=l.foldl (fun(a:Int) (m:Nat)=>max a (zbw 2000 (m:Int))) 0
theorem zol (l:List Nat) (x:Nat):zlY (l++[x])=max (zlY l) (zbw 2000 (x:Int)):=by
 unfold zlY;rw[List.foldl_append];rfl
theorem zlZ (m:Nat) (hm:m<18446744073709551616) (w:World) (hw:Tz w):Calls prog 82 #[.int .u64 m] w (Ret (.int .i64 (zds m)) w):=by
 have HA:=waV (fun V B (hc:V.cell? ⟨B,0,none⟩=some (.int .u64 (m:Nat)))=>wbP (n:=4).2 (zeE m hm B 0 1 V hc))
 have HL:=waV (fun l' x V=>zam (m:=2) (l':=l') (zdo 2000 x dQ dQ V))
 have HW:=waV hw;have eg:∀args w,(callFunc 196 args).run prog w=.ok (.enter 196 args) w:=enters_of func196 kQ rfl;have htz:0<w.heap.size:=waR w _ (hw 0 dQ);clear hw;refine(wbP (n:=5)).1 ?_;refine callsIn_of_wp_marks func82 rfl trivial ?_ rfl;simp only[ntmps82,wbQ,waG,List.length_nil,Nat.reduceAdd,Nat.reduceSub,wbR,wbS,List.push_toArray,List.append_toArray,wbN,wbT]
 gi_wp2_with fail
 refine⟨trivial,?_⟩;have hb0:Below w.heap.size w ((w.alloc (.cells #[.int .i64 0] 3)).alloc (.cells #[.int .u64 (m:Nat)] 33)):=((waC _ w).alloc (waJ _) _).alloc (by simp) _
 have hz0:((w.alloc (.cells #[.int .i64 0] 3)).alloc (.cells #[.int .u64 (m:Nat)] 33)).heap.size=w.heap.size+2:=by simp
 have x0:Boxed ((w.alloc (.cells #[.int .i64 0] 3)).alloc (.cells #[.int .u64 (m:Nat)] 33)) w.heap.size 3 (.int .i64 0):=(Boxed.new _ _ _).alloc _;have a0:((w.alloc (.cells #[.int .i64 0] 3)).alloc (.cells #[.int .u64 (m:Nat)] 33)).cell? ⟨w.heap.size+1,0,none⟩=some (.int .u64 (m:Nat)):=by
  have h:w.heap.size+1=(w.alloc (.cells #[.int .i64 0] 3)).heap.size:=by simp
  rw[h];exact zaa rfl rfl
 generalize ((w.alloc (.cells #[.int .i64 0] 3)).alloc (.cells #[.int .u64 (m:Nat)] 33))=W0 at *;refine(HA.out _ _ a0).mono ?_;rintro e w1 ⟨bA,rfl,cA,hlA,hq1⟩;have x1:=zaA hq1 x0;have hb1:Below w.heap.size w w1:=hb0.trans (hq1.mono oQ);have hT1:=HW.out.below hb1;have hz1:=hq1.size;clear x0 a0 hb0
 gi_wp2_with fail
 refine wpIn_rangeFunc_ownH rfl oQ (gf:=196) (lb:=#[.pointer (some ⟨bA,0,none⟩)]) rfl trivial eg
  (zcu (fun k:Nat=>k) (zar m) (KpM (·=w.heap.size)) 4 bA m dQ (List.map_id _) hm (fun _ _ hk hc=>hk.cell hc (fun g=>by have:bA=w.heap.size:=g;omega)) (fun _ _ hk ht=>ht.kpM hk (fun g=>by have:0=w.heap.size:=g;omega)) w1 cA hT1)
  (fun h k=>h.trans k) (fun V l o o' _ hl ho _=>KpM.putObj o' hl ho) (waC _ _) (fun _=>rfl)
  (fun pre V=>Boxed V w.heap.size 3 (.int .i64 (zlY pre))∧Below w.heap.size w V)
  (fun c pre V=>False)
  (OwnFrom.and (Own.from (boxed_own _ _ (fun pre:List Nat=>Value.int .i64 (zlY pre))) _) (ownFrom_below (waJ _) oQ))
  (fun c _ _ _ _ hs _ _=>hs)
  ⟨x1,hb1⟩
  (fun x a' V=>a'={tmps:=#[.int .u64 (m:Nat),undef,.int .i64 0,.pointer (some ⟨w.heap.size,0,none⟩),.int .i64 (x:Int),.int .u64 (m:Nat),.slice (some ⟨w.heap.size+1,0,none⟩) 1 1,.func (.func 196) #[] #[.pointer (some ⟨bA,0,none⟩)],.int .i64 (x:Int),undef,undef,undef,undef,undef],defers:=[]})
  (fun _ _ _ _ _ _ hs _ _=>hs)
  ?assign ?body ?done ?stop
 case assign=>
  rintro l1 pre x V K hi hK
  gi_wp2_with fail
  exact hK _ _ (KeepsFrom.refl _ _) (KpM.refl _ _) hi rfl
 case body=>
  rintro l1 pre x a' V hl1 _ ⟨hx,hb⟩ rfl hlt;have hLx:=waV (fun V=>HL.out l1 (x:Int) V)
  have HS:=waV (zol pre x);have c0:=hx.cell;have f0:=hx.frozen;have lV:=hx.lt;generalize zlY pre=F at *;generalize zbw 2000 (x:Int)=G at *
  gi_wp2_with fail
  refine zok (α:=Unit) (fun _=>[(9,.int .i64 F),(10,.int .i64 (x:Int)),(11,.int .i64 G),(12,.int .i64 (max F G))]) (fun _ w'=>Boxed w' w.heap.size 3 (.int .i64 (max F G))∧RlS (·=w.heap.size) V w') ?ways ?on
  case ways=>
   rcases Int.lt_or_le F G with hFG|hFG
   ·have hM:max F G=G:=by omega
    have hM1:¬G<F:=by omega
    have hM2:¬G≤F:=by omega
    rw[hM]
    gi_region_with (refine⟨trivial,?_⟩;gi_at_call 132;refine(hLx.out _).mono ?_;rintro e w4 ⟨rfl,hq4⟩;have x4:=zaA hq4 hx;have c4:=x4.cell;have f4:=x4.frozen;have l4:=x4.lt)
    all_goals first|exact⟨rfl,(),rfl,Boxed.set _ x4,((RlS.refl (·=w.heap.size) V).below hq4 (waJ _)).set ⟨w.heap.size,0,none⟩ _ rfl⟩|exact⟨rfl,(),rfl,Boxed.set _ x4,((RlS.refl (·=w.heap.size) V).below (((waC V.heap.size V).drew).trans hq4) (waJ _)).set ⟨w.heap.size,0,none⟩ _ rfl⟩
   ·have hM:max F G=F:=by omega
    have hM1:¬F<G:=by omega
    rw[hM]
    gi_region_with (refine⟨trivial,?_⟩;gi_at_call 132;refine(hLx.out _).mono ?_;rintro e w4 ⟨rfl,hq4⟩;have x4:=zaA hq4 hx;have c4:=x4.cell;have f4:=x4.frozen;have l4:=x4.lt)
    all_goals first|exact⟨rfl,(),rfl,Boxed.set _ x4,((RlS.refl (·=w.heap.size) V).below hq4 (waJ _)).set ⟨w.heap.size,0,none⟩ _ rfl⟩|exact⟨rfl,(),rfl,Boxed.set _ x4,((RlS.refl (·=w.heap.size) V).below (((waC V.heap.size V).drew).trans hq4) (waJ _)).set ⟨w.heap.size,0,none⟩ _ rfl⟩
  case on=>
   rintro _ w5 ⟨hx5,hr5⟩;simp only[zdS,List.foldl,Act.put,wbU,wbW,wbV];have hk5:KpM (·=w.heap.size) V w5:=⟨hr5.size,fun k o hk _ hn=>(hr5.block k (waL.1 hk).1 hn).trans hk⟩
   have hf5:KeepsFrom w1.heap.size V w5:=⟨hr5.size,fun i o h1 h2 _=>(hr5.block i (waL.1 h2).1 (fun g=>by have:i=w.heap.size:=g;omega)).trans h2⟩
   have hb5:Below w.heap.size w w5:=hb.trans ⟨hr5.os,hr5.tape,hr5.output,hr5.size,fun k hk=>hr5.block k (by have:=hb.size;omega) (fun g=>by have:k=w.heap.size:=g;omega)⟩
   clear hr5
   gi_wp2_with fail
   exact⟨hf5,hk5,by rw[HS.out];exact hx5,hb5⟩
 case done=>
  rintro D xs V hD rfl ⟨hx,hb⟩ hKd;have c0:=hx.cell;have HL2:Hid (zlY (zar m)=zds m):=rfl
  gi_wp2_with fail
  refine⟨by simp,.inl ⟨_,_,rfl,run_takeDeferred hKd,?_⟩⟩
  exact⟨_,results_tmp rfl _ _ _,by rw[←HL2.out];rfl,hb.trans (belowK_b (w:=w) (waJ _) V D _ _ (by have:=hb1.size;omega) hKd rfl rfl)⟩
 case stop=>
  rintro D c pre V _ _ h _;exact h.elim
end Go.Proofs.YtgedndlifiihkaaGreatDoor
namespace Go.Proofs.YtgedndlifiihkaaGreatDoor
open Go.Proofs.Tryz
open Go.RowKit Go.Shelf
attribute [local go_sem] Oper.semAt_some
abbrev zwi (l:List Nat):List Value:=l.map fun(k:Nat)=>Value.int .i64 (k:Int)
def zl0 (l:List Nat) (w:World) (e:Ending) (w':World):Prop:=∃v,e=.returned v∧w'.ownsRow w.heap.size 3 1 v l.length (zwi l)∧Below w.heap.size w w'
theorem KpT.of_below {p q B:Nat} {W W':World} (h:Below B W W') (hq:q≤B) (hg:0<B):KpT p q W W':=
 ⟨⟨h.size,fun k _ h2=>h.block k oQ⟩,fun t j hj=>by
   have:=t j hj;exact(wbK (h.block _ hg)).trans this⟩
theorem zjv (gf:Nat) (lb:Array Value) (L:List Nat) (p q N:Nat) (w:World) (hN:N≤1000000) (hq:q≤w.heap.size) (hg:0<w.heap.size)
 (eg:∀args w,(callFunc gf args).run prog w=.ok (.enter gf args) w) (hseq:∀W,Below w.heap.size w W→SeqStopsK Fence.wide 2 prog gf lb (fun k:Nat=> #[.int .i64 (k:Int)]) (KpT p q) (fun xs=>xs=L) (fun pre=>pre<+:L) N W):
 Calls prog 195 #[.slice none 0 0,.func (.func gf) #[] lb] w (zl0 L w):=by
 obtain⟨i0,hi,hz0,hz1,hz2⟩:=info_parts ziJ;refine(wbP (n:=3)).1 ?_;refine callsIn_of_wp_marks func195 rfl trivial ?_ rfl;simp only[ntmps195,wbQ,waG,List.length_nil,Nat.reduceAdd,Nat.reduceSub,wbR,wbS,List.push_toArray,List.append_toArray,wbN,wbT]
 gi_wp2
 have bO:=Boxed.new w 35 (.slice none 0 0);have hB0:Below w.heap.size w (w.alloc (.cells #[.slice none 0 0] 35)):=(waC _ w).alloc (waJ _) _;refine wpIn_rangeFunc_ownF rfl dQ (gf:=gf) (lb:=lb) rfl trivial eg (hseq _ hB0) (fun h k=>h.trans k) (fun W l o o' hl ho hc _=>KpT.putObj o' (by simp at hl;omega) ho hc) (waC _ _) (fun _=>rfl)
  (fun pre W=>(∃v,Boxed W w.heap.size 35 v∧W.ownsRow w.heap.size 3 1 v pre.length (zwi pre)∧True)∧Below w.heap.size w W)
  (fun _ _ _=>False)
  (OwnFrom.and (Own.from (holdsRow_own w.heap.size w.heap.size 35 3 1 (fun pre:List Nat=>pre.length) (fun pre=>zwi pre) (fun pre v=>True)) _) (ownFrom_below (waJ _) (by simp)))
  (fun _ _ _ _ _ hs _ _=>hs)
  ⟨⟨_,bO,World.ownsRow_nil _ _ _ _,trivial⟩,hB0⟩
  (fun x=>{tmps:=#[.slice none 0 0,.func (.func gf) #[] lb,.pointer (some ⟨w.heap.size,0,none⟩),undef,.slice none 0 0,.int .i64 (x:Int),.func (.func gf) #[] lb,.int .i64 (x:Int),undef,undef,undef,undef,undef],defers:=[]}) ?assign ?body ?done ?stop
 case assign=>
  intro l x W K hK
  gi_wp2
  exact hK
 case body=>
  rintro l pre x W ⟨⟨v,hv,hrow,_⟩,hB⟩ hlt;have hc:=hv.cell
  gi_wp2_with (gi_at_builtin;refine wpListIn_append_own _ rfl _ _ 35 rfl w.heap.size 3 i0 (.int .i64 0) 1 8 underlying35 hi hz0 hz1 hz2 rfl dQ _ _ _ rfl (hrow.alloc _) ⟨W.heap.size,0,none⟩ 1 1 [.int .i64 (x:Int)] rfl rfl (cell_one_new _ _ _) (by simp[Value.oneCell']) (by unfold maxLen;omega) oQ (by have:=hB.size;simp;omega) ?_;intro v' w1 hown' hgrow _;obtain⟨g',cap',rfl⟩:=ownsRow_succ hown';obtain⟨hv1,hv2,hr2,hk2,hb2⟩:=hv.appended dQ hrow hB.size (waJ _) hown' hgrow;have hc1:=hv1.cell;have hf1:=hv1.frozen)
  exact⟨hk2,KpT.of_below hb2 hq hg,⟨_,hv2,by simpa[zwi] using hr2,trivial⟩,hB.trans hb2⟩
 case done=>
  rintro D ys W hD rfl ⟨⟨v,hv,hrow,_⟩,hB⟩ hK;have hc:=hv.cell
  gi_wp2
  refine⟨by simp,.inl ⟨_,_,rfl,run_takeDeferred hK,?_⟩⟩
  exact⟨_,results_tmp rfl _ _ _,v,rfl,ownsRow_putObj hrow _ hK rfl,hB.trans (belowK_b (w:=w) (waJ _) W D _ _ (by simp at hD;omega) hK rfl rfl)⟩
 case stop=>
  rintro D c pre W _ _ h _;exact h.elim
theorem zl1 (gf:Nat) (lb:Array Value) (L:List Nat) (p q N:Nat) (w:World) (hN:N≤1000000) (hq:q≤w.heap.size) (hg:0<w.heap.size)
 (eg:∀args w,(callFunc gf args).run prog w=.ok (.enter gf args) w) (hseq:∀W,Below w.heap.size w W→SeqStopsK Fence.wide 2 prog gf lb (fun k:Nat=> #[.int .i64 (k:Int)]) (KpT p q) (fun xs=>xs=L) (fun pre=>pre<+:L) N W):
 Calls prog 137 #[.func (.func gf) #[] lb] w (zl0 L w):=by
 have H:=waV (zjv gf lb L p q N w hN hq hg eg hseq);clear hseq eg;go_enter func137,ntmps137;go_wp2_with fail;refine H.out.mono ?_;rintro e w1 ⟨v,rfl,hv,hb⟩;have HV:=waV hv;clear hv;go_wp2;go_ret;exact⟨_,rfl,HV.out,hb⟩
theorem zqO {w:World} {A B n k:Nat} {v:Value} {t:TypeId} {xs:List Value} (h:w.ownsRow B t k v n xs) (hA:A≤B):w.ownsRow A t k v n xs:=by
 refine⟨h.1,?_⟩;rcases h.2 with h|⟨g,cap,cur,h1,h2,h3⟩
 ·exact .inl h
 ·exact .inr ⟨g,cap,cur,h1,waW hA h2,h3⟩
theorem Tz.lt {w:World} (h:Tz w):0<w.heap.size:=waR w _ (h 0 dQ)
theorem zqP (m:Nat) (hm:m<18446744073709551616) (w:World) (hw:Tz w):Calls prog 78 #[.int .u64 m] w (zl0 (zar m) w):=by
 have HA:=waV (fun B W h=>zeE m hm B 0 1 W h)
 have HW:=waV hw;have eg:∀args w,(callFunc 196 args).run prog w=.ok (.enter 196 args) w:=enters_of func196 kQ rfl;have HC:=waV (fun b W (hT:Tz W) (hc:W.cell? ⟨b,0,none⟩=some (.int .u64 m))=>
  zl1 196 #[.pointer (some ⟨b,0,none⟩)] (zar m) b (b+1) 65 W dQ (waR W _ hc) hT.lt eg
   (fun V hV=>zn4 2 b m b (b+1) dQ hm (waJ _) (Nat.lt_succ_self _) V ((hV.cell (p:=⟨b,0,none⟩) (waR W _ hc)).trans hc) (hT.below hV)))
 clear hw eg;go_enter func78,ntmps78;go_wp2_with fail;have hc:=@zaa w #[.int .u64 m] 33 w.heap.size 0 (.int .u64 m) rfl rfl;have hb0:Below w.heap.size w (w.alloc (.cells #[.int .u64 m] 33)):=(waC _ _).alloc (waJ _) _;refine(HA.out w.heap.size _ hc).mono ?_;rintro e w1 ⟨b,rfl,hcb,hlb,hb1⟩;have hb2:Below w.heap.size w w1:=hb0.trans (hb1.mono (by simp))
 have HC2:=waV (HC.out b w1 (HW.out.below hb2) hcb);clear hc hcb hb1 hb0;go_wp2_with fail;refine HC2.out.mono ?_;rintro e w2 ⟨v,rfl,hv,hb3⟩;have HV:=waV hv;clear hv;go_wp2;go_ret;refine⟨_,rfl,?_,zak hb2 hb3 hb2.size⟩;exact zqO HV.out hb2.size
end Go.Proofs.YtgedndlifiihkaaGreatDoor
namespace Go.Proofs.YtgedndlifiihkaaGreatDoor
open Go.Proofs.Tryz
open Go.RowKit
attribute [local go_sem] Oper.semAt_some
theorem zqQ (l:List Nat):(l.map fun(k:Nat)=>(k:Int)).flatMap zd5=zwi l:=by
 induction l with
 |nil=>rfl
 |cons a l ih=>
  rw[List.map_cons,List.flatMap_cons,ih];rfl
def zuY (m:Nat) (w:World) (e:Ending) (w':World):Prop:=∃A n c,e=.returned (.slice A n c)∧zaU w' A n (zaG m)∧n≤c∧c≤maxLen∧Below w.heap.size w w'∧n=(zaG m).length
theorem zgc (m:Nat) (hm:m<18446744073709551616) (w:World) (hw:Tz w):Calls prog 78 #[.int .u64 m] w (zuY m w):=by
 refine(zqP m hm w hw).mono ?_;rintro e w' ⟨v,rfl,hv,hb⟩;have hv':w'.ownsRow w.heap.size 3 1 v (zar m).length ((zaG m).flatMap zd5):=by
  unfold zaG;rw[zqQ];exact hv
 obtain⟨A,c,rfl,h1,h2,h3,_⟩:=Rd.of_own zh5 hv' (by unfold zaG;rw[List.length_map])
 exact⟨A,_,c,rfl,h3,h1,h2,hb,by unfold zaG;rw[List.length_map]⟩
structure SomeS (w:World) (a z:Int) (w':World):Prop where
 b:Below w.heap.size w w'
 c0:w'.cell? ⟨w.heap.size,0,none⟩=some (.int .i64 a)
 c1:w'.cell? ⟨w.heap.size,1,none⟩=some (.int .i64 z)
 l:w.heap.size<w'.heap.size
theorem SomeS.below {w w' w'':World} {a z:Int} (h:SomeS w a z w') (hb:Below w'.heap.size w' w''):SomeS w a z w'':=
 ⟨h.b.trans (hb.mono h.b.size),((zad hb).1 _ _ h.l).trans h.c0,((zad hb).1 _ _ h.l).trans h.c1,waD h.l hb.size⟩
theorem zkX (m:Nat) (hm:m<18446744073709551616) (hl:(zaG m).length≤1000000) (w:World) (hw:Tz w):Calls prog 30 #[.int .i64 2,.int .u64 m] w (zfg (zab 1 31 (zaG m) false) w):=by
 have HL:=waV (fun V (hV:Below w.heap.size w V)=>zgc m hm V (hw.below hV))
 have HO:=waV (fun A n c V (h:zaU V A n (zaG m)) hn hnc hc=>zfT 1 31 A n c (zaG m) false V h hn hnc hc)
 have HN:=waV hl;have hx:∀V,(Instr.index 138 (.agg #[.int .i64 0,.int .i64 59,.int .i64 0,.int .i64 23,.int .i64 1,.int .i64 31,.int .i64 1,.int .i64 12,.int .i64 0,.int .i64 6]) (.int .i64 2)).run prog V=.ok (.agg #[.int .i64 1,.int .i64 31]) V:=fun V=>by kernel_rfl
 clear hw hl;go_enter func30,ntmps30;go_wp2_with fail;have hb0:Below w.heap.size w (w.alloc (.cells #[.int .i64 1,.int .i64 31] 137)):=(waC _ w).alloc (waJ _) _;have hz0:(w.alloc (.cells #[.int .i64 1,.int .i64 31] 137)).heap.size=w.heap.size+1:=by simp
 have c0:=@zaa w #[.int .i64 1,.int .i64 31] 137 w.heap.size 0 (.int .i64 1) rfl rfl;have c1:=@zaa w #[.int .i64 1,.int .i64 31] 137 w.heap.size 1 (.int .i64 31) rfl rfl;generalize (w.alloc (.cells #[.int .i64 1,.int .i64 31] 137))=W0 at *;have l0:w.heap.size<W0.heap.size:=by omega
 refine zgK (α:=Value×Value) (fun y=>[(14,.pointer (some ⟨w.heap.size,0,none⟩)),(15,.int .i64 1),(16,.pointer (some ⟨w.heap.size,1,none⟩)),(17,.int .i64 31),(18,.int .u64 (m:Nat)),(19,y.1),(20,y.2),(4,y.2)]) (fun y w'=>zat w' w.heap.size y.2 (zab 1 31 (zaG m) false)∧Below w.heap.size w w') ?ways ?on
 case ways=>
  have hHeld:Hid (SomeS w 1 31 W0.drew):=⟨hb0.drew,c0,c1,by simpa using l0⟩
  clear c0 c1 hb0 hz0 l0;refine zan 6 (fun w'=>Hid (SomeS w 1 31 w')) kQ ?_
  refine(kP 0 14 (h:=(kR 1 15 (fun w_ hSw_=>hSw_.out.c0) (h:=(kP 2 16 (h:=(kR 3 17 (fun w_ hSw_=>hSw_.out.c1) (h:=(kP 4 18 (h:=?_))))))))))
  simp only[Act.put,aPu1,aPu2,aPu3];refine zac (i:=5) kQ fun o_ ho_ K_ hK_=>?_
  obtain rfl:=waB ho_;have HK_:=waV hK_;clear hK_ ho_;go_wp2_with fail;refine(HL.out _ hHeld.out.b).mono ?_;rintro e w4 ⟨A,n,c,rfl,hr,hnc,hcm,hq4,hn⟩;have hH4:Hid (SomeS w 1 31 w4):=hHeld.out.below hq4;have hn6:n≤1000000:=by have:=HN.out;omega
  have HOr:=waV (HO.out A n c w4 hr hn6 hnc hcm);clear hr hn hnc hcm hn6 hq4 HO HL;go_wp2_with fail;refine HK_.out _ _ hH4 ?_;clear HK_;have hb4:=hH4.out.b;have hz4:=hb4.size;clear hHeld hH4;refine zag (j:=2) dQ (.inr rfl) dQ kQ ?_;simp only[wbQ,waG,List.length_nil,Nat.reduceAdd,Nat.reduceSub,waZ,wbA];go_wp2_with fail;refine HOr.out.mono ?_;rintro e w5 ⟨v,rfl,ho,hq5⟩;have HOw:Hid (zat w5 w.heap.size v (zab 1 31 (zaG m) false)):=zap ho hz4;clear ho;go_wp2_with fail;refine⟨rfl,(.slice A n c,v),?_,HOw.out,hb4.trans (hq5.mono hz4)⟩;simp only[zdS,List.foldl,Act.put,wbU,wbV,wbW]
 case on=>
  rintro ⟨y1,y2⟩ w6 ⟨ho,hb6⟩;simp only[zdS,List.foldl,Act.put,wbU,wbW,wbV];have HOw:=waV ho;clear ho;go_wp2_with fail;go_ret;exact⟨_,rfl,HOw.out,hb6⟩
theorem zkY (m:Nat) (hm:m<18446744073709551616) (hl:(zaG m).length≤1000000) (w:World) (hw:Tz w):Calls prog 30 #[.int .i64 4,.int .u64 m] w (zfg (zab 0 6 (zaG m) false) w):=by
 have HL:=waV (fun V (hV:Below w.heap.size w V)=>zgc m hm V (hw.below hV))
 have HO:=waV (fun A n c V (h:zaU V A n (zaG m)) hn hnc hc=>zfT 0 6 A n c (zaG m) false V h hn hnc hc)
 have HN:=waV hl;have hx:∀V,(Instr.index 138 (.agg #[.int .i64 0,.int .i64 59,.int .i64 0,.int .i64 23,.int .i64 1,.int .i64 31,.int .i64 1,.int .i64 12,.int .i64 0,.int .i64 6]) (.int .i64 4)).run prog V=.ok (.agg #[.int .i64 0,.int .i64 6]) V:=fun V=>by kernel_rfl
 clear hw hl;go_enter func30,ntmps30;go_wp2_with fail;have hb0:Below w.heap.size w (w.alloc (.cells #[.int .i64 0,.int .i64 6] 137)):=(waC _ w).alloc (waJ _) _;have hz0:(w.alloc (.cells #[.int .i64 0,.int .i64 6] 137)).heap.size=w.heap.size+1:=by simp
 have c0:=@zaa w #[.int .i64 0,.int .i64 6] 137 w.heap.size 0 (.int .i64 0) rfl rfl;have c1:=@zaa w #[.int .i64 0,.int .i64 6] 137 w.heap.size 1 (.int .i64 6) rfl rfl;generalize (w.alloc (.cells #[.int .i64 0,.int .i64 6] 137))=W0 at *;have l0:w.heap.size<W0.heap.size:=by omega
 refine zgK (α:=Value×Value) (fun y=>[(14,.pointer (some ⟨w.heap.size,0,none⟩)),(15,.int .i64 0),(16,.pointer (some ⟨w.heap.size,1,none⟩)),(17,.int .i64 6),(18,.int .u64 (m:Nat)),(19,y.1),(20,y.2),(4,y.2)]) (fun y w'=>zat w' w.heap.size y.2 (zab 0 6 (zaG m) false)∧Below w.heap.size w w') ?ways ?on
 case ways=>
  have hHeld:Hid (SomeS w 0 6 W0.drew):=⟨hb0.drew,c0,c1,by simpa using l0⟩
  clear c0 c1 hb0 hz0 l0;refine zan 6 (fun w'=>Hid (SomeS w 0 6 w')) kQ ?_
  refine(kP 0 14 (h:=(kR 1 15 (fun w_ hSw_=>hSw_.out.c0) (h:=(kP 2 16 (h:=(kR 3 17 (fun w_ hSw_=>hSw_.out.c1) (h:=(kP 4 18 (h:=?_))))))))))
  simp only[Act.put,aPu1,aPu2,aPu3];refine zac (i:=5) kQ fun o_ ho_ K_ hK_=>?_
  obtain rfl:=waB ho_;have HK_:=waV hK_;clear hK_ ho_;go_wp2_with fail;refine(HL.out _ hHeld.out.b).mono ?_;rintro e w4 ⟨A,n,c,rfl,hr,hnc,hcm,hq4,hn⟩;have hH4:Hid (SomeS w 0 6 w4):=hHeld.out.below hq4;have hn6:n≤1000000:=by have:=HN.out;omega
  have HOr:=waV (HO.out A n c w4 hr hn6 hnc hcm);clear hr hn hnc hcm hn6 hq4 HO HL;go_wp2_with fail;refine HK_.out _ _ hH4 ?_;clear HK_;have hb4:=hH4.out.b;have hz4:=hb4.size;clear hHeld hH4;refine zag (j:=2) dQ (.inr rfl) dQ kQ ?_;simp only[wbQ,waG,List.length_nil,Nat.reduceAdd,Nat.reduceSub,waZ,wbA];go_wp2_with fail;refine HOr.out.mono ?_;rintro e w5 ⟨v,rfl,ho,hq5⟩;have HOw:Hid (zat w5 w.heap.size v (zab 0 6 (zaG m) false)):=zap ho hz4;clear ho;go_wp2_with fail;refine⟨rfl,(.slice A n c,v),?_,HOw.out,hb4.trans (hq5.mono hz4)⟩;simp only[zdS,List.foldl,Act.put,wbU,wbV,wbW]
 case on=>
  rintro ⟨y1,y2⟩ w6 ⟨ho,hb6⟩;simp only[zdS,List.foldl,Act.put,wbU,wbW,wbV];have HOw:=waV ho;clear ho;go_wp2_with fail;go_ret;exact⟨_,rfl,HOw.out,hb6⟩
end Go.Proofs.YtgedndlifiihkaaGreatDoor
namespace Go.Proofs.YtgedndlifiihkaaGreatDoor
open Go.Proofs.Tryz
open Go.RowKit
def zbU:Value→Nat
 | .int _ k=>k.toNat
 |_=>0
structure FaceG (g:Nat→Value):Prop where
 m:∀i,i<46→∃k:Nat,k<18446744073709551616∧g i=.int .u64 (k:Int)
 a:∃z,g 46=.int .i64 z
 z:∃z,g 47=.int .i64 z
 d:∃z,g 48=.int .i64 z
 e:∃b,g 49=.bool b
 s:∃b,g 50=.bool b
theorem FaceG.nat {g:Nat→Value} (h:FaceG g) {i:Nat} (hi:i<46):g i=.int .u64 (zbU (g i):Int)∧zbU (g i)<18446744073709551616:=by
 obtain⟨k,h1,h2⟩:=h.m i hi;rw[h2];exact⟨rfl,h1⟩
structure FaceAt (W:World) (fb:Nat) (g:Nat→Value):Prop where
 obj:∃cs,W.heap[fb]?=some (.cells cs 66 (0,0))∧cs.size=51∧∀i,i<51→cs[i]?=some (g i)
 g:FaceG g
theorem FaceAt.lt {W:World} {fb:Nat} {g:Nat→Value} (h:FaceAt W fb g):fb<W.heap.size:=by
 obtain⟨cs,hc,_⟩:=h.obj;exact(waL.1 hc).1
theorem FaceAt.cell {W:World} {fb:Nat} {g:Nat→Value} (h:FaceAt W fb g) {i:Nat} (hi:i<51):W.cell? ⟨fb,i,none⟩=some (g i):=by
 obtain⟨cs,hc,_,hg⟩:=h.obj;simp[World.cell?,hc,hg i hi]
theorem FaceAt.frozen {W:World} {fb:Nat} {g:Nat→Value} (h:FaceAt W fb g) (i:Nat):W.frozen? ⟨fb,i,none⟩=false:=by
 obtain⟨cs,hc,_⟩:=h.obj;simp[World.frozen?,hc]
theorem FaceAt.same {W V:World} {fb:Nat} {g:Nat→Value} (h:FaceAt W fb g) (e:V.heap[fb]?=W.heap[fb]?):FaceAt V fb g:=⟨by
 obtain⟨cs,hc,h1,h2⟩:=h.obj;exact⟨cs,e.trans hc,h1,h2⟩,h.g⟩
theorem FaceAt.rls {S:Nat→Prop} {W V:World} {fb:Nat} {g:Nat→Value} (h:FaceAt W fb g) (hr:RlS S W V) (hS:¬S fb):FaceAt V fb g:=h.same (hr.block _ h.lt hS)
theorem FaceAt.below {W V:World} {fb:Nat} {g:Nat→Value} (h:FaceAt W fb g) (hb:Below W.heap.size W V):FaceAt V fb g:=h.same (hb.block _ h.lt)
theorem FaceAt.set {W:World} {fb:Nat} {g:Nat→Value} (h:FaceAt W fb g) {i:Nat} (hi:i<51) {v:Value} (hg:FaceG (updG g i v)):FaceAt (W.setCell ⟨fb,i,none⟩ v) fb (updG g i v):=⟨by
 obtain⟨cs,hc,h1,h2⟩:=h.obj;obtain⟨hlt,hk⟩:=waL.1 hc;refine⟨cs.setIfInBounds i v,?_,by simpa using h1,fun j hj=>?_⟩
 ·show(W.heap.modify fb _)[fb]?=_;rw[wbI (by rw[Array.size_modify];exact hlt),Array.getElem_modify_self,hk]
  rfl
 ·unfold updG
  by_cases e:j=i
  ·subst e;rw[if_pos rfl,Array.getElem?_setIfInBounds_self_of_lt (by omega)]
  ·rw[if_neg e,Array.getElem?_setIfInBounds_ne (fun g=>e g.symm)];exact h2 j hj,hg⟩
def orI {α:Type} (f:α→Nat) (l:List α):Nat:=l.foldl (fun a s=>a|||2^f s) 0
theorem zjw {α:Type} (f:α→Nat) (l:List α) (x:α):orI f (l++[x])=orI f l|||2^f x:=by simp[orI]
theorem zuZ {α:Type} (f:α→Nat) (l:List α) (k:Nat):(orI f l).testBit k=true↔∃s∈l,f s=k:=by
 have:∀(l:List α) (a:Nat),(l.foldl (fun a s=>a|||2^f s) a).testBit k=true↔a.testBit k=true∨∃s∈l,f s=k:=by
  intro l;induction l with
  |nil=>intro a;simp
  |cons b l ih=>
   intro a;rw[List.foldl_cons,ih,Nat.testBit_or,wbF,Nat.testBit_two_pow];simp only[List.mem_cons,waM];constructor
   ·rintro ((h|h)|⟨s,hs,h⟩)
    ·exact .inl h
    ·exact .inr ⟨b,.inl rfl,h⟩
    ·exact .inr ⟨s,.inr hs,h⟩
   ·rintro (h|⟨s,(rfl|hs),h⟩)
    ·exact .inl (.inl h)
    ·exact .inl (.inr h)
    ·exact .inr ⟨s,hs,h⟩
 have h:=this l 0;rw[Nat.zero_testBit] at h;unfold orI;rw[h];simp
def tOf (i s:Nat):Nat:=if i=0 then s%60 else if i=1 then s / 60%60 else s / 3600
theorem zfL {i s:Nat} (hs:s<86400):tOf i s<64:=by unfold tOf;(repeat' split)<;>omega
structure AloneR (c:Cl) (g g':Nat→Value):Prop where
 rest:∀i,3≤i→g' i=g i
 t:∀i,i<3→∀k,(zbU (g' i)).testBit k=true↔(zbU (g i)).testBit k=true∨∃n s,zeP (zao [c]) n s∧tOf i s=k
structure AloneI (c:Cl) (g g':Nat→Value) (pre:List (Int×Nat)):Prop where
 rest:∀i,3≤i→g' i=g i
 t:∀i,i<3→∀k,(zbU (g' i)).testBit k=true↔(zbU (g i)).testBit k=true∨∃x∈pre,∃s,s<86400∧zao [c] x.1 s=true∧tOf i s=k
theorem AloneI.nil (c:Cl) (g:Nat→Value):AloneI c g g []:=⟨fun _ _=>rfl,fun i hi k=>by simp⟩
theorem AloneI.known {c:Cl} {g g':Nat→Value} {pre:List (Int×Nat)} (h:AloneI c g g' pre) {x y:Int×Nat} (hy:y∈pre) (hs:zf8 (zao [c] y.1) (zao [c] x.1)):AloneI c g g' (pre++[x]):=⟨h.rest,fun i hi k=>by
 rw[h.t i hi k];constructor
 ·rintro (h1|⟨z,hz,s,h2,h3,h4⟩)
  ·exact .inl h1
  ·exact .inr ⟨z,by simp[hz],s,h2,h3,h4⟩
 ·rintro (h1|⟨z,hz,s,h2,h3,h4⟩)
  ·exact .inl h1
  ·rcases wbB.1 hz with hz|hz
   ·exact .inr ⟨z,hz,s,h2,h3,h4⟩
   ·rw[wbC.1 hz] at h3;exact .inr ⟨y,hy,s,h2,(hs s h2).trans h3,h4⟩⟩
theorem AloneI.new {c:Cl} {g g' g'':Nat→Value} {pre:List (Int×Nat)} (h:AloneI c g g' pre) {x:Int×Nat} (hr:∀i,3≤i→g'' i=g' i) (ht:∀i,i<3→zbU (g'' i)=zbU (g' i)|||orN (tOf i) (zbW (zao [c] x.1))):AloneI c g g'' (pre++[x]):=⟨fun i hi=>(hr i hi).trans (h.rest i hi),fun i hi k=>by
 rw[ht i hi,Nat.testBit_or,wbF,h.t i hi k,zqA];constructor
 ·rintro ((h1|⟨z,hz,s,h2,h3,h4⟩)|⟨s,hs,h4⟩)
  ·exact .inl h1
  ·exact .inr ⟨z,by simp[hz],s,h2,h3,h4⟩
  ·obtain⟨h2,h3⟩:=zbX.1 hs;exact .inr ⟨x,by simp,s,h2,h3,h4⟩
 ·rintro (h1|⟨z,hz,s,h2,h3,h4⟩)
  ·exact .inl (.inl h1)
  ·rcases wbB.1 hz with hz|hz
   ·exact .inl (.inr ⟨z,hz,s,h2,h3,h4⟩)
   ·rw[wbC.1 hz] at h3;exact .inr ⟨s,zbX.2 ⟨h2,h3⟩,h4⟩⟩
theorem zjx {L:List Cl} {n:Int} {s:Nat} (h:zeP (zao L) n s):n∈zh2 L (mxI (bdF L 0) 0) (mnI (bdT L 146096) 146096):=by
 obtain⟨h0,h1,hs,hp⟩:=h;obtain⟨h2,h3⟩:=zuM (L:=L) (f:=0) (t:=146096) (n:=n) h0 oQ ⟨s,hs,hp⟩;unfold zh2 zhC;rw[List.mem_filter,zaS,ze3,ze4,zgJ];exact⟨⟨by omega,by omega⟩,s,hs,hp⟩
theorem zjy {L:List Cl} {n:Int} (h:n∈zh2 L (mxI (bdF L 0) 0) (mnI (bdT L 146096) 146096)):zcs (zao L) n:=by
 unfold zh2 zhC at h;rw[List.mem_filter,zaS,ze3,ze4,zgJ] at h;obtain⟨⟨h0,h1⟩,s,hs,hp⟩:=h;exact⟨s,by omega,by omega,hs,hp⟩
theorem AloneI.all {c:Cl} {g g':Nat→Value} {xs:List (Int×Nat)} (h:AloneI c g g' xs) (hx:xs.map Prod.fst=zh2 [c] (mxI (bdF [c] 0) 0) (mnI (bdT [c] 146096) 146096)):AloneR c g g':=⟨h.rest,fun i hi k=>by
 rw[h.t i hi k];constructor
 ·rintro (h1|⟨z,hz,s,h2,h3,h4⟩)
  ·exact .inl h1
  ·have hz:z.1∈xs.map Prod.fst:=List.mem_map_of_mem hz;rw[hx] at hz;obtain⟨a,b⟩:=(zjy hz).win;exact .inr ⟨z.1,s,⟨a,b,h2,h3⟩,h4⟩
 ·rintro (h1|⟨n,s,hl,h4⟩)
  ·exact .inl h1
  ·have hm:=zjx hl;rw[←hx] at hm;obtain⟨z,hz,rfl⟩:=List.mem_map.1 hm;exact .inr ⟨z,hz,s,hl.2.2.1,hl.2.2.2,h4⟩⟩
theorem zu0 {c:Cl} {n:Int} {s:Nat} (h:zao [c] n s=true):zrT c (n * 86400+(s:Int))=true:=by
 unfold zao zrU at h;rw[waN] at h;simpa using h.2
theorem zjz {m:Int} {k:Nat} (h0:0≤m) (h:zbP m (k:Int)=true):m.toNat.testBit k=true:=by
 have e:=waA h;rw[show m=(m.toNat:Int) by omega,zba _ _ (by omega)] at h
 exact h
theorem zom {c:Cl} {n:Int} {s:Nat} (hm:∀k,k<7→M64 (c.m k)) (h:zeP (zao [c]) n s):∀i,i<3→(c.m i).toNat.testBit (tOf i s)=true:=fun i hi=>by
 obtain⟨h0,h1,hs,hp⟩:=h;have hh:=zu0 hp;unfold zrT at hh;simp only[waN] at hh;obtain⟨_,_,_,ht,_⟩:=hh;have e:(n * 86400+(s:Int))%86400=(s:Int):=by omega
 rw[e] at ht;unfold zcM at ht;simp only[waN] at ht;obtain⟨a,b,d⟩:=ht;obtain rfl|rfl|rfl:i=0∨i=1∨i=2:=by omega
 ·exact zjz (hm 0 (by decide)).1 (by rw[show ((tOf 0 s:Nat):Int)=(s:Int)%60 by simp[tOf]];exact d)
 ·exact zjz (hm 1 (by decide)).1 (by rw[show ((tOf 1 s:Nat):Int)=(s:Int) / 60%60 by simp[tOf]];exact b)
 ·exact zjz (hm 2 (by decide)).1 (by rw[show ((tOf 2 s:Nat):Int)=(s:Int) / 3600 by simp[tOf]];exact a)
theorem AloneI.stop {c:Cl} {g g':Nat→Value} {pre:List (Int×Nat)} (h:AloneI c g g' pre) (hm:∀k,k<7→M64 (c.m k)) (hw:∀x∈pre,0≤x.1∧x.1<146097) (hs:∀i,i<3→∀k,(c.m i).toNat.testBit k=true→(zbU (g' i)).testBit k=true):AloneR c g g':=⟨h.rest,fun i hi k=>by
 constructor
 ·intro h1;rcases(h.t i hi k).1 h1 with h1|⟨z,hz,s,h2,h3,h4⟩
  ·exact .inl h1
  ·exact .inr ⟨z.1,s,⟨(hw z hz).1,(hw z hz).2,h2,h3⟩,h4⟩
 ·rintro (h1|⟨n,s,hl,h4⟩)
  ·exact(h.t i hi k).2 (.inl h1)
  ·rw[←h4];exact hs i hi _ (zom hm hl i hi)⟩
structure AllR (L:List Cl) (g g':Nat→Value):Prop where
 rest:∀i,3≤i→g' i=g i
 t:∀i,i<3→∀k,(zbU (g' i)).testBit k=true↔(zbU (g i)).testBit k=true∨∃c∈L,∃n s,zeP (zao [c]) n s∧tOf i s=k
theorem AllR.nil (g:Nat→Value):AllR [] g g:=⟨fun _ _=>rfl,fun i hi k=>by simp⟩
theorem AllR.snoc {L:List Cl} {c:Cl} {g g' g'':Nat→Value} (h:AllR L g g') (k:AloneR c g' g''):AllR (L++[c]) g g'':=⟨fun i hi=>(k.rest i hi).trans (h.rest i hi),fun i hi j=>by
 rw[k.t i hi j,h.t i hi j];constructor
 ·rintro ((h1|⟨z,hz,h1⟩)|h1)
  ·exact .inl h1
  ·exact .inr ⟨z,by simp[hz],h1⟩
  ·exact .inr ⟨c,by simp,h1⟩
 ·rintro (h1|⟨z,hz,h1⟩)
  ·exact .inl (.inl h1)
  ·rcases wbB.1 hz with hz|hz
   ·exact .inl (.inr ⟨z,hz,h1⟩)
   ·rw[wbC.1 hz] at h1;exact .inr h1⟩
theorem zjA {L:List Cl} (h:zdF L=true) {c:Cl} (hc:c∈L):zdF [c]=true:=by
 unfold zdF at h ⊢;rw[waN,List.all_eq_true] at h;have:=h.2 c hc;simp[this]
theorem znb {L:List Cl} (h:zdF L=true) (n:Int) (s:Nat):zeP (zao L) n s↔∃c∈L,zeP (zao [c]) n s:=by
 unfold zeP zao zrU;rw[h,Bool.true_and,List.any_eq_true];constructor
 ·rintro ⟨a,b,d,c,hc,e⟩;exact⟨c,hc,a,b,d,by rw[zjA h hc];simpa using e⟩
 ·rintro ⟨c,hc,a,b,d,e⟩;rw[zjA h hc] at e;exact⟨a,b,d,c,hc,by simpa using e⟩
theorem AllR.live {L:List Cl} (hs:zdF L=true) {g g':Nat→Value} (h:AllR L g g') {i:Nat} (hi:i<3) (h0:zbU (g i)=0) (k:Nat):(zbU (g' i)).testBit k=true↔∃n s,zeP (zao L) n s∧tOf i s=k:=by
 rw[h.t i hi k,h0,Nat.zero_testBit];constructor
 ·rintro (h1|⟨c,hc,n,s,hl,e⟩)
  ·cases h1
  ·exact⟨n,s,(znb hs n s).2 ⟨c,hc,hl⟩,e⟩
 ·rintro ⟨n,s,hl,e⟩;obtain⟨c,hc,hl⟩:=(znb hs n s).1 hl;exact .inr ⟨c,hc,n,s,hl,e⟩
theorem AllR.masks {L:List Cl} (hs:zdF L=true) {g g':Nat→Value} (h:AllR L g g') (hg:FaceG g') (h0:∀i,i<3→zbU (g i)=0):zbU (g' 1)=zdq (zao L)∧zbU (g' 2)=zbn (zao L):=by
 refine⟨zkd (hg.nat dQ).2 fun k hk=>?_,zkd (hg.nat dQ).2 fun k hk=>?_⟩
 ·rw[h.live hs (by decide) (h0 1 (by decide))];rfl
 ·rw[h.live hs (by decide) (h0 2 (by decide))];rfl
structure DateR (n:Int) (g g':Nat→Value):Prop where
 r:∀i,i<3→g' i=g i
 mo:zbU (g' 3)=zbU (g 3)|||2^(mD n).toNat
 dm:zbU (g' 4)=zbU (g 4)|||2^(dD n).toNat
 wk:zbU (g' 6)=zbU (g 6)|||2^(wdD n).toNat
 d:∀z,g 48=.int .i64 z→g' 48=.int .i64 (wrap64 (z+1))
structure DaysI (g g':Nat→Value) (pre:List (Int×Nat)):Prop where
 r:∀i,i<3→g' i=g i
 mo:zbU (g' 3)=orI (fun x=>(mD x.1).toNat) pre
 dm:zbU (g' 4)=orI (fun x=>(dD x.1).toNat) pre
 wk:zbU (g' 6)=orI (fun x=>(wdD x.1).toNat) pre
 d:g' 48=.int .i64 (pre.length:Int)
theorem DaysI.snoc {g g' g'' g3:Nat→Value} {pre:List (Int×Nat)} {x:Int×Nat} (h:DaysI g g' pre) (e1:∀i,i<46∨i=48→g'' i=g' i) (k:DateR x.1 g'' g3) (hl:pre.length<1000000):DaysI g g3 (pre++[x]):=⟨fun i hi=>(k.r i hi).trans ((e1 i oQ).trans (h.r i hi)),
 by rw[k.mo,e1 3 (by decide),h.mo,zjw],by rw[k.dm,e1 4 (by decide),h.dm,zjw],by rw[k.wk,e1 6 (by decide),h.wk,zjw],
 by rw[k.d _ ((e1 48 (by decide)).trans h.d),show wrap64 ((pre.length:Int)+1)=(pre.length:Int)+1 by unfold wrap64;omega];simp⟩
theorem DaysI.same {g g' g'':Nat→Value} {pre:List (Int×Nat)} (h:DaysI g g' pre) (e:∀i,i<49→g'' i=g' i):DaysI g g'' pre:=⟨fun i hi=>(e i oQ).trans (h.r i hi),
 by rw[e 3 (by decide)];exact h.mo,by rw[e 4 (by decide)];exact h.dm,by rw[e 6 (by decide)];exact h.wk,by rw[e 48 (by decide)];exact h.d⟩
structure FaceOf (P:Int→Nat→Bool) (g:Nat→Value):Prop where
 f:FaceG g
 mi:g 1=.int .u64 (zdq P:Int)
 ho:g 2=.int .u64 (zbn P:Int)
 mo:g 3=.int .u64 (za5 P:Int)
 dm:g 4=.int .u64 (zbL P:Int)
 wk:g 6=.int .u64 (wkF P:Int)
 d:∃z:Nat,g 48=.int .i64 (z:Int)∧(z=0↔¬zhP P)
theorem DaysI.all {L:List Cl} {g g':Nat→Value} {xs:List (Int×Nat)} (hg:FaceG g') (h1:zbU (g 1)=zdq (zao L)) (h2:zbU (g 2)=zbn (zao L)) (h:DaysI g g' xs) (hx:xs.map Prod.fst=zh2 L (mxI (bdF L 0) 0) (mnI (bdT L 146096) 146096)):FaceOf (zao L) g':=by
 have hmem:∀(f:Int→Int),(∀n,0≤n→n<146097→0≤f n)→∀k,(orI (fun x:Int×Nat=>(f x.1).toNat) xs).testBit k=true↔∃n,zcs (zao L) n∧f n=(k:Int):=fun f hf k=>by
  rw[zuZ];constructor
  ·rintro ⟨z,hz,e⟩;have hz:z.1∈xs.map Prod.fst:=List.mem_map_of_mem hz;rw[hx] at hz;have hl:=zjy hz;have:=hf z.1 hl.win.1 hl.win.2;exact⟨z.1,hl,by omega⟩
  ·rintro ⟨n,⟨s,hl⟩,e⟩;have hm:=zjx hl;rw[←hx] at hm;obtain⟨z,hz,rfl⟩:=List.mem_map.1 hm;exact⟨z,hz,by omega⟩
 have e1:=hg.nat (i:=1) dQ;have e2:=hg.nat (i:=2) dQ;have e3:=hg.nat (i:=3) dQ;have e4:=hg.nat (i:=4) dQ;have e6:=hg.nat (i:=6) dQ;refine⟨hg,?_,?_,?_,?_,?_,xs.length,h.d,?_⟩
 ·rw[e1.1,h.r 1 (by decide),h1]
 ·rw[e2.1,h.r 2 (by decide),h2]
 ·rw[e3.1];congr 2;refine zkd e3.2 fun k hk=>?_
  rw[h.mo];exact hmem mD (fun n h0 h1=>by have:=za2 h0 h1;omega) k
 ·rw[e4.1];congr 2;refine zkd e4.2 fun k hk=>?_
  rw[h.dm];exact hmem dD (fun n h0 h1=>by have:=za2 h0 h1;omega) k
 ·rw[e6.1];congr 2;refine zkd e6.2 fun k hk=>?_
  rw[h.wk];exact hmem wdD (fun n h0 h1=>by have:=zcP n;omega) k
 ·have hl:xs.length=(zh2 L (mxI (bdF L 0) 0) (mnI (bdT L 146096) 146096)).length:=by rw[←hx,List.length_map]
  rw[hl,List.length_eq_zero_iff];constructor
  ·intro h ⟨n,s,hn⟩;have:=zjx hn;rw[h] at this;cases this
  ·intro h;rw[List.eq_nil_iff_forall_not_mem];exact fun n hn=>h ⟨n,zjy hn⟩
end Go.Proofs.YtgedndlifiihkaaGreatDoor
