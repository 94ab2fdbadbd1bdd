/- A part of the proof: WTc1 WTc2 WColl WTc3 WFace RCast -/
import Derived.Test.YtadefhkaejjfmaaGreatDoorQ28
import Derived.Test.YtadefhkaejjfmaaGreatDoorQ00
import Derived.Test.YtadefhkaejjfmaaGreatDoorQ30
import Derived.Test.YtadefhkaejjfmaaGreatDoorQ12
import Derived.Test.YtadefhkaejjfmaaGreatDoorQ01
import Derived.Test.YtadefhkaejjfmaaGreatDoorQ04
import Derived.Test.YtadefhkaejjfmaaGreatDoorQ18
import Derived.Test.YtadefhkaejjfmaaGreatDoorQ21
import Derived.Test.YtadefhkaejjfmaaGreatDoorQ22
set_option maxHeartbeats 80000000
set_option maxRecDepth 100000
set_option linter.unusedSimpArgs false
set_option linter.unusedVariables false
namespace Go.Proofs.YtadefhkaejjfmaaGreatDoor
open Go.Proofs.Tryz
open Go.RowKit
theorem zkX (s:Int) (w:World):Calls prog 247 #[.int .i64 s] w (Ret (itV ⟨0,0,0,s⟩) w):=by
 go_enter func247,ntmps247;go_wp2_with fail;refine waY (v:=itV ⟨0,0,0,s⟩) (by rw[zah rfl];go_simp) rfl ?_
 exact⟨rfl,(waC _ w).alloc (waJ _) _⟩
theorem zsZ (m:Nat) (hm:m<18446744073709551616):(if m.testBit 7 then m|||1 else m)&&&(18446744073709551615 - 128)=zcq m:=by
 have hlt:∀k,64≤k→m.testBit k=false:=fun k hk=>waX (waD (show m<2^64 from hm) (Nat.pow_le_pow_right dQ hk))
 refine Nat.eq_of_testBit_eq fun k=>?_
 have e7:(18446744073709551615 - 128:Nat)=2^64 - (2^7+1):=by decide
 by_cases hk:k<64
 ·rw[zcP m k hk,Nat.testBit_and,e7,Nat.testBit_two_pow_sub_succ (by decide),waP hk,Bool.true_and,Nat.testBit_two_pow]
  by_cases h7:m.testBit 7=true
  ·rw[if_pos h7,show m|||1=m|||2^0 from rfl,Nat.testBit_or,Nat.testBit_two_pow,h7]
   by_cases h0:k=0
   ·subst h0;simp
   ·rw[if_neg h0]
    by_cases hk7:k=7
    ·subst hk7;simp
    ·have h1:¬7=k:=fun h=>hk7 h.symm
     have h2:¬0=k:=fun h=>h0 h.symm
     simp[hk7,h1,h0,h2]
  ·rw[if_neg h7];have h7':m.testBit 7=false:=by simpa using h7
   by_cases h0:k=0
   ·subst h0;simp[h7']
   ·rw[if_neg h0]
    by_cases hk7:k=7
    ·subst hk7;simp
    ·have h1:¬7=k:=fun h=>hk7 h.symm
     simp[hk7,h1]
 ·have h1:(zcq m).testBit k=false:=waX (waD (show zcq m<2^64 from zgb m) (Nat.pow_le_pow_right dQ oQ))
  rw[h1,Nat.testBit_and,e7,Nat.testBit_two_pow_sub_succ (by decide),waO hk,Bool.false_and,Bool.and_false]
theorem zhE (m:Nat) (hm:m<18446744073709551616) (w:World):Calls prog 249 #[.int .u64 m] w (zb4 (.int .u64 (zcq m:Nat)) w):=by
 have HH:=waV (fun V=>zbI (m:Int) 7 oQ oQ V)
 rw[show (7:Int)=((7:Nat):Int) from rfl,zbi m 7 (by decide)] at HH
 have HB:=waV (zsZ m hm);have HR:Hid (bits .andNot .u64 (if m.testBit 7 then bits .or .u64 (m:Int) 1 else(m:Int)) 128=((zcq m:Nat):Int)):=by
  show _=_;rw[←HB.out]
  by_cases h:m.testBit 7=true
  ·rw[if_pos h,if_pos h];have h1:bits .or .u64 (m:Int) ((1:Nat):Int)=((m|||1:Nat):Int):=u64_or_nat m 1 hm dQ
   rw[show (1:Int)=((1:Nat):Int) from rfl,h1,show(128:Int)=((128:Nat):Int) from rfl]
   exact u64_andNot_nat (m|||1) 128 (Nat.or_lt_two_pow (n:=64) hm dQ) dQ
  ·rw[if_neg h,if_neg h,show(128:Int)=((128:Nat):Int) from rfl]
   exact u64_andNot_nat m 128 hm dQ
 cases h7:m.testBit 7 with
 |true=>
  rw[h7] at HR HH;rw[if_pos rfl] at HR;rw[←HR.out];go_enter func249,ntmps249;go_wp2_with fail;refine(HH.out _).mono ?_;rintro e w1 ⟨rfl,rfl⟩;go_wp2_with fail;go_ret;exact⟨rfl,rfl⟩
 |false=>
  rw[h7] at HR HH;rw[if_neg (by decide)] at HR
  rw[←HR.out];go_enter func249,ntmps249;go_wp2_with fail;refine(HH.out _).mono ?_;rintro e w1 ⟨rfl,rfl⟩;go_wp2_with fail;go_ret;exact⟨rfl,rfl⟩
theorem zqP (n:Int) (w:World):Calls prog 246 #[.int .i64 n] w (zfi [⟨1,n,0,0⟩] w):=by
 go_enter func246,ntmps246;go_wp2_with fail;go_ret;exact⟨_,rfl,zdH w _ _ 4 1 dQ rfl,(waC _ w).alloc (waJ _) _⟩
end Go.Proofs.YtadefhkaejjfmaaGreatDoor
namespace Go.Proofs.YtadefhkaejjfmaaGreatDoor
open Go.Proofs.Tryz
open Go.RowKit
attribute [local go_sem] Oper.semAt_some
theorem zom {F:Fence} {n:Nat} {P:Program} {α:Type} {c:Code} {Q:Exit→Act→World→Prop} {a:Act} {w:World} (ds:α→List (Nat×Value)) (R:α→World→Prop) (h2:c.wpIn F n P (zvW ds R a) a w) (h1:∀x w',R x w'→Q .normal (zdQ (ds x) a) w'):c.wpIn F n P Q a w:=
 Go.wpIn_mono h2 (by rintro e a' w' ⟨rfl,x,rfl,hr⟩;exact h1 x w' hr)
def zl4 (l:List Nat):Int:=l.foldl (fun(a:Int) (m:Nat)=>max a (zbq 2000 (m:Int))) 0
theorem zon (l:List Nat) (x:Nat):zl4 (l++[x])=max (zl4 l) (zbq 2000 (x:Int)):=by
 unfold zl4;rw[List.foldl_append];rfl
theorem zl5 (m:Nat) (hm:m<18446744073709551616) (w:World) (hw:Tz w):Calls prog 250 #[.int .u64 m] w (Ret (.int .i64 (zcQ m)) w):=by
 have HA:=waV (fun V B (hc:V.cell? ⟨B,0,none⟩=some (.int .u64 (m:Nat)))=>wbP (n:=4).2 (zeF m hm B 0 1 V hc))
 have HL:=waV (fun l' x V=>zaj (m:=2) (l':=l') (zdo 2000 x dQ dQ V))
 have HW:=waV hw;have eg:∀args w,(callFunc 213 args).run prog w=.ok (.enter 213 args) w:=enters_of func213 kQ rfl;have htz:0<w.heap.size:=waR w _ (hw 0 dQ);clear hw;refine(wbP (n:=5)).1 ?_;refine callsIn_of_wp_marks func250 rfl trivial ?_ rfl;simp only[ntmps250,wbQ,waG,List.length_nil,Nat.reduceAdd,Nat.reduceSub,wbR,wbS,List.push_toArray,List.append_toArray,wbN,wbT]
 gi_wp2_with fail
 refine⟨trivial,?_⟩;have hb0:Below w.heap.size w ((w.alloc (.cells #[.int .i64 0] 3)).alloc (.cells #[.int .u64 (m:Nat)] 39)):=((waC _ w).alloc (waJ _) _).alloc (by simp) _
 have hz0:((w.alloc (.cells #[.int .i64 0] 3)).alloc (.cells #[.int .u64 (m:Nat)] 39)).heap.size=w.heap.size+2:=by simp
 have x0:Boxed ((w.alloc (.cells #[.int .i64 0] 3)).alloc (.cells #[.int .u64 (m:Nat)] 39)) w.heap.size 3 (.int .i64 0):=(Boxed.new _ _ _).alloc _;have a0:((w.alloc (.cells #[.int .i64 0] 3)).alloc (.cells #[.int .u64 (m:Nat)] 39)).cell? ⟨w.heap.size+1,0,none⟩=some (.int .u64 (m:Nat)):=by
  have h:w.heap.size+1=(w.alloc (.cells #[.int .i64 0] 3)).heap.size:=by simp
  rw[h];exact zaa rfl rfl
 generalize ((w.alloc (.cells #[.int .i64 0] 3)).alloc (.cells #[.int .u64 (m:Nat)] 39))=W0 at *;refine(HA.out _ _ a0).mono ?_;rintro e w1 ⟨bA,rfl,cA,hlA,hq1⟩;have x1:=zaB hq1 x0;have hb1:Below w.heap.size w w1:=hb0.trans (hq1.mono oQ);have hT1:=HW.out.below hb1;have hz1:=hq1.size;clear x0 a0 hb0
 gi_wp2_with fail
 refine wpIn_rangeFunc_ownH rfl oQ (gf:=213) (lb:=#[.pointer (some ⟨bA,0,none⟩)]) rfl trivial eg
  (zcy (fun k:Nat=>k) (zat m) (KpM (·=w.heap.size)) 4 bA m dQ (List.map_id _) hm (fun _ _ hk hc=>hk.cell hc (fun g=>by have:bA=w.heap.size:=g;omega)) (fun _ _ hk ht=>ht.kpM hk (fun g=>by have:0=w.heap.size:=g;omega)) w1 cA hT1)
  (fun h k=>h.trans k) (fun V l o o' _ hl ho _=>KpM.putObj o' hl ho) (waC _ _) (fun _=>rfl)
  (fun pre V=>Boxed V w.heap.size 3 (.int .i64 (zl4 pre))∧Below w.heap.size w V)
  (fun c pre V=>False)
  (OwnFrom.and (Own.from (boxed_own _ _ (fun pre:List Nat=>Value.int .i64 (zl4 pre))) _) (ownFrom_below (waJ _) oQ))
  (fun c _ _ _ _ hs _ _=>hs)
  ⟨x1,hb1⟩
  (fun x a' V=>a'={tmps:=#[.int .u64 (m:Nat),undef,.int .i64 0,.pointer (some ⟨w.heap.size,0,none⟩),.int .i64 (x:Int),.int .u64 (m:Nat),.slice (some ⟨w.heap.size+1,0,none⟩) 1 1,.func (.func 213) #[] #[.pointer (some ⟨bA,0,none⟩)],.int .i64 (x:Int),undef,undef,undef,undef,undef],defers:=[]})
  (fun _ _ _ _ _ _ hs _ _=>hs)
  ?assign ?body ?done ?stop
 case assign=>
  rintro l1 pre x V K hi hK
  gi_wp2_with fail
  exact hK _ _ (KeepsFrom.refl _ _) (KpM.refl _ _) hi rfl
 case body=>
  rintro l1 pre x a' V hl1 _ ⟨hx,hb⟩ rfl hlt;have hLx:=waV (fun V=>HL.out l1 (x:Int) V)
  have HS:=waV (zon pre x);have c0:=hx.cell;have f0:=hx.frozen;have lV:=hx.lt;generalize zl4 pre=F at *;generalize zbq 2000 (x:Int)=G at *
  gi_wp2_with fail
  refine zom (α:=Unit) (fun _=>[(9,.int .i64 F),(10,.int .i64 (x:Int)),(11,.int .i64 G),(12,.int .i64 (max F G))]) (fun _ w'=>Boxed w' w.heap.size 3 (.int .i64 (max F G))∧RlS (·=w.heap.size) V w') ?ways ?on
  case ways=>
   rcases Int.lt_or_le F G with hFG|hFG
   ·have hM:max F G=G:=by omega
    have hM1:¬G<F:=by omega
    have hM2:¬G≤F:=by omega
    rw[hM]
    gi_region_with (refine⟨trivial,?_⟩;gi_at_call 121;refine(hLx.out _).mono ?_;rintro e w4 ⟨rfl,hq4⟩;have x4:=zaB hq4 hx;have c4:=x4.cell;have f4:=x4.frozen;have l4:=x4.lt)
    all_goals first|exact⟨rfl,(),rfl,Boxed.set _ x4,((RlS.refl (·=w.heap.size) V).below hq4 (waJ _)).set ⟨w.heap.size,0,none⟩ _ rfl⟩|exact⟨rfl,(),rfl,Boxed.set _ x4,((RlS.refl (·=w.heap.size) V).below (((waC V.heap.size V).drew).trans hq4) (waJ _)).set ⟨w.heap.size,0,none⟩ _ rfl⟩
   ·have hM:max F G=F:=by omega
    have hM1:¬F<G:=by omega
    rw[hM]
    gi_region_with (refine⟨trivial,?_⟩;gi_at_call 121;refine(hLx.out _).mono ?_;rintro e w4 ⟨rfl,hq4⟩;have x4:=zaB hq4 hx;have c4:=x4.cell;have f4:=x4.frozen;have l4:=x4.lt)
    all_goals first|exact⟨rfl,(),rfl,Boxed.set _ x4,((RlS.refl (·=w.heap.size) V).below hq4 (waJ _)).set ⟨w.heap.size,0,none⟩ _ rfl⟩|exact⟨rfl,(),rfl,Boxed.set _ x4,((RlS.refl (·=w.heap.size) V).below (((waC V.heap.size V).drew).trans hq4) (waJ _)).set ⟨w.heap.size,0,none⟩ _ rfl⟩
  case on=>
   rintro _ w5 ⟨hx5,hr5⟩;simp only[zdQ,List.foldl,Act.put,wbU,wbW,wbV];have hk5:KpM (·=w.heap.size) V w5:=⟨hr5.size,fun k o hk _ hn=>(hr5.block k (waL.1 hk).1 hn).trans hk⟩
   have hf5:KeepsFrom w1.heap.size V w5:=⟨hr5.size,fun i o h1 h2 _=>(hr5.block i (waL.1 h2).1 (fun g=>by have:i=w.heap.size:=g;omega)).trans h2⟩
   have hb5:Below w.heap.size w w5:=hb.trans ⟨hr5.os,hr5.tape,hr5.output,hr5.size,fun k hk=>hr5.block k (by have:=hb.size;omega) (fun g=>by have:k=w.heap.size:=g;omega)⟩
   clear hr5
   gi_wp2_with fail
   exact⟨hf5,hk5,by rw[HS.out];exact hx5,hb5⟩
 case done=>
  rintro D xs V hD rfl ⟨hx,hb⟩ hKd;have c0:=hx.cell;have HL2:Hid (zl4 (zat m)=zcQ m):=rfl
  gi_wp2_with fail
  refine⟨by simp,.inl ⟨_,_,rfl,run_takeDeferred hKd,?_⟩⟩
  exact⟨_,results_tmp rfl _ _ _,by rw[←HL2.out];rfl,hb.trans (belowK_b (w:=w) (waJ _) V D _ _ (by have:=hb1.size;omega) hKd rfl rfl)⟩
 case stop=>
  rintro D c pre V _ _ h _;exact h.elim
end Go.Proofs.YtadefhkaejjfmaaGreatDoor
namespace Go.Proofs.YtadefhkaejjfmaaGreatDoor
open Go.Proofs.Tryz
open Go.RowKit Go.Shelf
attribute [local go_sem] Oper.semAt_some
abbrev zv4 (l:List Nat):List Value:=l.map fun(k:Nat)=>Value.int .i64 (k:Int)
def zl6 (l:List Nat) (w:World) (e:Ending) (w':World):Prop:=∃v,e=.returned v∧w'.ownsRow w.heap.size 3 1 v l.length (zv4 l)∧Below w.heap.size w w'
theorem KpT.of_below {p q B:Nat} {W W':World} (h:Below B W W') (hq:q≤B) (hg:0<B):KpT p q W W':=
 ⟨⟨h.size,fun k _ h2=>h.block k oQ⟩,fun t j hj=>by
   have:=t j hj;exact(wbK (h.block _ hg)).trans this⟩
theorem zjw (gf:Nat) (lb:Array Value) (L:List Nat) (p q N:Nat) (w:World) (hN:N≤1000000) (hq:q≤w.heap.size) (hg:0<w.heap.size)
 (eg:∀args w,(callFunc gf args).run prog w=.ok (.enter gf args) w) (hseq:∀W,Below w.heap.size w W→SeqStopsK Fence.wide 2 prog gf lb (fun k:Nat=> #[.int .i64 (k:Int)]) (KpT p q) (fun xs=>xs=L) (fun pre=>pre<+:L) N W):
 Calls prog 212 #[.slice none 0 0,.func (.func gf) #[] lb] w (zl6 L w):=by
 obtain⟨i0,hi,hz0,hz1,hz2⟩:=info_parts zmk;refine(wbP (n:=3)).1 ?_;refine callsIn_of_wp_marks func212 rfl trivial ?_ rfl;simp only[ntmps212,wbQ,waG,List.length_nil,Nat.reduceAdd,Nat.reduceSub,wbR,wbS,List.push_toArray,List.append_toArray,wbN,wbT]
 gi_wp2
 have bO:=Boxed.new w 49 (.slice none 0 0);have hB0:Below w.heap.size w (w.alloc (.cells #[.slice none 0 0] 49)):=(waC _ w).alloc (waJ _) _;refine wpIn_rangeFunc_ownF rfl dQ (gf:=gf) (lb:=lb) rfl trivial eg (hseq _ hB0) (fun h k=>h.trans k) (fun W l o o' hl ho hc _=>KpT.putObj o' (by simp at hl;omega) ho hc) (waC _ _) (fun _=>rfl)
  (fun pre W=>(∃v,Boxed W w.heap.size 49 v∧W.ownsRow w.heap.size 3 1 v pre.length (zv4 pre)∧True)∧Below w.heap.size w W)
  (fun _ _ _=>False)
  (OwnFrom.and (Own.from (holdsRow_own w.heap.size w.heap.size 49 3 1 (fun pre:List Nat=>pre.length) (fun pre=>zv4 pre) (fun pre v=>True)) _) (ownFrom_below (waJ _) (by simp)))
  (fun _ _ _ _ _ hs _ _=>hs)
  ⟨⟨_,bO,World.ownsRow_nil _ _ _ _,trivial⟩,hB0⟩
  (fun x=>{tmps:=#[.slice none 0 0,.func (.func gf) #[] lb,.pointer (some ⟨w.heap.size,0,none⟩),undef,.slice none 0 0,.int .i64 (x:Int),.func (.func gf) #[] lb,.int .i64 (x:Int),undef,undef,undef,undef,undef],defers:=[]}) ?assign ?body ?done ?stop
 case assign=>
  intro l x W K hK
  gi_wp2
  exact hK
 case body=>
  rintro l pre x W ⟨⟨v,hv,hrow,_⟩,hB⟩ hlt;have hc:=hv.cell
  gi_wp2_with (gi_at_builtin;refine wpListIn_append_own _ rfl _ _ 49 rfl w.heap.size 3 i0 (.int .i64 0) 1 8 underlying49 hi hz0 hz1 hz2 rfl dQ _ _ _ rfl (hrow.alloc _) ⟨W.heap.size,0,none⟩ 1 1 [.int .i64 (x:Int)] rfl rfl (cell_one_new _ _ _) (by simp[Value.oneCell']) (by unfold maxLen;omega) oQ (by have:=hB.size;simp;omega) ?_;intro v' w1 hown' hgrow _;obtain⟨g',cap',rfl⟩:=ownsRow_succ hown';obtain⟨hv1,hv2,hr2,hk2,hb2⟩:=hv.appended dQ hrow hB.size (waJ _) hown' hgrow;have hc1:=hv1.cell;have hf1:=hv1.frozen)
  exact⟨hk2,KpT.of_below hb2 hq hg,⟨_,hv2,by simpa[zv4] using hr2,trivial⟩,hB.trans hb2⟩
 case done=>
  rintro D ys W hD rfl ⟨⟨v,hv,hrow,_⟩,hB⟩ hK;have hc:=hv.cell
  gi_wp2
  refine⟨by simp,.inl ⟨_,_,rfl,run_takeDeferred hK,?_⟩⟩
  exact⟨_,results_tmp rfl _ _ _,v,rfl,ownsRow_putObj hrow _ hK rfl,hB.trans (belowK_b (w:=w) (waJ _) W D _ _ (by simp at hD;omega) hK rfl rfl)⟩
 case stop=>
  rintro D c pre W _ _ h _;exact h.elim
theorem zl7 (gf:Nat) (lb:Array Value) (L:List Nat) (p q N:Nat) (w:World) (hN:N≤1000000) (hq:q≤w.heap.size) (hg:0<w.heap.size)
 (eg:∀args w,(callFunc gf args).run prog w=.ok (.enter gf args) w) (hseq:∀W,Below w.heap.size w W→SeqStopsK Fence.wide 2 prog gf lb (fun k:Nat=> #[.int .i64 (k:Int)]) (KpT p q) (fun xs=>xs=L) (fun pre=>pre<+:L) N W):
 Calls prog 117 #[.func (.func gf) #[] lb] w (zl6 L w):=by
 have H:=waV (zjw gf lb L p q N w hN hq hg eg hseq);clear hseq eg;go_enter func117,ntmps117;go_wp2_with fail;refine H.out.mono ?_;rintro e w1 ⟨v,rfl,hv,hb⟩;have HV:=waV hv;clear hv;go_wp2;go_ret;exact⟨_,rfl,HV.out,hb⟩
theorem zqQ {w:World} {A B n k:Nat} {v:Value} {t:TypeId} {xs:List Value} (h:w.ownsRow B t k v n xs) (hA:A≤B):w.ownsRow A t k v n xs:=by
 refine⟨h.1,?_⟩;rcases h.2 with h|⟨g,cap,cur,h1,h2,h3⟩
 ·exact .inl h
 ·exact .inr ⟨g,cap,cur,h1,waW hA h2,h3⟩
theorem Tz.lt {w:World} (h:Tz w):0<w.heap.size:=waR w _ (h 0 dQ)
theorem zqR (m:Nat) (hm:m<18446744073709551616) (w:World) (hw:Tz w):Calls prog 318 #[.int .u64 m] w (zl6 (zat m) w):=by
 have HA:=waV (fun B W h=>zeF m hm B 0 1 W h)
 have HW:=waV hw;have eg:∀args w,(callFunc 213 args).run prog w=.ok (.enter 213 args) w:=enters_of func213 kQ rfl;have HC:=waV (fun b W (hT:Tz W) (hc:W.cell? ⟨b,0,none⟩=some (.int .u64 m))=>
  zl7 213 #[.pointer (some ⟨b,0,none⟩)] (zat m) b (b+1) 65 W dQ (waR W _ hc) hT.lt eg
   (fun V hV=>znV 2 b m b (b+1) dQ hm (waJ _) (Nat.lt_succ_self _) V ((hV.cell (p:=⟨b,0,none⟩) (waR W _ hc)).trans hc) (hT.below hV)))
 clear hw eg;go_enter func318,ntmps318;go_wp2_with fail;have hc:=@zaa w #[.int .u64 m] 39 w.heap.size 0 (.int .u64 m) rfl rfl;have hb0:Below w.heap.size w (w.alloc (.cells #[.int .u64 m] 39)):=(waC _ _).alloc (waJ _) _;refine(HA.out w.heap.size _ hc).mono ?_;rintro e w1 ⟨b,rfl,hcb,hlb,hb1⟩;have hb2:Below w.heap.size w w1:=hb0.trans (hb1.mono (by simp))
 have HC2:=waV (HC.out b w1 (HW.out.below hb2) hcb);clear hc hcb hb1 hb0;go_wp2_with fail;refine HC2.out.mono ?_;rintro e w2 ⟨v,rfl,hv,hb3⟩;have HV:=waV hv;clear hv;go_wp2;go_ret;refine⟨_,rfl,?_,zai hb2 hb3 hb2.size⟩;exact zqQ HV.out hb2.size
end Go.Proofs.YtadefhkaejjfmaaGreatDoor
namespace Go.Proofs.YtadefhkaejjfmaaGreatDoor
open Go.Proofs.Tryz
open Go.RowKit
attribute [local go_sem] Oper.semAt_some
theorem zqS (l:List Nat):(l.map fun(k:Nat)=>(k:Int)).flatMap zd4=zv4 l:=by
 induction l with
 |nil=>rfl
 |cons a l ih=>
  rw[List.map_cons,List.flatMap_cons,ih];rfl
def zuS (m:Nat) (w:World) (e:Ending) (w':World):Prop:=∃A n c,e=.returned (.slice A n c)∧zba w' A n (zay m)∧n≤c∧c≤maxLen∧Below w.heap.size w w'∧n=(zay m).length
theorem zgc (m:Nat) (hm:m<18446744073709551616) (w:World) (hw:Tz w):Calls prog 318 #[.int .u64 m] w (zuS m w):=by
 refine(zqR m hm w hw).mono ?_;rintro e w' ⟨v,rfl,hv,hb⟩;have hv':w'.ownsRow w.heap.size 3 1 v (zat m).length ((zay m).flatMap zd4):=by
  unfold zay;rw[zqS];exact hv
 obtain⟨A,c,rfl,h1,h2,h3,_⟩:=Rd.of_own zh8 hv' (by unfold zay;rw[List.length_map])
 exact⟨A,_,c,rfl,h3,h1,h2,hb,by unfold zay;rw[List.length_map]⟩
structure SomeS (w:World) (a z:Int) (w':World):Prop where
 b:Below w.heap.size w w'
 c0:w'.cell? ⟨w.heap.size,0,none⟩=some (.int .i64 a)
 c1:w'.cell? ⟨w.heap.size,1,none⟩=some (.int .i64 z)
 l:w.heap.size<w'.heap.size
theorem SomeS.below {w w' w'':World} {a z:Int} (h:SomeS w a z w') (hb:Below w'.heap.size w' w''):SomeS w a z w'':=
 ⟨h.b.trans (hb.mono h.b.size),((zae hb).1 _ _ h.l).trans h.c0,((zae hb).1 _ _ h.l).trans h.c1,waD h.l hb.size⟩
theorem zkY (m:Nat) (hm:m<18446744073709551616) (hl:(zay m).length≤1000000) (w:World) (hw:Tz w):Calls prog 251 #[.int .i64 2,.int .u64 m] w (zfi (zab 1 31 (zay m) false) w):=by
 have HL:=waV (fun V (hV:Below w.heap.size w V)=>zgc m hm V (hw.below hV))
 have HO:=waV (fun A n c V (h:zba V A n (zay m)) hn hnc hc=>zfV 1 31 A n c (zay m) false V h hn hnc hc)
 have HN:=waV hl;have hx:∀V,(Instr.index 352 (.agg #[.int .i64 0,.int .i64 59,.int .i64 0,.int .i64 23,.int .i64 1,.int .i64 31,.int .i64 1,.int .i64 12,.int .i64 0,.int .i64 6]) (.int .i64 2)).run prog V=.ok (.agg #[.int .i64 1,.int .i64 31]) V:=fun V=>by kernel_rfl
 clear hw hl;go_enter func251,ntmps251;go_wp2_with fail;have hb0:Below w.heap.size w (w.alloc (.cells #[.int .i64 1,.int .i64 31] 283)):=(waC _ w).alloc (waJ _) _;have hz0:(w.alloc (.cells #[.int .i64 1,.int .i64 31] 283)).heap.size=w.heap.size+1:=by simp
 have c0:=@zaa w #[.int .i64 1,.int .i64 31] 283 w.heap.size 0 (.int .i64 1) rfl rfl;have c1:=@zaa w #[.int .i64 1,.int .i64 31] 283 w.heap.size 1 (.int .i64 31) rfl rfl;generalize (w.alloc (.cells #[.int .i64 1,.int .i64 31] 283))=W0 at *;have l0:w.heap.size<W0.heap.size:=by omega
 refine zgM (α:=Value×Value) (fun y=>[(14,.pointer (some ⟨w.heap.size,0,none⟩)),(15,.int .i64 1),(16,.pointer (some ⟨w.heap.size,1,none⟩)),(17,.int .i64 31),(18,.int .u64 (m:Nat)),(19,y.1),(20,y.2),(4,y.2)]) (fun y w'=>zav w' w.heap.size y.2 (zab 1 31 (zay m) false)∧Below w.heap.size w w') ?ways ?on
 case ways=>
  have hHeld:Hid (SomeS w 1 31 W0.drew):=⟨hb0.drew,c0,c1,by simpa using l0⟩
  clear c0 c1 hb0 hz0 l0;refine zan 6 (fun w'=>Hid (SomeS w 1 31 w')) kQ ?_
  refine(kP 0 14 (h:=(kR 1 15 (fun w_ hSw_=>hSw_.out.c0) (h:=(kP 2 16 (h:=(kR 3 17 (fun w_ hSw_=>hSw_.out.c1) (h:=(kP 4 18 (h:=?_))))))))))
  simp only[Act.put,za1,za2,za3];refine zac (i:=5) kQ fun o_ ho_ K_ hK_=>?_
  obtain rfl:=waB ho_;have HK_:=waV hK_;clear hK_ ho_;go_wp2_with fail;refine(HL.out _ hHeld.out.b).mono ?_;rintro e w4 ⟨A,n,c,rfl,hr,hnc,hcm,hq4,hn⟩;have hH4:Hid (SomeS w 1 31 w4):=hHeld.out.below hq4;have hn6:n≤1000000:=by have:=HN.out;omega
  have HOr:=waV (HO.out A n c w4 hr hn6 hnc hcm);clear hr hn hnc hcm hn6 hq4 HO HL;go_wp2_with fail;refine HK_.out _ _ hH4 ?_;clear HK_;have hb4:=hH4.out.b;have hz4:=hb4.size;clear hHeld hH4;refine zag (j:=2) dQ (.inr rfl) dQ kQ ?_;simp only[wbQ,waG,List.length_nil,Nat.reduceAdd,Nat.reduceSub,waZ,wbA];go_wp2_with fail;refine HOr.out.mono ?_;rintro e w5 ⟨v,rfl,ho,hq5⟩;have HOw:Hid (zav w5 w.heap.size v (zab 1 31 (zay m) false)):=zaq ho hz4;clear ho;go_wp2_with fail;refine⟨rfl,(.slice A n c,v),?_,HOw.out,hb4.trans (hq5.mono hz4)⟩;simp only[zdQ,List.foldl,Act.put,wbU,wbV,wbW]
 case on=>
  rintro ⟨y1,y2⟩ w6 ⟨ho,hb6⟩;simp only[zdQ,List.foldl,Act.put,wbU,wbW,wbV];have HOw:=waV ho;clear ho;go_wp2_with fail;go_ret;exact⟨_,rfl,HOw.out,hb6⟩
theorem zkZ (m:Nat) (hm:m<18446744073709551616) (hl:(zay m).length≤1000000) (w:World) (hw:Tz w):Calls prog 251 #[.int .i64 4,.int .u64 m] w (zfi (zab 0 6 (zay m) false) w):=by
 have HL:=waV (fun V (hV:Below w.heap.size w V)=>zgc m hm V (hw.below hV))
 have HO:=waV (fun A n c V (h:zba V A n (zay m)) hn hnc hc=>zfV 0 6 A n c (zay m) false V h hn hnc hc)
 have HN:=waV hl;have hx:∀V,(Instr.index 352 (.agg #[.int .i64 0,.int .i64 59,.int .i64 0,.int .i64 23,.int .i64 1,.int .i64 31,.int .i64 1,.int .i64 12,.int .i64 0,.int .i64 6]) (.int .i64 4)).run prog V=.ok (.agg #[.int .i64 0,.int .i64 6]) V:=fun V=>by kernel_rfl
 clear hw hl;go_enter func251,ntmps251;go_wp2_with fail;have hb0:Below w.heap.size w (w.alloc (.cells #[.int .i64 0,.int .i64 6] 283)):=(waC _ w).alloc (waJ _) _;have hz0:(w.alloc (.cells #[.int .i64 0,.int .i64 6] 283)).heap.size=w.heap.size+1:=by simp
 have c0:=@zaa w #[.int .i64 0,.int .i64 6] 283 w.heap.size 0 (.int .i64 0) rfl rfl;have c1:=@zaa w #[.int .i64 0,.int .i64 6] 283 w.heap.size 1 (.int .i64 6) rfl rfl;generalize (w.alloc (.cells #[.int .i64 0,.int .i64 6] 283))=W0 at *;have l0:w.heap.size<W0.heap.size:=by omega
 refine zgM (α:=Value×Value) (fun y=>[(14,.pointer (some ⟨w.heap.size,0,none⟩)),(15,.int .i64 0),(16,.pointer (some ⟨w.heap.size,1,none⟩)),(17,.int .i64 6),(18,.int .u64 (m:Nat)),(19,y.1),(20,y.2),(4,y.2)]) (fun y w'=>zav w' w.heap.size y.2 (zab 0 6 (zay m) false)∧Below w.heap.size w w') ?ways ?on
 case ways=>
  have hHeld:Hid (SomeS w 0 6 W0.drew):=⟨hb0.drew,c0,c1,by simpa using l0⟩
  clear c0 c1 hb0 hz0 l0;refine zan 6 (fun w'=>Hid (SomeS w 0 6 w')) kQ ?_
  refine(kP 0 14 (h:=(kR 1 15 (fun w_ hSw_=>hSw_.out.c0) (h:=(kP 2 16 (h:=(kR 3 17 (fun w_ hSw_=>hSw_.out.c1) (h:=(kP 4 18 (h:=?_))))))))))
  simp only[Act.put,za1,za2,za3];refine zac (i:=5) kQ fun o_ ho_ K_ hK_=>?_
  obtain rfl:=waB ho_;have HK_:=waV hK_;clear hK_ ho_;go_wp2_with fail;refine(HL.out _ hHeld.out.b).mono ?_;rintro e w4 ⟨A,n,c,rfl,hr,hnc,hcm,hq4,hn⟩;have hH4:Hid (SomeS w 0 6 w4):=hHeld.out.below hq4;have hn6:n≤1000000:=by have:=HN.out;omega
  have HOr:=waV (HO.out A n c w4 hr hn6 hnc hcm);clear hr hn hnc hcm hn6 hq4 HO HL;go_wp2_with fail;refine HK_.out _ _ hH4 ?_;clear HK_;have hb4:=hH4.out.b;have hz4:=hb4.size;clear hHeld hH4;refine zag (j:=2) dQ (.inr rfl) dQ kQ ?_;simp only[wbQ,waG,List.length_nil,Nat.reduceAdd,Nat.reduceSub,waZ,wbA];go_wp2_with fail;refine HOr.out.mono ?_;rintro e w5 ⟨v,rfl,ho,hq5⟩;have HOw:Hid (zav w5 w.heap.size v (zab 0 6 (zay m) false)):=zaq ho hz4;clear ho;go_wp2_with fail;refine⟨rfl,(.slice A n c,v),?_,HOw.out,hb4.trans (hq5.mono hz4)⟩;simp only[zdQ,List.foldl,Act.put,wbU,wbV,wbW]
 case on=>
  rintro ⟨y1,y2⟩ w6 ⟨ho,hb6⟩;simp only[zdQ,List.foldl,Act.put,wbU,wbW,wbV];have HOw:=waV ho;clear ho;go_wp2_with fail;go_ret;exact⟨_,rfl,HOw.out,hb6⟩
end Go.Proofs.YtadefhkaejjfmaaGreatDoor
namespace Go.Proofs.YtadefhkaejjfmaaGreatDoor
open Go.Proofs.Tryz
open Go.RowKit
def zbD:Value→Nat
 | .int _ k=>k.toNat
 |_=>0
structure FaceG (g:Nat→Value):Prop where
 m:∀i,i<46→∃k:Nat,k<18446744073709551616∧g i=.int .u64 (k:Int)
 a:∃z,g 46=.int .i64 z
 z:∃z,g 47=.int .i64 z
 d:∃z,g 48=.int .i64 z
 e:∃b,g 49=.bool b
 s:∃b,g 50=.bool b
theorem FaceG.nat {g:Nat→Value} (h:FaceG g) {i:Nat} (hi:i<46):g i=.int .u64 (zbD (g i):Int)∧zbD (g i)<18446744073709551616:=by
 obtain⟨k,h1,h2⟩:=h.m i hi;rw[h2];exact⟨rfl,h1⟩
structure FaceAt (W:World) (fb:Nat) (g:Nat→Value):Prop where
 obj:∃cs,W.heap[fb]?=some (.cells cs 43 (0,0))∧cs.size=51∧∀i,i<51→cs[i]?=some (g i)
 g:FaceG g
theorem FaceAt.lt {W:World} {fb:Nat} {g:Nat→Value} (h:FaceAt W fb g):fb<W.heap.size:=by
 obtain⟨cs,hc,_⟩:=h.obj;exact(waL.1 hc).1
theorem FaceAt.cell {W:World} {fb:Nat} {g:Nat→Value} (h:FaceAt W fb g) {i:Nat} (hi:i<51):W.cell? ⟨fb,i,none⟩=some (g i):=by
 obtain⟨cs,hc,_,hg⟩:=h.obj;simp[World.cell?,hc,hg i hi]
theorem FaceAt.frozen {W:World} {fb:Nat} {g:Nat→Value} (h:FaceAt W fb g) (i:Nat):W.frozen? ⟨fb,i,none⟩=false:=by
 obtain⟨cs,hc,_⟩:=h.obj;simp[World.frozen?,hc]
theorem FaceAt.arr {W:World} {fb:Nat} {g:Nat→Value} (h:FaceAt W fb g):Arr W fb 51 g:=⟨fun j hj=>h.cell hj,fun j=>h.frozen j⟩
theorem FaceAt.same {W V:World} {fb:Nat} {g:Nat→Value} (h:FaceAt W fb g) (e:V.heap[fb]?=W.heap[fb]?):FaceAt V fb g:=⟨by
 obtain⟨cs,hc,h1,h2⟩:=h.obj;exact⟨cs,e.trans hc,h1,h2⟩,h.g⟩
theorem FaceAt.rls {S:Nat→Prop} {W V:World} {fb:Nat} {g:Nat→Value} (h:FaceAt W fb g) (hr:RlS S W V) (hS:¬S fb):FaceAt V fb g:=h.same (hr.block _ h.lt hS)
theorem FaceAt.below {W V:World} {fb:Nat} {g:Nat→Value} (h:FaceAt W fb g) (hb:Below W.heap.size W V):FaceAt V fb g:=h.same (hb.block _ h.lt)
theorem FaceAt.set {W:World} {fb:Nat} {g:Nat→Value} (h:FaceAt W fb g) {i:Nat} (hi:i<51) {v:Value} (hg:FaceG (updG g i v)):FaceAt (W.setCell ⟨fb,i,none⟩ v) fb (updG g i v):=⟨by
 obtain⟨cs,hc,h1,h2⟩:=h.obj;obtain⟨hlt,hk⟩:=waL.1 hc;refine⟨cs.setIfInBounds i v,?_,by simpa using h1,fun j hj=>?_⟩
 ·show(W.heap.modify fb _)[fb]?=_;rw[wbI (by rw[Array.size_modify];exact hlt),Array.getElem_modify_self,hk]
  rfl
 ·unfold updG
  by_cases e:j=i
  ·subst e;rw[if_pos rfl,Array.getElem?_setIfInBounds_self_of_lt (by omega)]
  ·rw[if_neg e,Array.getElem?_setIfInBounds_ne (fun g=>e g.symm)];exact h2 j hj,hg⟩
def orI {α:Type} (f:α→Nat) (l:List α):Nat:=l.foldl (fun a s=>a|||2^f s) 0
theorem zfL {α:Type} (f:α→Nat) (l:List α) (x:α):orI f (l++[x])=orI f l|||2^f x:=by simp[orI]
theorem zqT {α:Type} (f:α→Nat) (l:List α) (k:Nat):(orI f l).testBit k=true↔∃s∈l,f s=k:=by
 have:∀(l:List α) (a:Nat),(l.foldl (fun a s=>a|||2^f s) a).testBit k=true↔a.testBit k=true∨∃s∈l,f s=k:=by
  intro l;induction l with
  |nil=>intro a;simp
  |cons b l ih=>
   intro a;rw[List.foldl_cons,ih,Nat.testBit_or,wbF,Nat.testBit_two_pow];simp only[List.mem_cons,waM];constructor
   ·rintro ((h|h)|⟨s,hs,h⟩)
    ·exact .inl h
    ·exact .inr ⟨b,.inl rfl,h⟩
    ·exact .inr ⟨s,.inr hs,h⟩
   ·rintro (h|⟨s,(rfl|hs),h⟩)
    ·exact .inl (.inl h)
    ·exact .inl (.inr h)
    ·exact .inr ⟨s,hs,h⟩
 have h:=this l 0;rw[Nat.zero_testBit] at h;unfold orI;rw[h];simp
def tOf (i s:Nat):Nat:=if i=0 then s%60 else if i=1 then s / 60%60 else s / 3600
theorem zfM {i s:Nat} (hs:s<86400):tOf i s<64:=by unfold tOf;(repeat' split)<;>omega
structure AloneR (c:Cl) (g g':Nat→Value):Prop where
 rest:∀i,3≤i→g' i=g i
 t:∀i,i<3→∀k,(zbD (g' i)).testBit k=true↔(zbD (g i)).testBit k=true∨∃n s,zcY (zak [c]) n s∧tOf i s=k
structure AloneI (c:Cl) (g g':Nat→Value) (pre:List (Int×Nat)):Prop where
 rest:∀i,3≤i→g' i=g i
 t:∀i,i<3→∀k,(zbD (g' i)).testBit k=true↔(zbD (g i)).testBit k=true∨∃x∈pre,∃s,s<86400∧zak [c] x.1 s=true∧tOf i s=k
theorem AloneI.nil (c:Cl) (g:Nat→Value):AloneI c g g []:=⟨fun _ _=>rfl,fun i hi k=>by simp⟩
theorem AloneI.known {c:Cl} {g g':Nat→Value} {pre:List (Int×Nat)} (h:AloneI c g g' pre) {x y:Int×Nat} (hy:y∈pre) (hs:zf3 (zak [c] y.1) (zak [c] x.1)):AloneI c g g' (pre++[x]):=⟨h.rest,fun i hi k=>by
 rw[h.t i hi k];constructor
 ·rintro (h1|⟨z,hz,s,h2,h3,h4⟩)
  ·exact .inl h1
  ·exact .inr ⟨z,by simp[hz],s,h2,h3,h4⟩
 ·rintro (h1|⟨z,hz,s,h2,h3,h4⟩)
  ·exact .inl h1
  ·rcases wbB.1 hz with hz|hz
   ·exact .inr ⟨z,hz,s,h2,h3,h4⟩
   ·rw[wbC.1 hz] at h3;exact .inr ⟨y,hy,s,h2,(hs s h2).trans h3,h4⟩⟩
theorem AloneI.new {c:Cl} {g g' g'':Nat→Value} {pre:List (Int×Nat)} (h:AloneI c g g' pre) {x:Int×Nat} (hr:∀i,3≤i→g'' i=g' i) (ht:∀i,i<3→zbD (g'' i)=zbD (g' i)|||orN (tOf i) (zb0 (zak [c] x.1))):AloneI c g g'' (pre++[x]):=⟨fun i hi=>(hr i hi).trans (h.rest i hi),fun i hi k=>by
 rw[ht i hi,Nat.testBit_or,wbF,h.t i hi k,zqh];constructor
 ·rintro ((h1|⟨z,hz,s,h2,h3,h4⟩)|⟨s,hs,h4⟩)
  ·exact .inl h1
  ·exact .inr ⟨z,by simp[hz],s,h2,h3,h4⟩
  ·obtain⟨h2,h3⟩:=zb1.1 hs;exact .inr ⟨x,by simp,s,h2,h3,h4⟩
 ·rintro (h1|⟨z,hz,s,h2,h3,h4⟩)
  ·exact .inl (.inl h1)
  ·rcases wbB.1 hz with hz|hz
   ·exact .inl (.inr ⟨z,hz,s,h2,h3,h4⟩)
   ·rw[wbC.1 hz] at h3;exact .inr ⟨s,zb1.2 ⟨h2,h3⟩,h4⟩⟩
theorem zgQ {L:List Cl} {n:Int} {s:Nat} (h:zcY (zak L) n s):n∈zh2 L (mxI (bdF L 0) 0) (mnI (bdT L 146096) 146096):=by
 obtain⟨h0,h1,hs,hp⟩:=h;obtain⟨h2,h3⟩:=zuz (L:=L) (f:=0) (t:=146096) (n:=n) h0 oQ ⟨s,hs,hp⟩;unfold zh2 zhs;rw[List.mem_filter,zaX,ze3,ze4,zgL];exact⟨⟨by omega,by omega⟩,s,hs,hp⟩
theorem zgR {L:List Cl} {n:Int} (h:n∈zh2 L (mxI (bdF L 0) 0) (mnI (bdT L 146096) 146096)):zbG (zak L) n:=by
 unfold zh2 zhs at h;rw[List.mem_filter,zaX,ze3,ze4,zgL] at h;obtain⟨⟨h0,h1⟩,s,hs,hp⟩:=h;exact⟨s,by omega,by omega,hs,hp⟩
theorem AloneI.all {c:Cl} {g g':Nat→Value} {xs:List (Int×Nat)} (h:AloneI c g g' xs) (hx:xs.map Prod.fst=zh2 [c] (mxI (bdF [c] 0) 0) (mnI (bdT [c] 146096) 146096)):AloneR c g g':=⟨h.rest,fun i hi k=>by
 rw[h.t i hi k];constructor
 ·rintro (h1|⟨z,hz,s,h2,h3,h4⟩)
  ·exact .inl h1
  ·have hz:z.1∈xs.map Prod.fst:=List.mem_map_of_mem hz;rw[hx] at hz;obtain⟨a,b⟩:=(zgR hz).win;exact .inr ⟨z.1,s,⟨a,b,h2,h3⟩,h4⟩
 ·rintro (h1|⟨n,s,hl,h4⟩)
  ·exact .inl h1
  ·have hm:=zgQ hl;rw[←hx] at hm;obtain⟨z,hz,rfl⟩:=List.mem_map.1 hm;exact .inr ⟨z,hz,s,hl.2.2.1,hl.2.2.2,h4⟩⟩
theorem zuT {c:Cl} {n:Int} {s:Nat} (h:zak [c] n s=true):zr1 c (n * 86400+(s:Int))=true:=by
 unfold zak zr2 at h;rw[waN] at h;simpa using h.2
theorem zjx {m:Int} {k:Nat} (h0:0≤m) (h:zcT m (k:Int)=true):m.toNat.testBit k=true:=by
 have e:=waA h;rw[show m=(m.toNat:Int) by omega,zbi _ _ (by omega)] at h
 exact h
theorem zoo {c:Cl} {n:Int} {s:Nat} (hm:∀k,k<7→M64 (c.m k)) (h:zcY (zak [c]) n s):∀i,i<3→(c.m i).toNat.testBit (tOf i s)=true:=fun i hi=>by
 obtain⟨h0,h1,hs,hp⟩:=h;have hh:=zuT hp;unfold zr1 at hh;simp only[waN] at hh;obtain⟨_,_,_,ht,_⟩:=hh;have e:(n * 86400+(s:Int))%86400=(s:Int):=by omega
 rw[e] at ht;unfold zcK at ht;simp only[waN] at ht;obtain⟨a,b,d⟩:=ht;obtain rfl|rfl|rfl:i=0∨i=1∨i=2:=by omega
 ·exact zjx (hm 0 (by decide)).1 (by rw[show ((tOf 0 s:Nat):Int)=(s:Int)%60 by simp[tOf]];exact d)
 ·exact zjx (hm 1 (by decide)).1 (by rw[show ((tOf 1 s:Nat):Int)=(s:Int) / 60%60 by simp[tOf]];exact b)
 ·exact zjx (hm 2 (by decide)).1 (by rw[show ((tOf 2 s:Nat):Int)=(s:Int) / 3600 by simp[tOf]];exact a)
theorem AloneI.stop {c:Cl} {g g':Nat→Value} {pre:List (Int×Nat)} (h:AloneI c g g' pre) (hm:∀k,k<7→M64 (c.m k)) (hw:∀x∈pre,0≤x.1∧x.1<146097) (hs:∀i,i<3→∀k,(c.m i).toNat.testBit k=true→(zbD (g' i)).testBit k=true):AloneR c g g':=⟨h.rest,fun i hi k=>by
 constructor
 ·intro h1;rcases(h.t i hi k).1 h1 with h1|⟨z,hz,s,h2,h3,h4⟩
  ·exact .inl h1
  ·exact .inr ⟨z.1,s,⟨(hw z hz).1,(hw z hz).2,h2,h3⟩,h4⟩
 ·rintro (h1|⟨n,s,hl,h4⟩)
  ·exact(h.t i hi k).2 (.inl h1)
  ·rw[←h4];exact hs i hi _ (zoo hm hl i hi)⟩
structure AllR (L:List Cl) (g g':Nat→Value):Prop where
 rest:∀i,3≤i→g' i=g i
 t:∀i,i<3→∀k,(zbD (g' i)).testBit k=true↔(zbD (g i)).testBit k=true∨∃c∈L,∃n s,zcY (zak [c]) n s∧tOf i s=k
theorem AllR.nil (g:Nat→Value):AllR [] g g:=⟨fun _ _=>rfl,fun i hi k=>by simp⟩
theorem AllR.snoc {L:List Cl} {c:Cl} {g g' g'':Nat→Value} (h:AllR L g g') (k:AloneR c g' g''):AllR (L++[c]) g g'':=⟨fun i hi=>(k.rest i hi).trans (h.rest i hi),fun i hi j=>by
 rw[k.t i hi j,h.t i hi j];constructor
 ·rintro ((h1|⟨z,hz,h1⟩)|h1)
  ·exact .inl h1
  ·exact .inr ⟨z,by simp[hz],h1⟩
  ·exact .inr ⟨c,by simp,h1⟩
 ·rintro (h1|⟨z,hz,h1⟩)
  ·exact .inl (.inl h1)
  ·rcases wbB.1 hz with hz|hz
   ·exact .inl (.inr ⟨z,hz,h1⟩)
   ·rw[wbC.1 hz] at h1;exact .inr h1⟩
theorem zjy {L:List Cl} (h:ze2 L=true) {c:Cl} (hc:c∈L):ze2 [c]=true:=by
 unfold ze2 at h ⊢;rw[waN,List.all_eq_true] at h;have:=h.2 c hc;simp[this]
theorem znb {L:List Cl} (h:ze2 L=true) (n:Int) (s:Nat):zcY (zak L) n s↔∃c∈L,zcY (zak [c]) n s:=by
 unfold zcY zak zr2;rw[h,Bool.true_and,List.any_eq_true];constructor
 ·rintro ⟨a,b,d,c,hc,e⟩;exact⟨c,hc,a,b,d,by rw[zjy h hc];simpa using e⟩
 ·rintro ⟨c,hc,a,b,d,e⟩;rw[zjy h hc] at e;exact⟨a,b,d,c,hc,by simpa using e⟩
theorem AllR.live {L:List Cl} (hs:ze2 L=true) {g g':Nat→Value} (h:AllR L g g') {i:Nat} (hi:i<3) (h0:zbD (g i)=0) (k:Nat):(zbD (g' i)).testBit k=true↔∃n s,zcY (zak L) n s∧tOf i s=k:=by
 rw[h.t i hi k,h0,Nat.zero_testBit];constructor
 ·rintro (h1|⟨c,hc,n,s,hl,e⟩)
  ·cases h1
  ·exact⟨n,s,(znb hs n s).2 ⟨c,hc,hl⟩,e⟩
 ·rintro ⟨n,s,hl,e⟩;obtain⟨c,hc,hl⟩:=(znb hs n s).1 hl;exact .inr ⟨c,hc,n,s,hl,e⟩
theorem AllR.masks {L:List Cl} (hs:ze2 L=true) {g g':Nat→Value} (h:AllR L g g') (hg:FaceG g') (h0:∀i,i<3→zbD (g i)=0):zbD (g' 1)=zcN (zak L)∧zbD (g' 2)=zbb (zak L)∧zbD (g' 0)=secF (zak L):=by
 refine⟨zgs (hg.nat dQ).2 fun k hk=>?_,zgs (hg.nat dQ).2 fun k hk=>?_,zgs (hg.nat dQ).2 fun k hk=>?_⟩
 ·rw[h.live hs (by decide) (h0 1 (by decide))];rfl
 ·rw[h.live hs (by decide) (h0 2 (by decide))];rfl
 ·rw[h.live hs (by decide) (h0 0 (by decide))];rfl
structure DateR (n:Int) (g g':Nat→Value):Prop where
 r:∀i,i<3→g' i=g i
 mo:zbD (g' 3)=zbD (g 3)|||2^(mD n).toNat
 dm:zbD (g' 4)=zbD (g 4)|||2^(dD n).toNat
 wk:zbD (g' 6)=zbD (g 6)|||2^(wdD n).toNat
 d:∀z,g 48=.int .i64 z→g' 48=.int .i64 (wrap64 (z+1))
 en:zbD (g' 5)=zbD (g 5)|||2^(bkD n).toNat
 ye:∀i,7≤i→i<14→zbD (g' i)=zbD (g i)|||(if i=yI n then 2^yK n else 0)
structure DaysI (g g':Nat→Value) (pre:List (Int×Nat)):Prop where
 r:∀i,i<3→g' i=g i
 mo:zbD (g' 3)=orI (fun x=>(mD x.1).toNat) pre
 dm:zbD (g' 4)=orI (fun x=>(dD x.1).toNat) pre
 wk:zbD (g' 6)=orI (fun x=>(wdD x.1).toNat) pre
 d:g' 48=.int .i64 (pre.length:Int)
 en:zbD (g' 5)=orI (fun x=>(bkD x.1).toNat) pre
 ye:∀i,7≤i→i<14→zbD (g' i)=orI (fun x=>yK x.1) (pre.filter fun x=>yI x.1==i)
theorem DaysI.snoc {g g' g'' g3:Nat→Value} {pre:List (Int×Nat)} {x:Int×Nat} (h:DaysI g g' pre) (e1:∀i,i<46∨i=48→g'' i=g' i) (k:DateR x.1 g'' g3) (hl:pre.length<1000000):DaysI g g3 (pre++[x]):=⟨fun i hi=>(k.r i hi).trans ((e1 i oQ).trans (h.r i hi)),
 by rw[k.mo,e1 3 (by decide),h.mo,zfL],by rw[k.dm,e1 4 (by decide),h.dm,zfL],by rw[k.wk,e1 6 (by decide),h.wk,zfL],
 by rw[k.d _ ((e1 48 (by decide)).trans h.d),show wrap64 ((pre.length:Int)+1)=(pre.length:Int)+1 by unfold wrap64;omega];simp,by rw[k.en,e1 5 (by decide),h.en,zfL],fun i hi1 hi2=>by
  rw[k.ye i hi1 hi2,e1 i (by omega),h.ye i hi1 hi2,List.filter_append]
  by_cases e:i=yI x.1
  ·rw[if_pos e,List.filter_cons_of_pos (by simp[e]),List.filter_nil,zfL]
  ·rw[if_neg e,List.filter_cons_of_neg (by simp;exact fun g=>e g.symm),List.filter_nil,List.append_nil,Nat.or_zero]⟩
theorem DaysI.same {g g' g'':Nat→Value} {pre:List (Int×Nat)} (h:DaysI g g' pre) (e:∀i,i<49→g'' i=g' i):DaysI g g'' pre:=⟨fun i hi=>(e i oQ).trans (h.r i hi),
 by rw[e 3 (by decide)];exact h.mo,by rw[e 4 (by decide)];exact h.dm,by rw[e 6 (by decide)];exact h.wk,by rw[e 48 (by decide)];exact h.d,by rw[e 5 (by decide)];exact h.en,fun i hi1 hi2=>by rw[e i (by omega)];exact h.ye i hi1 hi2⟩
structure FaceOf (P:Int→Nat→Bool) (g:Nat→Value):Prop where
 f:FaceG g
 mi:g 1=.int .u64 (zcN P:Int)
 ho:g 2=.int .u64 (zbb P:Int)
 mo:g 3=.int .u64 (zaV P:Int)
 dm:g 4=.int .u64 (zbw P:Int)
 wk:g 6=.int .u64 (wkF P:Int)
 d:∃z:Nat,g 48=.int .i64 (z:Int)∧(z=0↔¬zfa P)
 se:g 0=.int .u64 (secF P:Int)
 en:g 5=.int .u64 (endF P:Int)
 ye:∀i,i<7→g (7+i)=.int .u64 (yrF P i:Int)
theorem DaysI.all {L:List Cl} {g g':Nat→Value} {xs:List (Int×Nat)} (hg:FaceG g') (h1:zbD (g 1)=zcN (zak L)) (h2:zbD (g 2)=zbb (zak L)) (h0:zbD (g 0)=secF (zak L)) (h:DaysI g g' xs) (hx:xs.map Prod.fst=zh2 L (mxI (bdF L 0) 0) (mnI (bdT L 146096) 146096)):FaceOf (zak L) g':=by
 have hmem:∀(f:Int→Int),(∀n,0≤n→n<146097→0≤f n)→∀k,(orI (fun x:Int×Nat=>(f x.1).toNat) xs).testBit k=true↔∃n,zbG (zak L) n∧f n=(k:Int):=fun f hf k=>by
  rw[zqT];constructor
  ·rintro ⟨z,hz,e⟩;have hz:z.1∈xs.map Prod.fst:=List.mem_map_of_mem hz;rw[hx] at hz;have hl:=zgR hz;have:=hf z.1 hl.win.1 hl.win.2;exact⟨z.1,hl,by omega⟩
  ·rintro ⟨n,⟨s,hl⟩,e⟩;have hm:=zgQ hl;rw[←hx] at hm;obtain⟨z,hz,rfl⟩:=List.mem_map.1 hm;exact⟨z,hz,by omega⟩
 have e1:=hg.nat (i:=1) dQ;have e2:=hg.nat (i:=2) dQ;have e3:=hg.nat (i:=3) dQ;have e4:=hg.nat (i:=4) dQ;have e6:=hg.nat (i:=6) dQ;have e0:=hg.nat (i:=0) dQ;have e5:=hg.nat (i:=5) dQ;refine⟨hg,?_,?_,?_,?_,?_,⟨xs.length,h.d,?_⟩,by rw[e0.1,h.r 0 (by decide),h0],?_,?_⟩
 ·rw[e1.1,h.r 1 (by decide),h1]
 ·rw[e2.1,h.r 2 (by decide),h2]
 ·rw[e3.1];congr 2;refine zgs e3.2 fun k hk=>?_
  rw[h.mo];exact hmem mD (fun n h0 h1=>by have:=za6 h0 h1;omega) k
 ·rw[e4.1];congr 2;refine zgs e4.2 fun k hk=>?_
  rw[h.dm];exact hmem dD (fun n h0 h1=>by have:=za6 h0 h1;omega) k
 ·rw[e6.1];congr 2;refine zgs e6.2 fun k hk=>?_
  rw[h.wk];exact hmem wdD (fun n h0 h1=>by have:=zct n;omega) k
 ·have hl:xs.length=(zh2 L (mxI (bdF L 0) 0) (mnI (bdT L 146096) 146096)).length:=by rw[←hx,List.length_map]
  rw[hl,List.length_eq_zero_iff];constructor
  ·intro h ⟨n,s,hn⟩;have:=zgQ hn;rw[h] at this;cases this
  ·intro h;rw[List.eq_nil_iff_forall_not_mem];exact fun n hn=>h ⟨n,zgR hn⟩
 ·rw[e5.1];congr 2;refine zgs e5.2 fun k hk=>?_
  rw[h.en];exact hmem bkD (fun n h0 h1=>by have:=za6 h0 h1;unfold bkD;omega) k
 ·intro i hi;have ei:=hg.nat (i:=7+i) oQ;rw[ei.1];congr 2;refine zgs ei.2 fun k hk=>?_
  rw[h.ye (7+i) (by omega) (by omega),zqT]
  constructor
  ·rintro ⟨z,hz,e⟩;obtain⟨hz,hi2⟩:=List.mem_filter.1 hz;have hz:z.1∈xs.map Prod.fst:=List.mem_map_of_mem hz;rw[hx] at hz;have hl:=zgR hz;have hd:=ze0 hl.win.1 hl.win.2;have e2:yI z.1=7+i:=by simpa using hi2
   unfold yI at e2;unfold yK at e;exact⟨z.1,hl,by omega⟩
  ·rintro ⟨n,⟨s,hl⟩,e⟩;have hd:=ze0 hl.1 hl.2.1;have hm:=zgQ hl;rw[←hx] at hm;obtain⟨z,hz,rfl⟩:=List.mem_map.1 hm;refine⟨z,List.mem_filter.2 ⟨hz,?_⟩,?_⟩
   ·simp;unfold yI;omega
   ·unfold yK;omega
end Go.Proofs.YtadefhkaejjfmaaGreatDoor
