/- A part of the proof: WTc8 RBoth RToc2 -/
import Derived.Test.YtadefhkaejjfmaaGreatDoorQ37
import Derived.Test.YtadefhkaejjfmaaGreatDoorQ38
import Derived.Test.YtadefhkaejjfmaaGreatDoorQ30
import Derived.Test.YtadefhkaejjfmaaGreatDoorQ21
set_option maxHeartbeats 80000000
set_option maxRecDepth 100000
set_option linter.unusedSimpArgs false
set_option linter.unusedVariables false
namespace Go.Proofs.YtadefhkaejjfmaaGreatDoor
open Go.Proofs.Tryz
open Go.RowKit
open Go.Maps
theorem zeO (m:Nat):(zay m).length≤1000000:=by have:=zjt m;omega
theorem zq3 (P:Int→Nat→Bool):domW P<18446744073709551616:=zbU _
theorem ztP (P:Int→Nat→Bool):wkW P<18446744073709551616:=zbU _
def zv6 (P:Int→Nat→Bool) (w:World) (e:Ending) (w':World):Prop:=Below w.heap.size w w'∧((¬(zfa P∧domW P≠0∧wkW P≠0)∧e=.returned (.tuple #[.agg zbd,.bool false]))∨((zfa P∧domW P≠0∧wkW P≠0)∧∃v,e=.returned (.tuple #[v,.bool true])∧zaQ w' w.heap.size v (zbN P)))
structure EiS (W V:World) (g:Nat→Value) (fb:Nat):Prop where
 f:FaceAt V fb g
 r:V.heap[W.heap.size]?=some (.cells zbd 60 (0,0))
 be:Below W.heap.size W V
 n:W.heap.size<fb
theorem EiS.below {W V X:World} {g:Nat→Value} {fb:Nat} (h:EiS W V g fb) (hb:Below V.heap.size V X):EiS W X g fb:=
 ⟨h.f.below hb,(hb.block _ (waL.1 h.r).1).trans h.r,h.be.trans (hb.mono h.be.size),h.n⟩
theorem EiS.line {W V:World} {g:Nat→Value} {fb:Nat} (h:EiS W V g fb):(∀i,i<5→V.cell? ⟨W.heap.size,i,none⟩=some (.slice none 0 0))∧(∀i,V.frozen? ⟨W.heap.size,i,none⟩=false)∧W.heap.size<V.heap.size:=by
 refine⟨fun i hi=>?_,fun i=>by simp[World.frozen?,h.r],(waL.1 h.r).1⟩
 obtain rfl|rfl|rfl|rfl|rfl:i=0∨i=1∨i=2∨i=3∨i=4:=by omega
 all_goals simp[World.cell?,h.r,zbd]
theorem zfc {V:World} {b i:Nat} {t:TypeId} {z:Nat×Nat} {cur:Array Value} {v:Value} (h:V.heap[b]?=some (.cells cur t z)):(V.setCell ⟨b,i,none⟩ v).heap[b]?=some (.cells (cur.setIfInBounds i v) t z):=by
 obtain⟨hlt,hk⟩:=waL.1 h;show(V.heap.modify b _)[b]?=_;rw[wbI (by rw[Array.size_modify];exact hlt),Array.getElem_modify_self,hk]
 rfl
theorem zgS {V:World} {b:Nat} {t:TypeId} {z:Nat×Nat} (a0 a1 a2 a3 a4 v0 v1 v2 v3 v4:Value) (h:V.heap[b]?=some (.cells #[a0,a1,a2,a3,a4] t z)):(((((V.setCell ⟨b,0,none⟩ v0).setCell ⟨b,1,none⟩ v1).setCell ⟨b,2,none⟩ v2).setCell ⟨b,3,none⟩ v3).setCell ⟨b,4,none⟩ v4).heap[b]?=some (.cells #[v0,v1,v2,v3,v4] t z):=
 zfc (zfc (zfc (zfc (zfc h))))
theorem zmb (A:Option Addr) (n cc:Nat) (L:List Cl) (W:World) (hA:zbB W A n L) (hn:n≤8) (hnil:A=none→n=0) (hbit:∀c,c∈L→zcx c∧c.s≤9223372036854775807) (hset:ze2 L=true) (hw:Tz W):
 Calls prog 155 #[.slice A n cc] W (zv6 (zak L) W):=by
 have HOf:=waV (fun V (hV:Below W.heap.size W V)=>ziD A n cc L V (hA.below hV (waJ _)) oQ hnil hbit (hw.below hV))
 have HWh:=waV (fun V (hV:Below W.heap.size W V)=>zq2 A n cc L V (hA.below hV (waJ _)) hn hnil hbit hset (hw.below hV))
 have HTm:=waV (fun g mi ho mo e1 e2 e3 b1 b2 b3 V (hV:Below W.heap.size W V)=>zk4 g mi ho mo e1 e2 e3 b1 b2 b3 V (hw.below hV))
 have H2:=waV (fun V (hV:Below W.heap.size W V)=>zkY (domW (zak L)) (zq3 _) (zeO _) V (hw.below hV))
 have H4:=waV (fun V (hV:Below W.heap.size W V)=>zkZ (zcq (wkW (zak L))) (zgb _) (zeO _) V (hw.below hV))
 have HSu:=waV (fun V=>zhE (wkW (zak L)) (ztP _) V)
 have HE:zcj n L=0:=by unfold zcj;rw[if_neg (by omega),if_pos hset]
 have hPE:zbN (zak L)=zde (zcN (zak L)) (zbb (zak L)) (zaV (zak L)) (zab 1 31 (zay (domW (zak L))) false) (zab 0 6 (zay (zcq (wkW (zak L)))) false):=rfl;have hdl:=zq3 (zak L);have hwl:=ztP (zak L);have hmi:zcN (zak L)<18446744073709551616:=zbU _;have hho:zbb (zak L)<18446744073709551616:=zbU _;have hmo:zaV (zak L)<18446744073709551616:=zbU _;clear hA hn hnil hbit hset hw;go_enter func155,ntmps155;go_wp2_with fail;have hb0:Below W.heap.size W (W.alloc (.cells #[.slice none 0 0,.slice none 0 0,.slice none 0 0,.slice none 0 0,.slice none 0 0] 60)):=(waC _ W).alloc (waJ _) _;have hc0:(W.alloc (.cells #[.slice none 0 0,.slice none 0 0,.slice none 0 0,.slice none 0 0,.slice none 0 0] 60)).heap[W.heap.size]?=some (.cells zbd 60 (0,0)):=World.alloc_heap_new W _;generalize (W.alloc (.cells #[.slice none 0 0,.slice none 0 0,.slice none 0 0,.slice none 0 0,.slice none 0 0] 60))=V0 at *;refine(HOf.out V0 hb0).mono ?_;rintro e w1 ⟨hb1,(⟨hE,_⟩|⟨_,g,rfl,hg⟩)⟩
 ·exact absurd HE hE
 obtain⟨z,hz,hza⟩:=hg.d;have hlt0:=(waL.1 hc0).1;have hz0:=hb0.size;have hz1:=hb1.size;have hb01:Below W.heap.size W w1:=hb0.trans (hb1.mono hz0);have hc1:=(hb1.block _ hlt0).trans hc0;have HFn:Hid (FaceAt (w1.alloc (.cells (za5 (gZ false)) 43)) w1.heap.size (gZ false)):=FaceAt.new _ _ (zew false);have hbA:Below W.heap.size W (w1.alloc (.cells (za5 (gZ false)) 43)):=hb01.alloc hb01.size _;have HMk:Hid (∀w2,FaceAt w2 w1.heap.size g→RlS (·=w1.heap.size) (w1.alloc (.cells (za5 (gZ false)) 43)) w2→EiS W w2 g w1.heap.size):=fun w2 hf2 hr2=>⟨hf2,(hr2.block _ (by simp;omega) (show ¬W.heap.size=w1.heap.size by omega)).trans ((Below.heap_alloc _ _ _ oQ).trans hc1),hr2.to_below' hbA hb01.size,by omega⟩
 have HG:=waV hg;have HZa:=waV hza;have h48:=fun(w2:World) (h:EiS W w2 g w1.heap.size)=>h.f.cell (show 48<51 by decide)
 rw[hz] at h48;have H48:=waV h48;clear hbA hc1 hb01 hb1 hb0 hc0 HOf hg HE h48 hlt0 hz0 hz1 hz hza
 by_cases e0:z=0
 ·have hna:¬zfa (zak L):=HZa.out.1 e0;subst e0
  go_wp2_with (first|(refine zbc rfl _ _ rfl g HFn.out HG.out.f rfl rfl ?_;intro w2 hf2 hr2;have HS:=waV (HMk.out w2 hf2 hr2);have f48:=H48.out w2 HS.out;obtain⟨hy,hf,hl⟩:=HS.out.line;have y0:=hy 0 (by decide);have y1:=hy 1 (by decide);have y2:=hy 2 (by decide);have y3:=hy 3 (by decide);have y4:=hy 4 (by decide);clear hy)|fail)
  have hr:=zcG (V:=w2) W.heap.size (.slice none 0 0) (.slice none 0 0) (.slice none 0 0) (.slice none 0 0) (.slice none 0 0);refine waY (v:=.tuple #[.agg zbd,.bool false]) (by rw[zaz rfl];unfold zbd;go_simp) rfl ?_
  exact⟨hr.to_below' HS.out.be,.inl ⟨fun h=>hna h.1,rfl⟩⟩
 ·have ez:((z:Int)==0)=false:=by rw[wbE];omega
  have han:Hid (zfa (zak L)):=Classical.not_not.1 fun h=>e0 (HZa.out.2 h)
  clear e0
  go_wp2_with (first|(refine zbc rfl _ _ rfl g HFn.out HG.out.f rfl rfl ?_;intro w2 hf2 hr2;have HS:=waV (HMk.out w2 hf2 hr2);have f48:=H48.out w2 HS.out;have f3:=HS.out.f.cell (show 3<51 by decide);rw[HG.out.mo] at f3)|fail)
  refine(HWh.out _ HS.out.be).mono ?_;rintro e w3 ⟨rfl,hb3⟩;replace HS:=waV (HS.out.below hb3);clear HWh hb3 f48 f3 H48 HMk HFn ez hf2 hr2
  by_cases ed:domW (zak L)=0
  ·rw[ed];obtain⟨hy,hf,hl⟩:=HS.out.line;have y0:=hy 0 dQ;have y1:=hy 1 dQ;have y2:=hy 2 dQ;have y3:=hy 3 dQ;have y4:=hy 4 dQ;clear hy;go_wp2_with fail;have hr:=zcG (V:=w3) W.heap.size (.slice none 0 0) (.slice none 0 0) (.slice none 0 0) (.slice none 0 0) (.slice none 0 0);refine waY (v:=.tuple #[.agg zbd,.bool false]) (by rw[zaz rfl];unfold zbd;go_simp) rfl ?_
   exact⟨hr.to_below' HS.out.be,.inl ⟨fun h=>h.2.1 ed,rfl⟩⟩
  ·have qd:((domW (zak L):Int)==0)=false:=by rw[wbE];omega
   by_cases ew:wkW (zak L)=0
   ·rw[ew];obtain⟨hy,hf,hl⟩:=HS.out.line;have y0:=hy 0 dQ;have y1:=hy 1 dQ;have y2:=hy 2 dQ;have y3:=hy 3 dQ;have y4:=hy 4 dQ;clear hy;go_wp2_with fail;have hr:=zcG (V:=w3) W.heap.size (.slice none 0 0) (.slice none 0 0) (.slice none 0 0) (.slice none 0 0) (.slice none 0 0);refine waY (v:=.tuple #[.agg zbd,.bool false]) (by rw[zaz rfl];unfold zbd;go_simp) rfl ?_
    exact⟨hr.to_below' HS.out.be,.inl ⟨fun h=>h.2.2 ew,rfl⟩⟩
   ·have qw:((wkW (zak L):Int)==0)=false:=by rw[wbE];omega
    have HF3:=waV (zdD g);have HLd:=waV (zcw HS.out.f.lies)
    go_wp2_with (first|(refine zad (by rfl) 43 _ rfl (za5 g) _ 0 rfl underlying43 rfl HF3.out HLd.out ?_)|fail)
    have hz3:=HS.out.be.size;refine(HTm.out g _ _ _ HG.out.mi HG.out.ho HG.out.mo hmi hho hmo _ HS.out.be).mono ?_;rintro e w4 ⟨v0,v1,v3,rfl,o0,o1,o3,hb4⟩;replace HS:=waV (HS.out.below hb4);obtain⟨S0,d0,rfl⟩:=zaC o0;obtain⟨S1,d1,rfl⟩:=zaC o1;obtain⟨S3,d3,rfl⟩:=zaC o3;have O0:=waV (zaq o0 hz3);have O1:=waV (zaq o1 hz3);have O3:=waV (zaq o3 hz3);clear o0 o1 o3 hb4 HLd HF3 HTm qd qw hz3;go_wp2_with fail;have hbA:Below w4.heap.size w4 (w4.alloc (.cells #[.slice S0 (zab 0 59 (zay (zcN (zak L))) true).length d0,.slice S1 (zab 0 23 (zay (zbb (zak L))) true).length d1,.slice none 0 0,.slice S3 (zab 1 12 (zay (zaV (zak L))) true).length d3,.slice none 0 0] 60)):=(waC _ _).alloc (waJ _) _;have hC:(w4.alloc (.cells #[.slice S0 (zab 0 59 (zay (zcN (zak L))) true).length d0,.slice S1 (zab 0 23 (zay (zbb (zak L))) true).length d1,.slice none 0 0,.slice S3 (zab 1 12 (zay (zaV (zak L))) true).length d3,.slice none 0 0] 60)).heap[w4.heap.size]?=some (.cells #[.slice S0 (zab 0 59 (zay (zcN (zak L))) true).length d0,.slice S1 (zab 0 23 (zay (zbb (zak L))) true).length d1,.slice none 0 0,.slice S3 (zab 1 12 (zay (zaV (zak L))) true).length d3,.slice none 0 0] 60 (0,0)):=World.alloc_heap_new _ _;have hW4:W.heap.size<w4.heap.size:=(waL.1 HS.out.r).1;generalize (w4.alloc (.cells #[.slice S0 (zab 0 59 (zay (zcN (zak L))) true).length d0,.slice S1 (zab 0 23 (zay (zbb (zak L))) true).length d1,.slice none 0 0,.slice S3 (zab 1 12 (zay (zaV (zak L))) true).length d3,.slice none 0 0] 60))=X4 at *;replace HS:=waV (HS.out.below hbA);replace O0:=waV (zaf O0.out hbA);replace O1:=waV (zaf O1.out hbA);replace O3:=waV (zaf O3.out hbA);clear hbA;generalize w4.heap.size=cb at *;have hz4:=HS.out.be.size;refine(H2.out _ HS.out.be).mono ?_;rintro e X5 ⟨v2,rfl,o2,hq⟩;replace HS:=waV (HS.out.below hq);replace O0:=waV (zaf O0.out hq);replace O1:=waV (zaf O1.out hq);replace O3:=waV (zaf O3.out hq);replace hC:=(hq.block _ (waL.1 hC).1).trans hC;obtain⟨S2,d2,rfl⟩:=zaC o2;have O2:=waV (zaq o2 hz4);clear hq o2 H2 hz4;go_wp2_with fail;refine(HSu.out _).mono ?_;rintro e X6 ⟨rfl,rfl⟩;go_wp2_with fail;have hz5:=HS.out.be.size;refine(H4.out _ HS.out.be).mono ?_;rintro e X6 ⟨v4,rfl,o4,hq⟩;replace HS:=waV (HS.out.below hq);replace O0:=waV (zaf O0.out hq);replace O1:=waV (zaf O1.out hq);replace O2:=waV (zaf O2.out hq);replace O3:=waV (zaf O3.out hq);replace hC:=(hq.block _ (waL.1 hC).1).trans hC;obtain⟨S4,d4,rfl⟩:=zaC o4;have O4:=waV (zaq o4 hz5);clear hq o4 H4 hz5;have hcl:=(waL.1 hC).1;have hcf:∀i,X6.frozen? ⟨cb,i,none⟩=false:=fun i=>by simp[World.frozen?,hC]
    have z0:X6.cell? ⟨cb,0,none⟩=some (.slice S0 (zab 0 59 (zay (zcN (zak L))) true).length d0):=by rw[World.cell?_of_heap hC];rfl
    have z1:X6.cell? ⟨cb,1,none⟩=some (.slice S1 (zab 0 23 (zay (zbb (zak L))) true).length d1):=by rw[World.cell?_of_heap hC];rfl
    have z2:X6.cell? ⟨cb,2,none⟩=some (.slice none 0 0):=by rw[World.cell?_of_heap hC];rfl
    have z3:X6.cell? ⟨cb,3,none⟩=some (.slice S3 (zab 1 12 (zay (zaV (zak L))) true).length d3):=by rw[World.cell?_of_heap hC];rfl
    have z4:X6.cell? ⟨cb,4,none⟩=some (.slice none 0 0):=by rw[World.cell?_of_heap hC];rfl
    have hne:¬cb=W.heap.size:=by omega
    have hne':¬W.heap.size=cb:=by omega
    have HC:=waV hC;obtain⟨hy,hf,hl⟩:=HS.out.line;have y0:=hy 0 dQ;have y1:=hy 1 dQ;have y2:=hy 2 dQ;have y3:=hy 3 dQ;have y4:=hy 4 dQ;clear hy hC;go_wp2_with fail;refine waY (v:=.tuple #[.agg #[(.slice S0 (zab 0 59 (zay (zcN (zak L))) true).length d0),(.slice S1 (zab 0 23 (zay (zbb (zak L))) true).length d1),(.slice S2 (zab 1 31 (zay (domW (zak L))) false).length d2),(.slice S3 (zab 1 12 (zay (zaV (zak L))) true).length d3),(.slice S4 (zab 0 6 (zay (zcq (wkW (zak L)))) false).length d4)],.bool true]) (by rw[zaz rfl];go_simp) rfl ?_
    have h1:RlS (·=cb) X6 ((X6.setCell ⟨cb,2,none⟩ (.slice S2 (zab 1 31 (zay (domW (zak L))) false).length d2)).setCell ⟨cb,4,none⟩ (.slice S4 (zab 0 6 (zay (zcq (wkW (zak L)))) false).length d4)):=((RlS.refl (·=cb) X6).set ⟨cb,2,none⟩ _ rfl).set ⟨cb,4,none⟩ _ rfl;have hb1:=h1.to_below' HS.out.be oQ;have hr7:=(h1.block _ (waL.1 HS.out.r).1 hne').trans HS.out.r;have S1':=zbT HC.out;have Q0:=zar O0.out h1 S1';have Q1:=zar O1.out h1 S1';have Q2:=zar O2.out h1 S1';have Q3:=zar O3.out h1 S1';have Q4:=zar O4.out h1 S1';generalize ((X6.setCell ⟨cb,2,none⟩ (.slice S2 (zab 1 31 (zay (domW (zak L))) false).length d2)).setCell ⟨cb,4,none⟩ (.slice S4 (zab 0 6 (zay (zcq (wkW (zak L)))) false).length d4))=X7 at *;have h2:=zcG (V:=X7) W.heap.size (.slice S0 (zab 0 59 (zay (zcN (zak L))) true).length d0) (.slice S1 (zab 0 23 (zay (zbb (zak L))) true).length d1) (.slice S2 (zab 1 31 (zay (domW (zak L))) false).length d2) (.slice S3 (zab 1 12 (zay (zaV (zak L))) true).length d3) (.slice S4 (zab 0 6 (zay (zcq (wkW (zak L)))) false).length d4);have S2':=zbT hr7;exact⟨h2.to_below' hb1,.inr ⟨⟨han.out,ed,ew⟩,_,rfl,⟨_,_,_,_,_,rfl,zar Q0 h2 S2',zar Q1 h2 S2',zar Q2 h2 S2',zar Q3 h2 S2',zar Q4 h2 S2'⟩⟩⟩
end Go.Proofs.YtadefhkaejjfmaaGreatDoor
namespace Go.Proofs.YtadefhkaejjfmaaGreatDoor
open Go.Proofs.Tryz
theorem znf {mo:Nat} (h:BdM 1 12 mo) (hm:mo<18446744073709551616):0≤zcQ mo∧zcQ mo≤31:=by
 have h0:∀(l:List Nat) (a:Int),0≤a→0≤l.foldl (fun(a:Int) (m:Nat)=>max a (zbq 2000 (m:Int))) a:=by
  intro l;induction l with
  |nil=>intro a ha;exact ha
  |cons b l ih=>intro a ha;exact ih _ (Int.le_trans ha (Int.le_max_left _ _))
 refine⟨h0 _ 0 (Int.le_refl _),?_⟩
 false_or_by_contra
 rename_i hc;obtain⟨m,hmm,hl⟩:=zjv (mo:=mo) (d:=zcQ mo) oQ (Int.le_refl _);obtain⟨hk,hb⟩:=zaR.1 hmm;have:=h m hk hb;have:=(zca (y:=2000) (m:=(m:Int)) oQ oQ).2;omega
theorem zs5 {mo d:Nat} (h:BdM 1 12 mo) (hm:mo<18446744073709551616) (hd:d<18446744073709551616):(bits .andNot .u64 (zaN 1 (zcQ mo)) (d:Int)==0)=zsY mo d:=by
 obtain⟨l0,l31⟩:=znf h hm;have hs:=zuO 1 (zcQ mo);obtain⟨s,hs'⟩:∃s:Nat,zaN 1 (zcQ mo)=(s:Int):=⟨_,(Int.toNat_of_nonneg hs.1).symm⟩;have hb:∀k,k<64→s.testBit k=decide (1≤(k:Int)∧(k:Int)≤zcQ mo):=fun k hk=>by
  rw[←zbi s k hk,←hs',zf9 _ _ _ (by omega) (by omega)]
 have hlt:s<18446744073709551616:=by have:=hs.2;rw[hs'] at this;omega
 rw[hs',zez (c:=mkN (fun k=>s.testBit k&&!d.testBit k) 64) hlt hd (zc4 _ 64) (fun k hk=>by rw[zbn];simp[hk])]
 rw[waQ,beq_iff_eq];unfold zsY;rw[List.all_eq_true];constructor
 ·intro h0 k hk;have hk:=wbG.1 hk;have h0:mkN (fun k=>s.testBit k&&!d.testBit k) 64=0:=by omega
  have h1:(mkN (fun k=>s.testBit k&&!d.testBit k) 64).testBit k=false:=by rw[h0];exact Nat.zero_testBit k
  rw[zbn] at h1;rw[hb k (by omega)] at h1
  simp at h1 ⊢
  by_cases hc:1≤k∧(k:Int)≤zcQ mo
  ·right;exact h1 oQ oQ hc.2
  ·left;omega
 ·intro ha;have:mkN (fun k=>s.testBit k&&!d.testBit k) 64=0:=by
   refine Nat.eq_of_testBit_eq fun k=>?_
   rw[Nat.zero_testBit,zbn]
   by_cases hk:k<64
   ·rw[hb k hk]
    by_cases hc:1≤(k:Int)∧(k:Int)≤zcQ mo
    ·have:=ha k (wbG.2 oQ);simp at this ⊢;intro _ _ _;rcases this with h|h
     ·omega
     ·exact h
    ·simp[hc]
   ·simp[hk]
  omega
theorem zq4:∀m:Nat,m<128→(zsB (m:Int)==7)=(List.range 7).all fun k=>m.testBit k:=by decide+kernel
theorem zos {w:Nat} (h:BdM 1 7 w):zcq w<128:=by
 have:zcq w<2^7:=Nat.lt_pow_two_of_testBit _ fun k hk=>by
  rw[Bool.eq_false_iff];intro hb;unfold zcq at hb;rw[zbn] at hb;simp at hb;obtain⟨h1,h2⟩:=hb;rw[if_neg (by omega)] at h2
  have:=h k h1 h2.2;omega
 omega
theorem zot {w:Nat} (h:BdM 1 7 w):(zsB (zcq w:Int)==7)=zes w:=zq4 _ (zos h)
theorem zs6 {d:Nat} (hd:d<18446744073709551616):bits .andNot .u64 (d:Int) 2=(zdA d 1:Int):=zez (b:=2) hd dQ (zfK _ _) fun k hk=>by
 rw[zer _ _ _ hk,show(2:Nat)=2^1 from rfl,Nat.testBit_two_pow]
 by_cases e:k=1
 ·subst e;simp
 ·simp[e,show ¬1=k by omega]
theorem zq5 {d:Nat} (hd:d<18446744073709551616):bits .andNot .u64 (d:Int) 1=(zdA d 0:Int):=zez (b:=1) hd dQ (zfK _ _) fun k hk=>by
 rw[zer _ _ _ hk,show(1:Nat)=2^0 from rfl,Nat.testBit_two_pow]
 by_cases e:k=0
 ·subst e;simp
 ·simp[e,show ¬0=k by omega]
def wkB (x:Nat→List It) (w:Int):Bool:=inB (x 4) 0 7 w||(decide (w=7)&&inB (x 4) 0 7 0)
theorem zdE (x:Nat→List It) {n:Int} {s:Nat} (h0:0≤n) (h1:n<146097) (hs:s<86400):
 zet x n s=(decide (s%60=0)&&(inB (x 0) 0 59 ((s / 60%60:Nat):Int)&&(inB (x 1) 0 23 ((s / 3600:Nat):Int)&&(inB (x 3) 1 12 (mD n)&&
  (if zbF (x 2)||zbF (x 4) then inB (x 2) 1 31 (dD n)&&wkB x (wdD n) else inB (x 2) 1 31 (dD n)||wkB x (wdD n)))))):=by
 have e1:(n * 86400+(s:Int))%86400=(s:Int):=by omega
 have e2:(n * 86400+(s:Int)) / 86400=n:=by omega
 have e3:inC (n * 86400+(s:Int))=true:=waP oQ;unfold zet zgt wkB;rw[e1,e2,e3,Bool.true_and];have e4:decide ((s:Int)%60=0)=decide (s%60=0):=by rw[wbH];omega
 have e5:(s:Int) / 60%60=((s / 60%60:Nat):Int):=by omega
 have e6:(s:Int) / 3600=((s / 3600:Nat):Int):=by omega
 rw[e4,e5,e6]
theorem zc1 {Q:Nat→Prop} {k:Nat} (hk:k<64):(mOf Q).testBit k=true↔Q k:=by rw[zf8];simp[hk]
theorem zeP {P:Int→Nat→Bool} {m:Nat} (hm:m<64):(zaV P).testBit m=true↔∃n,zbG P n∧mD n=(m:Int):=zc1 hm
theorem zfN {P:Int→Nat→Bool} {m:Nat} (hm:m<64):(zbw P).testBit m=true↔∃n,zbG P n∧dD n=(m:Int):=zc1 hm
theorem zjB {P:Int→Nat→Bool} {m:Nat} (hm:m<64):(wkF P).testBit m=true↔∃n,zbG P n∧wdD n=(m:Int):=zc1 hm
theorem zeQ {P:Int→Nat→Bool} {m:Nat} (hm:m<64):(zcN P).testBit m=true↔∃n s,zcY P n s∧s / 60%60=m:=zc1 hm
theorem zdF {P:Int→Nat→Bool} {m:Nat} (hm:m<64):(zbb P).testBit m=true↔∃n s,zcY P n s∧s / 3600=m:=zc1 hm
theorem zv7 (y m:Int):zbq y m≤zbq 2000 m:=by
 unfold zbq;rw[show zdY 2000=true by decide]
 by_cases c:m<1∨12<m
 ·rw[if_pos c,if_pos c];exact Int.le_refl _
 ·rw[if_neg c,if_neg c]
  by_cases h2:m=2
  ·subst h2;rw[if_pos (show(2:Int)=2∧true=true from⟨rfl,rfl⟩)]
   split<;>decide
  ·rw[if_neg (fun g=>h2 g.1),if_neg (fun g=>h2 g.1)];exact Int.le_refl _
theorem zcm {n:Int} (h:0≤n) (h1:n<146097):1≤mD n∧mD n≤12∧1≤dD n∧dD n≤zbq 2000 (mD n)∧dD n≤31:=by
 obtain⟨_,m1,m2,d1,d2⟩:=zc6 h h1;have hl:=zca (y:=yD n) m1 m2;have:=zv7 (yD n) (mD n);exact⟨m1,m2,d1,by omega,by omega⟩
theorem zng (P:Int→Nat→Bool):BdM 0 59 (zcN P):=fun k hk hb=>by
 obtain⟨n,s,h,e⟩:=(zeQ hk).1 hb;omega
theorem zjC (P:Int→Nat→Bool):BdM 0 23 (zbb P):=fun k hk hb=>by
 obtain⟨n,s,⟨_,_,h,_⟩,e⟩:=(zdF hk).1 hb;omega
theorem zfO (P:Int→Nat→Bool):BdM 1 12 (zaV P):=fun k hk hb=>by
 obtain⟨n,h,e⟩:=(zeP hk).1 hb;have:=zcm h.win.1 h.win.2;omega
theorem zk5 (P:Int→Nat→Bool):BdM 1 31 (zbw P):=fun k hk hb=>by
 obtain⟨n,h,e⟩:=(zfN hk).1 hb;have:=zcm h.win.1 h.win.2;omega
theorem zou (P:Int→Nat→Bool):BdM 1 7 (wkF P):=fun k hk hb=>by
 obtain⟨n,h,e⟩:=(zjB hk).1 hb;have:=zct n;omega
theorem za0 {m k:Nat} (h:m.testBit k=true):m≠0:=by
 rintro rfl;rw[Nat.zero_testBit] at h;cases h
theorem zq6 {P:Int→Nat→Bool} (h:zfa P):zcN P≠0∧zbb P≠0∧zaV P≠0∧zbw P≠0∧wkF P≠0:=by
 obtain⟨n,s,hs⟩:=h;have hb:=zcm hs.1 hs.2.1;have hw:=zct n;have hsl:=hs.2.2.1;refine⟨za0 (k:=s / 60%60) ((zeQ oQ).2 ⟨n,s,hs,rfl⟩),za0 (k:=s / 3600) ((zdF oQ).2 ⟨n,s,hs,rfl⟩),za0 (k:=(mD n).toNat) ((zeP oQ).2 ⟨n,⟨s,hs⟩,by omega⟩),
  za0 (k:=(dD n).toNat) ((zfN oQ).2 ⟨n,⟨s,hs⟩,by omega⟩),za0 (k:=(wdD n).toNat) ((zjB oQ).2 ⟨n,⟨s,hs⟩,by omega⟩)⟩
def zdW (m:Nat) (x:Int):Bool:=m.testBit x.toNat
theorem zeZ {lo hi m:Nat} (h:BdM lo hi m) (hle:lo≤hi) (h9:hi≤63) (S:Bool) {x:Int} (h0:0≤x) (h1:x<64):inB (zab (lo:Int) (hi:Int) (zay m) S) (lo:Int) (hi:Int) x=zdW m x:=by
 obtain⟨k,rfl⟩:=wbD h0;rw[zv3 h hle h9];unfold zdW;rw[Int.toNat_natCast];have:k<64:=by omega
 cases m.testBit k<;>simp [this]
theorem zdk {lo hi m j:Nat} (h:BdM lo hi m):BdM lo hi (zdA m j):=fun k hk hb=>by
 rw[zer m j k hk,waN] at hb;exact h k hk hb.2
theorem zgx {w:Nat} (h:BdM 1 7 w):BdM 0 6 (zcq w):=fun k hk hb=>by
 rw[zcP w k hk] at hb;split at hb
 ·omega
 ·rw[waN,waM] at hb;have:=h k hk hb.2;omega
theorem zs7 {lo hi hi' m:Nat} (h:BdM lo hi m) (hh:hi≤hi'):BdM lo hi' m:=fun k hk hb=>by
 have:=h k hk hb;omega
theorem zv8 {w:Nat} (h:BdM 1 7 w) (hw:w<18446744073709551616) (h0:w≠0):zcq w≠0:=by
 have:∃k,k<64∧w.testBit k=true:=by
  false_or_by_contra
  rename_i hn;refine h0 (Nat.eq_of_testBit_eq fun k=>?_)
  rw[Nat.zero_testBit,Bool.eq_false_iff];intro hb;refine hn ⟨k,?_,hb⟩
  false_or_by_contra
  have h64:w<2^k:=waD hw (Nat.pow_le_pow_right (n:=2) (i:=64) (j:=k) dQ oQ);rw[waX h64] at hb;cases hb
 obtain⟨k,hk,hb⟩:=this;have hk7:=h k hk hb
 by_cases e:k=7
 ·subst e;exact za0 (k:=0) (by rw[zcP w 0 (by decide),if_pos rfl,hb,Bool.or_true])
 ·exact za0 (k:=k) (by rw[zcP w k hk,if_neg (by omega),hb,waP e];rfl)
theorem ztQ {x:Nat→List It} {w:Nat} (hw:BdM 1 7 w) (hx:∀y:Int,0≤y→y≤7→inB (x 4) 0 7 y=zdW (zcq w) y) {y:Int} (h1:1≤y) (h7:y≤7):wkB x y=zdW w y:=by
 have h0:w.testBit 0=false:=by
  cases hb:w.testBit 0 with
  |false=>rfl
  |true=>have:=hw 0 dQ hb;omega
 unfold wkB;rw[hx y (by omega) h7,hx 0 (by decide) (by decide)]
 unfold zdW;obtain⟨k,rfl⟩:=wbD (show 0≤y by omega)
 rw[Int.toNat_natCast,zcP w k (by omega),show(0:Int).toNat=0 from rfl,zcP w 0 (by decide),if_pos rfl,if_neg (by omega),h0,Bool.false_or]
 by_cases e:k=7
 ·subst e;simp
 ·have e2:¬(k:Int)=7:=by omega
  simp[e,e2]
theorem zmc {w:Nat} (h:zes w=true):∀k,k<7→(zcq w).testBit k=true:=fun k hk=>List.all_eq_true.1 h k (wbG.2 hk)
theorem zq7 {mo d:Nat} (hd:BdM 1 12 mo) (h:zsY mo d=true):∀k:Nat,1≤k→(k:Int)≤zcQ mo→k≤31→d.testBit k=true:=fun k h1 h2 h3=>by
 have:=List.all_eq_true.1 h k (wbG.2 oQ);rw[waP (show 1≤k∧(k:Int)≤zcQ mo from⟨h1,h2⟩)] at this
 simpa using this
section
variable {P : Int → Nat → Bool}
theorem zjD {n:Int} (h:∃n',zbG P n'∧mD n'=mD n) (h0:0≤n) (h1:n<146097):dD n≤zcQ (zaV P):=by
 obtain⟨n',hl,he⟩:=h;have hb:=zcm h0 h1;have hm:(mD n).toNat∈zat (zaV P):=zaR.2 ⟨by omega,(zeP oQ).2 ⟨n',hl,by omega⟩⟩
 have:=zsX hm;rw[show (((mD n).toNat:Nat):Int)=mD n by omega] at this
 omega
theorem zs8 (hn:zfa P) (hok:za8 (zaV P) (zbw P) (wkF P)=true) {n:Int} (h0:0≤n) (h1:n<146097) (hm:∃n',zbG P n'∧mD n'=mD n):inB (zbH (zaV P) (zbw P) (wkF P)) 1 31 (dD n)=zdW (zbw P) (dD n):=by
 have hb:=zcm h0 h1;have hd:=zk5 P;unfold zbH;split
 ·rename_i ha;have hlong:=zjD hm h0 h1;have hbit:=zq7 (zfO P) ha (dD n).toNat oQ oQ oQ;rw[zju 1 31 1 [] (by decide) (by decide) (by decide) (by decide) (by decide)]
  unfold zdW;rw[hbit,waP (by omega)]
  rfl
 ·split
  ·exact zeZ hd dQ dQ false oQ oQ
  ·split
   ·rename_i h1';rw[zju 1 31 31 _ (by decide) (by decide) (by decide) (by decide) (by decide),show inB (zab 1 31 (zay (zdA (zbw P) 1)) false) 1 31 (dD n)=zdW (zdA (zbw P) 1) (dD n) from zeZ (zdk hd) (by decide) (by decide) false (by omega) (by omega)]
    unfold zdW;rw[zer _ _ _ (by omega)]
    by_cases e:dD n=1
    ·rw[e,show(1:Int).toNat=1 from rfl,h1'];rfl
    ·rw[waO (show ¬(1≤dD n∧dD n≤31∧(dD n - 1)%31=0) by omega),waP (show(dD n).toNat≠1 by omega)];simp
   ·exact zeZ hd dQ dQ false oQ oQ
theorem zq8 (hok:za8 (zaV P) (zbw P) (wkF P)=true) {y:Int} (y1:1≤y) (y7:y≤7):wkB (zbS P) y=zdW (wkF P) y:=by
 have hw:=zou P;have hs:=zs7 (zgx hw) (show 6≤7 by decide)
 have hsum:∀z:Int,0≤z→z≤7→inB (zab 0 6 (zay (zcq (wkF P))) false) 0 7 z=zdW (zcq (wkF P)) z:=fun z z0 z7=>by
  rw[zdz 0 6 0 7];exact zeZ (lo:=0) (hi:=7) hs dQ dQ false z0 oQ
 have h4:zbS P 4=zaZ (zaV P) (zbw P) (wkF P):=rfl
 by_cases he:zes (wkF P)=true
 ·have hb:=zmc he;have hr:zdW (wkF P) y=true:=by
   unfold zdW
   by_cases e:y=7
   ·have h0:=hb 0 dQ;rw[zcP _ 0 (by decide),if_pos rfl,wbF] at h0
    rcases h0 with h0|h0
    ·have:=hw 0 dQ h0;omega
    ·rw[e];exact h0
   ·have h0:=hb y.toNat oQ;rw[zcP _ _ (by omega),if_neg (by omega),waN] at h0
    exact h0.2
  rw[hr];unfold wkB;rw[h4];unfold zaZ;rw[if_pos he,zju 0 7 1 [] (by decide) (by decide) (by decide) (by decide) (by decide),waP (show 0≤y∧y≤7∧(y - 0)%1=0 by omega)]
  rfl
 ·refine ztQ hw (fun z z0 z7=>?_) y1 y7
  rw[h4];unfold zaZ;rw[if_neg he];split
  ·exact hsum z z0 z7
  ·rename_i ha;split
   ·exact hsum z z0 z7
   ·rename_i hd1;have h0:(zcq (wkF P)).testBit 0=true:=by
     unfold za8 at hok;simp only[wbF] at hok;rcases hok with h|h|h|h
     ·exact absurd h ha
     ·exact absurd h he
     ·exact absurd h hd1
     ·exact h
    rw[zju 0 7 8 _ (by decide) (by decide) (by decide) (by decide) (by decide),zdz 0 6 0 7,show inB (zab 0 7 (zay (zdA (zcq (wkF P)) 0)) false) 0 7 z=zdW (zdA (zcq (wkF P)) 0) z from zeZ (lo:=0) (hi:=7) (zdk hs) (by decide) (by decide) false z0 (by omega)]
    unfold zdW;rw[zer _ _ _ (by omega)]
    by_cases e:z=0
    ·rw[e,show(0:Int).toNat=0 from rfl,h0];rfl
    ·rw[waO (show ¬(0≤z∧z≤7∧(z - 0)%8=0) by omega),waP (show z.toNat≠0 by omega)];simp
theorem zq9 (hok:za8 (zaV P) (zbw P) (wkF P)=true):(zbF (zbS P 2)||zbF (zbS P 4))=true:=by
 show(zbF (zbH (zaV P) (zbw P) (wkF P))||zbF (zaZ (zaV P) (zbw P) (wkF P)))=true
 unfold za8 at hok;unfold zbH zaZ
 by_cases ha:zsY (zaV P) (zbw P)=true
 ·rw[if_pos ha];rfl
 ·by_cases he:zes (wkF P)=true
  ·rw[if_pos (c:=zes (wkF P)=true) he,if_pos (c:=zes (wkF P)=true) he,wbF];exact .inr rfl
  ·by_cases hd:(zbw P).testBit 1=true
   ·rw[if_neg ha,if_neg he,if_pos hd];rfl
   ·rw[wbF];refine .inr ?_;rw[if_neg he,if_neg ha,if_neg hd];rfl
theorem znh (day week:List It) {n:Int} {s:Nat} (h0:0≤n) (h1:n<146097) (hs:s<86400):
 inB (zde (zcN P) (zbb P) (zaV P) day week 0) 0 59 ((s / 60%60:Nat):Int)=(zcN P).testBit (s / 60%60)∧inB (zde (zcN P) (zbb P) (zaV P) day week 1) 0 23 ((s / 3600:Nat):Int)=(zbb P).testBit (s / 3600)∧inB (zde (zcN P) (zbb P) (zaV P) day week 3) 1 12 (mD n)=zdW (zaV P) (mD n):=by
 have hb:=zcm h0 h1;refine⟨?_,?_,?_⟩
 ·have:=zeZ (lo:=0) (hi:=59) (zng P) dQ dQ true (x:=((s / 60%60:Nat):Int)) oQ oQ;unfold zdW at this
  rwa [Int.toNat_natCast] at this
 ·have:=zeZ (lo:=0) (hi:=23) (zjC P) dQ dQ true (x:=((s / 3600:Nat):Int)) oQ oQ;unfold zdW at this
  rwa [Int.toNat_natCast] at this
 ·exact zeZ (lo:=1) (hi:=12) (zfO P) dQ dQ true oQ oQ
theorem zjE {n:Int} (h0:0≤n) (h1:n<146097):zdW (zaV P) (mD n)=true↔∃n',zbG P n'∧mD n'=mD n:=by
 have hb:=zcm h0 h1;unfold zdW;rw[zeP (by omega),show(((mD n).toNat:Nat):Int)=mD n by omega]
theorem zra (hn:zfa P) (hok:za8 (zaV P) (zbw P) (wkF P)=true) {n:Int} {s:Nat} (h0:0≤n) (h1:n<146097) (hs:s<86400):
 zet (zbS P) n s=(decide (s%60=0)&&((zcN P).testBit (s / 60%60)&&((zbb P).testBit (s / 3600)&&(zdW (zaV P) (mD n)&&(zdW (zbw P) (dD n)&&zdW (wkF P) (wdD n)))))):=by
 rw[zdE _ h0 h1 hs,zq9 hok,if_pos rfl];have hw:=zct n;rw[zq8 hok hw.1 hw.2];obtain⟨e1,e2,e3⟩:=znh (P:=P) (zbH (zaV P) (zbw P) (wkF P)) (zaZ (zaV P) (zbw P) (wkF P)) h0 h1 hs;unfold zbS;rw[e1,e2,e3];cases hm:zdW (zaV P) (mD n) with
 |false=>simp
 |true=>
  have:=zs8 hn hok h0 h1 ((zjE h0 h1).1 hm);rw[←this];rfl
theorem zh6 (D W:Nat) (hD:BdM 1 31 D) (hW:BdM 1 7 W) {n:Int} {s:Nat} (h0:0≤n) (h1:n<146097) (hs:s<86400):
 zet (zde (zcN P) (zbb P) (zaV P) (zab 1 31 (zay D) false) (zab 0 6 (zay (zcq W)) false)) n s=(decide (s%60=0)&&((zcN P).testBit (s / 60%60)&&((zbb P).testBit (s / 3600)&&(zdW (zaV P) (mD n)&&(zdW D (dD n)||zdW W (wdD n)))))):=by
 have hb:=zcm h0 h1;have hw:=zct n;have hs7:=zs7 (zgx hW) (show 6≤7 by decide)
 obtain⟨e1,e2,e3⟩:=znh (P:=P) (zab 1 31 (zay D) false) (zab 0 6 (zay (zcq W)) false) h0 h1 hs;have e4:(zbF (zde (zcN P) (zbb P) (zaV P) (zab 1 31 (zay D) false) (zab 0 6 (zay (zcq W)) false) 2)||zbF (zde (zcN P) (zbb P) (zaV P) (zab 1 31 (zay D) false) (zab 0 6 (zay (zcq W)) false) 4))=false:=by
  show(zbF (zab 1 31 (zay D) false)||zbF (zab 0 6 (zay (zcq W)) false))=false
  rw[zgr,zgr];rfl
 have e5:wkB (zde (zcN P) (zbb P) (zaV P) (zab 1 31 (zay D) false) (zab 0 6 (zay (zcq W)) false)) (wdD n)=zdW W (wdD n):=by
  refine ztQ hW (fun z z0 z7=>?_) hw.1 hw.2
  show inB (zab 0 6 (zay (zcq W)) false) 0 7 z=_;rw[zdz 0 6 0 7];exact zeZ (lo:=0) (hi:=7) hs7 dQ dQ false z0 oQ
 rw[zdE _ h0 h1 hs,e4,if_neg (by decide),e1,e2,e3,e5]
 have e6:inB (zab 1 31 (zay D) false) 1 31 (dD n)=zdW D (dD n):=zeZ (lo:=1) (hi:=31) hD dQ dQ false oQ oQ;rw[←e6];rfl
theorem zhJ (hn:zfa P) (day week:List It) (hd:zaJ 2 day=0) (hw:zaJ 4 week=0):chk (zde (zcN P) (zbb P) (zaV P) day week)=(5,0):=by
 obtain⟨f1,f2,f3,f4,f5⟩:=zq6 hn;refine ziM fun j hj=>?_
 obtain rfl|rfl|rfl|rfl|rfl:j=0∨j=1∨j=2∨j=3∨j=4:=by omega
 ·exact zcZ (lo:=0) (hi:=59) dQ (zng P) dQ dQ rfl rfl (zbU _) f1 true
 ·exact zcZ (lo:=0) (hi:=23) dQ (zjC P) dQ dQ rfl rfl (zbU _) f2 true
 ·exact hd
 ·exact zcZ (lo:=1) (hi:=12) dQ (zfO P) dQ dQ rfl rfl (zbU _) f3 true
 ·exact hw
theorem zhK {D:Nat} (hD:BdM 1 31 D) (hl:D<18446744073709551616) (h0:D≠0):zaJ 2 (zab 1 31 (zay D) false)=0:=
 zcZ (lo:=1) (hi:=31) dQ hD dQ dQ rfl rfl hl h0 false
theorem zgi {W:Nat} (hW:BdM 1 7 W) (hl:W<18446744073709551616) (h0:W≠0):zaJ 4 (zab 0 6 (zay (zcq W)) false)=0:=by
 rw[zdz 0 6 0 7];exact zcZ (lo:=0) (hi:=7) dQ (zs7 (zgx hW) dQ) dQ dQ rfl rfl (zgb _) (zv8 hW hl h0) false
theorem zaT {lo hi m:Nat} (h:BdM lo hi m) (hle:lo≤hi) (h9:hi≤62) (S:Bool):(zab (lo:Int) (hi:Int) (zay m) S).length≤63:=by
 have h1:=(zkR (h.numb hle oQ) S).2;have h2:(zay m).length≤63:=by
  unfold zay;rw[List.length_map];have h63:m.testBit 63=false:=by
   cases hb:m.testBit 63 with
   |false=>rfl
   |true=>have:=h 63 dQ hb;omega
  unfold zat;rw[show (64:Nat)=63+1 from rfl,List.range_succ,List.filter_append]
  have e:([63].filter fun i=>m.testBit i)=[]:=by simp[h63]
  rw[e,List.append_nil];have:=List.length_filter_le (fun i=>m.testBit i) (List.range 63)
  rwa [List.length_range] at this
 omega
theorem zni (hn:zfa P) (hok:za8 (zaV P) (zbw P) (wkF P)=true):chk (zbS P)=(5,0):=by
 obtain⟨f1,f2,f3,f4,f5⟩:=zq6 hn;have hd:=zk5 P;have hw:=zou P;have hs7:=zs7 (zgx hw) (show 6≤7 by decide)
 refine zhJ hn _ _ ?_ ?_
 ·unfold zbH;split
  ·exact zeL (k:=2) dQ dQ dQ dQ (fun i hi=>by cases hi)
  ·split
   ·exact zhK hd (zbU _) f4
   ·split
    ·refine zeL (k:=2) dQ dQ dQ (zaT (lo:=1) (hi:=31) (zdk hd) dQ dQ false) fun i hi=>?_
     exact zhB ((zdk hd).numb dQ dQ) false i hi
    ·exact zhK hd (zbU _) f4
 ·unfold zaZ;split
  ·exact zeL (k:=4) dQ dQ dQ dQ (fun i hi=>by cases hi)
  ·split
   ·exact zgi hw (zbU _) f5
   ·split
    ·exact zgi hw (zbU _) f5
    ·rw[zdz 0 6 0 7];refine zeL (k:=4) dQ dQ dQ (zaT (lo:=0) (hi:=7) (zdk hs7) dQ dQ false) fun i hi=>?_
     exact zhB ((zdk hs7).numb dQ dQ) false i hi
structure ProdP (P:Int→Nat→Bool) (M D W:Int→Bool) (Mi Ho:Nat→Bool):Prop where
 eq:∀n s,0≤n→n<146097→s<86400→P n s=(decide (s%60=0)&&(Mi (s / 60%60)&&(Ho (s / 3600)&&(M (mD n)&&(D (dD n)&&W (wdD n))))))
theorem ProdP.live {M D W:Int→Bool} {Mi Ho:Nat→Bool} (h:ProdP P M D W Mi Ho) {n:Int} {s:Nat} (hl:zcY P n s):s%60=0∧Mi (s / 60%60)=true∧Ho (s / 3600)=true∧M (mD n)=true∧D (dD n)=true∧W (wdD n)=true:=by
 obtain⟨a,b,c,d⟩:=hl;rw[h.eq n s a b c] at d;simpa only[waN,waM] using d
theorem zuV {n:Int} (h0:0≤n) (h1:n<146097):zdW (zbw P) (dD n)=true↔∃n',zbG P n'∧dD n'=dD n:=by
 have hb:=zcm h0 h1;unfold zdW;rw[zfN (by omega),show(((dD n).toNat:Nat):Int)=dD n by omega]
theorem zv9 (n:Int):zdW (wkF P) (wdD n)=true↔∃n',zbG P n'∧wdD n'=wdD n:=by
 have hb:=zct n;unfold zdW;rw[zjB (by omega),show(((wdD n).toNat:Nat):Int)=wdD n by omega]
theorem zgj {M D W:Int→Bool} {Mi Ho:Nat→Bool} (h:ProdP P M D W Mi Ho) (hn:zfa P) (hok:za8 (zaV P) (zbw P) (wkF P)=true):zcr (zbS P) P:=by
 refine⟨zni hn hok,fun n s h0 h1 hs=>?_⟩
 rw[zra hn hok h0 h1 hs,waQ];simp only[waN,waM,zjE h0 h1,zuV h0 h1,zv9];constructor
 ·rintro ⟨e0,e1,e2,⟨n3,⟨s3,l3⟩,e3⟩,⟨n4,⟨s4,l4⟩,e4⟩,⟨n5,⟨s5,l5⟩,e5⟩⟩;obtain⟨n1,s1,l1,e1⟩:=(zeQ oQ).1 e1;obtain⟨n2,s2,l2,e2⟩:=(zdF oQ).1 e2;have a1:=(h.live l1).2.1;have a2:=(h.live l2).2.2.1;have a3:=(h.live l3).2.2.2.1;have a4:=(h.live l4).2.2.2.2.1;have a5:=(h.live l5).2.2.2.2.2;rw[e1] at a1;rw[e2] at a2;rw[e3] at a3;rw[e4] at a4;rw[e5] at a5;rw[h.eq n s h0 h1 hs,a1,a2,a3,a4,a5,waP e0];rfl
 ·intro hp;have hl:zcY P n s:=⟨h0,h1,hs,hp⟩;exact⟨(h.live hl).1,(zeQ oQ).2 ⟨n,s,hl,rfl⟩,(zdF oQ).2 ⟨n,s,hl,rfl⟩,⟨n,⟨s,hl⟩,rfl⟩,⟨n,⟨s,hl⟩,rfl⟩,⟨n,⟨s,hl⟩,rfl⟩⟩
end
end Go.Proofs.YtadefhkaejjfmaaGreatDoor
