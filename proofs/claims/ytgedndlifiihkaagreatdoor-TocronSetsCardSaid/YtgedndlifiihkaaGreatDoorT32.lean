/- A part of the proof: WTc8 RBoth -/
import Derived.Test.YtgedndlifiihkaaGreatDoorT31
import Derived.Test.YtgedndlifiihkaaGreatDoorT09
import Derived.Test.YtgedndlifiihkaaGreatDoorT21
set_option maxHeartbeats 80000000
set_option maxRecDepth 100000
set_option linter.unusedSimpArgs false
set_option linter.unusedVariables false
namespace Go.Proofs.YtgedndlifiihkaaGreatDoor
open Go.Proofs.Tryz
open Go.RowKit
open Go.Maps
theorem zeL (m:Nat):(zaG m).length≤1000000:=by have:=zi9 m;omega
theorem zqX (P:Int→Nat→Bool):zij P<18446744073709551616:=zb2 _
theorem ztQ (P:Int→Nat→Bool):wkW P<18446744073709551616:=zb2 _
def zwk (P:Int→Nat→Bool) (w:World) (e:Ending) (w':World):Prop:=Below w.heap.size w w'∧((¬(zhP P∧zij P≠0∧wkW P≠0)∧e=.returned (.tuple #[.agg zb1,.bool false]))∨((zhP P∧zij P≠0∧wkW P≠0)∧∃v,e=.returned (.tuple #[v,.bool true])∧za1 w' w.heap.size v (zcN P)))
structure EiS (W V:World) (g:Nat→Value) (fb:Nat):Prop where
 f:FaceAt V fb g
 r:V.heap[W.heap.size]?=some (.cells zb1 24 (0,0))
 be:Below W.heap.size W V
 n:W.heap.size<fb
theorem EiS.below {W V X:World} {g:Nat→Value} {fb:Nat} (h:EiS W V g fb) (hb:Below V.heap.size V X):EiS W X g fb:=
 ⟨h.f.below hb,(hb.block _ (waL.1 h.r).1).trans h.r,h.be.trans (hb.mono h.be.size),h.n⟩
theorem EiS.line {W V:World} {g:Nat→Value} {fb:Nat} (h:EiS W V g fb):(∀i,i<5→V.cell? ⟨W.heap.size,i,none⟩=some (.slice none 0 0))∧(∀i,V.frozen? ⟨W.heap.size,i,none⟩=false)∧W.heap.size<V.heap.size:=by
 refine⟨fun i hi=>?_,fun i=>by simp[World.frozen?,h.r],(waL.1 h.r).1⟩
 obtain rfl|rfl|rfl|rfl|rfl:i=0∨i=1∨i=2∨i=3∨i=4:=by omega
 all_goals simp[World.cell?,h.r,zb1]
theorem ze9 {V:World} {b i:Nat} {t:TypeId} {z:Nat×Nat} {cur:Array Value} {v:Value} (h:V.heap[b]?=some (.cells cur t z)):(V.setCell ⟨b,i,none⟩ v).heap[b]?=some (.cells (cur.setIfInBounds i v) t z):=by
 obtain⟨hlt,hk⟩:=waL.1 h;show(V.heap.modify b _)[b]?=_;rw[wbI (by rw[Array.size_modify];exact hlt),Array.getElem_modify_self,hk]
 rfl
theorem zgL {V:World} {b:Nat} {t:TypeId} {z:Nat×Nat} (a0 a1 a2 a3 a4 v0 v1 v2 v3 v4:Value) (h:V.heap[b]?=some (.cells #[a0,a1,a2,a3,a4] t z)):(((((V.setCell ⟨b,0,none⟩ v0).setCell ⟨b,1,none⟩ v1).setCell ⟨b,2,none⟩ v2).setCell ⟨b,3,none⟩ v3).setCell ⟨b,4,none⟩ v4).heap[b]?=some (.cells #[v0,v1,v2,v3,v4] t z):=
 ze9 (ze9 (ze9 (ze9 (ze9 h))))
theorem zl5 (A:Option Addr) (n cc:Nat) (L:List Cl) (W:World) (hA:zbd W A n L) (hn:n≤8) (hnil:A=none→n=0) (hbit:∀c,c∈L→zbD c∧c.s≤9223372036854775807) (hset:zdF L=true) (hw:Tz W):
 Calls prog 10 #[.slice A n cc] W (zwk (zao L) W):=by
 have HOf:=waV (fun V (hV:Below W.heap.size W V)=>ziA A n cc L V (hA.below hV (waJ _)) oQ hnil hbit (hw.below hV))
 have HWh:=waV (fun V (hV:Below W.heap.size W V)=>zqW A n cc L V (hA.below hV (waJ _)) hn hnil hbit hset (hw.below hV))
 have HTm:=waV (fun g mi ho mo e1 e2 e3 b1 b2 b3 V (hV:Below W.heap.size W V)=>zk1 g mi ho mo e1 e2 e3 b1 b2 b3 V (hw.below hV))
 have H2:=waV (fun V (hV:Below W.heap.size W V)=>zkX (zij (zao L)) (zqX _) (zeL _) V (hw.below hV))
 have H4:=waV (fun V (hV:Below W.heap.size W V)=>zkY (zcQ (wkW (zao L))) (zf1 _) (zeL _) V (hw.below hV))
 have HSu:=waV (fun V=>zhG (wkW (zao L)) (ztQ _) V)
 have HE:zbA n L=0:=by unfold zbA;rw[if_neg (by omega),if_pos hset]
 have hPE:zcN (zao L)=zeV (zdq (zao L)) (zbn (zao L)) (za5 (zao L)) (zab 1 31 (zaG (zij (zao L))) false) (zab 0 6 (zaG (zcQ (wkW (zao L)))) false):=rfl;have hdl:=zqX (zao L);have hwl:=ztQ (zao L);have hmi:zdq (zao L)<18446744073709551616:=zb2 _;have hho:zbn (zao L)<18446744073709551616:=zb2 _;have hmo:za5 (zao L)<18446744073709551616:=zb2 _;clear hA hn hnil hbit hset hw;go_enter func10,ntmps10;go_wp2_with fail;have hb0:Below W.heap.size W (W.alloc (.cells #[.slice none 0 0,.slice none 0 0,.slice none 0 0,.slice none 0 0,.slice none 0 0] 24)):=(waC _ W).alloc (waJ _) _;have hc0:(W.alloc (.cells #[.slice none 0 0,.slice none 0 0,.slice none 0 0,.slice none 0 0,.slice none 0 0] 24)).heap[W.heap.size]?=some (.cells zb1 24 (0,0)):=World.alloc_heap_new W _;generalize (W.alloc (.cells #[.slice none 0 0,.slice none 0 0,.slice none 0 0,.slice none 0 0,.slice none 0 0] 24))=V0 at *;refine(HOf.out V0 hb0).mono ?_;rintro e w1 ⟨hb1,(⟨hE,_⟩|⟨_,g,rfl,hg⟩)⟩
 ·exact absurd HE hE
 obtain⟨z,hz,hza⟩:=hg.d;have hlt0:=(waL.1 hc0).1;have hz0:=hb0.size;have hz1:=hb1.size;have hb01:Below W.heap.size W w1:=hb0.trans (hb1.mono hz0);have hc1:=(hb1.block _ hlt0).trans hc0;have HFn:Hid (FaceAt (w1.alloc (.cells (zaX (gZ false)) 66)) w1.heap.size (gZ false)):=FaceAt.new _ _ (zeu false);have hbA:Below W.heap.size W (w1.alloc (.cells (zaX (gZ false)) 66)):=hb01.alloc hb01.size _;have HMk:Hid (∀w2,FaceAt w2 w1.heap.size g→RlS (·=w1.heap.size) (w1.alloc (.cells (zaX (gZ false)) 66)) w2→EiS W w2 g w1.heap.size):=fun w2 hf2 hr2=>⟨hf2,(hr2.block _ (by simp;omega) (show ¬W.heap.size=w1.heap.size by omega)).trans ((Below.heap_alloc _ _ _ oQ).trans hc1),hr2.to_below' hbA hb01.size,by omega⟩
 have HG:=waV hg;have HZa:=waV hza;have h48:=fun(w2:World) (h:EiS W w2 g w1.heap.size)=>h.f.cell (show 48<51 by decide)
 rw[hz] at h48;have H48:=waV h48;clear hbA hc1 hb01 hb1 hb0 hc0 HOf hg HE h48 hlt0 hz0 hz1 hz hza
 by_cases e0:z=0
 ·have hna:¬zhP (zao L):=HZa.out.1 e0;subst e0
  go_wp2_with (first|(refine za3 rfl _ _ rfl g HFn.out HG.out.f rfl rfl ?_;intro w2 hf2 hr2;have HS:=waV (HMk.out w2 hf2 hr2);have f48:=H48.out w2 HS.out;obtain⟨hy,hf,hl⟩:=HS.out.line;have y0:=hy 0 (by decide);have y1:=hy 1 (by decide);have y2:=hy 2 (by decide);have y3:=hy 3 (by decide);have y4:=hy 4 (by decide);clear hy)|fail)
  have hr:=zcS (V:=w2) W.heap.size (.slice none 0 0) (.slice none 0 0) (.slice none 0 0) (.slice none 0 0) (.slice none 0 0);refine waY (v:=.tuple #[.agg zb1,.bool false]) (by rw[zay rfl];unfold zb1;go_simp) rfl ?_
  exact⟨hr.to_below' HS.out.be,.inl ⟨fun h=>hna h.1,rfl⟩⟩
 ·have ez:((z:Int)==0)=false:=by rw[wbE];omega
  have han:Hid (zhP (zao L)):=Classical.not_not.1 fun h=>e0 (HZa.out.2 h)
  clear e0
  go_wp2_with (first|(refine za3 rfl _ _ rfl g HFn.out HG.out.f rfl rfl ?_;intro w2 hf2 hr2;have HS:=waV (HMk.out w2 hf2 hr2);have f48:=H48.out w2 HS.out;have f3:=HS.out.f.cell (show 3<51 by decide);rw[HG.out.mo] at f3)|fail)
  refine(HWh.out _ HS.out.be).mono ?_;rintro e w3 ⟨rfl,hb3⟩;replace HS:=waV (HS.out.below hb3);clear HWh hb3 f48 f3 H48 HMk HFn ez hf2 hr2
  by_cases ed:zij (zao L)=0
  ·rw[ed];obtain⟨hy,hf,hl⟩:=HS.out.line;have y0:=hy 0 dQ;have y1:=hy 1 dQ;have y2:=hy 2 dQ;have y3:=hy 3 dQ;have y4:=hy 4 dQ;clear hy;go_wp2_with fail;have hr:=zcS (V:=w3) W.heap.size (.slice none 0 0) (.slice none 0 0) (.slice none 0 0) (.slice none 0 0) (.slice none 0 0);refine waY (v:=.tuple #[.agg zb1,.bool false]) (by rw[zay rfl];unfold zb1;go_simp) rfl ?_
   exact⟨hr.to_below' HS.out.be,.inl ⟨fun h=>h.2.1 ed,rfl⟩⟩
  ·have qd:((zij (zao L):Int)==0)=false:=by rw[wbE];omega
   by_cases ew:wkW (zao L)=0
   ·rw[ew];obtain⟨hy,hf,hl⟩:=HS.out.line;have y0:=hy 0 dQ;have y1:=hy 1 dQ;have y2:=hy 2 dQ;have y3:=hy 3 dQ;have y4:=hy 4 dQ;clear hy;go_wp2_with fail;have hr:=zcS (V:=w3) W.heap.size (.slice none 0 0) (.slice none 0 0) (.slice none 0 0) (.slice none 0 0) (.slice none 0 0);refine waY (v:=.tuple #[.agg zb1,.bool false]) (by rw[zay rfl];unfold zb1;go_simp) rfl ?_
    exact⟨hr.to_below' HS.out.be,.inl ⟨fun h=>h.2.2 ew,rfl⟩⟩
   ·have qw:((wkW (zao L):Int)==0)=false:=by rw[wbE];omega
    have HF3:=waV (zdD g);have HLd:=waV (zcH HS.out.f.lies)
    go_wp2_with (first|(refine zai (by rfl) 66 _ rfl (zaX g) _ 0 rfl underlying66 rfl HF3.out HLd.out ?_)|fail)
    have hz3:=HS.out.be.size;refine(HTm.out g _ _ _ HG.out.mi HG.out.ho HG.out.mo hmi hho hmo _ HS.out.be).mono ?_;rintro e w4 ⟨v0,v1,v3,rfl,o0,o1,o3,hb4⟩;replace HS:=waV (HS.out.below hb4);obtain⟨S0,d0,rfl⟩:=zaB o0;obtain⟨S1,d1,rfl⟩:=zaB o1;obtain⟨S3,d3,rfl⟩:=zaB o3;have O0:=waV (zap o0 hz3);have O1:=waV (zap o1 hz3);have O3:=waV (zap o3 hz3);clear o0 o1 o3 hb4 HLd HF3 HTm qd qw hz3;go_wp2_with fail;have hbA:Below w4.heap.size w4 (w4.alloc (.cells #[.slice S0 (zab 0 59 (zaG (zdq (zao L))) true).length d0,.slice S1 (zab 0 23 (zaG (zbn (zao L))) true).length d1,.slice none 0 0,.slice S3 (zab 1 12 (zaG (za5 (zao L))) true).length d3,.slice none 0 0] 24)):=(waC _ _).alloc (waJ _) _;have hC:(w4.alloc (.cells #[.slice S0 (zab 0 59 (zaG (zdq (zao L))) true).length d0,.slice S1 (zab 0 23 (zaG (zbn (zao L))) true).length d1,.slice none 0 0,.slice S3 (zab 1 12 (zaG (za5 (zao L))) true).length d3,.slice none 0 0] 24)).heap[w4.heap.size]?=some (.cells #[.slice S0 (zab 0 59 (zaG (zdq (zao L))) true).length d0,.slice S1 (zab 0 23 (zaG (zbn (zao L))) true).length d1,.slice none 0 0,.slice S3 (zab 1 12 (zaG (za5 (zao L))) true).length d3,.slice none 0 0] 24 (0,0)):=World.alloc_heap_new _ _;have hW4:W.heap.size<w4.heap.size:=(waL.1 HS.out.r).1;generalize (w4.alloc (.cells #[.slice S0 (zab 0 59 (zaG (zdq (zao L))) true).length d0,.slice S1 (zab 0 23 (zaG (zbn (zao L))) true).length d1,.slice none 0 0,.slice S3 (zab 1 12 (zaG (za5 (zao L))) true).length d3,.slice none 0 0] 24))=X4 at *;replace HS:=waV (HS.out.below hbA);replace O0:=waV (zae O0.out hbA);replace O1:=waV (zae O1.out hbA);replace O3:=waV (zae O3.out hbA);clear hbA;generalize w4.heap.size=cb at *;have hz4:=HS.out.be.size;refine(H2.out _ HS.out.be).mono ?_;rintro e X5 ⟨v2,rfl,o2,hq⟩;replace HS:=waV (HS.out.below hq);replace O0:=waV (zae O0.out hq);replace O1:=waV (zae O1.out hq);replace O3:=waV (zae O3.out hq);replace hC:=(hq.block _ (waL.1 hC).1).trans hC;obtain⟨S2,d2,rfl⟩:=zaB o2;have O2:=waV (zap o2 hz4);clear hq o2 H2 hz4;go_wp2_with fail;refine(HSu.out _).mono ?_;rintro e X6 ⟨rfl,rfl⟩;go_wp2_with fail;have hz5:=HS.out.be.size;refine(H4.out _ HS.out.be).mono ?_;rintro e X6 ⟨v4,rfl,o4,hq⟩;replace HS:=waV (HS.out.below hq);replace O0:=waV (zae O0.out hq);replace O1:=waV (zae O1.out hq);replace O2:=waV (zae O2.out hq);replace O3:=waV (zae O3.out hq);replace hC:=(hq.block _ (waL.1 hC).1).trans hC;obtain⟨S4,d4,rfl⟩:=zaB o4;have O4:=waV (zap o4 hz5);clear hq o4 H4 hz5;have hcl:=(waL.1 hC).1;have hcf:∀i,X6.frozen? ⟨cb,i,none⟩=false:=fun i=>by simp[World.frozen?,hC]
    have z0:X6.cell? ⟨cb,0,none⟩=some (.slice S0 (zab 0 59 (zaG (zdq (zao L))) true).length d0):=by rw[World.cell?_of_heap hC];rfl
    have z1:X6.cell? ⟨cb,1,none⟩=some (.slice S1 (zab 0 23 (zaG (zbn (zao L))) true).length d1):=by rw[World.cell?_of_heap hC];rfl
    have z2:X6.cell? ⟨cb,2,none⟩=some (.slice none 0 0):=by rw[World.cell?_of_heap hC];rfl
    have z3:X6.cell? ⟨cb,3,none⟩=some (.slice S3 (zab 1 12 (zaG (za5 (zao L))) true).length d3):=by rw[World.cell?_of_heap hC];rfl
    have z4:X6.cell? ⟨cb,4,none⟩=some (.slice none 0 0):=by rw[World.cell?_of_heap hC];rfl
    have hne:¬cb=W.heap.size:=by omega
    have hne':¬W.heap.size=cb:=by omega
    have HC:=waV hC;obtain⟨hy,hf,hl⟩:=HS.out.line;have y0:=hy 0 dQ;have y1:=hy 1 dQ;have y2:=hy 2 dQ;have y3:=hy 3 dQ;have y4:=hy 4 dQ;clear hy hC;go_wp2_with fail;refine waY (v:=.tuple #[.agg #[(.slice S0 (zab 0 59 (zaG (zdq (zao L))) true).length d0),(.slice S1 (zab 0 23 (zaG (zbn (zao L))) true).length d1),(.slice S2 (zab 1 31 (zaG (zij (zao L))) false).length d2),(.slice S3 (zab 1 12 (zaG (za5 (zao L))) true).length d3),(.slice S4 (zab 0 6 (zaG (zcQ (wkW (zao L)))) false).length d4)],.bool true]) (by rw[zay rfl];go_simp) rfl ?_
    have h1:RlS (·=cb) X6 ((X6.setCell ⟨cb,2,none⟩ (.slice S2 (zab 1 31 (zaG (zij (zao L))) false).length d2)).setCell ⟨cb,4,none⟩ (.slice S4 (zab 0 6 (zaG (zcQ (wkW (zao L)))) false).length d4)):=((RlS.refl (·=cb) X6).set ⟨cb,2,none⟩ _ rfl).set ⟨cb,4,none⟩ _ rfl;have hb1:=h1.to_below' HS.out.be oQ;have hr7:=(h1.block _ (waL.1 HS.out.r).1 hne').trans HS.out.r;have S1':=zbZ HC.out;have Q0:=zav O0.out h1 S1';have Q1:=zav O1.out h1 S1';have Q2:=zav O2.out h1 S1';have Q3:=zav O3.out h1 S1';have Q4:=zav O4.out h1 S1';generalize ((X6.setCell ⟨cb,2,none⟩ (.slice S2 (zab 1 31 (zaG (zij (zao L))) false).length d2)).setCell ⟨cb,4,none⟩ (.slice S4 (zab 0 6 (zaG (zcQ (wkW (zao L)))) false).length d4))=X7 at *;have h2:=zcS (V:=X7) W.heap.size (.slice S0 (zab 0 59 (zaG (zdq (zao L))) true).length d0) (.slice S1 (zab 0 23 (zaG (zbn (zao L))) true).length d1) (.slice S2 (zab 1 31 (zaG (zij (zao L))) false).length d2) (.slice S3 (zab 1 12 (zaG (za5 (zao L))) true).length d3) (.slice S4 (zab 0 6 (zaG (zcQ (wkW (zao L)))) false).length d4);have S2':=zbZ hr7;exact⟨h2.to_below' hb1,.inr ⟨⟨han.out,ed,ew⟩,_,rfl,⟨_,_,_,_,_,rfl,zav Q0 h2 S2',zav Q1 h2 S2',zav Q2 h2 S2',zav Q3 h2 S2',zav Q4 h2 S2'⟩⟩⟩
end Go.Proofs.YtgedndlifiihkaaGreatDoor
namespace Go.Proofs.YtgedndlifiihkaaGreatDoor
open Go.Proofs.Tryz
theorem znd {mo:Nat} (h:BdM 1 12 mo) (hm:mo<18446744073709551616):0≤zds mo∧zds mo≤31:=by
 have h0:∀(l:List Nat) (a:Int),0≤a→0≤l.foldl (fun(a:Int) (m:Nat)=>max a (zbw 2000 (m:Int))) a:=by
  intro l;induction l with
  |nil=>intro a ha;exact ha
  |cons b l ih=>intro a ha;exact ih _ (Int.le_trans ha (Int.le_max_left _ _))
 refine⟨h0 _ 0 (Int.le_refl _),?_⟩
 false_or_by_contra
 rename_i hc;obtain⟨m,hmm,hl⟩:=zr8 (mo:=mo) (d:=zds mo) oQ (Int.le_refl _);obtain⟨hk,hb⟩:=zaW.1 hmm;have:=h m hk hb;have:=(zcD (y:=2000) (m:=(m:Int)) oQ oQ).2;omega
theorem zsZ {mo d:Nat} (h:BdM 1 12 mo) (hm:mo<18446744073709551616) (hd:d<18446744073709551616):(bits .andNot .u64 (zaC 1 (zds mo)) (d:Int)==0)=ztC mo d:=by
 obtain⟨l0,l31⟩:=znd h hm;have hs:=zuo 1 (zds mo);obtain⟨s,hs'⟩:∃s:Nat,zaC 1 (zds mo)=(s:Int):=⟨_,(Int.toNat_of_nonneg hs.1).symm⟩;have hb:∀k,k<64→s.testBit k=decide (1≤(k:Int)∧(k:Int)≤zds mo):=fun k hk=>by
  rw[←zba s k hk,←hs',zfZ _ _ _ (by omega) (by omega)]
 have hlt:s<18446744073709551616:=by have:=hs.2;rw[hs'] at this;omega
 rw[hs',zex (c:=mkN (fun k=>s.testBit k&&!d.testBit k) 64) hlt hd (zcU _ 64) (fun k hk=>by rw[za8];simp[hk])]
 rw[waQ,beq_iff_eq];unfold ztC;rw[List.all_eq_true];constructor
 ·intro h0 k hk;have hk:=wbG.1 hk;have h0:mkN (fun k=>s.testBit k&&!d.testBit k) 64=0:=by omega
  have h1:(mkN (fun k=>s.testBit k&&!d.testBit k) 64).testBit k=false:=by rw[h0];exact Nat.zero_testBit k
  rw[za8] at h1;rw[hb k (by omega)] at h1
  simp at h1 ⊢
  by_cases hc:1≤k∧(k:Int)≤zds mo
  ·right;exact h1 oQ oQ hc.2
  ·left;omega
 ·intro ha;have:mkN (fun k=>s.testBit k&&!d.testBit k) 64=0:=by
   refine Nat.eq_of_testBit_eq fun k=>?_
   rw[Nat.zero_testBit,za8]
   by_cases hk:k<64
   ·rw[hb k hk]
    by_cases hc:1≤(k:Int)∧(k:Int)≤zds mo
    ·have:=ha k (wbG.2 oQ);simp at this ⊢;intro _ _ _;rcases this with h|h
     ·omega
     ·exact h
    ·simp[hc]
   ·simp[hk]
  omega
theorem zqY:∀m:Nat,m<128→(zsK (m:Int)==7)=(List.range 7).all fun k=>m.testBit k:=by decide+kernel
theorem zoq {w:Nat} (h:BdM 1 7 w):zcQ w<128:=by
 have:zcQ w<2^7:=Nat.lt_pow_two_of_testBit _ fun k hk=>by
  rw[Bool.eq_false_iff];intro hb;unfold zcQ at hb;rw[za8] at hb;simp at hb;obtain⟨h1,h2⟩:=hb;rw[if_neg (by omega)] at h2
  have:=h k h1 h2.2;omega
 omega
theorem zor {w:Nat} (h:BdM 1 7 w):(zsK (zcQ w:Int)==7)=zee w:=zqY _ (zoq h)
theorem zs0 {d:Nat} (hd:d<18446744073709551616):bits .andNot .u64 (d:Int) 2=(zdr d 1:Int):=zex (b:=2) hd dQ (zfv _ _) fun k hk=>by
 rw[zed _ _ _ hk,show(2:Nat)=2^1 from rfl,Nat.testBit_two_pow]
 by_cases e:k=1
 ·subst e;simp
 ·simp[e,show ¬1=k by omega]
theorem zqZ {d:Nat} (hd:d<18446744073709551616):bits .andNot .u64 (d:Int) 1=(zdr d 0:Int):=zex (b:=1) hd dQ (zfv _ _) fun k hk=>by
 rw[zed _ _ _ hk,show(1:Nat)=2^0 from rfl,Nat.testBit_two_pow]
 by_cases e:k=0
 ·subst e;simp
 ·simp[e,show ¬0=k by omega]
end Go.Proofs.YtgedndlifiihkaaGreatDoor
