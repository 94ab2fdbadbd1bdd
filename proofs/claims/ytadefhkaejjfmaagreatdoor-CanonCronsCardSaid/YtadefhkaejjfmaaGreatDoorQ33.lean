/- A part of the proof: WCst5 WFree RText WShow4 WRfA -/
import Derived.Test.YtadefhkaejjfmaaGreatDoorQ31
import Derived.Test.YtadefhkaejjfmaaGreatDoorQ15
import Derived.Test.YtadefhkaejjfmaaGreatDoorQ22
import Derived.Test.YtadefhkaejjfmaaGreatDoorQ01
import Derived.Test.YtadefhkaejjfmaaGreatDoorQ12
import Derived.Test.YtadefhkaejjfmaaGreatDoorQ18
import Derived.Test.YtadefhkaejjfmaaGreatDoorQ00
import Derived.Lib.ItoaLen
import Derived.Lib.Join
import Derived.Test.YtadefhkaejjfmaaGreatDoorQ29
import Derived.Test.YtadefhkaejjfmaaGreatDoorQ28
import Derived.Test.YtadefhkaejjfmaaGreatDoorQ02
import Derived.Test.YtadefhkaejjfmaaGreatDoorQ07
set_option maxHeartbeats 80000000
set_option maxRecDepth 100000
set_option linter.unusedSimpArgs false
set_option linter.unusedVariables false
namespace Go.Proofs.YtadefhkaejjfmaaGreatDoor
open Go.Proofs.Tryz
open Go.RowKit
open Go.Maps
theorem FaceG.upd {g:Nat→Value} (h:FaceG g) {i:Nat} (hi:i<46) {k:Nat} (hk:k<18446744073709551616):FaceG (updG g i (.int .u64 (k:Int))):=⟨fun j hj=>by
 unfold updG;split
 ·exact⟨k,hk,rfl⟩
 ·exact h.m j hj,by unfold updG;rw[if_neg (by omega)];exact h.a,by unfold updG;rw[if_neg (by omega)];exact h.z,by unfold updG;rw[if_neg (by omega)];exact h.d,by unfold updG;rw[if_neg (by omega)];exact h.e,by unfold updG;rw[if_neg (by omega)];exact h.s⟩
theorem FaceG.updI {g:Nat→Value} (h:FaceG g) {i:Nat} (hi:i=46∨i=47∨i=48) (z:Int):FaceG (updG g i (.int .i64 z)):=⟨fun j hj=>by
 unfold updG;rw[if_neg (by omega)]
 exact h.m j hj,by unfold updG;split;exact⟨_,rfl⟩;exact h.a,by unfold updG;split;exact⟨_,rfl⟩;exact h.z,by unfold updG;split;exact⟨_,rfl⟩;exact h.d,by unfold updG;rw[if_neg (by omega)];exact h.e,by unfold updG;rw[if_neg (by omega)];exact h.s⟩
def shC (a:Nat→Int):Array Value:=#[.int .i64 (a 0),.int .i64 (a 1),.int .i64 (a 2),.int .i64 (a 3),.int .i64 (a 4),.int .i64 (a 5),.int .i64 (a 6),.int .i64 (a 7),.int .i64 (a 8),.int .i64 (a 9)]
structure DaS (W V:World) (fb Bs:Nat) (a:Nat→Int) (g:Nat→Value):Prop where
 f:FaceAt V fb g
 r:RlS (·=fb) W V
 s:V.heap[Bs]?=some (.cells (shC a) 102)
 n:fb≠Bs
section
variable {W V X : World} {fb Bs : Nat} {a : Nat → Int} {g : Nat → Value}
theorem DaS.below (h:DaS W V fb Bs a g) (hb:Below V.heap.size V X):DaS W X fb Bs a g:=⟨h.f.below hb,h.r.below hb h.r.size,(hb.block _ (waL.1 h.s).1).trans h.s,h.n⟩
theorem DaS.drew (h:DaS W V fb Bs a g):DaS W V.drew fb Bs a g:=h.below (waC _ _).drew
theorem DaS.cell (h:DaS W V fb Bs a g) (i:Nat) (hi:i<51):V.cell? ⟨fb,i,none⟩=some (g i):=h.f.cell hi
theorem DaS.nat (h:DaS W V fb Bs a g) (i:Nat) (hi:i<46):V.cell? ⟨fb,i,none⟩=some (.int .u64 (zbD (g i):Int)):=by rw[h.f.cell (by omega),←(h.f.g.nat hi).1]
theorem DaS.shape (h:DaS W V fb Bs a g) (i:Nat) (hi:(shC a)[i]?=some (.int .i64 (a i))):V.cell? ⟨Bs,i,none⟩=some (.int .i64 (a i)):=by simp[World.cell?,h.s,hi]
theorem DaS.set (h:DaS W V fb Bs a g) {i:Nat} (hi:i<51) {v:Value} (hg:FaceG (updG g i v)):DaS W (V.setCell ⟨fb,i,none⟩ v) fb Bs a (updG g i v):=
 ⟨h.f.set hi hg,h.r.set _ _ rfl,(wbJ _ _ _ _ (show Bs≠fb from h.n.symm)).trans h.s,h.n⟩
end
theorem zdZ {a b:Nat} (ha:a<18446744073709551616) (hb:b<18446744073709551616):a|||b<18446744073709551616:=Nat.or_lt_two_pow (n:=64) ha hb
def mkB (x:Int):Nat:=mkN (inL [x]) 64
theorem zck (x:Int):mkB x<18446744073709551616:=zc4 _ 64
theorem zgd {x:Int} (h0:0≤x) (h1:x<64):mkB x=2^x.toNat:=by
 unfold mkB;apply Nat.eq_of_testBit_eq;intro k;rw[zbn,Nat.testBit_two_pow,waQ];simp only[waN,waM];unfold inL;simp;omega
theorem ziC {w:World} {b c:Nat} {x:Int} (hc:w.cell? ⟨b,0,none⟩=some (.int .i64 x)) (hb:b<w.heap.size):Calls prog 114 #[.slice (some ⟨b,0,none⟩) 1 c] w (zb4 (.int .u64 (mkB x:Nat)) w):=
 zdn (some ⟨b,0,none⟩) 1 c [x] w ⟨rfl,fun _=>⟨b,0,rfl,hb,fun i y hy j v hv=>by
  rcases i with _|i
  ·cases hy;rcases j with _|j
   ·cases hv;exact hc
   ·cases hv
  ·cases hy⟩⟩ dQ
theorem zqU (fb:Nat) (g:Nat→Value) (a:Nat→Int) (h1:1970≤a 1) (h2:a 1<2370) (h5:1≤a 5) (h6:a 5≤7) (W:World) (hf:FaceAt W fb g):
 Calls prog 46 #[.pointer (some ⟨fb,0,none⟩),.agg (shC a)] W (fun e W'=>(∃x,e=.returned x)∧RlS (·=fb) W W'∧∃g',FaceAt W' fb g'∧(∀i,i<3→g' i=g i)∧zbD (g' 3)=zbD (g 3)|||mkB (a 2)∧zbD (g' 4)=zbD (g 4)|||mkB (a 3)∧zbD (g' 6)=zbD (g 6)|||mkB (a 5)∧zbD (g' 5)=zbD (g 5)|||mkB (a 4)∧(∀i,7≤i→i<14→zbD (g' i)=zbD (g i)|||(if i=7+((a 1 - 1970) / 64).toNat then 2^((a 1 - 1970)%64).toNat else 0))∧∀z,g 48=.int .i64 z→g' 48=.int .i64 (wrap64 (z+1))):=by
 have HO:=waV (fun b c x (V:World) (hc:V.cell? ⟨b,0,none⟩=some (.int .i64 x)) hb=>ziC (c:=c) hc hb)
 have HF:=waV hf;have HU:=waV (fun a b ha hb=>u64_or_nat a b ha hb)
 have H1:=waV h1;have H2:=waV h2;have H5:=waV h5;have H6:=waV h6;clear hf h1 h2 h5 h6;go_enter func46,ntmps46;unfold shC;go_wp2_with fail;have hHeld:Hid (DaS W (W.alloc (.cells #[.int .i64 (a 0),.int .i64 (a 1),.int .i64 (a 2),.int .i64 (a 3),.int .i64 (a 4),.int .i64 (a 5),.int .i64 (a 6),.int .i64 (a 7),.int .i64 (a 8),.int .i64 (a 9)] 102)) fb W.heap.size a g):=by
  have hb:=(waC _ W).alloc (waJ _) (.cells #[.int .i64 (a 0),.int .i64 (a 1),.int .i64 (a 2),.int .i64 (a 3),.int .i64 (a 4),.int .i64 (a 5),.int .i64 (a 6),.int .i64 (a 7),.int .i64 (a 8),.int .i64 (a 9)] 102);exact⟨HF.out.below hb,(RlS.refl _ W).below hb (waJ _),World.alloc_heap_new W _,by have:=HF.out.lt;omega⟩
 generalize (W.alloc (.cells #[.int .i64 (a 0),.int .i64 (a 1),.int .i64 (a 2),.int .i64 (a 3),.int .i64 (a 4),.int .i64 (a 5),.int .i64 (a 6),.int .i64 (a 7),.int .i64 (a 8),.int .i64 (a 9)] 102))=W0 at *;generalize hBs:W.heap.size=Bs at *;refine zan 11 (fun w'=>Hid (DaS W w' fb Bs a g)) kQ ?_
 replace hHeld:=waV hHeld.out.drew;refine(kP 0 5 (h:=(kP 1 6 (h:=(kP 2 7 (h:=(kR 3 8 (fun w_ hSw_=>hSw_.out.nat 3 dQ) (h:=(kP 4 9 (h:=(kR 5 10 (fun w_ hSw_=>hSw_.out.shape 2 rfl) (h:=?_))))))))))))
 simp only[Act.put,za1,za2,za3];refine zac (i:=6) kQ fun o_ ho_ K_ hK_=>?_
 obtain rfl:=waB ho_;have HK_:=waV hK_;clear hK_ ho_;go_wp2_with fail;have hO:=waV (HO.out W0.heap.size 1 (a 2) (W0.alloc (.cells #[.int .i64 (a 2)] 3)).drew (zaa rfl rfl) (by simp))
 replace hHeld:Hid (DaS W (W0.alloc (.cells #[.int .i64 (a 2)] 3)).drew fb Bs a g):=hHeld.out.below ((waC _ _).alloc (waJ _) _);refine HK_.out _ _ hHeld ?_;clear HK_;refine zac (i:=7) kQ fun o_ ho_ K_ hK_=>?_
 obtain rfl:=waB ho_;have HK_:=waV hK_;clear hK_ ho_;go_wp2_with fail;refine hO.out.mono ?_;rintro e w4 ⟨rfl,rfl⟩;go_wp2_with fail;refine HK_.out _ _ hHeld ?_;clear HK_ hO;generalize (W0.alloc (.cells #[.int .i64 (a 2)] 3)).drew=W1 at *;refine(kP 8 13 (h:=(kP 9 14 (h:=(kP 10 15 (h:=?_))))));simp only[Act.put,za1,za2,za3];refine zag (j:=1) dQ (.inr rfl) dQ kQ ?_;simp only[wbQ,waG,List.length_nil,Nat.reduceAdd,Nat.reduceSub,waZ,wbA];rw[HU.out (zbD (g 3)) (mkB (a 2)) (hHeld.out.f.g.nat (show 3<46 by decide)).2 (zck _)]
 have c0:=hHeld.out.cell 3 dQ;have f0:=hHeld.out.f.frozen 3;have l0:=hHeld.out.f.lt;replace hHeld:=waV (hHeld.out.set (i:=3) dQ (hHeld.out.f.g.upd (i:=3) dQ (k:=zbD (g 3)|||mkB (a 2)) (zdZ (hHeld.out.f.g.nat (show 3<46 by decide)).2 (zck _))))
 obtain⟨g1,hg1⟩:∃G,G=updG g 3 (.int .u64 ((zbD (g 3)|||mkB (a 2):Nat):Int)):=⟨_,rfl⟩
 rw[←hg1] at hHeld;have Hg1:=waV hg1;clear hg1;go_wp2_with fail;clear c0 f0 l0;generalize (W1.setCell _ _)=W2 at *;refine zan 11 (fun w'=>Hid (DaS W w' fb Bs a g1)) kQ ?_
 replace hHeld:=waV hHeld.out.drew;refine(kP 0 16 (h:=(kP 1 17 (h:=(kP 2 18 (h:=(kR 3 19 (fun w_ hSw_=>hSw_.out.nat 4 dQ) (h:=(kP 4 20 (h:=(kR 5 21 (fun w_ hSw_=>hSw_.out.shape 3 rfl) (h:=?_))))))))))))
 simp only[Act.put,za1,za2,za3];refine zac (i:=6) kQ fun o_ ho_ K_ hK_=>?_
 obtain rfl:=waB ho_;have HK_:=waV hK_;clear hK_ ho_;go_wp2_with fail;have hO:=waV (HO.out W2.heap.size 1 (a 3) (W2.alloc (.cells #[.int .i64 (a 3)] 3)).drew (zaa rfl rfl) (by simp))
 replace hHeld:Hid (DaS W (W2.alloc (.cells #[.int .i64 (a 3)] 3)).drew fb Bs a g1):=hHeld.out.below ((waC _ _).alloc (waJ _) _);refine HK_.out _ _ hHeld ?_;clear HK_;refine zac (i:=7) kQ fun o_ ho_ K_ hK_=>?_
 obtain rfl:=waB ho_;have HK_:=waV hK_;clear hK_ ho_;go_wp2_with fail;refine hO.out.mono ?_;rintro e w4 ⟨rfl,rfl⟩;go_wp2_with fail;refine HK_.out _ _ hHeld ?_;clear HK_ hO;generalize (W2.alloc (.cells #[.int .i64 (a 3)] 3)).drew=W3 at *;refine(kP 8 24 (h:=(kP 9 25 (h:=(kP 10 26 (h:=?_))))));simp only[Act.put,za1,za2,za3];refine zag (j:=1) dQ (.inr rfl) dQ kQ ?_;simp only[wbQ,waG,List.length_nil,Nat.reduceAdd,Nat.reduceSub,waZ,wbA];rw[HU.out (zbD (g1 4)) (mkB (a 3)) (hHeld.out.f.g.nat (show 4<46 by decide)).2 (zck _)]
 have c0:=hHeld.out.cell 4 dQ;have f0:=hHeld.out.f.frozen 4;have l0:=hHeld.out.f.lt;replace hHeld:=waV (hHeld.out.set (i:=4) dQ (hHeld.out.f.g.upd (i:=4) dQ (k:=zbD (g1 4)|||mkB (a 3)) (zdZ (hHeld.out.f.g.nat (show 4<46 by decide)).2 (zck _))))
 obtain⟨g2,hg2⟩:∃G,G=updG g1 4 (.int .u64 ((zbD (g1 4)|||mkB (a 3):Nat):Int)):=⟨_,rfl⟩
 rw[←hg2] at hHeld;have Hg2:=waV hg2;clear hg2;go_wp2_with fail;clear c0 f0 l0;generalize (W3.setCell _ _)=W4 at *;refine zan 11 (fun w'=>Hid (DaS W w' fb Bs a g2)) kQ ?_
 replace hHeld:=waV hHeld.out.drew;refine(kP 0 27 (h:=(kP 1 28 (h:=(kP 2 29 (h:=(kR 3 30 (fun w_ hSw_=>hSw_.out.nat 5 dQ) (h:=(kP 4 31 (h:=(kR 5 32 (fun w_ hSw_=>hSw_.out.shape 4 rfl) (h:=?_))))))))))))
 simp only[Act.put,za1,za2,za3];refine zac (i:=6) kQ fun o_ ho_ K_ hK_=>?_
 obtain rfl:=waB ho_;have HK_:=waV hK_;clear hK_ ho_;go_wp2_with fail;have hO:=waV (HO.out W4.heap.size 1 (a 4) (W4.alloc (.cells #[.int .i64 (a 4)] 3)).drew (zaa rfl rfl) (by simp))
 replace hHeld:Hid (DaS W (W4.alloc (.cells #[.int .i64 (a 4)] 3)).drew fb Bs a g2):=hHeld.out.below ((waC _ _).alloc (waJ _) _);refine HK_.out _ _ hHeld ?_;clear HK_;refine zac (i:=7) kQ fun o_ ho_ K_ hK_=>?_
 obtain rfl:=waB ho_;have HK_:=waV hK_;clear hK_ ho_;go_wp2_with fail;refine hO.out.mono ?_;rintro e w4 ⟨rfl,rfl⟩;go_wp2_with fail;refine HK_.out _ _ hHeld ?_;clear HK_ hO;generalize (W4.alloc (.cells #[.int .i64 (a 4)] 3)).drew=W5 at *;refine(kP 8 35 (h:=(kP 9 36 (h:=(kP 10 37 (h:=?_))))));simp only[Act.put,za1,za2,za3];refine zag (j:=1) dQ (.inr rfl) dQ kQ ?_;simp only[wbQ,waG,List.length_nil,Nat.reduceAdd,Nat.reduceSub,waZ,wbA];rw[HU.out (zbD (g2 5)) (mkB (a 4)) (hHeld.out.f.g.nat (show 5<46 by decide)).2 (zck _)]
 have c0:=hHeld.out.cell 5 dQ;have f0:=hHeld.out.f.frozen 5;have l0:=hHeld.out.f.lt;replace hHeld:=waV (hHeld.out.set (i:=5) dQ (hHeld.out.f.g.upd (i:=5) dQ (k:=zbD (g2 5)|||mkB (a 4)) (zdZ (hHeld.out.f.g.nat (show 5<46 by decide)).2 (zck _))))
 obtain⟨g3,hg3⟩:∃G,G=updG g2 5 (.int .u64 ((zbD (g2 5)|||mkB (a 4):Nat):Int)):=⟨_,rfl⟩
 rw[←hg3] at hHeld;have Hg3:=waV hg3;clear hg3;go_wp2_with fail;clear c0 f0 l0;generalize (W5.setCell _ _)=W6 at *;refine zan 11 (fun w'=>Hid (DaS W w' fb Bs a g3)) kQ ?_
 replace hHeld:=waV hHeld.out.drew;refine(kP 0 38 (h:=(kP 1 39 (h:=(kP 2 40 (h:=(kR 3 41 (fun w_ hSw_=>hSw_.out.nat 6 dQ) (h:=(kP 4 42 (h:=(kR 5 43 (fun w_ hSw_=>hSw_.out.shape 5 rfl) (h:=?_))))))))))))
 simp only[Act.put,za1,za2,za3];refine zac (i:=6) kQ fun o_ ho_ K_ hK_=>?_
 obtain rfl:=waB ho_;have HK_:=waV hK_;clear hK_ ho_;go_wp2_with fail;have hO:=waV (HO.out W6.heap.size 1 (a 5) (W6.alloc (.cells #[.int .i64 (a 5)] 3)).drew (zaa rfl rfl) (by simp))
 replace hHeld:Hid (DaS W (W6.alloc (.cells #[.int .i64 (a 5)] 3)).drew fb Bs a g3):=hHeld.out.below ((waC _ _).alloc (waJ _) _);refine HK_.out _ _ hHeld ?_;clear HK_;refine zac (i:=7) kQ fun o_ ho_ K_ hK_=>?_
 obtain rfl:=waB ho_;have HK_:=waV hK_;clear hK_ ho_;go_wp2_with fail;refine hO.out.mono ?_;rintro e w4 ⟨rfl,rfl⟩;go_wp2_with fail;refine HK_.out _ _ hHeld ?_;clear HK_ hO;generalize (W6.alloc (.cells #[.int .i64 (a 5)] 3)).drew=W7 at *;refine(kP 8 46 (h:=(kP 9 47 (h:=(kP 10 48 (h:=?_))))));simp only[Act.put,za1,za2,za3];refine zag (j:=1) dQ (.inr rfl) dQ kQ ?_;simp only[wbQ,waG,List.length_nil,Nat.reduceAdd,Nat.reduceSub,waZ,wbA];rw[HU.out (zbD (g3 6)) (mkB (a 5)) (hHeld.out.f.g.nat (show 6<46 by decide)).2 (zck _)]
 have c0:=hHeld.out.cell 6 dQ;have s1:=hHeld.out.shape 1 rfl;have nB:=hHeld.out.n;have nB2:=hHeld.out.n.symm;have f0:=hHeld.out.f.frozen 6;have l0:=hHeld.out.f.lt;replace hHeld:=waV (hHeld.out.set (i:=6) dQ (hHeld.out.f.g.upd (i:=6) dQ (k:=zbD (g3 6)|||mkB (a 5)) (zdZ (hHeld.out.f.g.nat (show 6<46 by decide)).2 (zck _))))
 obtain⟨g4,hg4⟩:∃G,G=updG g3 6 (.int .u64 ((zbD (g3 6)|||mkB (a 5):Nat):Int)):=⟨_,rfl⟩
 rw[←hg4] at hHeld;have Hg4:=waV hg4;clear hg4;go_wp2_with fail;clear c0 f0 l0;generalize (W7.setCell _ _)=W8 at *;clear s1 nB nB2;obtain⟨X,hX⟩:∃X,X=a 1 - 1970:=⟨_,rfl⟩;have h0:0≤X:=by have:=H1.out;omega
 have h4:X<400:=by have:=H2.out;omega
 have HX:=waV hX;rw[show wrap64 (a 1 - 1970)=X by unfold wrap64;omega]
 clear hX;have q4:¬(X / 64<0):=by omega
 have q5:X / 64<7:=by omega
 have q6:¬(X%64<0):=by omega
 have hi6:7+(X / 64).toNat<46:=by omega
 have c6:=hHeld.out.nat (7+(X / 64).toNat) hi6;have f6:=hHeld.out.f.frozen (7+(X / 64).toNat);have l6:=hHeld.out.f.lt
 go_region
 have hp6:2^(X%64).toNat<2^64:=Nat.pow_lt_pow_right dQ oQ;rw[zm0 (zbD (g4 (7+(X / 64).toNat))) (X%64).toNat (hHeld.out.f.g.nat hi6).2 (by omega)]
 replace hHeld:=waV (hHeld.out.set (i:=7+(X / 64).toNat) oQ (hHeld.out.f.g.upd (i:=7+(X / 64).toNat) hi6 (k:=zbD (g4 (7+(X / 64).toNat))|||2^(X%64).toNat) (zdZ (hHeld.out.f.g.nat hi6).2 hp6)))
 obtain⟨g5,hg5⟩:∃G,G=updG g4 (7+(X / 64).toNat) (.int .u64 ((zbD (g4 (7+(X / 64).toNat))|||2^(X%64).toNat:Nat):Int)):=⟨_,rfl⟩
 rw[←hg5] at hHeld;have Hg5:=waV hg5;have HI6:=waV (show 7≤7+(X / 64).toNat∧7+(X / 64).toNat<14 by omega)
 generalize hi6e:7+(X / 64).toNat=i6 at *;have HI6e:=waV hi6e;clear hp6 hg5 h0 h4 q4 q5 q6 hi6 c6 f6 l6 hi6e;replace hHeld:=waV hHeld.out.drew;generalize (W8.setCell _ _).drew=W10 at *;generalize hy6e:(X%64).toNat=y6 at *;have HY6e:=waV hy6e;clear hy6e;go_wp2_with fail;have k0:0≤a 5:=by have:=H5.out;omega
 have k8:a 5<8:=by have:=H6.out;omega
 refine zan 15 (fun w'=>Hid (DaS W w' fb Bs a g5)) kQ ?_
 replace hHeld:=waV hHeld.out.drew;refine(kP 0 66 (h:=(kP 1 67 (h:=(kR 2 68 (fun w_ hSw_=>hSw_.out.shape 5 rfl) (h:=(kP 3 69 (h:=(kP 4 70 (h:=(kP 5 71 (h:=(kR 6 72 (fun w_ hSw_=>hSw_.out.nat (14+(a 5).toNat) oQ) (h:=(kP 7 73 (h:=(kR 8 74 (fun w_ hSw_=>hSw_.out.shape 6 rfl) (h:=(kP 12 78 (h:=(kP 13 79 (h:=?_))))))))))))))))))))))
 simp only[Act.put,za1,za2,za3];refine zac (i:=9) kQ fun o_ ho_ K_ hK_=>?_
 obtain rfl:=waB ho_;have HK_:=waV hK_;clear hK_ ho_;go_wp2_with fail;have hO:=waV (HO.out W10.heap.size 1 (a 6) (W10.alloc (.cells #[.int .i64 (a 6)] 3)).drew (zaa rfl rfl) (by simp))
 replace hHeld:Hid (DaS W (W10.alloc (.cells #[.int .i64 (a 6)] 3)).drew fb Bs a g5):=hHeld.out.below ((waC _ _).alloc (waJ _) _);refine HK_.out _ _ hHeld ?_;clear HK_;refine zac (i:=10) kQ fun o_ ho_ K_ hK_=>?_
 obtain rfl:=waB ho_;have HK_:=waV hK_;clear hK_ ho_;go_wp2_with fail;refine hO.out.mono ?_;rintro e w4 ⟨rfl,rfl⟩;go_wp2_with fail;refine HK_.out _ _ hHeld ?_;clear HK_ hO;generalize (W10.alloc (.cells #[.int .i64 (a 6)] 3)).drew=W11 at *;refine(kP 11 77 (h:=(kP 14 80 (h:=?_))));simp only[Act.put,za1,za2,za3];refine zag (j:=1) dQ (.inr rfl) dQ kQ ?_;simp only[wbQ,waG,List.length_nil,Nat.reduceAdd,Nat.reduceSub,waZ,wbA];rw[HU.out (zbD (g5 (14+(a 5).toNat))) (mkB (a 6)) (hHeld.out.f.g.nat (show 14+(a 5).toNat<46 by omega)).2 (zck _)]
 have c0:=hHeld.out.cell (14+(a 5).toNat) oQ;have f0:=hHeld.out.f.frozen (14+(a 5).toNat);have l0:=hHeld.out.f.lt;replace hHeld:=waV (hHeld.out.set (i:=14+(a 5).toNat) oQ (hHeld.out.f.g.upd (i:=14+(a 5).toNat) oQ (k:=zbD (g5 (14+(a 5).toNat))|||mkB (a 6)) (zdZ (hHeld.out.f.g.nat (show 14+(a 5).toNat<46 by omega)).2 (zck _))))
 obtain⟨g6,hg6⟩:∃G,G=updG g5 (14+(a 5).toNat) (.int .u64 ((zbD (g5 (14+(a 5).toNat))|||mkB (a 6):Nat):Int)):=⟨_,rfl⟩
 rw[←hg6] at hHeld;have Hg6:=waV hg6;clear hg6;go_wp2_with fail;clear c0 f0 l0;generalize (W11.setCell _ _)=W12 at *;refine zan 15 (fun w'=>Hid (DaS W w' fb Bs a g6)) kQ ?_
 replace hHeld:=waV hHeld.out.drew;refine(kP 0 81 (h:=(kP 1 82 (h:=(kR 2 83 (fun w_ hSw_=>hSw_.out.shape 5 rfl) (h:=(kP 3 84 (h:=(kP 4 85 (h:=(kP 5 86 (h:=(kR 6 87 (fun w_ hSw_=>hSw_.out.nat (22+(a 5).toNat) oQ) (h:=(kP 7 88 (h:=(kR 8 89 (fun w_ hSw_=>hSw_.out.shape 7 rfl) (h:=(kP 12 93 (h:=(kP 13 94 (h:=?_))))))))))))))))))))))
 simp only[Act.put,za1,za2,za3];refine zac (i:=9) kQ fun o_ ho_ K_ hK_=>?_
 obtain rfl:=waB ho_;have HK_:=waV hK_;clear hK_ ho_;go_wp2_with fail;have hO:=waV (HO.out W12.heap.size 1 (a 7) (W12.alloc (.cells #[.int .i64 (a 7)] 3)).drew (zaa rfl rfl) (by simp))
 replace hHeld:Hid (DaS W (W12.alloc (.cells #[.int .i64 (a 7)] 3)).drew fb Bs a g6):=hHeld.out.below ((waC _ _).alloc (waJ _) _);refine HK_.out _ _ hHeld ?_;clear HK_;refine zac (i:=10) kQ fun o_ ho_ K_ hK_=>?_
 obtain rfl:=waB ho_;have HK_:=waV hK_;clear hK_ ho_;go_wp2_with fail;refine hO.out.mono ?_;rintro e w4 ⟨rfl,rfl⟩;go_wp2_with fail;refine HK_.out _ _ hHeld ?_;clear HK_ hO;generalize (W12.alloc (.cells #[.int .i64 (a 7)] 3)).drew=W13 at *;refine(kP 11 92 (h:=(kP 14 95 (h:=?_))));simp only[Act.put,za1,za2,za3];refine zag (j:=1) dQ (.inr rfl) dQ kQ ?_;simp only[wbQ,waG,List.length_nil,Nat.reduceAdd,Nat.reduceSub,waZ,wbA];rw[HU.out (zbD (g6 (22+(a 5).toNat))) (mkB (a 7)) (hHeld.out.f.g.nat (show 22+(a 5).toNat<46 by omega)).2 (zck _)]
 have c0:=hHeld.out.cell (22+(a 5).toNat) oQ;have f0:=hHeld.out.f.frozen (22+(a 5).toNat);have l0:=hHeld.out.f.lt;replace hHeld:=waV (hHeld.out.set (i:=22+(a 5).toNat) oQ (hHeld.out.f.g.upd (i:=22+(a 5).toNat) oQ (k:=zbD (g6 (22+(a 5).toNat))|||mkB (a 7)) (zdZ (hHeld.out.f.g.nat (show 22+(a 5).toNat<46 by omega)).2 (zck _))))
 obtain⟨g7,hg7⟩:∃G,G=updG g6 (22+(a 5).toNat) (.int .u64 ((zbD (g6 (22+(a 5).toNat))|||mkB (a 7):Nat):Int)):=⟨_,rfl⟩
 rw[←hg7] at hHeld;have Hg7:=waV hg7;clear hg7;go_wp2_with fail;clear c0 f0 l0;generalize (W13.setCell _ _)=W14 at *;refine zan 15 (fun w'=>Hid (DaS W w' fb Bs a g7)) kQ ?_
 replace hHeld:=waV hHeld.out.drew;refine(kP 0 96 (h:=(kP 1 97 (h:=(kR 2 98 (fun w_ hSw_=>hSw_.out.shape 5 rfl) (h:=(kP 3 99 (h:=(kP 4 100 (h:=(kP 5 101 (h:=(kR 6 102 (fun w_ hSw_=>hSw_.out.nat (30+(a 5).toNat) oQ) (h:=(kP 7 103 (h:=(kR 8 104 (fun w_ hSw_=>hSw_.out.shape 8 rfl) (h:=(kP 12 108 (h:=(kP 13 109 (h:=?_))))))))))))))))))))))
 simp only[Act.put,za1,za2,za3];refine zac (i:=9) kQ fun o_ ho_ K_ hK_=>?_
 obtain rfl:=waB ho_;have HK_:=waV hK_;clear hK_ ho_;go_wp2_with fail;have hO:=waV (HO.out W14.heap.size 1 (a 8) (W14.alloc (.cells #[.int .i64 (a 8)] 3)).drew (zaa rfl rfl) (by simp))
 replace hHeld:Hid (DaS W (W14.alloc (.cells #[.int .i64 (a 8)] 3)).drew fb Bs a g7):=hHeld.out.below ((waC _ _).alloc (waJ _) _);refine HK_.out _ _ hHeld ?_;clear HK_;refine zac (i:=10) kQ fun o_ ho_ K_ hK_=>?_
 obtain rfl:=waB ho_;have HK_:=waV hK_;clear hK_ ho_;go_wp2_with fail;refine hO.out.mono ?_;rintro e w4 ⟨rfl,rfl⟩;go_wp2_with fail;refine HK_.out _ _ hHeld ?_;clear HK_ hO;generalize (W14.alloc (.cells #[.int .i64 (a 8)] 3)).drew=W15 at *;refine(kP 11 107 (h:=(kP 14 110 (h:=?_))));simp only[Act.put,za1,za2,za3];refine zag (j:=1) dQ (.inr rfl) dQ kQ ?_;simp only[wbQ,waG,List.length_nil,Nat.reduceAdd,Nat.reduceSub,waZ,wbA];rw[HU.out (zbD (g7 (30+(a 5).toNat))) (mkB (a 8)) (hHeld.out.f.g.nat (show 30+(a 5).toNat<46 by omega)).2 (zck _)]
 have c0:=hHeld.out.cell (30+(a 5).toNat) oQ;have f0:=hHeld.out.f.frozen (30+(a 5).toNat);have l0:=hHeld.out.f.lt;replace hHeld:=waV (hHeld.out.set (i:=30+(a 5).toNat) oQ (hHeld.out.f.g.upd (i:=30+(a 5).toNat) oQ (k:=zbD (g7 (30+(a 5).toNat))|||mkB (a 8)) (zdZ (hHeld.out.f.g.nat (show 30+(a 5).toNat<46 by omega)).2 (zck _))))
 obtain⟨g8,hg8⟩:∃G,G=updG g7 (30+(a 5).toNat) (.int .u64 ((zbD (g7 (30+(a 5).toNat))|||mkB (a 8):Nat):Int)):=⟨_,rfl⟩
 rw[←hg8] at hHeld;have Hg8:=waV hg8;clear hg8;go_wp2_with fail;clear c0 f0 l0;generalize (W15.setCell _ _)=W16 at *;refine zan 15 (fun w'=>Hid (DaS W w' fb Bs a g8)) kQ ?_
 replace hHeld:=waV hHeld.out.drew;refine(kP 0 111 (h:=(kP 1 112 (h:=(kR 2 113 (fun w_ hSw_=>hSw_.out.shape 5 rfl) (h:=(kP 3 114 (h:=(kP 4 115 (h:=(kP 5 116 (h:=(kR 6 117 (fun w_ hSw_=>hSw_.out.nat (38+(a 5).toNat) oQ) (h:=(kP 7 118 (h:=(kR 8 119 (fun w_ hSw_=>hSw_.out.shape 9 rfl) (h:=(kP 12 123 (h:=(kP 13 124 (h:=?_))))))))))))))))))))))
 simp only[Act.put,za1,za2,za3];refine zac (i:=9) kQ fun o_ ho_ K_ hK_=>?_
 obtain rfl:=waB ho_;have HK_:=waV hK_;clear hK_ ho_;go_wp2_with fail;have hO:=waV (HO.out W16.heap.size 1 (a 9) (W16.alloc (.cells #[.int .i64 (a 9)] 3)).drew (zaa rfl rfl) (by simp))
 replace hHeld:Hid (DaS W (W16.alloc (.cells #[.int .i64 (a 9)] 3)).drew fb Bs a g8):=hHeld.out.below ((waC _ _).alloc (waJ _) _);refine HK_.out _ _ hHeld ?_;clear HK_;refine zac (i:=10) kQ fun o_ ho_ K_ hK_=>?_
 obtain rfl:=waB ho_;have HK_:=waV hK_;clear hK_ ho_;go_wp2_with fail;refine hO.out.mono ?_;rintro e w4 ⟨rfl,rfl⟩;go_wp2_with fail;refine HK_.out _ _ hHeld ?_;clear HK_ hO;generalize (W16.alloc (.cells #[.int .i64 (a 9)] 3)).drew=W17 at *;refine(kP 11 122 (h:=(kP 14 125 (h:=?_))));simp only[Act.put,za1,za2,za3];refine zag (j:=1) dQ (.inr rfl) dQ kQ ?_;simp only[wbQ,waG,List.length_nil,Nat.reduceAdd,Nat.reduceSub,waZ,wbA];rw[HU.out (zbD (g8 (38+(a 5).toNat))) (mkB (a 9)) (hHeld.out.f.g.nat (show 38+(a 5).toNat<46 by omega)).2 (zck _)]
 have c0:=hHeld.out.cell (38+(a 5).toNat) oQ;have f0:=hHeld.out.f.frozen (38+(a 5).toNat);have l0:=hHeld.out.f.lt;obtain⟨z,hz⟩:=hHeld.out.f.g.d;have c48:W17.cell? ⟨fb,48,none⟩=some (.int .i64 z):=by rw[hHeld.out.cell 48 (by decide),hz]
 have f48:=hHeld.out.f.frozen 48;have n48:¬(38+(a 5).toNat=48):=by omega
 have n84:¬(48=38+(a 5).toNat):=by omega
 have Hz:=waV hz;clear hz;replace hHeld:=waV (hHeld.out.set (i:=38+(a 5).toNat) oQ (hHeld.out.f.g.upd (i:=38+(a 5).toNat) oQ (k:=zbD (g8 (38+(a 5).toNat))|||mkB (a 9)) (zdZ (hHeld.out.f.g.nat (show 38+(a 5).toNat<46 by omega)).2 (zck _))))
 obtain⟨g9,hg9⟩:∃G,G=updG g8 (38+(a 5).toNat) (.int .u64 ((zbD (g8 (38+(a 5).toNat))|||mkB (a 9):Nat):Int)):=⟨_,rfl⟩
 rw[←hg9] at hHeld;have Hg9:=waV hg9;clear hg9;go_wp2_with fail
 (try simp only[Exit.inBlock,Exit.then])
 refine⟨rfl,_,results_none rfl _ _ _,?_⟩;have e39:=hHeld.out.set (i:=48) dQ (v:=.int .i64 (wrap64 (z+1))) (hHeld.out.f.g.updI (.inr (.inr rfl)) _);refine⟨⟨_,rfl⟩,e39.r,_,e39.f,?_,?_,?_,?_,?_,?_,?_⟩
 ·intro i hi;have:=HI6.out;rw[Hg9.out,Hg8.out,Hg7.out,Hg6.out,Hg5.out,Hg4.out,Hg3.out,Hg2.out,Hg1.out];unfold updG
  repeat rw[if_neg (by omega)]
 ·have:=HI6.out;rw[Hg9.out,Hg8.out,Hg7.out,Hg6.out,Hg5.out,Hg4.out,Hg3.out,Hg2.out,Hg1.out];unfold updG
  (repeat rw[if_neg (by omega)])
  rw[if_pos rfl];rfl
 ·have:=HI6.out;have e:g1 4=g 4:=by rw[Hg1.out];rfl
  rw[Hg9.out,Hg8.out,Hg7.out,Hg6.out,Hg5.out,Hg4.out,Hg3.out,Hg2.out,e];unfold updG
  (repeat rw[if_neg (by omega)])
  rw[if_pos rfl];rfl
 ·have:=HI6.out;have e:g3 6=g 6:=by rw[Hg3.out,Hg2.out,Hg1.out];rfl
  rw[Hg9.out,Hg8.out,Hg7.out,Hg6.out,Hg5.out,Hg4.out,e];unfold updG
  (repeat rw[if_neg (by omega)])
  rw[if_pos rfl];rfl
 ·have:=HI6.out;have e:g2 5=g 5:=by rw[Hg2.out,Hg1.out];rfl
  rw[Hg9.out,Hg8.out,Hg7.out,Hg6.out,Hg5.out,Hg4.out,Hg3.out,e];unfold updG
  (repeat rw[if_neg (by omega)])
  rw[if_pos rfl];rfl
 ·intro i hi1 hi2;have:=HI6.out;have e:g4 i=g i:=by
   rw[Hg4.out,Hg3.out,Hg2.out,Hg1.out];unfold updG
   repeat rw[if_neg (by omega)]
  have e1:updG g9 48 (.int .i64 (wrap64 (z+1))) i=g5 i:=by
   rw[Hg9.out,Hg8.out,Hg7.out,Hg6.out];unfold updG
   repeat rw[if_neg (by omega)]
  rw[e1,Hg5.out,←HX.out,HI6e.out,HY6e.out];unfold updG
  by_cases h:i=i6
  ·rw[if_pos h,if_pos h,←h,e];rfl
  ·rw[if_neg h,if_neg h,e,Nat.or_zero]
 ·intro x hx;have:=HI6.out;have e:g8 48=g 48:=by
   rw[Hg8.out,Hg7.out,Hg6.out,Hg5.out,Hg4.out,Hg3.out,Hg2.out,Hg1.out];unfold updG
   repeat rw[if_neg (by omega)]
  rw[Hz.out,hx] at e
  injection e with _ e
  rw[e];unfold updG;rw[if_pos rfl]
theorem zqV (fb:Nat) (g:Nat→Value) (n:Int) (h0:0≤n) (h1:n<146097) (W:World) (hf:FaceAt W fb g):
 Calls prog 46 #[.pointer (some ⟨fb,0,none⟩),shV n] W (fun e W'=>(∃x,e=.returned x)∧RlS (·=fb) W W'∧∃g',FaceAt W' fb g'∧DateR n g g'):=by
 have hb:=za6 h0 h1;have hw:=zct n;obtain⟨_,_,_,_,y0,y1⟩:=ze0 h0 h1;refine(zqU fb g (shN n (yD n) (mD n) (dD n)) y0 (show yD n<2370 by omega) hw.1 hw.2 W hf).mono ?_
 rintro e W' ⟨h1,h2,g',h3,h4,h5,h6,h7,h9,h10,h8⟩;refine⟨h1,h2,g',h3,h4,h5.trans ?_,h6.trans ?_,h7.trans ?_,h8,h9.trans ?_,fun i hi1 hi2=>h10 i hi1 hi2⟩
 ·rw[show shN n (yD n) (mD n) (dD n) 2=mD n from rfl,zgd (by omega) (by omega)]
 ·rw[show shN n (yD n) (mD n) (dD n) 3=dD n from rfl,zgd (by omega) (by omega)]
 ·rw[show shN n (yD n) (mD n) (dD n) 5=wdD n from rfl,zgd (by omega) (by omega)]
 ·rw[show shN n (yD n) (mD n) (dD n) 4=bkD n from rfl,zgd (by unfold bkD;omega) (by unfold bkD;omega)]
end Go.Proofs.YtadefhkaejjfmaaGreatDoor
namespace Go.Proofs.YtadefhkaejjfmaaGreatDoor
open Go.Proofs.Tryz
theorem zcl {W V:World} {b lo hi B:Nat} {t:TypeId} {v:Value} (h:Boxed W b t v) (hr:Rl lo hi B W V) (hf:b<lo∨hi≤b):Boxed V b t v:=hr.block b _ h hf (.inr rfl)
theorem RlS.rl00 {S:Nat→Prop} {X Y Z:World} {B:Nat} (h:RlS S X Y) (hr:Rl 0 0 B Y Z) (hB:X.heap.size≤B):RlS S X Z:=
 ⟨hr.os.trans h.os,hr.tape.trans h.tape,hr.output.trans h.output,waW h.size hr.size,fun k hk hn=>by
  have hlt:k<Y.heap.size:=waD hk h.size;rw[hr.block k _ (wbI hlt) (.inr (waK _)) (.inl (by omega)),←h.block k hk hn,wbI hlt]⟩
section
variable {P : Program} {ops : Array Oper} {Q : Exit → Act → World → Prop} {l' n : Nat}
def zge (o:Oper):Bool:=match o.op with
 | .defer _=>false
 |_=>true
theorem zl8 {row:String} {args:Array Value} {w:World} {R:Value→World→Prop} (h:Rows P row args w R):RowsIn (Fence.wide.inRound l') n P row args w R:=by
 intro c cs _;obtain⟨v,w',r,s⟩:=h c cs;exact⟨v,w',r,stepsIn_wide.2 s⟩
theorem zl9 {o:Oper} {a:Act} {w:World} {K:Act→World→Prop} (hd:zge o=true) (h:o.wp P a w K Q):o.wpIn (Fence.wide.inRound l') n P a w K Q:=by
 have e:Oper.semAt (Fence.wide.inRound l').round a.eval o=execOp a.eval o:=Oper.semAt_eq _ _ _ fun c hc=>by
  unfold zge at hd;rw[hc] at hd;cases hd
 refine⟨fun _ _=>trivial,?_⟩
 rw[e];unfold Oper.wp at h;generalize (execOp a.eval o).run P w=r at *;cases r with
 |ok x w'=>
  cases x<;>simp only[Oper.upon,Oper.uponIn] at h ⊢<;>
   first
    |exact h
    |exact⟨fun g=>(by cases g),zaj h⟩
    |exact⟨fun g=>(by cases g),zl8 h⟩
 |halt x w'=>cases x<;>simp only[Oper.upon,Oper.uponIn] at h ⊢<;>exact h
theorem zma {i:Nat} {K:Act→World→Prop} {a:Act} {w:World} (hd:ops.all zge=true) (hQ:¬LetsOut Q) (h:wpOp P ops Q i K a w):wpOpIn (Fence.wide.inRound l') n P ops Q i K a w:=by
 unfold wpOp at h;unfold wpOpIn;split
 ·rename_i e;rw[e] at h;exact h
 ·rename_i o e;rw[e] at h;dsimp only at h;have hdo:zge o=true:=by
   obtain⟨hi,rfl⟩:=waL.1 e;exact Array.all_eq_true.1 hd i hi
  split
  ·rename_i hw;rw[if_pos hw] at h;rcases h with h|h
   ·exact zl9 hdo h
   ·exact absurd h.2 hQ
  ·rename_i hw;rw[if_neg hw] at h;exact⟨fun _ _=>trivial,h⟩
theorem zgu {md:Region.Mode} (hd:ops.all zge=true) (hQ:¬LetsOut Q):∀(fuel:Nat) (L:Array Bool) (a:Act) (w:World),wpAny P md ops Q fuel L a w→wpAnyIn (Fence.wide.inRound l') n P md ops Q fuel L a w
 |0,_,_,_,h=>h
 |fuel+1,L,a,w,h=>⟨h.1,fun i hi=>zma hd hQ (wpOp_mono (fun a' w' h'=>zgu hd hQ fuel _ a' w' h') (h.2 i hi))⟩
theorem zbv {id:Nat} {a:Act} {w:World} (k:Nat) (S:World→Prop) (hm:P.follows .mixedOrders=true) (hd:ops.all zge=true) (hQ:¬LetsOut Q) (h:zcu P .any ops Q S k ops.size (Array.replicate ops.size false) a w.drew):(Code.region id ops true).wpIn (Fence.wide.inRound l') n P Q a w:=
 wpIn_region_any hm (zgu hd hQ _ _ _ _ (zf2 _ _ _ _ h))
end
end Go.Proofs.YtadefhkaejjfmaaGreatDoor
namespace Go.Proofs.YtadefhkaejjfmaaGreatDoor
open Go.Proofs.Tryz
open Go.RowKit
open Go.Proofs.YtadefhkaejjfmaaGreatDoor
theorem zuU {n:Int} (h:-9223372036854775808≤n∧n≤9223372036854775807):(Lib.itoa n).length≤21:=Lib.itoa_length_le n h.1 h.2
def stT (s:Int):List UInt8:=if s=1 then [] else 47::Lib.itoa s
def zhF (i:It):List UInt8:=if i.k=0 then 42::stT i.s else if i.k=1 then Lib.itoa i.f else if i.k=2 then Lib.itoa i.f++45::(Lib.itoa i.t++stT i.s) else []
def zdB (l:List It):List UInt8:=Lib.join (l.map zhF) [44]
def zk1 (r:List (List It)):List UInt8:=Lib.join (r.map zdB) [32]
theorem znd (l:List (List UInt8)) (sep:List UInt8) (n:Nat) (h:∀x∈l,x.length≤n):(Lib.join l sep).length≤l.length * (n+sep.length):=by
 cases l with
 |nil=>simp [Lib.join,List.intercalate]
 |cons a l=>
  rw[Lib.join_cons];have ha:=h a (by simp)
  have:(Lib.joinTail sep l).length≤l.length * (n+sep.length):=by
   have hl:∀x∈l,x.length≤n:=fun x hx=>h x (List.mem_cons_of_mem _ hx)
   clear h;unfold Lib.joinTail;induction l with
   |nil=>simp
   |cons b l ih=>
    have:=ih (fun x hx=>hl x (List.mem_cons_of_mem _ hx))
    have hb:=hl b (by simp)
    simp only[List.map_cons,List.flatten_cons,waF,waG,Nat.succ_mul];omega
  simp only[waF,waG,Nat.succ_mul];omega
def zev (l:Nat→List It):List (List It):=(List.range 5).map l
end Go.Proofs.YtadefhkaejjfmaaGreatDoor
namespace Go.Proofs.YtadefhkaejjfmaaGreatDoor
open Go.Proofs.Tryz
open Go.RowKit
abbrev strV (l:List UInt8):Value:=.string ⟨l.toArray⟩
theorem zgf (sep:ByteArray) (bk o c:Nat) (xs:List ByteArray) (w:World) (hcells:∀(j:Nat) x,xs[j]?=some x→w.cell? ⟨bk,o+j,none⟩=some (.string x)) (hbk:bk<w.heap.size) (hN:xs.length≤140737488355328) (hcap:xs.length≤c)
 (hlen:(Lib.join (xs.map (·.data.toList)) sep.data.toList).length≤140737488355328):
 Calls prog 135 #[.string sep,.slice (some ⟨bk,o,none⟩) xs.length c] w (Ret (strV (Lib.join (xs.map (·.data.toList)) sep.data.toList)) w):=by
 have H:=waV (Tryz.strings_Join bk o c xs sep w hcells hbk hN hcap hlen);clear hcells hlen;go_enter func135,ntmps135;go_wp2_with fail;refine H.out.mono ?_;rintro e w1 ⟨rfl,hb1⟩;go_wp2;go_ret;exact⟨rfl,hb1⟩
abbrev Pow (w:World):Prop:=Lib.TabIs prog w "internal/strconv.uint64pow10" .u64 Lib.pow10Tab
theorem zc0 {P:Program} {nm:String} {k:IntKind} {zs:List Int} {w w':World} (h:Lib.TabIs P w nm k zs) (hb:Below w.heap.size w w'):Lib.TabIs P w' nm k zs:=by
 unfold Lib.TabIs World.var? at *;cases hg:P.globalNamed nm with
 |none=>rw [hg] at h;cases h
 |some g=>
  rw[hg] at h;simp only[Option.bind_some] at h ⊢;cases hw:w.heap[g]? with
  |none=>rw [hw] at h;cases h
  |some o=>
   have hlt:g<w.heap.size:=(waL.1 hw).1;rw[hb.block g hlt];exact h
theorem zs0 (n:Int) (h:zsN n) (w:World) (hw:Pow w):Calls prog 266 #[.int .i64 n] w (Ret (strV (Lib.itoa n)) w):=by
 refine(Tryz.strconv_Itoa n h.1 h.2 w hw).mono ?_;rintro e w' ⟨rfl,k,os,rfl⟩;refine⟨rfl,⟨rfl,rfl,rfl,by simp[Go.Sort.grow,World.drewN],fun i hi=>?_⟩⟩
 have:i<(w.drewN k).heap.size:=hi;show((w.drewN k).heap++os)[i]?=_;rw[Array.getElem?_append_left this];rfl
theorem zqW {i:It} (h:i.wf):(zhF i).length≤100:=by
 obtain⟨_,h1,h2,h3⟩:=h;have l1:=Lib.itoa_length_le i.f h1.1 h1.2;have l2:=Lib.itoa_length_le i.t h2.1 h2.2;have l3:=Lib.itoa_length_le i.s h3.1 h3.2;unfold zhF stT;split
 ·split<;>simp<;>omega
 ·split
  ·omega
  ·split
   ·split<;>simp<;>omega
   ·simp
theorem zhG {n:Int} (h:zsN n):(zcS (Lib.itoa n)).size≤21:=by rw[zoU];exact zuU h
theorem zfb (sep a b:ByteArray) (bk:Nat) (w:World) (h0:w.cell? ⟨bk,0,none⟩=some (.string a)) (h1:w.cell? ⟨bk,1,none⟩=some (.string b)) (hs:sep.size≤1000) (ha:a.size≤1000) (hb:b.size≤1000):
 Calls prog 135 #[.string sep,.slice (some ⟨bk,0,none⟩) 2 2] w (Ret (.string (a++sep++b)) w):=by
 have e:Lib.join ([a,b].map (·.data.toList)) sep.data.toList=a.data.toList++sep.data.toList++b.data.toList:=by simp[Lib.join,List.intercalate]
 have hl:∀x:ByteArray,x.data.toList.length=x.size:=fun x=>Array.length_toList
 have h:=zgf sep bk 0 2 [a,b] w (fun j x hx=>by
  rcases j with _|_|j
  ·simp at hx;subst hx;exact h0
  ·simp at hx;subst hx;exact h1
  ·simp at hx) (waR w _ h0) (show 2≤140737488355328 by omega) (waJ 2) (by rw[e];simp only[waF,hl];omega)
 rw[e] at h;have e2:Ret (.string (a++sep++b)) w=Ret (strV (a.data.toList++sep.data.toList++b.data.toList)) w:=by
  have e3:a++sep++b=⟨(a.data.toList++sep.data.toList++b.data.toList).toArray⟩:=by apply ByteArray.ext;simp
  rw[e3]
 rw[e2];exact h
theorem zhH (n:Int) (h:zsN n) (w:World) (hw:Pow w):Calls prog 266 #[.int .i64 n] w (Ret (.string (zcS (Lib.itoa n))) w):=zs0 n h w hw
theorem zqX (i:It) (h:i.wf) (w:World) (hw:Pow w):Calls prog 227 #[.agg #[.int .i64 i.k,.int .i64 i.f,.int .i64 i.t,.int .i64 i.s]] w (Ret (.string (zcS (zhF i))) w):=by
 obtain⟨hk,hf,ht,hs⟩:=h;have HF:=waV (fun W (hb:Below w.heap.size w W)=>zhH i.f hf W (zc0 hw hb))
 have HT:=waV (fun W (hb:Below w.heap.size w W)=>zhH i.t ht W (zc0 hw hb))
 have HSt:=waV (fun W (hb:Below w.heap.size w W)=>zhH i.s hs W (zc0 hw hb))
 have zf:=zhG hf;have zt:=zhG ht;have zs:=zhG hs;clear hk hf ht hs hw;have df:=zdm (Lib.itoa i.f);have dt:=zdm (Lib.itoa i.t);have ds:=zdm (Lib.itoa i.s);obtain⟨Sf,hSf⟩:∃S,S=zcS (Lib.itoa i.f):=⟨_,rfl⟩;obtain⟨St,hSt⟩:∃S,S=zcS (Lib.itoa i.t):=⟨_,rfl⟩;obtain⟨Ss,hSs⟩:∃S,S=zcS (Lib.itoa i.s):=⟨_,rfl⟩;rw[←hSf] at HF zf df;rw[←hSt] at HT zt dt;rw[←hSs] at HSt zs ds;have DF:=waV df;have DT:=waV dt;have DS:=waV ds;clear hSf hSt hSs df dt ds;have HE:Hid (∀S:ByteArray,S.data.toList=zhF i→Ending.returned (.string S)=.returned (.string (zcS (zhF i)))):=fun S h=>ziN h
 unfold zhF stT at HE;have hr1:(0:Int)<1:=by omega
 go_enter func227,ntmps227;go_wp2_with fail
 ·go_ret;exact⟨HE.out _ (by(simp only[beq_iff_eq,wbE,bne_iff_ne,bne_eq_false_iff_eq,ne_eq] at *);(repeat' split)<;>first|(exfalso;omega)|simp[zfU,DF.out,DT.out,DS.out]),by exact zaI⟩
 ·refine(HSt.out _ (by exact zaI)).mono ?_
  rintro e w1 ⟨rfl,hb1⟩;have hb2:Below w.heap.size w w1:=((waC _ w).alloc (waJ _) _).trans (hb1.mono (by simp))
  have hz2:=hb2.size;go_wp2_with fail;refine(zfb _ _ _ _ _ (zaa rfl rfl) (zaa rfl rfl) dQ dQ oQ).mono ?_;rintro e w2 ⟨rfl,hb3⟩;have hb4:Below w.heap.size w w2:=(hb2.alloc hz2 _).trans (hb3.mono (by simp;omega))
  go_wp2;go_ret;exact⟨HE.out _ (by(simp only[beq_iff_eq,wbE,bne_iff_ne,bne_eq_false_iff_eq,ne_eq] at *);(repeat' split)<;>first|(exfalso;omega)|simp[zfU,DF.out,DT.out,DS.out]),hb4⟩
 ·refine(HF.out _ (by exact zaI)).mono ?_
  rintro e w1 ⟨rfl,hb1⟩;have hb2:Below w.heap.size w w1:=((waC _ w).alloc (waJ _) _).trans (hb1.mono (by simp))
  go_wp2;go_ret;exact⟨HE.out _ (by(simp only[beq_iff_eq,wbE,bne_iff_ne,bne_eq_false_iff_eq,ne_eq] at *);(repeat' split)<;>first|(exfalso;omega)|simp[zfU,DF.out,DT.out,DS.out]),hb2⟩
 ·generalize hW:World.alloc w _=W1;have hb0:Below w.heap.size w W1:=by rw[←hW];exact(waC _ w).alloc (waJ _) _
  have hz0:=hb0.size;have c1:W1.cell? ⟨w.heap.size,1,none⟩=some (.int .i64 i.f):=by subst hW;simp[go_sem]
  have c2:W1.cell? ⟨w.heap.size,2,none⟩=some (.int .i64 i.t):=by subst hW;simp[go_sem]
  have c3:W1.cell? ⟨w.heap.size,3,none⟩=some (.int .i64 i.s):=by subst hW;simp[go_sem]
  have HW:Hid (∀w',Below W1.heap.size W1 w'→Below w.heap.size w w'):=fun w' h=>zai hb0 h hz0
  have HS:Hid (∀w',Below W1.heap.size W1 w'→Below W1.heap.size W1 w'∧w'.cell? ⟨w.heap.size,1,none⟩=some (.int .i64 i.f)∧w'.cell? ⟨w.heap.size,2,none⟩=some (.int .i64 i.t)):=fun w' h=>
   ⟨h,(⟨w',h⟩:Ext W1).cell c1,(⟨w',h⟩:Ext W1).cell c2⟩
  have HC3:Hid (∀w',Below W1.heap.size W1 w'→w'.cell? ⟨w.heap.size,3,none⟩=some (.int .i64 i.s)):=fun w' h=>(⟨w',h⟩:Ext W1).cell c3
  clear hW c1 c2 c3
  go_region_held3 (fun w'=>Below W1.heap.size W1 w'∧w'.cell? ⟨w.heap.size,1,none⟩=some (.int .i64 i.f)∧w'.cell? ⟨w.heap.size,2,none⟩=some (.int .i64 i.t))
   (first|(go_split_ands;refine HS.out _ (zai ?_ hb1 ?_);assumption;exact Below.size (by assumption))|(go_split_ands;refine HS.out _ (Below.alloc ?_ ?_ _);assumption;exact Below.size (by assumption))|(refine HS.out _ ?_;exact Below.drew (waC _ _))|(refine HS.out _ ?_;exact zas (waC _ _) _))
   (first|(go_at_call 266;(with_reducible refine(HF.out _ ?_).mono ?_);(focus (go_split_ands;exact HW.out _ (by assumption)));rintro e w1 ⟨rfl,hb1⟩)|(go_at_call 266;(with_reducible refine(HT.out _ ?_).mono ?_);(focus (go_split_ands;exact HW.out _ (by assumption)));rintro e w1 ⟨rfl,hb1⟩)|(go_at_call 135;(refine(zfb _ _ _ _ _ (zaa rfl rfl) (zaa rfl rfl) (by decide) (by omega) (by omega)).mono ?_);rintro e w1 ⟨rfl,hb1⟩))
  have hbA:Below w.heap.size w w1:=HW.out _ (by go_split_ands;assumption)
  have c3:=HC3.out w1 (by go_split_ands;assumption)
  have hzA:=hbA.size;clear hb1;simp only[Exit.inBlock,Exit.then]
  go_wp2_with fail
  ·go_ret;exact⟨HE.out _ (by(simp only[beq_iff_eq,wbE,bne_iff_ne,bne_eq_false_iff_eq,ne_eq] at *);(repeat' split)<;>first|(exfalso;omega)|simp[zfU,DF.out,DT.out,DS.out]),hbA⟩
  ·refine(HSt.out _ hbA).mono ?_;rintro e w2 ⟨rfl,hb2⟩;have hbB:=zai hbA hb2 hzA;have hzB:=hbB.size;go_wp2_with fail;refine(zfb _ _ _ _ _ (zaa rfl rfl) (zaa rfl rfl) (by decide) (by rw[ByteArray.size_append,ByteArray.size_append];have:(⟨#[45]⟩:ByteArray).size=1:=rfl;omega) (by omega)).mono ?_
   rintro e w3 ⟨rfl,hb3⟩;have hb4:Below w.heap.size w w3:=(hbB.alloc hzB _).trans (hb3.mono (by simp;omega))
   go_wp2;go_ret;exact⟨HE.out _ (by(simp only[beq_iff_eq,wbE,bne_iff_ne,bne_eq_false_iff_eq,ne_eq] at *);(repeat' split)<;>first|(exfalso;omega)|simp[zfU,DF.out,DT.out,DS.out]),hb4⟩
 ·go_ret;exact⟨HE.out _ (by(simp only[beq_iff_eq,wbE,bne_iff_ne,bne_eq_false_iff_eq,ne_eq] at *);(repeat' split)<;>first|(exfalso;omega)|simp[zfU,DF.out,DT.out,DS.out]),by exact zaI⟩
end Go.Proofs.YtadefhkaejjfmaaGreatDoor
