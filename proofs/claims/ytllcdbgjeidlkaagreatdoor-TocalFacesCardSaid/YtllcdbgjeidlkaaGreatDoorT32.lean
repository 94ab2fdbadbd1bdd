/- A part of the proof: WCst5 -/
import Derived.Test.YtllcdbgjeidlkaaGreatDoorT30
import Derived.Test.YtllcdbgjeidlkaaGreatDoorT15
import Derived.Test.YtllcdbgjeidlkaaGreatDoorT22
import Derived.Test.YtllcdbgjeidlkaaGreatDoorT01
import Derived.Test.YtllcdbgjeidlkaaGreatDoorT12
import Derived.Test.YtllcdbgjeidlkaaGreatDoorT18
import Derived.Test.YtllcdbgjeidlkaaGreatDoorT00
import Derived.Lib.ItoaLen
import Derived.Lib.Join
import Derived.Test.YtllcdbgjeidlkaaGreatDoorT29
import Derived.Test.YtllcdbgjeidlkaaGreatDoorT28
import Derived.Test.YtllcdbgjeidlkaaGreatDoorT02
import Derived.Test.YtllcdbgjeidlkaaGreatDoorT07
import Derived.Test.YtllcdbgjeidlkaaGreatDoorT08
set_option maxHeartbeats 80000000
set_option maxRecDepth 100000
set_option linter.unusedSimpArgs false
set_option linter.unusedVariables false
namespace Go.Proofs.YtllcdbgjeidlkaaGreatDoor
open Go.Proofs.Tryz
open Go.RowKit
open Go.Maps
theorem FaceG.upd {g:Nat->Value} (h:FaceG g) {i:Nat} (hi:i<46) {k:Nat} (hk:k<18446744073709551616):FaceG (updG g i (.int .u64 (k:Int))):=⟨fun j hj=>by
 unfold updG;split
 ·exact⟨k,hk,rfl⟩
 ·exact h.m j hj,by unfold updG;rw[if_neg (by omega)];exact h.a,by unfold updG;rw[if_neg (by omega)];exact h.z,by unfold updG;rw[if_neg (by omega)];exact h.d,by unfold updG;rw[if_neg (by omega)];exact h.e,by unfold updG;rw[if_neg (by omega)];exact h.s⟩
theorem FaceG.updI {g:Nat->Value} (h:FaceG g) {i:Nat} (hi:i=46\/i=47\/i=48) (z:Int):FaceG (updG g i (.int .i64 z)):=⟨fun j hj=>by
 unfold updG;rw[if_neg (by omega)]
 exact h.m j hj,by unfold updG;split;exact⟨_,rfl⟩;exact h.a,by unfold updG;split;exact⟨_,rfl⟩;exact h.z,by unfold updG;split;exact⟨_,rfl⟩;exact h.d,by unfold updG;rw[if_neg (by omega)];exact h.e,by unfold updG;rw[if_neg (by omega)];exact h.s⟩
def shC (a:Nat->Int):Array Value:=#[.int .i64 (a 0),.int .i64 (a 1),.int .i64 (a 2),.int .i64 (a 3),.int .i64 (a 4),.int .i64 (a 5),.int .i64 (a 6),.int .i64 (a 7),.int .i64 (a 8),.int .i64 (a 9)]
structure DaS (W V:World) (fb Bs:Nat) (a:Nat->Int) (g:Nat->Value):Prop where
 f:FaceAt V fb g
 r:RlS (·=fb) W V
 s:V.heap[Bs]?=some (.cells (shC a) 81)
 n:fb≠Bs
section
variable {W V X : World} {fb Bs : Nat} {a : Nat -> Int} {g : Nat -> Value}
theorem DaS.below (h:DaS W V fb Bs a g) (hb:Below V.heap.size V X):DaS W X fb Bs a g:=⟨h.f.below hb,h.r.below hb h.r.size,(hb.block _ (waL.1 h.s).1).trans h.s,h.n⟩
theorem DaS.drew (h:DaS W V fb Bs a g):DaS W V.drew fb Bs a g:=h.below (waC _ _).drew
theorem DaS.cell (h:DaS W V fb Bs a g) (i:Nat) (hi:i<51):V.cell? ⟨fb,i,none⟩=some (g i):=h.f.cell hi
theorem DaS.nat (h:DaS W V fb Bs a g) (i:Nat) (hi:i<46):V.cell? ⟨fb,i,none⟩=some (.int .u64 (zbs (g i):Int)):=by rw[h.f.cell (by omega),<-(h.f.g.nat hi).1]
theorem DaS.shape (h:DaS W V fb Bs a g) (i:Nat) (hi:(shC a)[i]?=some (.int .i64 (a i))):V.cell? ⟨Bs,i,none⟩=some (.int .i64 (a i)):=by simp[World.cell?,h.s,hi]
theorem DaS.set (h:DaS W V fb Bs a g) {i:Nat} (hi:i<51) {v:Value} (hg:FaceG (updG g i v)):DaS W (V.setCell ⟨fb,i,none⟩ v) fb Bs a (updG g i v):=
 ⟨h.f.set hi hg,h.r.set _ _ rfl,(wbJ _ _ _ _ (show Bs≠fb from h.n.symm)).trans h.s,h.n⟩
end
theorem zgd {a b:Nat} (ha:a<18446744073709551616) (hb:b<18446744073709551616):a|||b<18446744073709551616:=Nat.or_lt_two_pow (n:=64) ha hb
def mkB (x:Int):Nat:=mkN (inL [x]) 64
theorem zcA (x:Int):mkB x<18446744073709551616:=zcI _ 64
theorem zjn {x:Int} (h0:0<=x) (h1:x<64):mkB x=2^x.toNat:=by
 unfold mkB;apply Nat.eq_of_testBit_eq;intro k;rw[za9,Nat.testBit_two_pow,waQ];simp only[waN,waM];unfold inL;simp;omega
theorem zor {w:World} {b c:Nat} {x:Int} (hc:w.cell? ⟨b,0,none⟩=some (.int .i64 x)) (hb:b<w.heap.size):Calls prog 86 #[.slice (some ⟨b,0,none⟩) 1 c] w (zbE (.int .u64 (mkB x:Nat)) w):=
 zfD (some ⟨b,0,none⟩) 1 c [x] w ⟨rfl,fun _=>⟨b,0,rfl,hb,fun i y hy j v hv=>by
  rcases i with _|i
  ·cases hy;rcases j with _|j
   ·cases hv;exact hc
   ·cases hv
  ·cases hy⟩⟩ dQ
theorem zq3 (fb:Nat) (g:Nat->Value) (a:Nat->Int) (h1:1970<=a 1) (h2:a 1<2370) (h5:1<=a 5) (h6:a 5<=7) (W:World) (hf:FaceAt W fb g):
 Calls prog 33 #[.pointer (some ⟨fb,0,none⟩),.agg (shC a)] W (fun e W'=>(∃x,e=.returned x)/\RlS (·=fb) W W'/\∃g',FaceAt W' fb g'/\(∀i,i<3->g' i=g i)/\zbs (g' 3)=zbs (g 3)|||mkB (a 2)/\zbs (g' 4)=zbs (g 4)|||mkB (a 3)/\zbs (g' 6)=zbs (g 6)|||mkB (a 5)/\zbs (g' 5)=zbs (g 5)|||mkB (a 4)/\(∀i,7<=i->i<14->zbs (g' i)=zbs (g i)|||(if i=7+((a 1 - 1970) / 64).toNat then 2^((a 1 - 1970)%64).toNat else 0))/\∀z,g 48=.int .i64 z->g' 48=.int .i64 (wrap64 (z+1))):=by
 have HO:=waV (fun b c x (V:World) (hc:V.cell? ⟨b,0,none⟩=some (.int .i64 x)) hb=>zor (c:=c) hc hb)
 have HF:=waV hf;have HU:=waV (fun a b ha hb=>u64_or_nat a b ha hb)
 have H1:=waV h1;have H2:=waV h2;have H5:=waV h5;have H6:=waV h6;clear hf h1 h2 h5 h6;go_enter func33,ntmps33;unfold shC;go_wp2_with fail;have hHeld:Hid (DaS W (W.alloc (.cells #[.int .i64 (a 0),.int .i64 (a 1),.int .i64 (a 2),.int .i64 (a 3),.int .i64 (a 4),.int .i64 (a 5),.int .i64 (a 6),.int .i64 (a 7),.int .i64 (a 8),.int .i64 (a 9)] 81)) fb W.heap.size a g):=by
  have hb:=(waC _ W).alloc (waJ _) (.cells #[.int .i64 (a 0),.int .i64 (a 1),.int .i64 (a 2),.int .i64 (a 3),.int .i64 (a 4),.int .i64 (a 5),.int .i64 (a 6),.int .i64 (a 7),.int .i64 (a 8),.int .i64 (a 9)] 81);exact⟨HF.out.below hb,(RlS.refl _ W).below hb (waJ _),World.alloc_heap_new W _,by have:=HF.out.lt;omega⟩
 generalize (W.alloc (.cells #[.int .i64 (a 0),.int .i64 (a 1),.int .i64 (a 2),.int .i64 (a 3),.int .i64 (a 4),.int .i64 (a 5),.int .i64 (a 6),.int .i64 (a 7),.int .i64 (a 8),.int .i64 (a 9)] 81))=W0 at *;generalize hBs:W.heap.size=Bs at *;refine zaB 11 (fun w'=>Hid (DaS W w' fb Bs a g)) kQ ?_
 replace hHeld:=waV hHeld.out.drew;refine(kP 0 5 (h:=(kP 1 6 (h:=(kP 2 7 (h:=(kR 3 8 (fun w_ hSw_=>hSw_.out.nat 3 dQ) (h:=(kP 4 9 (h:=(kR 5 10 (fun w_ hSw_=>hSw_.out.shape 2 rfl) (h:=?_))))))))))))
 simp only[Act.put,zbj,zbk,zbl];refine zac (i:=6) kQ fun o_ ho_ K_ hK_=>?_
 obtain rfl:=waB ho_;have HK_:=waV hK_;clear hK_ ho_;go_wp2_with fail;have hO:=waV (HO.out W0.heap.size 1 (a 2) (W0.alloc (.cells #[.int .i64 (a 2)] 3)).drew (zaa rfl rfl) (by simp))
 replace hHeld:Hid (DaS W (W0.alloc (.cells #[.int .i64 (a 2)] 3)).drew fb Bs a g):=hHeld.out.below ((waC _ _).alloc (waJ _) _);refine HK_.out _ _ hHeld ?_;clear HK_;refine zac (i:=7) kQ fun o_ ho_ K_ hK_=>?_
 obtain rfl:=waB ho_;have HK_:=waV hK_;clear hK_ ho_;go_wp2_with fail;refine hO.out.mono ?_;rintro e w4 ⟨rfl,rfl⟩;go_wp2_with fail;refine HK_.out _ _ hHeld ?_;clear HK_ hO;generalize (W0.alloc (.cells #[.int .i64 (a 2)] 3)).drew=W1 at *;refine(kP 8 13 (h:=(kP 9 14 (h:=(kP 10 15 (h:=?_))))));simp only[Act.put,zbj,zbk,zbl];refine zaq (j:=1) dQ (.inr rfl) dQ kQ ?_;simp only[wbQ,waG,List.length_nil,Nat.reduceAdd,Nat.reduceSub,waZ,wbA];rw[HU.out (zbs (g 3)) (mkB (a 2)) (hHeld.out.f.g.nat (show 3<46 by decide)).2 (zcA _)]
 have c0:=hHeld.out.cell 3 dQ;have f0:=hHeld.out.f.frozen 3;have l0:=hHeld.out.f.lt;replace hHeld:=waV (hHeld.out.set (i:=3) dQ (hHeld.out.f.g.upd (i:=3) dQ (k:=zbs (g 3)|||mkB (a 2)) (zgd (hHeld.out.f.g.nat (show 3<46 by decide)).2 (zcA _))))
 obtain⟨g1,hg1⟩:∃G,G=updG g 3 (.int .u64 ((zbs (g 3)|||mkB (a 2):Nat):Int)):=⟨_,rfl⟩
 rw[<-hg1] at hHeld;have Hg1:=waV hg1;clear hg1;go_wp2_with fail;clear c0 f0 l0;generalize (W1.setCell _ _)=W2 at *;refine zaB 11 (fun w'=>Hid (DaS W w' fb Bs a g1)) kQ ?_
 replace hHeld:=waV hHeld.out.drew;refine(kP 0 16 (h:=(kP 1 17 (h:=(kP 2 18 (h:=(kR 3 19 (fun w_ hSw_=>hSw_.out.nat 4 dQ) (h:=(kP 4 20 (h:=(kR 5 21 (fun w_ hSw_=>hSw_.out.shape 3 rfl) (h:=?_))))))))))))
 simp only[Act.put,zbj,zbk,zbl];refine zac (i:=6) kQ fun o_ ho_ K_ hK_=>?_
 obtain rfl:=waB ho_;have HK_:=waV hK_;clear hK_ ho_;go_wp2_with fail;have hO:=waV (HO.out W2.heap.size 1 (a 3) (W2.alloc (.cells #[.int .i64 (a 3)] 3)).drew (zaa rfl rfl) (by simp))
 replace hHeld:Hid (DaS W (W2.alloc (.cells #[.int .i64 (a 3)] 3)).drew fb Bs a g1):=hHeld.out.below ((waC _ _).alloc (waJ _) _);refine HK_.out _ _ hHeld ?_;clear HK_;refine zac (i:=7) kQ fun o_ ho_ K_ hK_=>?_
 obtain rfl:=waB ho_;have HK_:=waV hK_;clear hK_ ho_;go_wp2_with fail;refine hO.out.mono ?_;rintro e w4 ⟨rfl,rfl⟩;go_wp2_with fail;refine HK_.out _ _ hHeld ?_;clear HK_ hO;generalize (W2.alloc (.cells #[.int .i64 (a 3)] 3)).drew=W3 at *;refine(kP 8 24 (h:=(kP 9 25 (h:=(kP 10 26 (h:=?_))))));simp only[Act.put,zbj,zbk,zbl];refine zaq (j:=1) dQ (.inr rfl) dQ kQ ?_;simp only[wbQ,waG,List.length_nil,Nat.reduceAdd,Nat.reduceSub,waZ,wbA];rw[HU.out (zbs (g1 4)) (mkB (a 3)) (hHeld.out.f.g.nat (show 4<46 by decide)).2 (zcA _)]
 have c0:=hHeld.out.cell 4 dQ;have f0:=hHeld.out.f.frozen 4;have l0:=hHeld.out.f.lt;replace hHeld:=waV (hHeld.out.set (i:=4) dQ (hHeld.out.f.g.upd (i:=4) dQ (k:=zbs (g1 4)|||mkB (a 3)) (zgd (hHeld.out.f.g.nat (show 4<46 by decide)).2 (zcA _))))
 obtain⟨g2,hg2⟩:∃G,G=updG g1 4 (.int .u64 ((zbs (g1 4)|||mkB (a 3):Nat):Int)):=⟨_,rfl⟩
 rw[<-hg2] at hHeld;have Hg2:=waV hg2;clear hg2;go_wp2_with fail;clear c0 f0 l0;generalize (W3.setCell _ _)=W4 at *;refine zaB 11 (fun w'=>Hid (DaS W w' fb Bs a g2)) kQ ?_
 replace hHeld:=waV hHeld.out.drew;refine(kP 0 27 (h:=(kP 1 28 (h:=(kP 2 29 (h:=(kR 3 30 (fun w_ hSw_=>hSw_.out.nat 5 dQ) (h:=(kP 4 31 (h:=(kR 5 32 (fun w_ hSw_=>hSw_.out.shape 4 rfl) (h:=?_))))))))))))
 simp only[Act.put,zbj,zbk,zbl];refine zac (i:=6) kQ fun o_ ho_ K_ hK_=>?_
 obtain rfl:=waB ho_;have HK_:=waV hK_;clear hK_ ho_;go_wp2_with fail;have hO:=waV (HO.out W4.heap.size 1 (a 4) (W4.alloc (.cells #[.int .i64 (a 4)] 3)).drew (zaa rfl rfl) (by simp))
 replace hHeld:Hid (DaS W (W4.alloc (.cells #[.int .i64 (a 4)] 3)).drew fb Bs a g2):=hHeld.out.below ((waC _ _).alloc (waJ _) _);refine HK_.out _ _ hHeld ?_;clear HK_;refine zac (i:=7) kQ fun o_ ho_ K_ hK_=>?_
 obtain rfl:=waB ho_;have HK_:=waV hK_;clear hK_ ho_;go_wp2_with fail;refine hO.out.mono ?_;rintro e w4 ⟨rfl,rfl⟩;go_wp2_with fail;refine HK_.out _ _ hHeld ?_;clear HK_ hO;generalize (W4.alloc (.cells #[.int .i64 (a 4)] 3)).drew=W5 at *;refine(kP 8 35 (h:=(kP 9 36 (h:=(kP 10 37 (h:=?_))))));simp only[Act.put,zbj,zbk,zbl];refine zaq (j:=1) dQ (.inr rfl) dQ kQ ?_;simp only[wbQ,waG,List.length_nil,Nat.reduceAdd,Nat.reduceSub,waZ,wbA];rw[HU.out (zbs (g2 5)) (mkB (a 4)) (hHeld.out.f.g.nat (show 5<46 by decide)).2 (zcA _)]
 have c0:=hHeld.out.cell 5 dQ;have f0:=hHeld.out.f.frozen 5;have l0:=hHeld.out.f.lt;replace hHeld:=waV (hHeld.out.set (i:=5) dQ (hHeld.out.f.g.upd (i:=5) dQ (k:=zbs (g2 5)|||mkB (a 4)) (zgd (hHeld.out.f.g.nat (show 5<46 by decide)).2 (zcA _))))
 obtain⟨g3,hg3⟩:∃G,G=updG g2 5 (.int .u64 ((zbs (g2 5)|||mkB (a 4):Nat):Int)):=⟨_,rfl⟩
 rw[<-hg3] at hHeld;have Hg3:=waV hg3;clear hg3;go_wp2_with fail;clear c0 f0 l0;generalize (W5.setCell _ _)=W6 at *;refine zaB 11 (fun w'=>Hid (DaS W w' fb Bs a g3)) kQ ?_
 replace hHeld:=waV hHeld.out.drew;refine(kP 0 38 (h:=(kP 1 39 (h:=(kP 2 40 (h:=(kR 3 41 (fun w_ hSw_=>hSw_.out.nat 6 dQ) (h:=(kP 4 42 (h:=(kR 5 43 (fun w_ hSw_=>hSw_.out.shape 5 rfl) (h:=?_))))))))))))
 simp only[Act.put,zbj,zbk,zbl];refine zac (i:=6) kQ fun o_ ho_ K_ hK_=>?_
 obtain rfl:=waB ho_;have HK_:=waV hK_;clear hK_ ho_;go_wp2_with fail;have hO:=waV (HO.out W6.heap.size 1 (a 5) (W6.alloc (.cells #[.int .i64 (a 5)] 3)).drew (zaa rfl rfl) (by simp))
 replace hHeld:Hid (DaS W (W6.alloc (.cells #[.int .i64 (a 5)] 3)).drew fb Bs a g3):=hHeld.out.below ((waC _ _).alloc (waJ _) _);refine HK_.out _ _ hHeld ?_;clear HK_;refine zac (i:=7) kQ fun o_ ho_ K_ hK_=>?_
 obtain rfl:=waB ho_;have HK_:=waV hK_;clear hK_ ho_;go_wp2_with fail;refine hO.out.mono ?_;rintro e w4 ⟨rfl,rfl⟩;go_wp2_with fail;refine HK_.out _ _ hHeld ?_;clear HK_ hO;generalize (W6.alloc (.cells #[.int .i64 (a 5)] 3)).drew=W7 at *;refine(kP 8 46 (h:=(kP 9 47 (h:=(kP 10 48 (h:=?_))))));simp only[Act.put,zbj,zbk,zbl];refine zaq (j:=1) dQ (.inr rfl) dQ kQ ?_;simp only[wbQ,waG,List.length_nil,Nat.reduceAdd,Nat.reduceSub,waZ,wbA];rw[HU.out (zbs (g3 6)) (mkB (a 5)) (hHeld.out.f.g.nat (show 6<46 by decide)).2 (zcA _)]
 have c0:=hHeld.out.cell 6 dQ;have s1:=hHeld.out.shape 1 rfl;have nB:=hHeld.out.n;have nB2:=hHeld.out.n.symm;have f0:=hHeld.out.f.frozen 6;have l0:=hHeld.out.f.lt;replace hHeld:=waV (hHeld.out.set (i:=6) dQ (hHeld.out.f.g.upd (i:=6) dQ (k:=zbs (g3 6)|||mkB (a 5)) (zgd (hHeld.out.f.g.nat (show 6<46 by decide)).2 (zcA _))))
 obtain⟨g4,hg4⟩:∃G,G=updG g3 6 (.int .u64 ((zbs (g3 6)|||mkB (a 5):Nat):Int)):=⟨_,rfl⟩
 rw[<-hg4] at hHeld;have Hg4:=waV hg4;clear hg4;go_wp2_with fail;clear c0 f0 l0;generalize (W7.setCell _ _)=W8 at *;clear s1 nB nB2;obtain⟨X,hX⟩:∃X,X=a 1 - 1970:=⟨_,rfl⟩;have h0:0<=X:=by have:=H1.out;omega
 have h4:X<400:=by have:=H2.out;omega
 have HX:=waV hX;rw[show wrap64 (a 1 - 1970)=X by unfold wrap64;omega]
 clear hX;have q4:¬(X / 64<0):=by omega
 have q5:X / 64<7:=by omega
 have q6:¬(X%64<0):=by omega
 have hi6:7+(X / 64).toNat<46:=by omega
 have c6:=hHeld.out.nat (7+(X / 64).toNat) hi6;have f6:=hHeld.out.f.frozen (7+(X / 64).toNat);have l6:=hHeld.out.f.lt
 go_region
 have hp6:2^(X%64).toNat<2^64:=Nat.pow_lt_pow_right dQ oQ;rw[zm6 (zbs (g4 (7+(X / 64).toNat))) (X%64).toNat (hHeld.out.f.g.nat hi6).2 (by omega)]
 replace hHeld:=waV (hHeld.out.set (i:=7+(X / 64).toNat) oQ (hHeld.out.f.g.upd (i:=7+(X / 64).toNat) hi6 (k:=zbs (g4 (7+(X / 64).toNat))|||2^(X%64).toNat) (zgd (hHeld.out.f.g.nat hi6).2 hp6)))
 obtain⟨g5,hg5⟩:∃G,G=updG g4 (7+(X / 64).toNat) (.int .u64 ((zbs (g4 (7+(X / 64).toNat))|||2^(X%64).toNat:Nat):Int)):=⟨_,rfl⟩
 rw[<-hg5] at hHeld;have Hg5:=waV hg5;have HI6:=waV (show 7<=7+(X / 64).toNat/\7+(X / 64).toNat<14 by omega)
 generalize hi6e:7+(X / 64).toNat=i6 at *;have HI6e:=waV hi6e;clear hp6 hg5 h0 h4 q4 q5 q6 hi6 c6 f6 l6 hi6e;replace hHeld:=waV hHeld.out.drew;generalize (W8.setCell _ _).drew=W10 at *;generalize hy6e:(X%64).toNat=y6 at *;have HY6e:=waV hy6e;clear hy6e;go_wp2_with fail;have k0:0<=a 5:=by have:=H5.out;omega
 have k8:a 5<8:=by have:=H6.out;omega
 refine zaB 15 (fun w'=>Hid (DaS W w' fb Bs a g5)) kQ ?_
 replace hHeld:=waV hHeld.out.drew;refine(kP 0 66 (h:=(kP 1 67 (h:=(kR 2 68 (fun w_ hSw_=>hSw_.out.shape 5 rfl) (h:=(kP 3 69 (h:=(kP 4 70 (h:=(kP 5 71 (h:=(kR 6 72 (fun w_ hSw_=>hSw_.out.nat (14+(a 5).toNat) oQ) (h:=(kP 7 73 (h:=(kR 8 74 (fun w_ hSw_=>hSw_.out.shape 6 rfl) (h:=(kP 12 78 (h:=(kP 13 79 (h:=?_))))))))))))))))))))))
 simp only[Act.put,zbj,zbk,zbl];refine zac (i:=9) kQ fun o_ ho_ K_ hK_=>?_
 obtain rfl:=waB ho_;have HK_:=waV hK_;clear hK_ ho_;go_wp2_with fail;have hO:=waV (HO.out W10.heap.size 1 (a 6) (W10.alloc (.cells #[.int .i64 (a 6)] 3)).drew (zaa rfl rfl) (by simp))
 replace hHeld:Hid (DaS W (W10.alloc (.cells #[.int .i64 (a 6)] 3)).drew fb Bs a g5):=hHeld.out.below ((waC _ _).alloc (waJ _) _);refine HK_.out _ _ hHeld ?_;clear HK_;refine zac (i:=10) kQ fun o_ ho_ K_ hK_=>?_
 obtain rfl:=waB ho_;have HK_:=waV hK_;clear hK_ ho_;go_wp2_with fail;refine hO.out.mono ?_;rintro e w4 ⟨rfl,rfl⟩;go_wp2_with fail;refine HK_.out _ _ hHeld ?_;clear HK_ hO;generalize (W10.alloc (.cells #[.int .i64 (a 6)] 3)).drew=W11 at *;refine(kP 11 77 (h:=(kP 14 80 (h:=?_))));simp only[Act.put,zbj,zbk,zbl];refine zaq (j:=1) dQ (.inr rfl) dQ kQ ?_;simp only[wbQ,waG,List.length_nil,Nat.reduceAdd,Nat.reduceSub,waZ,wbA];rw[HU.out (zbs (g5 (14+(a 5).toNat))) (mkB (a 6)) (hHeld.out.f.g.nat (show 14+(a 5).toNat<46 by omega)).2 (zcA _)]
 have c0:=hHeld.out.cell (14+(a 5).toNat) oQ;have f0:=hHeld.out.f.frozen (14+(a 5).toNat);have l0:=hHeld.out.f.lt;replace hHeld:=waV (hHeld.out.set (i:=14+(a 5).toNat) oQ (hHeld.out.f.g.upd (i:=14+(a 5).toNat) oQ (k:=zbs (g5 (14+(a 5).toNat))|||mkB (a 6)) (zgd (hHeld.out.f.g.nat (show 14+(a 5).toNat<46 by omega)).2 (zcA _))))
 obtain⟨g6,hg6⟩:∃G,G=updG g5 (14+(a 5).toNat) (.int .u64 ((zbs (g5 (14+(a 5).toNat))|||mkB (a 6):Nat):Int)):=⟨_,rfl⟩
 rw[<-hg6] at hHeld;have Hg6:=waV hg6;clear hg6;go_wp2_with fail;clear c0 f0 l0;generalize (W11.setCell _ _)=W12 at *;refine zaB 15 (fun w'=>Hid (DaS W w' fb Bs a g6)) kQ ?_
 replace hHeld:=waV hHeld.out.drew;refine(kP 0 81 (h:=(kP 1 82 (h:=(kR 2 83 (fun w_ hSw_=>hSw_.out.shape 5 rfl) (h:=(kP 3 84 (h:=(kP 4 85 (h:=(kP 5 86 (h:=(kR 6 87 (fun w_ hSw_=>hSw_.out.nat (22+(a 5).toNat) oQ) (h:=(kP 7 88 (h:=(kR 8 89 (fun w_ hSw_=>hSw_.out.shape 7 rfl) (h:=(kP 12 93 (h:=(kP 13 94 (h:=?_))))))))))))))))))))))
 simp only[Act.put,zbj,zbk,zbl];refine zac (i:=9) kQ fun o_ ho_ K_ hK_=>?_
 obtain rfl:=waB ho_;have HK_:=waV hK_;clear hK_ ho_;go_wp2_with fail;have hO:=waV (HO.out W12.heap.size 1 (a 7) (W12.alloc (.cells #[.int .i64 (a 7)] 3)).drew (zaa rfl rfl) (by simp))
 replace hHeld:Hid (DaS W (W12.alloc (.cells #[.int .i64 (a 7)] 3)).drew fb Bs a g6):=hHeld.out.below ((waC _ _).alloc (waJ _) _);refine HK_.out _ _ hHeld ?_;clear HK_;refine zac (i:=10) kQ fun o_ ho_ K_ hK_=>?_
 obtain rfl:=waB ho_;have HK_:=waV hK_;clear hK_ ho_;go_wp2_with fail;refine hO.out.mono ?_;rintro e w4 ⟨rfl,rfl⟩;go_wp2_with fail;refine HK_.out _ _ hHeld ?_;clear HK_ hO;generalize (W12.alloc (.cells #[.int .i64 (a 7)] 3)).drew=W13 at *;refine(kP 11 92 (h:=(kP 14 95 (h:=?_))));simp only[Act.put,zbj,zbk,zbl];refine zaq (j:=1) dQ (.inr rfl) dQ kQ ?_;simp only[wbQ,waG,List.length_nil,Nat.reduceAdd,Nat.reduceSub,waZ,wbA];rw[HU.out (zbs (g6 (22+(a 5).toNat))) (mkB (a 7)) (hHeld.out.f.g.nat (show 22+(a 5).toNat<46 by omega)).2 (zcA _)]
 have c0:=hHeld.out.cell (22+(a 5).toNat) oQ;have f0:=hHeld.out.f.frozen (22+(a 5).toNat);have l0:=hHeld.out.f.lt;replace hHeld:=waV (hHeld.out.set (i:=22+(a 5).toNat) oQ (hHeld.out.f.g.upd (i:=22+(a 5).toNat) oQ (k:=zbs (g6 (22+(a 5).toNat))|||mkB (a 7)) (zgd (hHeld.out.f.g.nat (show 22+(a 5).toNat<46 by omega)).2 (zcA _))))
 obtain⟨g7,hg7⟩:∃G,G=updG g6 (22+(a 5).toNat) (.int .u64 ((zbs (g6 (22+(a 5).toNat))|||mkB (a 7):Nat):Int)):=⟨_,rfl⟩
 rw[<-hg7] at hHeld;have Hg7:=waV hg7;clear hg7;go_wp2_with fail;clear c0 f0 l0;generalize (W13.setCell _ _)=W14 at *;refine zaB 15 (fun w'=>Hid (DaS W w' fb Bs a g7)) kQ ?_
 replace hHeld:=waV hHeld.out.drew;refine(kP 0 96 (h:=(kP 1 97 (h:=(kR 2 98 (fun w_ hSw_=>hSw_.out.shape 5 rfl) (h:=(kP 3 99 (h:=(kP 4 100 (h:=(kP 5 101 (h:=(kR 6 102 (fun w_ hSw_=>hSw_.out.nat (30+(a 5).toNat) oQ) (h:=(kP 7 103 (h:=(kR 8 104 (fun w_ hSw_=>hSw_.out.shape 8 rfl) (h:=(kP 12 108 (h:=(kP 13 109 (h:=?_))))))))))))))))))))))
 simp only[Act.put,zbj,zbk,zbl];refine zac (i:=9) kQ fun o_ ho_ K_ hK_=>?_
 obtain rfl:=waB ho_;have HK_:=waV hK_;clear hK_ ho_;go_wp2_with fail;have hO:=waV (HO.out W14.heap.size 1 (a 8) (W14.alloc (.cells #[.int .i64 (a 8)] 3)).drew (zaa rfl rfl) (by simp))
 replace hHeld:Hid (DaS W (W14.alloc (.cells #[.int .i64 (a 8)] 3)).drew fb Bs a g7):=hHeld.out.below ((waC _ _).alloc (waJ _) _);refine HK_.out _ _ hHeld ?_;clear HK_;refine zac (i:=10) kQ fun o_ ho_ K_ hK_=>?_
 obtain rfl:=waB ho_;have HK_:=waV hK_;clear hK_ ho_;go_wp2_with fail;refine hO.out.mono ?_;rintro e w4 ⟨rfl,rfl⟩;go_wp2_with fail;refine HK_.out _ _ hHeld ?_;clear HK_ hO;generalize (W14.alloc (.cells #[.int .i64 (a 8)] 3)).drew=W15 at *;refine(kP 11 107 (h:=(kP 14 110 (h:=?_))));simp only[Act.put,zbj,zbk,zbl];refine zaq (j:=1) dQ (.inr rfl) dQ kQ ?_;simp only[wbQ,waG,List.length_nil,Nat.reduceAdd,Nat.reduceSub,waZ,wbA];rw[HU.out (zbs (g7 (30+(a 5).toNat))) (mkB (a 8)) (hHeld.out.f.g.nat (show 30+(a 5).toNat<46 by omega)).2 (zcA _)]
 have c0:=hHeld.out.cell (30+(a 5).toNat) oQ;have f0:=hHeld.out.f.frozen (30+(a 5).toNat);have l0:=hHeld.out.f.lt;replace hHeld:=waV (hHeld.out.set (i:=30+(a 5).toNat) oQ (hHeld.out.f.g.upd (i:=30+(a 5).toNat) oQ (k:=zbs (g7 (30+(a 5).toNat))|||mkB (a 8)) (zgd (hHeld.out.f.g.nat (show 30+(a 5).toNat<46 by omega)).2 (zcA _))))
 obtain⟨g8,hg8⟩:∃G,G=updG g7 (30+(a 5).toNat) (.int .u64 ((zbs (g7 (30+(a 5).toNat))|||mkB (a 8):Nat):Int)):=⟨_,rfl⟩
 rw[<-hg8] at hHeld;have Hg8:=waV hg8;clear hg8;go_wp2_with fail;clear c0 f0 l0;generalize (W15.setCell _ _)=W16 at *;refine zaB 15 (fun w'=>Hid (DaS W w' fb Bs a g8)) kQ ?_
 replace hHeld:=waV hHeld.out.drew;refine(kP 0 111 (h:=(kP 1 112 (h:=(kR 2 113 (fun w_ hSw_=>hSw_.out.shape 5 rfl) (h:=(kP 3 114 (h:=(kP 4 115 (h:=(kP 5 116 (h:=(kR 6 117 (fun w_ hSw_=>hSw_.out.nat (38+(a 5).toNat) oQ) (h:=(kP 7 118 (h:=(kR 8 119 (fun w_ hSw_=>hSw_.out.shape 9 rfl) (h:=(kP 12 123 (h:=(kP 13 124 (h:=?_))))))))))))))))))))))
 simp only[Act.put,zbj,zbk,zbl];refine zac (i:=9) kQ fun o_ ho_ K_ hK_=>?_
 obtain rfl:=waB ho_;have HK_:=waV hK_;clear hK_ ho_;go_wp2_with fail;have hO:=waV (HO.out W16.heap.size 1 (a 9) (W16.alloc (.cells #[.int .i64 (a 9)] 3)).drew (zaa rfl rfl) (by simp))
 replace hHeld:Hid (DaS W (W16.alloc (.cells #[.int .i64 (a 9)] 3)).drew fb Bs a g8):=hHeld.out.below ((waC _ _).alloc (waJ _) _);refine HK_.out _ _ hHeld ?_;clear HK_;refine zac (i:=10) kQ fun o_ ho_ K_ hK_=>?_
 obtain rfl:=waB ho_;have HK_:=waV hK_;clear hK_ ho_;go_wp2_with fail;refine hO.out.mono ?_;rintro e w4 ⟨rfl,rfl⟩;go_wp2_with fail;refine HK_.out _ _ hHeld ?_;clear HK_ hO;generalize (W16.alloc (.cells #[.int .i64 (a 9)] 3)).drew=W17 at *;refine(kP 11 122 (h:=(kP 14 125 (h:=?_))));simp only[Act.put,zbj,zbk,zbl];refine zaq (j:=1) dQ (.inr rfl) dQ kQ ?_;simp only[wbQ,waG,List.length_nil,Nat.reduceAdd,Nat.reduceSub,waZ,wbA];rw[HU.out (zbs (g8 (38+(a 5).toNat))) (mkB (a 9)) (hHeld.out.f.g.nat (show 38+(a 5).toNat<46 by omega)).2 (zcA _)]
 have c0:=hHeld.out.cell (38+(a 5).toNat) oQ;have f0:=hHeld.out.f.frozen (38+(a 5).toNat);have l0:=hHeld.out.f.lt;obtain⟨z,hz⟩:=hHeld.out.f.g.d;have c48:W17.cell? ⟨fb,48,none⟩=some (.int .i64 z):=by rw[hHeld.out.cell 48 (by decide),hz]
 have f48:=hHeld.out.f.frozen 48;have n48:¬(38+(a 5).toNat=48):=by omega
 have n84:¬(48=38+(a 5).toNat):=by omega
 have Hz:=waV hz;clear hz;replace hHeld:=waV (hHeld.out.set (i:=38+(a 5).toNat) oQ (hHeld.out.f.g.upd (i:=38+(a 5).toNat) oQ (k:=zbs (g8 (38+(a 5).toNat))|||mkB (a 9)) (zgd (hHeld.out.f.g.nat (show 38+(a 5).toNat<46 by omega)).2 (zcA _))))
 obtain⟨g9,hg9⟩:∃G,G=updG g8 (38+(a 5).toNat) (.int .u64 ((zbs (g8 (38+(a 5).toNat))|||mkB (a 9):Nat):Int)):=⟨_,rfl⟩
 rw[<-hg9] at hHeld;have Hg9:=waV hg9;clear hg9;go_wp2_with fail
 (try simp only[Exit.inBlock,Exit.then])
 refine⟨rfl,_,results_none rfl _ _ _,?_⟩;have e39:=hHeld.out.set (i:=48) dQ (v:=.int .i64 (wrap64 (z+1))) (hHeld.out.f.g.updI (.inr (.inr rfl)) _);refine⟨⟨_,rfl⟩,e39.r,_,e39.f,?_,?_,?_,?_,?_,?_,?_⟩
 ·intro i hi;have:=HI6.out;rw[Hg9.out,Hg8.out,Hg7.out,Hg6.out,Hg5.out,Hg4.out,Hg3.out,Hg2.out,Hg1.out];unfold updG
  repeat rw[if_neg (by omega)]
 ·have:=HI6.out;rw[Hg9.out,Hg8.out,Hg7.out,Hg6.out,Hg5.out,Hg4.out,Hg3.out,Hg2.out,Hg1.out];unfold updG
  (repeat rw[if_neg (by omega)])
  rw[if_pos rfl];rfl
 ·have:=HI6.out;have e:g1 4=g 4:=by rw[Hg1.out];rfl
  rw[Hg9.out,Hg8.out,Hg7.out,Hg6.out,Hg5.out,Hg4.out,Hg3.out,Hg2.out,e];unfold updG
  (repeat rw[if_neg (by omega)])
  rw[if_pos rfl];rfl
 ·have:=HI6.out;have e:g3 6=g 6:=by rw[Hg3.out,Hg2.out,Hg1.out];rfl
  rw[Hg9.out,Hg8.out,Hg7.out,Hg6.out,Hg5.out,Hg4.out,e];unfold updG
  (repeat rw[if_neg (by omega)])
  rw[if_pos rfl];rfl
 ·have:=HI6.out;have e:g2 5=g 5:=by rw[Hg2.out,Hg1.out];rfl
  rw[Hg9.out,Hg8.out,Hg7.out,Hg6.out,Hg5.out,Hg4.out,Hg3.out,e];unfold updG
  (repeat rw[if_neg (by omega)])
  rw[if_pos rfl];rfl
 ·intro i hi1 hi2;have:=HI6.out;have e:g4 i=g i:=by
   rw[Hg4.out,Hg3.out,Hg2.out,Hg1.out];unfold updG
   repeat rw[if_neg (by omega)]
  have e1:updG g9 48 (.int .i64 (wrap64 (z+1))) i=g5 i:=by
   rw[Hg9.out,Hg8.out,Hg7.out,Hg6.out];unfold updG
   repeat rw[if_neg (by omega)]
  rw[e1,Hg5.out,<-HX.out,HI6e.out,HY6e.out];unfold updG
  by_cases h:i=i6
  ·rw[if_pos h,if_pos h,<-h,e];rfl
  ·rw[if_neg h,if_neg h,e,Nat.or_zero]
 ·intro x hx;have:=HI6.out;have e:g8 48=g 48:=by
   rw[Hg8.out,Hg7.out,Hg6.out,Hg5.out,Hg4.out,Hg3.out,Hg2.out,Hg1.out];unfold updG
   repeat rw[if_neg (by omega)]
  rw[Hz.out,hx] at e
  injection e with _ e
  rw[e];unfold updG;rw[if_pos rfl]
theorem zq4 (fb:Nat) (g:Nat->Value) (n:Int) (h0:0<=n) (h1:n<146097) (W:World) (hf:FaceAt W fb g):
 Calls prog 33 #[.pointer (some ⟨fb,0,none⟩),shV n] W (fun e W'=>(∃x,e=.returned x)/\RlS (·=fb) W W'/\∃g',FaceAt W' fb g'/\DateR n g g'):=by
 have hb:=zbm h0 h1;have hw:=zeH n;obtain⟨_,_,_,_,y0,y1⟩:=zce h0 h1;refine(zq3 fb g (shN n (yD n) (mD n) (dD n)) y0 (show yD n<2370 by omega) hw.1 hw.2 W hf).mono ?_
 rintro e W' ⟨h1,h2,g',h3,h4,h5,h6,h7,h9,h10,h8⟩;refine⟨h1,h2,g',h3,h4,h5.trans ?_,h6.trans ?_,h7.trans ?_,h8,h9.trans ?_,fun i hi1 hi2=>h10 i hi1 hi2⟩
 ·rw[show shN n (yD n) (mD n) (dD n) 2=mD n from rfl,zjn (by omega) (by omega)]
 ·rw[show shN n (yD n) (mD n) (dD n) 3=dD n from rfl,zjn (by omega) (by omega)]
 ·rw[show shN n (yD n) (mD n) (dD n) 5=wdD n from rfl,zjn (by omega) (by omega)]
 ·rw[show shN n (yD n) (mD n) (dD n) 4=bkD n from rfl,zjn (by unfold bkD;omega) (by unfold bkD;omega)]
end Go.Proofs.YtllcdbgjeidlkaaGreatDoor
namespace Go.Proofs.YtllcdbgjeidlkaaGreatDoor
open Go.Proofs.Tryz
theorem zeA {W V:World} {b lo hi B:Nat} {t:TypeId} {v:Value} (h:Boxed W b t v) (hr:Rl lo hi B W V) (hf:b<lo\/hi<=b):Boxed V b t v:=hr.block b _ h hf (.inr rfl)
theorem RlS.rl00 {S:Nat->Prop} {X Y Z:World} {B:Nat} (h:RlS S X Y) (hr:Rl 0 0 B Y Z) (hB:X.heap.size<=B):RlS S X Z:=
 ⟨hr.os.trans h.os,hr.tape.trans h.tape,hr.output.trans h.output,waW h.size hr.size,fun k hk hn=>by
  have hlt:k<Y.heap.size:=waD hk h.size;rw[hr.block k _ (wbI hlt) (.inr (waK _)) (.inl (by omega)),<-h.block k hk hn,wbI hlt]⟩
section
variable {P : Program} {ops : Array Oper} {Q : Exit -> Act -> World -> Prop} {l' n : Nat}
def zeV (o:Oper):Bool:=match o.op with
 | .defer _=>false
 |_=>true
theorem zlS {row:String} {args:Array Value} {w:World} {R:Value->World->Prop} (h:Rows P row args w R):RowsIn (Fence.wide.inRound l') n P row args w R:=by
 intro c cs _;obtain⟨v,w',r,s⟩:=h c cs;exact⟨v,w',r,stepsIn_wide.2 s⟩
theorem zhf {o:Oper} {a:Act} {w:World} {K:Act->World->Prop} (hd:zeV o=true) (h:o.wp P a w K Q):o.wpIn (Fence.wide.inRound l') n P a w K Q:=by
 have e:Oper.semAt (Fence.wide.inRound l').round a.eval o=execOp a.eval o:=Oper.semAt_eq _ _ _ fun c hc=>by
  unfold zeV at hd;rw[hc] at hd;cases hd
 refine⟨fun _ _=>trivial,?_⟩
 rw[e];unfold Oper.wp at h;generalize (execOp a.eval o).run P w=r at *;cases r with
 |ok x w'=>
  cases x<;>simp only[Oper.upon,Oper.uponIn] at h ⊢<;>
   first
    |exact h
    |exact⟨fun g=>(by cases g),zat h⟩
    |exact⟨fun g=>(by cases g),zlS h⟩
 |halt x w'=>cases x<;>simp only[Oper.upon,Oper.uponIn] at h ⊢<;>exact h
theorem zlT {i:Nat} {K:Act->World->Prop} {a:Act} {w:World} (hd:ops.all zeV=true) (hQ:¬LetsOut Q) (h:wpOp P ops Q i K a w):wpOpIn (Fence.wide.inRound l') n P ops Q i K a w:=by
 unfold wpOp at h;unfold wpOpIn;split
 ·rename_i e;rw[e] at h;exact h
 ·rename_i o e;rw[e] at h;dsimp only at h;have hdo:zeV o=true:=by
   obtain⟨hi,rfl⟩:=waL.1 e;exact Array.all_eq_true.1 hd i hi
  split
  ·rename_i hw;rw[if_pos hw] at h;rcases h with h|h
   ·exact zhf hdo h
   ·exact absurd h.2 hQ
  ·rename_i hw;rw[if_neg hw] at h;exact⟨fun _ _=>trivial,h⟩
theorem zf6 {md:Region.Mode} (hd:ops.all zeV=true) (hQ:¬LetsOut Q):∀(fuel:Nat) (L:Array Bool) (a:Act) (w:World),wpAny P md ops Q fuel L a w->wpAnyIn (Fence.wide.inRound l') n P md ops Q fuel L a w
 |0,_,_,_,h=>h
 |fuel+1,L,a,w,h=>⟨h.1,fun i hi=>zlT hd hQ (wpOp_mono (fun a' w' h'=>zf6 hd hQ fuel _ a' w' h') (h.2 i hi))⟩
theorem zdF (hQ:¬LetsOut Q):∀(l:List Oper) (a:Act) (w:World),l.all zeV=true->wpList P ops Q l a w->wpListIn (Fence.wide.inRound l') n P ops Q l a w
 |[],_,_,_,h=>h
 |o::l,a,w,hd,h=>by
  rw[List.all_cons,waN] at hd;unfold wpList at h;unfold wpListIn;split
  ·rename_i hw;rw[if_pos hw] at h;rcases h with h|h
   ·exact Oper.wpIn_mono (fun a' w' h'=>zdF hQ l a' w' hd.2 h') (zhf hd.1 h)
   ·exact absurd h.2 hQ
  ·rename_i hw;rw[if_neg hw] at h;exact⟨fun _ _=>trivial,zdF hQ l _ w hd.2 h⟩
theorem zfv {id:Nat} {a:Act} {w:World} (k:Nat) (S:World->Prop) (hm:P.follows .mixedOrders=true) (hd:ops.all zeV=true) (hQ:¬LetsOut Q) (h:zcc P .any ops Q S k ops.size (Array.replicate ops.size false) a w.drew):(Code.region id ops true).wpIn (Fence.wide.inRound l') n P Q a w:=
 wpIn_region_any hm (zf6 hd hQ _ _ _ _ (zfN _ _ _ _ h))
end
end Go.Proofs.YtllcdbgjeidlkaaGreatDoor
namespace Go.Proofs.YtllcdbgjeidlkaaGreatDoor
open Go.Proofs.Tryz
open Go.RowKit
open Go.Proofs.YtllcdbgjeidlkaaGreatDoor
theorem zv5 {n:Int} (h:-9223372036854775808<=n/\n<=9223372036854775807):(Lib.itoa n).length<=21:=Lib.itoa_length_le n h.1 h.2
theorem zts (l:List (List UInt8)) (sep:List UInt8) (n:Nat) (h:∀x∈l,x.length<=n):(Lib.join l sep).length<=l.length * (n+sep.length):=by
 cases l with
 |nil=>simp [Lib.join,List.intercalate]
 |cons a l=>
  rw[Lib.join_cons];have ha:=h a (by simp)
  have:(Lib.joinTail sep l).length<=l.length * (n+sep.length):=by
   have hl:∀x∈l,x.length<=n:=fun x hx=>h x (List.mem_cons_of_mem _ hx)
   clear h;unfold Lib.joinTail;induction l with
   |nil=>simp
   |cons b l ih=>
    have:=ih (fun x hx=>hl x (List.mem_cons_of_mem _ hx))
    have hb:=hl b (by simp)
    simp only[List.map_cons,List.flatten_cons,waF,waG,Nat.succ_mul];omega
  simp only[waF,waG,Nat.succ_mul];omega
end Go.Proofs.YtllcdbgjeidlkaaGreatDoor
namespace Go.Proofs.YtllcdbgjeidlkaaGreatDoor
open Go.Proofs.Tryz
open Go.RowKit
abbrev strV (l:List UInt8):Value:=.string ⟨l.toArray⟩
abbrev Pow (w:World):Prop:=Lib.TabIs prog w "internal/strconv.uint64pow10" .u64 Lib.pow10Tab
theorem zdn {P:Program} {nm:String} {k:IntKind} {zs:List Int} {w w':World} (h:Lib.TabIs P w nm k zs) (hb:Below w.heap.size w w'):Lib.TabIs P w' nm k zs:=by
 unfold Lib.TabIs World.var? at *;cases hg:P.globalNamed nm with
 |none=>rw [hg] at h;cases h
 |some g=>
  rw[hg] at h;simp only[Option.bind_some] at h ⊢;cases hw:w.heap[g]? with
  |none=>rw [hw] at h;cases h
  |some o=>
   have hlt:g<w.heap.size:=(waL.1 hw).1;rw[hb.block g hlt];exact h
theorem ztt (n:Int) (h:zne n) (w:World) (hw:Pow w):Calls prog 176 #[.int .i64 n] w (Ret (strV (Lib.itoa n)) w):=by
 refine(Tryz.strconv_Itoa n h.1 h.2 w hw).mono ?_;rintro e w' ⟨rfl,k,os,rfl⟩;refine⟨rfl,⟨rfl,rfl,rfl,by simp[Go.Sort.grow,World.drewN],fun i hi=>?_⟩⟩
 have:i<(w.drewN k).heap.size:=hi;show((w.drewN k).heap++os)[i]?=_;rw[Array.getElem?_append_left this];rfl
theorem zkH {n:Int} (h:zne n):(za2 (Lib.itoa n)).size<=21:=by rw[zcH];exact zv5 h
theorem zkI (n:Int) (h:zne n) (w:World) (hw:Pow w):Calls prog 176 #[.int .i64 n] w (Ret (.string (za2 (Lib.itoa n))) w):=ztt n h w hw
theorem ztu (t:Int) (w:World):Calls prog 55 #[.int .i64 t] w (zbE (.bool (inC t)) w):=by
 generalize hq:inC t=q;have HQ:=waV hq;clear hq;go_enter func55,ntmps55;go_wp2
 all_goals go_ret
 all_goals (refine⟨zab ?_,rfl⟩;rw[<-HQ.out];((try simp only[beq_iff_eq,wbE,bne_iff_ne,ne_eq,inC,waM,decide_eq_false_iff_not,waN,wbF,Bool.not_eq_true',Bool.not_eq_false',Bool.and_eq_false_iff,Bool.or_eq_false_iff] at *)
                                             rw[waQ]
                                             (try simp only[inC,waM,beq_iff_eq,bne_iff_ne,ne_eq,waN,wbF,Bool.not_eq_true',Bool.not_eq_false',wbE,decide_eq_false_iff_not,iff_true,true_iff,Bool.false_eq_true,false_iff,iff_false,reduceCtorEq])
                                             (first|done|omega)))
theorem zkJ {w:World} {b c o n:Nat} {v:Value} (h:w.there b 0 n) (hne:c≠b):(w.setCell ⟨c,o,none⟩ v).there b 0 n:=fun j hj=>by
 rw[waU _ _ _ _ (by intro e;injection e with e1;exact hne e1),waS]
 exact h j hj
theorem zei (c:Cl):(clA c).all (·.oneCell')=true:=by kernel_rfl
def zig:Cl:={m:=fun _=>0,or:=false,oi:=0,ob:=false,od:=fun _=>0,y:=fun _=>0,u:=0,s:=0,a:=0,f:=0,t:=0}
theorem zhg:∀(l:List Value) (k:Nat) (Z:Array Value) (j:Nat),((l.zipIdx k).foldl (fun(a:Array Value) (x:Value×Nat)=>a.setIfInBounds x.2 x.1) Z)[j]?=if k<=j/\j<k+l.length then(if j<Z.size then l[j - k]? else none) else Z[j]?
 |[],k,Z,j=>by
  have h:¬(k<=j/\j<k+([]:List Value).length):=by simp only[List.length_nil];omega
  rw[if_neg h];rfl
 |v::l,k,Z,j=>by
  rw[List.zipIdx_cons,List.foldl_cons,zhg l (k+1) _ j,Array.size_setIfInBounds]
  by_cases h1:k=j
  ·subst h1;have h2:¬(k+1<=k/\k<k+1+l.length):=by omega
   have h3:k<=k/\k<k+(v::l).length:=by simp only[waG];omega
   rw[if_neg h2,if_pos h3,Array.getElem?_setIfInBounds_self];simp
  ·by_cases h2:k+1<=j/\j<k+1+l.length
   ·have h3:k<=j/\j<k+(v::l).length:=by simp only[waG];omega
    rw[if_pos h2,if_pos h3];have e:j - k=(j - (k+1))+1:=by omega
    rw[e,List.getElem?_cons_succ]
   ·have h3:¬(k<=j/\j<k+(v::l).length):=by simp only[waG];omega
    rw[if_neg h2,if_neg h3,Array.getElem?_setIfInBounds_ne h1]
theorem znh (cs Z:Array Value) (m:Nat) (h:Z.size=m) (hm:cs.size=m):Array.foldl (fun(a:Array Value) (x:Value×Nat)=>a.setIfInBounds x.2 x.1) Z (cs.zipIdx 0) 0 m=cs:=by
 have e1:Array.foldl (fun(a:Array Value) (x:Value×Nat)=>a.setIfInBounds x.2 x.1) Z (cs.zipIdx 0) 0 m=(cs.toList.zipIdx 0).foldl (fun(a:Array Value) (x:Value×Nat)=>a.setIfInBounds x.2 x.1) Z:=by
  rw[<-Array.toList_zipIdx,Array.foldl_toList];simp[hm]
 rw[e1];apply Array.ext_getElem?;intro j;rw[zhg]
 by_cases hj:j<cs.size
 ·have h1:0<=j/\j<0+cs.toList.length:=by simp[hj]
  rw[if_pos h1,if_pos (by omega)]
  simp
 ·have h1:¬(0<=j/\j<0+cs.toList.length):=by simp;omega
  rw[if_neg h1,Array.getElem?_eq_none (by omega),Array.getElem?_eq_none (by omega)]
theorem zkK (w:World) (c:Cl) (t:TypeId):zbh (w.alloc (.cells (clA c) t)) (some ⟨w.heap.size,0,none⟩) 1 [c]:=
 ⟨rfl,fun _=>⟨w.heap.size,0,rfl,by simp,fun i x hx j v hj=>by
  have hi:i<1:=(waI.1 hx).1;obtain rfl:i=0:=by omega
  cases hx;simp only[Nat.zero_mul,waH];exact zmB w (clA c) t j v (by unfold zeN at hj;simpa using hj)⟩⟩
def zjo (c:Cl) (w:World) (x:Ending) (w':World):Prop:=∃b,x=.returned (.tuple #[.slice (some ⟨b,0,none⟩) 1 1,.int .i64 0])/\zbh w' (some ⟨b,0,none⟩) 1 [c]/\Below w.heap.size w w'
end Go.Proofs.YtllcdbgjeidlkaaGreatDoor
