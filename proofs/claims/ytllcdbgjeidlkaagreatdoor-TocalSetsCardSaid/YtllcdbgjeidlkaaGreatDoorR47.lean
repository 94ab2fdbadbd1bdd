/- A part of the proof: WRd37b -/
import Derived.Test.YtllcdbgjeidlkaaGreatDoorR46
import Derived.Test.YtllcdbgjeidlkaaGreatDoorR41
import Derived.Test.YtllcdbgjeidlkaaGreatDoorR36
import Derived.Test.YtllcdbgjeidlkaaGreatDoorR43
import Derived.Test.YtllcdbgjeidlkaaGreatDoorR45
import Derived.Test.YtllcdbgjeidlkaaGreatDoorR40
import Derived.Test.YtllcdbgjeidlkaaGreatDoorR32
import Derived.Test.YtllcdbgjeidlkaaGreatDoorR11
import Derived.ChangeArms
import Derived.Test.YtllcdbgjeidlkaaGreatDoorCards
import Derived.Test.YtllcdbgjeidlkaaGreatDoorTie
import Derived.Deep.DeepHandedRow
import Derived.Lib.LaidTab
import Derived.LaidSub
import Derived.MakeChecks
set_option maxHeartbeats 80000000
set_option maxRecDepth 100000
set_option linter.unusedSimpArgs false
set_option linter.unusedVariables false
namespace Go.Proofs.YtllcdbgjeidlkaaGreatDoor
open Go.Proofs.Tryz
open Go.RowKit
section
variable {w : World} {b C B : Nat} {s : ByteArray} {σ σ1 σ2 σ3 σ4 : PS} {cD cT : CalV} (hs : s.size <= 1000000)
include hs
theorem zvM (h:RdP w b s σ) (hc:zaQ w C B zc3) (hm:zcr w) (hCb:C≠b) (hCB:C<B) (hbB:b<B) (hB:B<=w.heap.size)
 (p0:(zdO σ==0)=false) (l0:zv5 (zdO σ)=false) (d0:zkp (zdL σ)=true)
 (hD:∀W,RdP W b s σ->zaQ W C B zc3->zcr W->B<=W.heap.size->Calls prog 105 #[kV b s,.pointer (some ⟨C,0,none⟩)] W (zv6 (.tuple #[]) b C B s σ1 cD W)) (x1:zhZ s.size σ1=(σ2,true))
 (p2:(zdO σ2==0)=false) (l2:zv5 (zdO σ2)=false) (d2:zkp (zdL σ2)=false)
 (hT:∀W,RdP W b s σ2->zaQ W C B cD->B<=W.heap.size->Calls prog 106 #[kV b s,.pointer (some ⟨C,0,none⟩)] W (zv6 (.tuple #[]) b C B s σ3 cT W)) (x3:zhZ s.size σ3=(σ4,false)):
 Calls prog 44 #[kV b s,.pointer (some ⟨C,0,none⟩)] w (zv6 (.tuple #[]) b C B s σ4 cT w):=by
 have hlt:=h.lt;have hCl:=hc.lt;have HW0:Hid (WS w b C B s σ zc3 (w.alloc (.cells #[.pointer (some ⟨b,0,none⟩),.string s] 98))):=
  ⟨h.alloc _,hc.alloc _,zdt _ _ _ _,((Chg.refl b w).two C).alloc _,hm.below ((waC _ w).alloc (waJ _) _),hCb,hCB,hbB,by omega,by omega⟩
 have HPk:=waV (fun W σ (h:RdP W b s σ)=>zuz h)
 have HWd:=waV (fun W σ (h:RdP W b s σ) (hm:zcr W)=>zqF hs h hm)
 have HN1:=waV (fun W (h:RdP W b s σ1)=>zqG hs h)
 rw[x1] at HN1;have HN3:=waV (fun W (h:RdP W b s σ3)=>zqG hs h)
 rw[x3] at HN3;dsimp only at HN1 HN3;have HD:=waV hD;have HT:=waV hT;have P0:=waV p0;have P2:=waV p2;have L0:=waV l0;have L2:=waV l2;have D0:=waV d0;have D2:=waV d2;clear h hc hm hD hT p0 p2 l2 d0 d2 x1 x3;go_enter func44,ntmps44;go_wp2;go_step3;go_wp2_with fail;refine(HPk.out _ _ HW0.out.rd).mono ?_;rintro e w1 ⟨rfl,h1,g1⟩;have HS1:=waV (HW0.out.step h1 g1);go_wp2_with fail;refine(zeU _ _).mono ?_;rintro e w2 ⟨rfl,rfl⟩;go_wp2;go_step3;go_wp2;clear l0 h1 g1
 go_loopg [4,5] 2 (fun gg dv tv wr=>tv=.bool false/\∃(date:Bool) (c':CalV) (σ':PS),dv=.bool date/\Hid ((gg=2/\date=false/\σ'=σ/\c'=zc3)\/(gg=1/\date=true/\σ'=σ2/\c'=cD))/\Hid (WS w b C B s σ' c' wr))
 case atStart=>exact⟨rfl,false,_,_,rfl,.inl ⟨rfl,rfl,rfl,rfl⟩,HS1.out⟩
 case round=>
  obtain⟨rfl,date,c',σ',rfl,HQ,HWr⟩:=hrel;have HAny:=waV (fun W=>ztb (zdL σ') W (HWr.out.word hs))
  have hzr:=HWr.out.size;rcases HQ.out with ⟨hg,rfl,rfl,rfl⟩|⟨hg,rfl,rfl,rfl⟩
  ·have hp0':=P0.out;have hlt2:=L0.out;rw[D0.out] at HAny
   (try clear c0 c1)
   obtain⟨c0,c1⟩:=zde.cells2 (WS.box HWr.out);go_wp2_with fail;refine(HWd.out _ _ HWr.out.rd HWr.out.mx).mono ?_;rintro e w3 ⟨rfl,h3,g3⟩;have HW3:=waV (HWr.out.step h3 g3)
   (try clear c0 c1)
   obtain⟨c0,c1⟩:=zde.cells2 (WS.box HW3.out);go_wp2_with fail;refine(HAny.out _).mono ?_;rintro e w4 ⟨rfl,hb4⟩;have HW4:=waV (HW3.out.below hb4)
   (try clear c0 c1)
   obtain⟨c0,c1⟩:=zde.cells2 (WS.box HW4.out);go_wp2_with fail;refine(HPk.out _ _ HW4.out.rd).mono ?_;rintro e w5 ⟨rfl,h5,g5⟩;have HW5:=waV (HW4.out.step h5 g5);clear h3 g3 hb4 h5 g5 HW3 HW4 HAny
   (try clear c0 c1)
   obtain⟨c0,c1⟩:=zde.cells2 (WS.box HW5.out);go_wp2_with fail;refine(HPk.out _ _ HW5.out.rd).mono ?_;rintro e w6 ⟨rfl,h6,g6⟩;have HW6:=waV (HW5.out.step h6 g6);clear h6 g6 HW5
   (try clear c0 c1)
   obtain⟨c0,c1⟩:=zde.cells2 (WS.box HW6.out);go_wp2_with fail;refine(zeU _ _).mono ?_;rintro e w7 ⟨rfl,rfl⟩;rw[hlt2];clear hlt2;go_wp2_with fail;refine(HD.out _ HW6.out.rd HW6.out.cal HW6.out.mx (waW hB HW6.out.size)).mono ?_;rintro e w8 ⟨rfl,h8,k8,g8⟩;have HW8:=waV (HW6.out.two h8 k8 g8);clear h8 k8 g8
   (try clear c0 c1)
   obtain⟨c0,c1⟩:=zde.cells2 (WS.box HW8.out);go_wp2_with fail;refine(HN1.out _ (WS.rd HW8.out)).mono ?_;rintro e w9 ⟨rfl,h9,g9⟩;have HW9:=waV (WS.step HW8.out h9 g9);clear h9 g9;go_wp2
   go_roundg 1
   case measure=>omega
   case rel=>exact⟨rfl,true,cD,σ2,rfl,.inr ⟨rfl,rfl,rfl,rfl⟩,HW9.out⟩
  ·have hp0':=P2.out;have hlt2:=L2.out;rw[D2.out] at HAny
   (try clear c0 c1)
   obtain⟨c0,c1⟩:=zde.cells2 (WS.box HWr.out);go_wp2_with fail;refine(HWd.out _ _ HWr.out.rd HWr.out.mx).mono ?_;rintro e w3 ⟨rfl,h3,g3⟩;have HW3:=waV (HWr.out.step h3 g3)
   (try clear c0 c1)
   obtain⟨c0,c1⟩:=zde.cells2 (WS.box HW3.out);go_wp2_with fail;refine(HAny.out _).mono ?_;rintro e w4 ⟨rfl,hb4⟩;have HW4:=waV (HW3.out.below hb4)
   (try clear c0 c1)
   obtain⟨c0,c1⟩:=zde.cells2 (WS.box HW4.out);go_wp2_with fail;refine(HPk.out _ _ HW4.out.rd).mono ?_;rintro e w5 ⟨rfl,h5,g5⟩;have HW5:=waV (HW4.out.step h5 g5);clear h3 g3 hb4 h5 g5 HW3 HW4 HAny
   (try clear c0 c1)
   obtain⟨c0,c1⟩:=zde.cells2 (WS.box HW5.out);go_wp2_with fail;refine(HPk.out _ _ HW5.out.rd).mono ?_;rintro e w6 ⟨rfl,h6,g6⟩;have HW6:=waV (HW5.out.step h6 g6);clear h6 g6 HW5
   (try clear c0 c1)
   obtain⟨c0,c1⟩:=zde.cells2 (WS.box HW6.out);go_wp2_with fail;refine(zeU _ _).mono ?_;rintro e w7 ⟨rfl,rfl⟩;rw[hlt2];clear hlt2;go_wp2_with fail;refine(HT.out _ HW6.out.rd HW6.out.cal (waW hB HW6.out.size)).mono ?_;rintro e w8 ⟨rfl,h8,k8,g8⟩;have HW8:=waV (HW6.out.two h8 k8 g8);clear h8 k8 g8
   (try clear c0 c1)
   obtain⟨c0,c1⟩:=zde.cells2 (WS.box HW8.out);go_wp2_with fail;refine(HN3.out _ (WS.rd HW8.out)).mono ?_;rintro e w9 ⟨rfl,h9,g9⟩;have HW9:=waV (WS.step HW8.out h9 g9);go_wp2
   first|go_end0|(refine waY (results_none rfl _ _ _) rfl ?_)
   exact⟨rfl,HW9.out.rd,HW9.out.cal,HW9.out.chg⟩
end
def rowC (C:Nat):Array Value:=#[.pointer (some ⟨C,1,none⟩),.int .i64 0,.int .i64 0,.int .i64 0,.int .i64 1,.pointer (some ⟨C,2,none⟩),.int .i64 0,.int .i64 0,.int .i64 0,.int .i64 1,.pointer (some ⟨C,3,none⟩),.int .i64 0,.int .i64 0,.int .i64 0,.int .i64 1,.pointer (some ⟨C,5,none⟩),.int .i64 1,.int .i64 0,.int .i64 0,.int .i64 0,.pointer (some ⟨C,6,none⟩),.int .i64 1,.int .i64 0,.int .i64 0,.int .i64 0,.pointer (some ⟨C,7,none⟩),.int .i64 1,.int .i64 0,.int .i64 0,.int .i64 0]
structure FlS (w wr:World) (cs:Array Value):Prop where
 cal:zbY wr w.heap.size cs
 res:zbY wr (w.heap.size+1) zcN
 row:wr.heap[w.heap.size+4]?=some (.cells (rowC w.heap.size) 191 (0,0))
 be:Below w.heap.size w wr
theorem FlS.below {w wr X:World} {cs:Array Value} (h:FlS w wr cs) (hb:Below wr.heap.size wr X):FlS w X cs:=
 ⟨h.cal.below hb,h.res.below hb,(hb.block _ (waL.1 h.row).1).trans h.row,zag h.be hb h.be.size⟩
theorem ztH (A0:Option Addr) (a1 a2 a3 a5 a6 a7:Addr) (n0 n1 n2 n3 n5 n6 n7 m0 m1 m2 m3 m5 m6 m7:Nat) (bk:Bool) (w:World):
 Calls prog 46 #[.agg #[.slice A0 n0 m0,.slice (some a1) n1 m1,.slice (some a2) n2 m2,.slice (some a3) n3 m3,.bool bk,.slice (some a5) n5 m5,.slice (some a6) n6 m6,.slice (some a7) n7 m7]] w (Ret (.agg #[.slice A0 n0 m0,.slice (some a1) n1 m1,.slice (some a2) n2 m2,.slice (some a3) n3 m3,.bool bk,.slice (some a5) n5 m5,.slice (some a6) n6 m6,.slice (some a7) n7 m7]) w):=by
 have heql:=fun W A n m=>Lib.run_eql_slice_nil (P:=prog) W 24 64 A n m 0 0 underlying24
 go_enter func46,ntmps46;go_wp2
 go_loopw [29] (fun i wr=>∃k:Nat,k<=6/\i=.int .i64 k/\Hid (FlS w wr #[.slice A0 n0 m0,.slice (some a1) n1 m1,.slice (some a2) n2 m2,.slice (some a3) n3 m3,.bool bk,.slice (some a5) n5 m5,.slice (some a6) n6 m6,.slice (some a7) n7 m7])) (fun i _=>6 - (intOf i).toNat)
 case atStart=>
  refine⟨0,by omega,rfl,?_,?_,?_,?_⟩
  ·exact(zbY.new w _).below (((((waC _ _).alloc (waJ _) _).alloc (by simp) _).alloc (by simp<;>omega) _).alloc (by simp<;>omega) _)
  ·have h:=(zbY.new (w.alloc (.cells #[.slice A0 n0 m0,.slice (some a1) n1 m1,.slice (some a2) n2 m2,.slice (some a3) n3 m3,.bool bk,.slice (some a5) n5 m5,.slice (some a6) n6 m6,.slice (some a7) n7 m7] 26)) zcN);rw[World.size_alloc] at h;exact h.below ((((waC _ _).alloc (waJ _) _).alloc (by simp) _).alloc (by simp<;>omega) _)
  ·have h:=World.alloc_heap_new ((((w.alloc (.cells #[.slice A0 n0 m0,.slice (some a1) n1 m1,.slice (some a2) n2 m2,.slice (some a3) n3 m3,.bool bk,.slice (some a5) n5 m5,.slice (some a6) n6 m6,.slice (some a7) n7 m7] 26)).alloc (.cells zcN 26)).alloc (.cells #[.int .i64 0,.int .i64 0,.int .i64 0,.int .i64 1] 64)).alloc (.cells #[.int .i64 1,.int .i64 0,.int .i64 0,.int .i64 0] 64)) (.cells (rowC w.heap.size) 191);rw[World.size_alloc,World.size_alloc,World.size_alloc,World.size_alloc] at h;exact h
  ·exact(((((waC _ w).alloc (waJ _) _).alloc (by simp) _).alloc (by simp<;>omega) _).alloc (by simp<;>omega) _).alloc (by simp<;>omega) _
 case round=>
  obtain⟨k,hk,rfl,HF⟩:=hrel;have hz:=HF.out.be.size;have hlr:w.heap.size+4<wr.heap.size:=(waL.1 HF.out.row).1;have hlc:w.heap.size<wr.heap.size:=HF.out.cal.lt
  by_cases hlt:k<6
  ·have R:=fun j v (h:(rowC w.heap.size)[j]?=some v)=>(World.cell?_of_heap (o:=j) HF.out.row).trans h
   have X:=HF.out.cal.lies;obtain rfl|rfl|rfl|rfl|rfl|rfl:k=0\/k=1\/k=2\/k=3\/k=4\/k=5:=by omega
   ·have r0:wr.cell? ⟨w.heap.size+4,0,none⟩=some (.pointer (some ⟨w.heap.size,1,none⟩)):=R 0 _ rfl;have r1:wr.cell? ⟨w.heap.size+4,1,none⟩=some (.int .i64 0):=R 1 _ rfl;have r2:wr.cell? ⟨w.heap.size+4,2,none⟩=some (.int .i64 0):=R 2 _ rfl;have r3:wr.cell? ⟨w.heap.size+4,3,none⟩=some (.int .i64 0):=R 3 _ rfl;have r4:wr.cell? ⟨w.heap.size+4,4,none⟩=some (.int .i64 1):=R 4 _ rfl;have x:wr.cell? ⟨w.heap.size,1,none⟩=some (.slice (some a1) n1 m1):=X 1 _ rfl;clear R X;go_wp2;go_roundw
    case rel=>exact⟨1,by decide,rfl,HF.out.below ((waC _ wr).alloc (waJ _) _)⟩
    case measure=>simp [intOf]
   ·have r0:wr.cell? ⟨w.heap.size+4,5,none⟩=some (.pointer (some ⟨w.heap.size,2,none⟩)):=R 5 _ rfl;have r1:wr.cell? ⟨w.heap.size+4,6,none⟩=some (.int .i64 0):=R 6 _ rfl;have r2:wr.cell? ⟨w.heap.size+4,7,none⟩=some (.int .i64 0):=R 7 _ rfl;have r3:wr.cell? ⟨w.heap.size+4,8,none⟩=some (.int .i64 0):=R 8 _ rfl;have r4:wr.cell? ⟨w.heap.size+4,9,none⟩=some (.int .i64 1):=R 9 _ rfl;have x:wr.cell? ⟨w.heap.size,2,none⟩=some (.slice (some a2) n2 m2):=X 2 _ rfl;clear R X;go_wp2;go_roundw
    case rel=>exact⟨2,by decide,rfl,HF.out.below ((waC _ wr).alloc (waJ _) _)⟩
    case measure=>simp [intOf]
   ·have r0:wr.cell? ⟨w.heap.size+4,10,none⟩=some (.pointer (some ⟨w.heap.size,3,none⟩)):=R 10 _ rfl;have r1:wr.cell? ⟨w.heap.size+4,11,none⟩=some (.int .i64 0):=R 11 _ rfl;have r2:wr.cell? ⟨w.heap.size+4,12,none⟩=some (.int .i64 0):=R 12 _ rfl;have r3:wr.cell? ⟨w.heap.size+4,13,none⟩=some (.int .i64 0):=R 13 _ rfl;have r4:wr.cell? ⟨w.heap.size+4,14,none⟩=some (.int .i64 1):=R 14 _ rfl;have x:wr.cell? ⟨w.heap.size,3,none⟩=some (.slice (some a3) n3 m3):=X 3 _ rfl;clear R X;go_wp2;go_roundw
    case rel=>exact⟨3,by decide,rfl,HF.out.below ((waC _ wr).alloc (waJ _) _)⟩
    case measure=>simp [intOf]
   ·have r0:wr.cell? ⟨w.heap.size+4,15,none⟩=some (.pointer (some ⟨w.heap.size,5,none⟩)):=R 15 _ rfl;have r1:wr.cell? ⟨w.heap.size+4,16,none⟩=some (.int .i64 1):=R 16 _ rfl;have r2:wr.cell? ⟨w.heap.size+4,17,none⟩=some (.int .i64 0):=R 17 _ rfl;have r3:wr.cell? ⟨w.heap.size+4,18,none⟩=some (.int .i64 0):=R 18 _ rfl;have r4:wr.cell? ⟨w.heap.size+4,19,none⟩=some (.int .i64 0):=R 19 _ rfl;have x:wr.cell? ⟨w.heap.size,5,none⟩=some (.slice (some a5) n5 m5):=X 5 _ rfl;clear R X;go_wp2;go_roundw
    case rel=>exact⟨4,by decide,rfl,HF.out.below ((waC _ wr).alloc (waJ _) _)⟩
    case measure=>simp [intOf]
   ·have r0:wr.cell? ⟨w.heap.size+4,20,none⟩=some (.pointer (some ⟨w.heap.size,6,none⟩)):=R 20 _ rfl;have r1:wr.cell? ⟨w.heap.size+4,21,none⟩=some (.int .i64 1):=R 21 _ rfl;have r2:wr.cell? ⟨w.heap.size+4,22,none⟩=some (.int .i64 0):=R 22 _ rfl;have r3:wr.cell? ⟨w.heap.size+4,23,none⟩=some (.int .i64 0):=R 23 _ rfl;have r4:wr.cell? ⟨w.heap.size+4,24,none⟩=some (.int .i64 0):=R 24 _ rfl;have x:wr.cell? ⟨w.heap.size,6,none⟩=some (.slice (some a6) n6 m6):=X 6 _ rfl;clear R X;go_wp2;go_roundw
    case rel=>exact⟨5,by decide,rfl,HF.out.below ((waC _ wr).alloc (waJ _) _)⟩
    case measure=>simp [intOf]
   ·have r0:wr.cell? ⟨w.heap.size+4,25,none⟩=some (.pointer (some ⟨w.heap.size,7,none⟩)):=R 25 _ rfl;have r1:wr.cell? ⟨w.heap.size+4,26,none⟩=some (.int .i64 1):=R 26 _ rfl;have r2:wr.cell? ⟨w.heap.size+4,27,none⟩=some (.int .i64 0):=R 27 _ rfl;have r3:wr.cell? ⟨w.heap.size+4,28,none⟩=some (.int .i64 0):=R 28 _ rfl;have r4:wr.cell? ⟨w.heap.size+4,29,none⟩=some (.int .i64 0):=R 29 _ rfl;have x:wr.cell? ⟨w.heap.size,7,none⟩=some (.slice (some a7) n7 m7):=X 7 _ rfl;clear R X;go_wp2;go_roundw
    case rel=>exact⟨6,by decide,rfl,HF.out.below ((waC _ wr).alloc (waJ _) _)⟩
    case measure=>simp [intOf]
  ·obtain rfl:k=6:=by omega
   have HL:=waV HF.out.cal.ld;have HR:=waV HF.out.res
   go_wp2_with (first|(refine zaf (by rfl) 26 _ rfl #[_,_,_,_,_,_,_,_] w.heap.size 0 rfl underlying26 rfl (by kernel_rfl) HL.out ?_)|(refine za8 rfl _ _ rfl _ HR.out rfl rfl rfl (by kernel_rfl) (by simp[Value.oneCell']) ?_;intro V8 hc8 hr8)|fail)
   refine waY (zg7 rfl rfl hc8 kQ) rfl ?_;exact⟨rfl,hr8.to_below' HF.out.be oQ⟩
theorem ztI {w:World} {C B:Nat} {c:CalV} (h:zaQ w C B c) (hn:∀j,j<8->j≠4->j≠0->zhh c j≠[]):∃A0 n0 m0 a1 n1 m1 a2 n2 m2 a3 n3 m3 a5 n5 m5 a6 n6 m6 a7 n7 m7,
 (∀(j:Nat) (v:Value),(#[.slice A0 n0 m0,.slice (some a1) n1 m1,.slice (some a2) n2 m2,.slice (some a3) n3 m3,.bool c.back,.slice (some a5) n5 m5,.slice (some a6) n6 m6,.slice (some a7) n7 m7]:Array Value)[j]?=some v->w.cell? ⟨C,0+j,none⟩=some v)/\
 zbZ w B (.agg #[.slice A0 n0 m0,.slice (some a1) n1 m1,.slice (some a2) n2 m2,.slice (some a3) n3 m3,.bool c.back,.slice (some a5) n5 m5,.slice (some a6) n6 m6,.slice (some a7) n7 m7]) c:=by
 obtain⟨g,h1,h2,h3⟩:=h;obtain⟨A0,n0,m0,e0⟩:=zfU (h3 0 dQ dQ).1;have hs:∀j,j<8->j≠4->j≠0->∃p n m,g j=.slice (some p) n m:=fun j hj h4 hne=>by
  rcases zbN (h3 j hj h4).1 with ⟨_,h0⟩|⟨gb,cap,e,_⟩
  ·exact absurd (List.length_eq_zero_iff.1 h0) (hn j hj h4 hne)
  ·exact⟨_,_,_,e⟩
 obtain⟨a1,n1,m1,e1⟩:=hs 1 dQ dQ dQ;obtain⟨a2,n2,m2,e2⟩:=hs 2 dQ dQ dQ;obtain⟨a3,n3,m3,e3⟩:=hs 3 dQ dQ dQ;obtain⟨a5,n5,m5,e5⟩:=hs 5 dQ dQ dQ;obtain⟨a6,n6,m6,e6⟩:=hs 6 dQ dQ dQ;obtain⟨a7,n7,m7,e7⟩:=hs 7 dQ dQ dQ;refine⟨A0,n0,m0,a1,n1,m1,a2,n2,m2,a3,n3,m3,a5,n5,m5,a6,n6,m6,a7,n7,m7,fun j v hj=>?_,?_⟩
 ·rw[waH];have hj8:j<8:=(waL.1 hj).1;rw[h1.1 j hj8];rw[<-e0,<-e1,<-e2,<-e3,<-h2,<-e5,<-e6,<-e7] at hj;obtain rfl|rfl|rfl|rfl|rfl|rfl|rfl|rfl:j=0\/j=1\/j=2\/j=3\/j=4\/j=5\/j=6\/j=7:=by omega
  all_goals (injection hj with hj;subst hj;rfl)
 ·have H:=fun j hj h4=>(h3 j hj h4).1
  refine⟨_,_,_,_,_,_,_,rfl,⟨?_,?_,?_,?_⟩,?_,?_,?_⟩
  ·rw[<-e0];exact H 0 (by decide) (by decide)
  ·rw[<-e1];exact H 1 (by decide) (by decide)
  ·rw[<-e2];exact H 2 (by decide) (by decide)
  ·rw[<-e3];exact H 3 (by decide) (by decide)
  ·rw[<-e5];exact H 5 (by decide) (by decide)
  ·rw[<-e6];exact H 6 (by decide) (by decide)
  ·rw[<-e7];exact H 7 (by decide) (by decide)
def zxn:List UInt8:=[109,111,110,116,104,108,121]
def T37:List UInt8:=[42,45,42,45,48,49,32,48,48,58,48,48,58,48,48]
def P37 (k:Nat):PS:=⟨T37.drop k,0,0⟩
theorem zfq (b:Nat) (f:Nat) (hf:f<7) (i j:Nat) (n:Int) (k1:zoa (zaZ T37).size f (P37 i)=(P37 j,n)) (k2:zlB (zaZ T37).size f (P37 j)=P37 j) (k3:zeC zv4 (P37 j)=(P37 j,false)) (k4:isP [47] (P37 j)=(P37 j,false)) (k5:isP [42] (P37 i)=(P37 i,false)) (k6:isP [44] (P37 j)=(P37 j,false)) (hf1:f≠1):
 ∀W,RdP W b (zaZ T37) (P37 i)->Calls prog 168 #[kV b (zaZ T37),.int .i64 (f:Int)] W (zhr [⟨1,n,0,0⟩] b (zaZ T37) (P37 j) W):=fun W h=>
 zvL dQ f hf1 (P37 j) ⟨1,n,0,0⟩ (fun V hV=>zxj dQ f hf (P37 j) n hV k1 k2 k3 k4) k5 k6 h
theorem ztJ (w:World) (b C B:Nat) (h:RdP w b (zaZ T37) (P37 0)) (hc:zaQ w C B zc3) (hm:zcr w) (hCb:C≠b) (hCB:C<B) (hbB:b<B) (hB:B<=w.heap.size):Calls prog 44 #[kV b (zaZ T37),.pointer (some ⟨C,0,none⟩)] w (zv6 (.tuple #[]) b C B (zaZ T37) (P37 15) evM w):=by
 have hs:(zaZ T37).size<=1000000:=by decide
 refine zvM hs (σ:=P37 0) (σ1:=P37 6) (σ2:=P37 7) (σ3:=P37 15) (σ4:=P37 15) (cD:={zc3 with year:=[⟨0,0,0,1⟩],month:=[⟨0,0,0,1⟩],back:=false,day:=[⟨1,1,0,0⟩]}) (cT:=evM) h hc hm hCb hCB hbB hB dQ dQ kQ (fun W hW hcW hmW hBW=>?_) kQ dQ dQ kQ (fun W hW hcW hBW=>?_) kQ
 ·exact zxl hs (c:=zc3) (τ1:=P37 1) (τ2:=P37 2) (τ3:=P37 3) (τ4:=P37 4) (τ5:=P37 6) (X:=zaZ [42,45,42,45,48,49]) hW hcW hmW hCb hCB hbB hBW kQ kQ kQ (fun V hV=>zup hs 1 (P37 1) kQ hV) kQ (fun V hV=>zup hs 2 (P37 3) kQ hV) kQ
   (zfq b 3 dQ 4 6 1 kQ kQ kQ kQ kQ kQ dQ)
 ·exact zxm hs (τ1:=P37 9) (τ2:=P37 10) (τ3:=P37 12) (τ4:=P37 13) (τ5:=P37 15) (c:={zc3 with year:=[⟨0,0,0,1⟩],month:=[⟨0,0,0,1⟩],back:=false,day:=[⟨1,1,0,0⟩]}) hW hcW hCb hCB hbB hBW
   (zfq b 4 dQ 7 9 0 kQ kQ kQ kQ kQ kQ dQ) kQ
   (zfq b 5 dQ 10 12 0 kQ kQ kQ kQ kQ kQ dQ) kQ
   (zfq b 6 dQ 13 15 0 kQ kQ kQ kQ kQ kQ dQ)
theorem zlX {fn:Func} {p t u:Tmp} (hf:fn.results=#[.cell p 26,.tmp t,.tmp u]) {tmps:Array Value} {W:World} {b:Nat} {cs:Array Value} {x y:Value} (hp:tmps.getD p undef=.pointer (some ⟨b,0,none⟩)) (hx:tmps.getD t undef=x) (hy:tmps.getD u undef=y) (h:zbY W b cs) (hi:(prog.info? 26).map (·.size)=some cs.size):
 (results fn tmps).run prog W=.ok (.tuple #[.agg cs,x,y]) W:=by
 rw[ze6 hf,hp,hx,hy];have e:(asAddr (.pointer (some ⟨b,0,none⟩))).run prog W=.ok ⟨b,0,none⟩ W:=rfl;rw[e,Result.andThen_ok,zlL h hi,Result.andThen_ok]
theorem zbY.chg2 {w w':World} {b C D:Nat} {cs:Array Value} (h:zbY w D cs) (g:Chg2 b C w w') (hb:D≠b) (hC:D≠C):zbY w' D cs:=(g.block D h.lt hb hC).trans h
def zlY (w:World) (e:Ending) (w':World):Prop:=Below w.heap.size w w'/\∃v,e=.returned (.tuple #[v,.int .i64 7,.int .i64 0])/\zbZ w' w.heap.size v evM
theorem zxo (w:World) (hm:zcr w):Calls prog 15 #[.string (zaZ zxn)] w (zlY w):=by
 have HN:=waV (fun W=>zte (zaZ zxn) dQ W)
 rw[show zlC (zaZ zxn).data.toList=T37 by rw[zba];kernel_rfl] at HN
 have HNw:=waV (fun W=>zwl (s:=zaZ T37) dQ W)
 unfold zpf at HNw;rw[show newP (zaZ T37)=P37 0 by rw[zvw,zba];kernel_rfl] at HNw
 have HWd:=waV (fun W b C B h hc hm h1 h2 h3 h4=>ztJ W b C B h hc hm h1 h2 h3 h4)
 have hT:(zaZ T37).toList.isEmpty=false:=by rw[zi1];rfl
 have hz:(zaZ zxn).size=7:=rfl;have HZ0:Hid (zbY (w.alloc (.cells zcN 26)) w.heap.size zcN):=zbY.new _ _;have HM0:=waV (hm.alloc (.cells zcN 26));have HB0:=waV ((waC _ w).alloc (waJ _) (.cells zcN 26));have HP15:Hid ((P37 15).a=0/\(P37 15).e=0):=⟨rfl,rfl⟩;have HC1:=waV (fun W C B (h:zaQ W C B evM)=>ztI h dQ)
 have HOw:=waV (fun(W X:World) B v (h:zbZ W B v evM) (hb:Below W.heap.size W X)=>h.below hb)
 rw[show evM.back=false from rfl] at HC1
 clear hm;unfold zlY;generalize P37 15=τ at *;generalize zaZ T37=T at *;generalize zaZ zxn=S at *;generalize evM=M at *;go_enter func15,ntmps15;go_wp2_with fail;refine(HN.out _).mono ?_;rintro e w1 ⟨rfl,hb1⟩;have HB1:=waV (zag HB0.out hb1 HB0.out.size);have HM1:=waV (HM0.out.below hb1);have HZ1:=waV (HZ0.out.below hb1);clear hb1 HB0 HM0 HZ0 HN;go_wp2_with fail;refine(HNw.out _).mono ?_;rintro e w2 ⟨b,hb,rfl,hr2,hb2⟩;have hlt2:=hr2.lt;have hbw:w.heap.size<=b:=waW HB1.out.size hb;have HB2:=waV (zag HB1.out hb2 HB1.out.size);have HM2:=waV (HM1.out.below hb2);have HZ2:=waV (HZ1.out.below hb2);have hRb:w.heap.size≠b:=by have:=HZ1.out.lt;omega
 clear hb2;go_wp2_with fail;have HB3:=waV ((HB2.out.alloc HB2.out.size (.cells #[.pointer (some ⟨b,0,none⟩),.string T] 98)).alloc (by have:=HB2.out.size;simp;omega) (.cells zcN 26))
 have HZ3:=waV (HZ2.out.below (((waC _ w2).alloc (waJ _) (.cells #[.pointer (some ⟨b,0,none⟩),.string T] 98)).alloc (by simp) (.cells zcN 26)))
 have HX3:=waV ((zdt w2 b T 98).alloc (.cells zcN 26));have hzR:=HZ2.out.lt;refine(HWd.out _ b (w2.heap.size+1) (w2.heap.size+2) ((hr2.alloc _).alloc _) (zon w2 _ _ _) ((HM2.out.alloc _).alloc _) oQ oQ oQ (by simp)).mono ?_
 rintro e w4 ⟨rfl,h4,hc4,g4⟩;have HB4:=waV (g4.below HB3.out hbw oQ HB3.out.size);have HZ4:=waV (HZ3.out.chg2 g4 hRb oQ);obtain⟨c0,c1⟩:=(⟨g4.cell oQ oQ HX3.out.1,g4.cell oQ oQ HX3.out.2⟩:zde w4 w2.heap.size b T);clear hr2;go_wp2_with fail;refine(zrI h4).mono ?_;rintro e w5 ⟨rfl,hn5⟩;have hb5:Below w4.heap.size w4 w5:=by obtain⟨n5,rfl⟩:=hn5;exact⟨rfl,rfl,rfl,waJ _,fun _ _=>rfl⟩
 have HB5:=waV (zag HB4.out hb5 HB4.out.size);have HZ5:=waV (HZ4.out.below hb5);have HC5:=waV (zlP hc4 oQ hb5);obtain⟨A0,n0,m0,a1,n1,m1,a2,n2,m2,a3,n3,m3,a5,n5,m5,a6,n6,m6,a7,n7,m7,hl,ho⟩:=HC1.out _ _ _ HC5.out;have HL:=waV hl;have HO:=waV (ho.base (B':=w.heap.size) oQ);clear c0 c1 h4 hc4 g4 hb5 hn5 HB3 HZ3 HX3 HB2 HM2 HZ2 HB1 HM1 HZ1 hl ho HC5 HC1 HWd HNw;rw[HP15.out.1,HP15.out.2]
 go_wp2_with (first|(refine zaf (by rfl) 26 _ rfl #[_,_,_,_,_,_,_,_] (w2.heap.size+1) 0 rfl underlying26 rfl (by kernel_rfl) HL.out ?_)|fail)
 refine(ztH A0 a1 a2 a3 a5 a6 a7 n0 n1 n2 n3 n5 n6 n7 m0 m1 m2 m3 m5 m6 m7 false _).mono ?_;rintro e w6 ⟨rfl,hb6⟩;have HZ6:=waV (HZ5.out.below hb6);have HO6:=waV (HOw.out _ _ _ _ HO.out hb6);have HB6:=waV (zag HB5.out hb6 HB5.out.size);clear hb6
 go_wp2_with (first|(refine za8 rfl _ _ rfl _ HZ6.out rfl rfl rfl (by kernel_rfl) (by simp[Value.oneCell']) ?_;intro V8 hc8 hr8)|fail)
 refine waY (zlX rfl rfl rfl rfl hc8 kQ) rfl ?_;exact⟨hr8.to_below' HB6.out (waJ _),_,rfl,HO6.out.rls HZ6.out hr8⟩
end Go.Proofs.YtllcdbgjeidlkaaGreatDoor
namespace Go.Proofs.YtllcdbgjeidlkaaGreatDoor
open Go.Proofs.Tryz
open Go.RowKit
open Go.Maps
theorem zxp {L:List Cl} {n:Nat} (hl:L.length=n) (h:8<n):zdw L=false:=by
 unfold zdw;rw[waO (by omega),Bool.false_and]
theorem zvN {L:List Cl} {n:Nat} (h:zdw L=false):zbC n L≠0:=by
 unfold zbC;split
 ·decide
 ·rw[if_neg (by rw[h];decide)];decide
theorem zrm {L:List Cl} {n:Nat} (h:8<n):zbC n L=5:=by unfold zbC;rw[if_pos h]
theorem ztK {L:List Cl} {n:Nat} (h:n<=8) (hs:zdw L=false):zbC n L=1:=by unfold zbC;rw[if_neg (by omega),if_neg (by rw[hs];decide)]
theorem zxq (W:World):Calls prog 9 #[.agg zcN,.agg zcN] W (Ret (.bool true) W):=by
 have:=zqJ (fun _=>none) (fun _=>none) (fun _=>0) (fun _=>0) (fun _=>0) (fun _=>0) zc3 zc3 W (zm4 W) (zm4 W) (fun _ _=>by decide) (fun _ _=>by decide)
 rwa [zof] at this
theorem zlZ (w:World) (hx:zcr w) (hp:Pow w) (ht:Tz w):Calls prog 5 #[] w (Ret (.bool true) w):=by
 have HA:=waV (zxo w hx);have HTx:Hid (zaZ (evT evM)=zaZ [42,45,42,45,48,49,32,48,48,58,48,48,58,48,48]):=congrArg zaZ (show evT evM=_ by kernel_rfl)
 have HRaise:=waV (fun b W (hr:zbd W (some ⟨b,0,none⟩) 1 [evC evM]) (ht:Tz W)=>zfL (some ⟨b,0,none⟩) 1 1 [evC evM] W hr dQ (fun h=>(by cases h)) (zq0 evM) ht)
 have HE:Hid (zbC 1 [evC evM]=0):=zq1 evM;have HRs:=waV (fun r h=>ztk (r:=r) h)
 have HP:=waV hp;have HT:=waV ht;have hl:∀j,j<8->j≠4->(zhh evM j).length<=1:=by decide
 have hRd:∀(v:Value) (W X:World) (B:Nat),zbZ W B v evM->Below W.heap.size W X->∃A n m,v=evV A n m evM.back/\zi2 X A n evM/\∀j,j<8->j≠4->n j<=1000:=fun v W X B ho hX=>by
  obtain⟨A',n',m',e,hr',hz',hn'⟩:=ho.rd;exact⟨A',n',m',e,hr'.below hX,fun j hj h4=>by rw[hn' j,if_pos ⟨hj,h4⟩];have:=hl j hj h4;omega⟩
 have HSh:Hid (∀(v:Value) (W:World) B,zbZ W B v evM->∀X,Below W.heap.size W X->Pow X->Calls prog 16 #[v] X (Ret (.tuple #[.string (zaZ [42,45,42,45,48,49,32,48,48,58,48,48,58,48,48]),.int .i64 0]) X)):=fun v W B ho X hX hp=>by
  obtain⟨A',n',m',e,hr',hn'⟩:=hRd v W X B ho hX;rw[e,<-HTx.out];exact zvK A' n' m' X hr' hn' hp
 have HLw:Hid (∀(v:Value) (W:World) B,zbZ W B v evM->∀X,Below W.heap.size W X->Calls prog 10 #[v] X (zi0 (evC evM) X)):=fun v W B ho X hX=>by
  obtain⟨A',n',m',e,hr',hn'⟩:=hRd v W X B ho hX;rw[e];exact zg9 A' n' m' evM X hr' (fun j h1 h2=>by have:=hn' j h1 h2;omega) zlS
 have HOw:Hid (∀v W B,zbZ W B v evM->∃S0 n0 d0 S1 n1 d1 S2 n2 d2 S3 n3 d3 S5 n5 d5 S6 n6 d6 S7 n7 d7,v=.agg #[.slice S0 n0 d0,.slice S1 n1 d1,.slice S2 n2 d2,.slice S3 n3 d3,.bool evM.back,.slice S5 n5 d5,.slice S6 n6 d6,.slice S7 n7 d7]):=fun v W B ho=>ho.eight
 unfold zlY at HA;clear hx hp ht hl hRd HTx;generalize evC evM=K at *;generalize evM.back=bk at *;generalize evM=c at *;go_enter func5,ntmps5;go_wp2_with fail;refine HA.out.mono ?_;rintro e w1 ⟨hb1,v,rfl,ho⟩;have HL1:=waV (HLw.out v w1 _ ho);obtain⟨S0,n0,d0,S1,n1,d1,S2,n2,d2,S3,n3,d3,S5,n5,d5,S6,n6,d6,S7,n7,d7,hv⟩:=HOw.out _ _ _ ho;subst hv;clear ho HA HLw;go_wp2_with fail;refine(HL1.out _ (by exact zaB)).mono ?_
 rintro e w2 ⟨b,rfl,hr,hq2⟩;have hb2:Below w.heap.size w w2:=(hb1.alloc hb1.size _).trans (hq2.mono (by simp;have:=hb1.size;omega))
 have HR:=waV (HRaise.out b w2 hr (HT.out.below hb2));clear hb1 hq2 hr HL1 HRaise;go_wp2_with fail;refine HR.out.mono ?_;rintro e w3 ⟨hb3,(⟨h,_⟩|⟨_,(⟨h,_⟩|⟨l,v,h,rfl,ho,hlen⟩)⟩)⟩
 ·exact absurd HE.out h
 ·cases HRs.out none h
 ·have hl:c=l:=(waB (HRs.out (some l) h)).symm;subst hl;have hb03:=zag hb2 hb3 hb2.size;have HShw:=waV (fun X (hX:Below w3.heap.size w3 X)=>HSh.out v w3 _ ho X hX (zdm HP.out (zag hb03 hX hb03.size)))
  obtain⟨S0,n0,d0,S1,n1,d1,S2,n2,d2,S3,n3,d3,S5,n5,d5,S6,n6,d6,S7,n7,d7,hv⟩:=HOw.out _ _ _ ho;subst hv;clear ho hlen h HP HT HE HR HRs HSh HOw hb2 hb3;go_wp2_with fail;refine(HShw.out _ (by exact zaB)).mono ?_
  rintro e w4 ⟨rfl,hq4⟩;have hb4:Below w.heap.size w w4:=(hb03.alloc hb03.size _).trans (hq4.mono (by simp;have:=hb03.size;omega))
  clear HShw hq4;have hs:((zaZ [42,45,42,45,48,49,32,48,48,58,48,48,58,48,48]).toList==[42,45,42,45,48,49,32,48,48,58,48,48,58,48,48])=true:=by decide+kernel
  go_wp2;go_ret;exact⟨rfl,hb4⟩
theorem zjf (A:Option Addr) (n c:Nat) (L:List Cl) (w:World) (hA:zbd w A n L) (hnil:A=none->n=0) (hbit:∀k,k∈L->zbH k/\k.s<=9223372036854775807) (hx:zcr w) (hp:Pow w) (ht:Tz w):
 Calls prog 3 #[.slice A n c] w (Ret (.bool true) w):=by
 have HV:=waV (fun W (hb:Below w.heap.size w W)=>zlZ W (hx.below hb) (zdm hp hb) (ht.below hb))
 have HSn:=waV (fun W=>zxq W)
 have hl:L.length=n:=hA.1
 by_cases h20:20<n
 ·have hn20:(n:Int)>20:=by omega
  clear hA hnil hbit hl h20 ht hp hx;go_enter func3,ntmps3;go_wp2_with fail;refine(HV.out _ (waC _ _)).mono ?_;rintro e w1 ⟨rfl,hb1⟩;go_wp2;go_ret;exact⟨rfl,hb1⟩
 ·cases hs:zdw L with
  |false=>
   have HR:=waV (fun W (hb:Below w.heap.size w W)=>zfL A n c L W (hA.below hb (waJ _)) oQ hnil hbit (ht.below hb))
   have HM:=waV (fun W (hb:Below w.heap.size w W)=>zkE A n c L W (hA.below hb (waJ _)) oQ (fun k hk=>(hbit k hk).1))
   have HI:=waV (fun W (hb:Below w.heap.size w W)=>ztx A n c L W (hA.below hb (waJ _)) oQ hnil)
   rw[hs] at HM;have HS:=waV hs;have hn20:¬(n:Int)>20:=by omega
   clear hA hnil hbit hs ht hp hx hl h20;go_enter func3,ntmps3;go_wp2_with fail;refine(HR.out _ (waC _ _)).mono ?_;rintro e w1 ⟨hb1,hres⟩;obtain rfl:e=.returned (.tuple #[.agg zcN,.int .i64 (zbC n L)]):=by
    rcases hres with ⟨_,h⟩|⟨h,_⟩
    ·exact h
    ·have:=zvN (n:=n) HS.out;omega
   obtain⟨er,her⟩:∃x,x=zbC n L:=⟨_,rfl⟩;rw[<-her];have HEr:=waV her;clear HR her hres;go_wp2_with fail;have hbX:Below w.heap.size w (w1.alloc (.cells #[.slice none 0 0,.slice none 0 0,.slice none 0 0,.slice none 0 0,.bool false,.slice none 0 0,.slice none 0 0,.slice none 0 0] 26)):=hb1.alloc hb1.size _;have hC:zbY (w1.alloc (.cells #[.slice none 0 0,.slice none 0 0,.slice none 0 0,.slice none 0 0,.bool false,.slice none 0 0,.slice none 0 0,.slice none 0 0] 26)) w1.heap.size #[.slice none 0 0,.slice none 0 0,.slice none 0 0,.slice none 0 0,.bool false,.slice none 0 0,.slice none 0 0,.slice none 0 0]:=zbY.new _ _;generalize w1.alloc (.cells #[.slice none 0 0,.slice none 0 0,.slice none 0 0,.slice none 0 0,.bool false,.slice none 0 0,.slice none 0 0,.slice none 0 0] 26)=V1 at *;generalize w1.heap.size=xb at *;refine(HM.out V1 hbX).mono ?_;rintro e w2 ⟨rfl,hq⟩;replace hC:=hC.below hq;replace hbX:=zag hbX hq hbX.size;clear hq hb1;go_wp2_with fail;refine(HI.out _ hbX).mono ?_;rintro e w3 ⟨hq,(⟨k8,rfl⟩|⟨k8,_,rfl⟩|⟨_,k,_⟩)⟩
   case inr.inr=>rw [HS.out] at k;cases k
   case' inl=>obtain rfl:er=5:=HEr.out.trans (zrm k8)
   case' inr.inl=>obtain rfl:er=1:=HEr.out.trans (ztK k8 HS.out)
   all_goals
    replace hC:=hC.below hq;replace hbX:=zag hbX hq hbX.size;clear hq k8 HI HM;have HLx:=waV hC.ld;clear hC
    go_wp2_with (first|(refine zaf (by rfl) 26 _ rfl #[.slice none 0 0,.slice none 0 0,.slice none 0 0,.slice none 0 0,.bool false,.slice none 0 0,.slice none 0 0,.slice none 0 0] xb 0 rfl underlying26 rfl (by kernel_rfl) HLx.out ?_)|fail)
    refine(HSn.out _).mono ?_;rintro e w5 ⟨rfl,hq⟩;replace hbX:=zag hbX hq hbX.size;clear hq HLx;go_wp2_with fail;refine(HV.out _ hbX).mono ?_;rintro e w6 ⟨rfl,hq⟩;go_wp2;go_ret;exact⟨rfl,zag hbX hq hbX.size⟩
  |true=>
   have h8:¬8<n:=fun h=>by rw[zxp hl h] at hs;cases hs
   have he:zbC n L=0:=by unfold zbC;rw[if_neg h8,if_pos hs]
   have HR:=waV (fun W (hb:Below w.heap.size w W)=>zfL A n c L W (hA.below hb (waJ _)) oQ hnil hbit (ht.below hb))
   have HM:=waV (fun W (hb:Below w.heap.size w W)=>zkE A n c L W (hA.below hb (waJ _)) oQ (fun k hk=>(hbit k hk).1))
   rw[hs] at HM;have HE:Hid (zbC n L=0):=he;have HA:=waV hA;have HB:=waV hbit;have HN:=waV hnil;have HT:=waV ht;have hn20:¬(n:Int)>20:=by omega
   clear hA hnil hbit hs he ht hp hx hl h8;go_enter func3,ntmps3;go_wp2_with fail;refine(HR.out _ (waC _ _)).mono ?_;rintro e w1 ⟨hb1,(⟨hE,_⟩|⟨_,(⟨hr,rfl⟩|⟨x,v,hr,rfl,ho,hlen⟩)⟩)⟩
   ·exact absurd HE.out hE
   ·clear HR hr;go_wp2_with fail;have hbX:Below w.heap.size w (w1.alloc (.cells #[.slice none 0 0,.slice none 0 0,.slice none 0 0,.slice none 0 0,.bool false,.slice none 0 0,.slice none 0 0,.slice none 0 0] 26)):=hb1.alloc hb1.size _;have hC:zbY (w1.alloc (.cells #[.slice none 0 0,.slice none 0 0,.slice none 0 0,.slice none 0 0,.bool false,.slice none 0 0,.slice none 0 0,.slice none 0 0] 26)) w1.heap.size #[.slice none 0 0,.slice none 0 0,.slice none 0 0,.slice none 0 0,.bool false,.slice none 0 0,.slice none 0 0,.slice none 0 0]:=zbY.new _ _;generalize w1.alloc (.cells #[.slice none 0 0,.slice none 0 0,.slice none 0 0,.slice none 0 0,.bool false,.slice none 0 0,.slice none 0 0,.slice none 0 0] 26)=V1 at *;generalize w1.heap.size=xb at *;refine(HM.out V1 hbX).mono ?_;rintro e w2 ⟨rfl,hq⟩;replace hC:=hC.below hq;replace hbX:=zag hbX hq hbX.size;clear hq hb1;have HLx:=waV hC.ld;clear hC
    go_wp2_with (first|(refine zaf (by rfl) 26 _ rfl #[.slice none 0 0,.slice none 0 0,.slice none 0 0,.slice none 0 0,.bool false,.slice none 0 0,.slice none 0 0,.slice none 0 0] xb 0 rfl underlying26 rfl (by kernel_rfl) HLx.out ?_)|fail)
    refine(HSn.out _).mono ?_;rintro e w5 ⟨rfl,hq⟩;replace hbX:=zag hbX hq hbX.size;clear hq HLx;go_wp2_with fail;refine(HV.out _ hbX).mono ?_;rintro e w6 ⟨rfl,hq⟩;go_wp2;go_ret;exact⟨rfl,zag hbX hq hbX.size⟩
   ·clear HR;have hm:zdM x (zaE L):=hr.means;obtain⟨A',n',m',e,hr',hz',hn'⟩:=ho.rd;obtain⟨S0,n0,d0,S1,n1,d1,S2,n2,d2,S3,n3,d3,S5,n5,d5,S6,n6,d6,S7,n7,d7,hv⟩:=ho.eight;have HLx:=waV (fun V (hb:Below w1.heap.size w1 V)=>(show Calls prog 10 #[v] V (zi0 (evC x) V) by
     rw[e];exact zg9 A' n' m' x V (hr'.below hb) (fun j hj h4=>by rw[hn' j,if_pos ⟨hj,h4⟩];exact hlen j hj h4) hm.1))
    have HSl:Hid (zsA L [evC x]):=fun k h0 h1 s hs=>(hm.2 k s h0 h1 hs).symm
    generalize x.back=kb at hv;subst hv;clear ho hr' hz' hn' e hm hr hlen;have hz1:=hb1.size;go_wp2_with fail;have hbY:Below w1.heap.size w1 (w1.alloc (.cells #[.slice S0 n0 d0,.slice S1 n1 d1,.slice S2 n2 d2,.slice S3 n3 d3,.bool kb,.slice S5 n5 d5,.slice S6 n6 d6,.slice S7 n7 d7] 26)):=(waC _ _).alloc (waJ _) _;have hC:zbY (w1.alloc (.cells #[.slice S0 n0 d0,.slice S1 n1 d1,.slice S2 n2 d2,.slice S3 n3 d3,.bool kb,.slice S5 n5 d5,.slice S6 n6 d6,.slice S7 n7 d7] 26)) w1.heap.size #[.slice S0 n0 d0,.slice S1 n1 d1,.slice S2 n2 d2,.slice S3 n3 d3,.bool kb,.slice S5 n5 d5,.slice S6 n6 d6,.slice S7 n7 d7]:=zbY.new _ _;generalize w1.alloc (.cells #[.slice S0 n0 d0,.slice S1 n1 d1,.slice S2 n2 d2,.slice S3 n3 d3,.bool kb,.slice S5 n5 d5,.slice S6 n6 d6,.slice S7 n7 d7] 26)=V1 at *;generalize hxb:w1.heap.size=xb at hC ⊢;clear hxb;refine(HM.out V1 (hb1.trans (hbY.mono hz1))).mono ?_;rintro e w2 ⟨rfl,hq⟩;replace hC:=hC.below hq;replace hbY:=zag hbY hq hbY.size;have HLd:=HLx;have HLx:=waV hC.ld;clear hq HM hC
    go_wp2_with (first|(refine zaf (by rfl) 26 _ rfl #[.slice S0 n0 d0,.slice S1 n1 d1,.slice S2 n2 d2,.slice S3 n3 d3,.bool kb,.slice S5 n5 d5,.slice S6 n6 d6,.slice S7 n7 d7] xb 0 rfl underlying26 rfl (by kernel_rfl) HLx.out ?_)|fail)
    refine(HLd.out _ hbY).mono ?_;rintro e w3 ⟨b2,rfl,hr2,hq⟩;replace hbY:=zag hbY hq hbY.size;have hb3:=hb1.trans (hbY.mono hz1);clear hq HLx HLd;have HQ:=waV (zhV A (some ⟨b2,0,none⟩) n 1 c 1 L [evC x] w3 (HA.out.below hb3 (waJ _)) oQ HN.out HB.out hr2 dQ (fun h=>(by cases h)) (zq0 x) (HT.out.below hb3))
    have HE2:Hid (erE (zbC n L) (zbC 1 [evC x])=0):=by
     show _=_;rw[HE.out,zq1];rfl
    clear hr2;go_wp2_with fail;refine HQ.out.mono ?_;rintro e w7 ⟨hb7,y,f,t,rfl,hy⟩;obtain rfl:y=true:=(hy HE2.out).2 HSl.out;rw[HE2.out];clear HQ hy HE2;go_wp2_with fail;have hb8:Below w.heap.size w (w7.alloc (.cells #[.bool true,.int .i64 t,.bool f] 36)):=(zag hb3 hb7 hb3.size).alloc ((zag hb3 hb7 hb3.size).size) _;refine(HV.out _ hb8).mono ?_;rintro e w9 ⟨rfl,hq⟩;go_wp2;go_ret;exact⟨rfl,zag hb8 hq hb8.size⟩
end Go.Proofs.YtllcdbgjeidlkaaGreatDoor
namespace Go.Proofs.YtllcdbgjeidlkaaGreatDoor
open Go.Proofs.Tryz
open Go.ChangeShapes Go.WideShapes Go.ChangeAt Go.RowKit
def zxr:DataW Unit->Array Value
 | .agg xs=>(xs.map fun| .lit (.int k z)=>Value.int k z|_=>undef).toArray
 |_=> #[]
def zvO (d:DataW Unit):Obj->Obj
 | .cells _ t fr=>.cells (zxr d) t fr
 |o=>o
theorem ztL:(Rows.laid_internal_strconv_uint64pow10:DataW Unit)=Lib.tabData .u64 Lib.pow10Tab:=by kernel_rfl
theorem zxs {l:List (String×DataW Unit)} {W:World} (h:laidMetH prog l W) (hl:l.filter (fun x=>x.1== "internal/strconv.uint64pow10")=[("internal/strconv.uint64pow10",Rows.laid_internal_strconv_uint64pow10)]):Pow W:=by
 have h1:=h.filter (fun x=>x.1== "internal/strconv.uint64pow10")
 rw[hl,MakeChecks.laidMetH_plain _ _ _ (by kernel_rfl),ztL] at h1
 exact Lib.tabIs_of_head (rest:=[]) (show prog.globalNamed "internal/strconv.uint64pow10" =some 2 by kernel_rfl) (show(prog.globals[2]?).map (·.type)=some 365 by kernel_rfl) underlying365 underlying39 kQ kQ h1
theorem zvP:(Rows.laid_math_bits_deBruijn64tab:DataW Unit)=Lib.tabData .u8 (Go.Lib.deBruijn64tab.map fun(k:Nat)=>(k:Int)):=by kernel_rfl
theorem tz_of {l:List (String×DataW Unit)} {W:World} (h:laidMetH prog l W) (hl:l.filter (fun x=>x.1== "math/bits.deBruijn64tab")=[("math/bits.deBruijn64tab",Rows.laid_math_bits_deBruijn64tab)]):Tz W:=by
 have h1:=h.filter (fun x=>x.1== "math/bits.deBruijn64tab")
 rw[hl,MakeChecks.laidMetH_plain _ _ _ (by kernel_rfl),zvP] at h1
 have hg:=(show prog.globalNamed "math/bits.deBruijn64tab" =some 0 by kernel_rfl)
 have h2:=Lib.tabIs_of_head (rest:=[]) hg (show(prog.globals[0]?).map (·.type)=some 303 by kernel_rfl) underlying303 underlying5 kQ kQ h1
 intro j hj;have h3:=h2.cell hg j (by rw[List.length_map];exact hj)
 rw[h3,List.getD_eq_getElem?_getD,List.getD_eq_getElem?_getD,List.getElem?_map,waE hj];rfl
noncomputable def znb (os:Os):World:=
 {World.holding prog os ⟨#[],#[],[]⟩ with heap:=(((World.holding prog os ⟨#[],#[],[]⟩).heap.modify 2 (zvO Rows.laid_internal_strconv_uint64pow10)).modify 3 (zvO Rows.laid_math_bits_deBruijn32tab)).modify 0 (zvO Rows.laid_math_bits_deBruijn64tab)}
theorem zvQ (os:Os) (args:Array Value):laidMet prog [("math/bits.deBruijn32tab",Rows.laid_math_bits_deBruijn32tab),("math/bits.deBruijn64tab",Rows.laid_math_bits_deBruijn64tab),("internal/strconv.uint64pow10",Rows.laid_internal_strconv_uint64pow10)] ((znb os).forCall (fun _ _=>0) ⟨#[],args,[]⟩).memory:=
 laidMet_of_run' 8 kQ kQ
end Go.Proofs.YtllcdbgjeidlkaaGreatDoor
