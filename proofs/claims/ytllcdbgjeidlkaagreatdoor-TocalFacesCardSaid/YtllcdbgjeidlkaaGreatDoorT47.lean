/- A part of the proof: WRd37b -/
import Derived.Test.YtllcdbgjeidlkaaGreatDoorT46
import Derived.Test.YtllcdbgjeidlkaaGreatDoorT41
import Derived.Test.YtllcdbgjeidlkaaGreatDoorT36
import Derived.Test.YtllcdbgjeidlkaaGreatDoorT43
import Derived.Test.YtllcdbgjeidlkaaGreatDoorT45
import Derived.Test.YtllcdbgjeidlkaaGreatDoorT40
import Derived.Test.YtllcdbgjeidlkaaGreatDoorT37
set_option maxHeartbeats 80000000
set_option maxRecDepth 100000
set_option linter.unusedSimpArgs false
set_option linter.unusedVariables false
namespace Go.Proofs.YtllcdbgjeidlkaaGreatDoor
open Go.Proofs.Tryz
open Go.RowKit
section
variable {w : World} {b C B : Nat} {s : ByteArray} {σ σ1 σ2 σ3 σ4 : PS} {cD cT : CalV} (hs : s.size <= 1000000)
include hs
theorem zwA (h:RdP w b s σ) (hc:zaQ w C B zc8) (hm:zcv w) (hCb:C≠b) (hCB:C<B) (hbB:b<B) (hB:B<=w.heap.size)
 (p0:(zdL σ==0)=false) (l0:zwR (zdL σ)=false) (d0:zkM (zdJ σ)=true)
 (hD:∀W,RdP W b s σ->zaQ W C B zc8->zcv W->B<=W.heap.size->Calls prog 105 #[kV b s,.pointer (some ⟨C,0,none⟩)] W (zwS (.tuple #[]) b C B s σ1 cD W)) (x1:zii s.size σ1=(σ2,true))
 (p2:(zdL σ2==0)=false) (l2:zwR (zdL σ2)=false) (d2:zkM (zdJ σ2)=false)
 (hT:∀W,RdP W b s σ2->zaQ W C B cD->B<=W.heap.size->Calls prog 106 #[kV b s,.pointer (some ⟨C,0,none⟩)] W (zwS (.tuple #[]) b C B s σ3 cT W)) (x3:zii s.size σ3=(σ4,false)):
 Calls prog 44 #[kV b s,.pointer (some ⟨C,0,none⟩)] w (zwS (.tuple #[]) b C B s σ4 cT w):=by
 have hlt:=h.lt;have hCl:=hc.lt;have HW0:Hid (WS w b C B s σ zc8 (w.alloc (.cells #[.pointer (some ⟨b,0,none⟩),.string s] 98))):=
  ⟨h.alloc _,hc.alloc _,zdu _ _ _ _,((Chg.refl b w).two C).alloc _,hm.below ((waC _ w).alloc (waJ _) _),hCb,hCB,hbB,by omega,by omega⟩
 have HPk:=waV (fun W σ (h:RdP W b s σ)=>zvl h)
 have HWd:=waV (fun W σ (h:RdP W b s σ) (hm:zcv W)=>zq9 hs h hm)
 have HN1:=waV (fun W (h:RdP W b s σ1)=>zra hs h)
 rw[x1] at HN1;have HN3:=waV (fun W (h:RdP W b s σ3)=>zra hs h)
 rw[x3] at HN3;dsimp only at HN1 HN3;have HD:=waV hD;have HT:=waV hT;have P0:=waV p0;have P2:=waV p2;have L0:=waV l0;have L2:=waV l2;have D0:=waV d0;have D2:=waV d2;clear h hc hm hD hT p0 p2 l2 d0 d2 x1 x3;go_enter func44,ntmps44;go_wp2;go_step3;go_wp2_with fail;refine(HPk.out _ _ HW0.out.rd).mono ?_;rintro e w1 ⟨rfl,h1,g1⟩;have HS1:=waV (HW0.out.step h1 g1);go_wp2_with fail;refine(zeW _ _).mono ?_;rintro e w2 ⟨rfl,rfl⟩;go_wp2;go_step3;go_wp2;clear l0 h1 g1
 go_loopg [4,5] 2 (fun gg dv tv wr=>tv=.bool false/\∃(date:Bool) (c':CalV) (σ':PS),dv=.bool date/\Hid ((gg=2/\date=false/\σ'=σ/\c'=zc8)\/(gg=1/\date=true/\σ'=σ2/\c'=cD))/\Hid (WS w b C B s σ' c' wr))
 case atStart=>exact⟨rfl,false,_,_,rfl,.inl ⟨rfl,rfl,rfl,rfl⟩,HS1.out⟩
 case round=>
  obtain⟨rfl,date,c',σ',rfl,HQ,HWr⟩:=hrel;have HAny:=waV (fun W=>ztP (zdJ σ') W (HWr.out.word hs))
  have hzr:=HWr.out.size;rcases HQ.out with ⟨hg,rfl,rfl,rfl⟩|⟨hg,rfl,rfl,rfl⟩
  ·have hp0':=P0.out;have hlt2:=L0.out;rw[D0.out] at HAny
   (try clear c0 c1)
   obtain⟨c0,c1⟩:=zdg.cells2 (WS.box HWr.out);go_wp2_with fail;refine(HWd.out _ _ HWr.out.rd HWr.out.mx).mono ?_;rintro e w3 ⟨rfl,h3,g3⟩;have HW3:=waV (HWr.out.step h3 g3)
   (try clear c0 c1)
   obtain⟨c0,c1⟩:=zdg.cells2 (WS.box HW3.out);go_wp2_with fail;refine(HAny.out _).mono ?_;rintro e w4 ⟨rfl,hb4⟩;have HW4:=waV (HW3.out.below hb4)
   (try clear c0 c1)
   obtain⟨c0,c1⟩:=zdg.cells2 (WS.box HW4.out);go_wp2_with fail;refine(HPk.out _ _ HW4.out.rd).mono ?_;rintro e w5 ⟨rfl,h5,g5⟩;have HW5:=waV (HW4.out.step h5 g5);clear h3 g3 hb4 h5 g5 HW3 HW4 HAny
   (try clear c0 c1)
   obtain⟨c0,c1⟩:=zdg.cells2 (WS.box HW5.out);go_wp2_with fail;refine(HPk.out _ _ HW5.out.rd).mono ?_;rintro e w6 ⟨rfl,h6,g6⟩;have HW6:=waV (HW5.out.step h6 g6);clear h6 g6 HW5
   (try clear c0 c1)
   obtain⟨c0,c1⟩:=zdg.cells2 (WS.box HW6.out);go_wp2_with fail;refine(zeW _ _).mono ?_;rintro e w7 ⟨rfl,rfl⟩;rw[hlt2];clear hlt2;go_wp2_with fail;refine(HD.out _ HW6.out.rd HW6.out.cal HW6.out.mx (waW hB HW6.out.size)).mono ?_;rintro e w8 ⟨rfl,h8,k8,g8⟩;have HW8:=waV (HW6.out.two h8 k8 g8);clear h8 k8 g8
   (try clear c0 c1)
   obtain⟨c0,c1⟩:=zdg.cells2 (WS.box HW8.out);go_wp2_with fail;refine(HN1.out _ (WS.rd HW8.out)).mono ?_;rintro e w9 ⟨rfl,h9,g9⟩;have HW9:=waV (WS.step HW8.out h9 g9);clear h9 g9;go_wp2
   go_roundg 1
   case measure=>omega
   case rel=>exact⟨rfl,true,cD,σ2,rfl,.inr ⟨rfl,rfl,rfl,rfl⟩,HW9.out⟩
  ·have hp0':=P2.out;have hlt2:=L2.out;rw[D2.out] at HAny
   (try clear c0 c1)
   obtain⟨c0,c1⟩:=zdg.cells2 (WS.box HWr.out);go_wp2_with fail;refine(HWd.out _ _ HWr.out.rd HWr.out.mx).mono ?_;rintro e w3 ⟨rfl,h3,g3⟩;have HW3:=waV (HWr.out.step h3 g3)
   (try clear c0 c1)
   obtain⟨c0,c1⟩:=zdg.cells2 (WS.box HW3.out);go_wp2_with fail;refine(HAny.out _).mono ?_;rintro e w4 ⟨rfl,hb4⟩;have HW4:=waV (HW3.out.below hb4)
   (try clear c0 c1)
   obtain⟨c0,c1⟩:=zdg.cells2 (WS.box HW4.out);go_wp2_with fail;refine(HPk.out _ _ HW4.out.rd).mono ?_;rintro e w5 ⟨rfl,h5,g5⟩;have HW5:=waV (HW4.out.step h5 g5);clear h3 g3 hb4 h5 g5 HW3 HW4 HAny
   (try clear c0 c1)
   obtain⟨c0,c1⟩:=zdg.cells2 (WS.box HW5.out);go_wp2_with fail;refine(HPk.out _ _ HW5.out.rd).mono ?_;rintro e w6 ⟨rfl,h6,g6⟩;have HW6:=waV (HW5.out.step h6 g6);clear h6 g6 HW5
   (try clear c0 c1)
   obtain⟨c0,c1⟩:=zdg.cells2 (WS.box HW6.out);go_wp2_with fail;refine(zeW _ _).mono ?_;rintro e w7 ⟨rfl,rfl⟩;rw[hlt2];clear hlt2;go_wp2_with fail;refine(HT.out _ HW6.out.rd HW6.out.cal (waW hB HW6.out.size)).mono ?_;rintro e w8 ⟨rfl,h8,k8,g8⟩;have HW8:=waV (HW6.out.two h8 k8 g8);clear h8 k8 g8
   (try clear c0 c1)
   obtain⟨c0,c1⟩:=zdg.cells2 (WS.box HW8.out);go_wp2_with fail;refine(HN3.out _ (WS.rd HW8.out)).mono ?_;rintro e w9 ⟨rfl,h9,g9⟩;have HW9:=waV (WS.step HW8.out h9 g9);go_wp2
   first|go_end0|(refine waY (results_none rfl _ _ _) rfl ?_)
   exact⟨rfl,HW9.out.rd,HW9.out.cal,HW9.out.chg⟩
end
def rowC (C:Nat):Array Value:=#[.pointer (some ⟨C,1,none⟩),.int .i64 0,.int .i64 0,.int .i64 0,.int .i64 1,.pointer (some ⟨C,2,none⟩),.int .i64 0,.int .i64 0,.int .i64 0,.int .i64 1,.pointer (some ⟨C,3,none⟩),.int .i64 0,.int .i64 0,.int .i64 0,.int .i64 1,.pointer (some ⟨C,5,none⟩),.int .i64 1,.int .i64 0,.int .i64 0,.int .i64 0,.pointer (some ⟨C,6,none⟩),.int .i64 1,.int .i64 0,.int .i64 0,.int .i64 0,.pointer (some ⟨C,7,none⟩),.int .i64 1,.int .i64 0,.int .i64 0,.int .i64 0]
structure FlS (w wr:World) (cs:Array Value):Prop where
 cal:zb9 wr w.heap.size cs
 res:zb9 wr (w.heap.size+1) zcT
 row:wr.heap[w.heap.size+4]?=some (.cells (rowC w.heap.size) 191 (0,0))
 be:Below w.heap.size w wr
theorem FlS.below {w wr X:World} {cs:Array Value} (h:FlS w wr cs) (hb:Below wr.heap.size wr X):FlS w X cs:=
 ⟨h.cal.below hb,h.res.below hb,(hb.block _ (waL.1 h.row).1).trans h.row,zaf h.be hb h.be.size⟩
theorem zuk (A0:Option Addr) (a1 a2 a3 a5 a6 a7:Addr) (n0 n1 n2 n3 n5 n6 n7 m0 m1 m2 m3 m5 m6 m7:Nat) (bk:Bool) (w:World):
 Calls prog 46 #[.agg #[.slice A0 n0 m0,.slice (some a1) n1 m1,.slice (some a2) n2 m2,.slice (some a3) n3 m3,.bool bk,.slice (some a5) n5 m5,.slice (some a6) n6 m6,.slice (some a7) n7 m7]] w (Ret (.agg #[.slice A0 n0 m0,.slice (some a1) n1 m1,.slice (some a2) n2 m2,.slice (some a3) n3 m3,.bool bk,.slice (some a5) n5 m5,.slice (some a6) n6 m6,.slice (some a7) n7 m7]) w):=by
 have heql:=fun W A n m=>Lib.run_eql_slice_nil (P:=prog) W 24 64 A n m 0 0 underlying24
 go_enter func46,ntmps46;go_wp2
 go_loopw [29] (fun i wr=>∃k:Nat,k<=6/\i=.int .i64 k/\Hid (FlS w wr #[.slice A0 n0 m0,.slice (some a1) n1 m1,.slice (some a2) n2 m2,.slice (some a3) n3 m3,.bool bk,.slice (some a5) n5 m5,.slice (some a6) n6 m6,.slice (some a7) n7 m7])) (fun i _=>6 - (intOf i).toNat)
 case atStart=>
  refine⟨0,by omega,rfl,?_,?_,?_,?_⟩
  ·exact(zb9.new w _).below (((((waC _ _).alloc (waJ _) _).alloc (by simp) _).alloc (by simp<;>omega) _).alloc (by simp<;>omega) _)
  ·have h:=(zb9.new (w.alloc (.cells #[.slice A0 n0 m0,.slice (some a1) n1 m1,.slice (some a2) n2 m2,.slice (some a3) n3 m3,.bool bk,.slice (some a5) n5 m5,.slice (some a6) n6 m6,.slice (some a7) n7 m7] 26)) zcT);rw[World.size_alloc] at h;exact h.below ((((waC _ _).alloc (waJ _) _).alloc (by simp) _).alloc (by simp<;>omega) _)
  ·have h:=World.alloc_heap_new ((((w.alloc (.cells #[.slice A0 n0 m0,.slice (some a1) n1 m1,.slice (some a2) n2 m2,.slice (some a3) n3 m3,.bool bk,.slice (some a5) n5 m5,.slice (some a6) n6 m6,.slice (some a7) n7 m7] 26)).alloc (.cells zcT 26)).alloc (.cells #[.int .i64 0,.int .i64 0,.int .i64 0,.int .i64 1] 64)).alloc (.cells #[.int .i64 1,.int .i64 0,.int .i64 0,.int .i64 0] 64)) (.cells (rowC w.heap.size) 191);rw[World.size_alloc,World.size_alloc,World.size_alloc,World.size_alloc] at h;exact h
  ·exact(((((waC _ w).alloc (waJ _) _).alloc (by simp) _).alloc (by simp<;>omega) _).alloc (by simp<;>omega) _).alloc (by simp<;>omega) _
 case round=>
  obtain⟨k,hk,rfl,HF⟩:=hrel;have hz:=HF.out.be.size;have hlr:w.heap.size+4<wr.heap.size:=(waL.1 HF.out.row).1;have hlc:w.heap.size<wr.heap.size:=HF.out.cal.lt
  by_cases hlt:k<6
  ·have R:=fun j v (h:(rowC w.heap.size)[j]?=some v)=>(World.cell?_of_heap (o:=j) HF.out.row).trans h
   have X:=HF.out.cal.lies;obtain rfl|rfl|rfl|rfl|rfl|rfl:k=0\/k=1\/k=2\/k=3\/k=4\/k=5:=by omega
   ·have r0:wr.cell? ⟨w.heap.size+4,0,none⟩=some (.pointer (some ⟨w.heap.size,1,none⟩)):=R 0 _ rfl;have r1:wr.cell? ⟨w.heap.size+4,1,none⟩=some (.int .i64 0):=R 1 _ rfl;have r2:wr.cell? ⟨w.heap.size+4,2,none⟩=some (.int .i64 0):=R 2 _ rfl;have r3:wr.cell? ⟨w.heap.size+4,3,none⟩=some (.int .i64 0):=R 3 _ rfl;have r4:wr.cell? ⟨w.heap.size+4,4,none⟩=some (.int .i64 1):=R 4 _ rfl;have x:wr.cell? ⟨w.heap.size,1,none⟩=some (.slice (some a1) n1 m1):=X 1 _ rfl;clear R X;go_wp2;go_roundw
    case rel=>exact⟨1,by decide,rfl,HF.out.below ((waC _ wr).alloc (waJ _) _)⟩
    case measure=>simp [intOf]
   ·have r0:wr.cell? ⟨w.heap.size+4,5,none⟩=some (.pointer (some ⟨w.heap.size,2,none⟩)):=R 5 _ rfl;have r1:wr.cell? ⟨w.heap.size+4,6,none⟩=some (.int .i64 0):=R 6 _ rfl;have r2:wr.cell? ⟨w.heap.size+4,7,none⟩=some (.int .i64 0):=R 7 _ rfl;have r3:wr.cell? ⟨w.heap.size+4,8,none⟩=some (.int .i64 0):=R 8 _ rfl;have r4:wr.cell? ⟨w.heap.size+4,9,none⟩=some (.int .i64 1):=R 9 _ rfl;have x:wr.cell? ⟨w.heap.size,2,none⟩=some (.slice (some a2) n2 m2):=X 2 _ rfl;clear R X;go_wp2;go_roundw
    case rel=>exact⟨2,by decide,rfl,HF.out.below ((waC _ wr).alloc (waJ _) _)⟩
    case measure=>simp [intOf]
   ·have r0:wr.cell? ⟨w.heap.size+4,10,none⟩=some (.pointer (some ⟨w.heap.size,3,none⟩)):=R 10 _ rfl;have r1:wr.cell? ⟨w.heap.size+4,11,none⟩=some (.int .i64 0):=R 11 _ rfl;have r2:wr.cell? ⟨w.heap.size+4,12,none⟩=some (.int .i64 0):=R 12 _ rfl;have r3:wr.cell? ⟨w.heap.size+4,13,none⟩=some (.int .i64 0):=R 13 _ rfl;have r4:wr.cell? ⟨w.heap.size+4,14,none⟩=some (.int .i64 1):=R 14 _ rfl;have x:wr.cell? ⟨w.heap.size,3,none⟩=some (.slice (some a3) n3 m3):=X 3 _ rfl;clear R X;go_wp2;go_roundw
    case rel=>exact⟨3,by decide,rfl,HF.out.below ((waC _ wr).alloc (waJ _) _)⟩
    case measure=>simp [intOf]
   ·have r0:wr.cell? ⟨w.heap.size+4,15,none⟩=some (.pointer (some ⟨w.heap.size,5,none⟩)):=R 15 _ rfl;have r1:wr.cell? ⟨w.heap.size+4,16,none⟩=some (.int .i64 1):=R 16 _ rfl;have r2:wr.cell? ⟨w.heap.size+4,17,none⟩=some (.int .i64 0):=R 17 _ rfl;have r3:wr.cell? ⟨w.heap.size+4,18,none⟩=some (.int .i64 0):=R 18 _ rfl;have r4:wr.cell? ⟨w.heap.size+4,19,none⟩=some (.int .i64 0):=R 19 _ rfl;have x:wr.cell? ⟨w.heap.size,5,none⟩=some (.slice (some a5) n5 m5):=X 5 _ rfl;clear R X;go_wp2;go_roundw
    case rel=>exact⟨4,by decide,rfl,HF.out.below ((waC _ wr).alloc (waJ _) _)⟩
    case measure=>simp [intOf]
   ·have r0:wr.cell? ⟨w.heap.size+4,20,none⟩=some (.pointer (some ⟨w.heap.size,6,none⟩)):=R 20 _ rfl;have r1:wr.cell? ⟨w.heap.size+4,21,none⟩=some (.int .i64 1):=R 21 _ rfl;have r2:wr.cell? ⟨w.heap.size+4,22,none⟩=some (.int .i64 0):=R 22 _ rfl;have r3:wr.cell? ⟨w.heap.size+4,23,none⟩=some (.int .i64 0):=R 23 _ rfl;have r4:wr.cell? ⟨w.heap.size+4,24,none⟩=some (.int .i64 0):=R 24 _ rfl;have x:wr.cell? ⟨w.heap.size,6,none⟩=some (.slice (some a6) n6 m6):=X 6 _ rfl;clear R X;go_wp2;go_roundw
    case rel=>exact⟨5,by decide,rfl,HF.out.below ((waC _ wr).alloc (waJ _) _)⟩
    case measure=>simp [intOf]
   ·have r0:wr.cell? ⟨w.heap.size+4,25,none⟩=some (.pointer (some ⟨w.heap.size,7,none⟩)):=R 25 _ rfl;have r1:wr.cell? ⟨w.heap.size+4,26,none⟩=some (.int .i64 1):=R 26 _ rfl;have r2:wr.cell? ⟨w.heap.size+4,27,none⟩=some (.int .i64 0):=R 27 _ rfl;have r3:wr.cell? ⟨w.heap.size+4,28,none⟩=some (.int .i64 0):=R 28 _ rfl;have r4:wr.cell? ⟨w.heap.size+4,29,none⟩=some (.int .i64 0):=R 29 _ rfl;have x:wr.cell? ⟨w.heap.size,7,none⟩=some (.slice (some a7) n7 m7):=X 7 _ rfl;clear R X;go_wp2;go_roundw
    case rel=>exact⟨6,by decide,rfl,HF.out.below ((waC _ wr).alloc (waJ _) _)⟩
    case measure=>simp [intOf]
  ·obtain rfl:k=6:=by omega
   have HL:=waV HF.out.cal.ld;have HR:=waV HF.out.res
   go_wp2_with (first|(refine zag (by rfl) 26 _ rfl #[_,_,_,_,_,_,_,_] w.heap.size 0 rfl underlying26 rfl (by kernel_rfl) HL.out ?_)|(refine za0 rfl _ _ rfl _ HR.out rfl rfl rfl (by kernel_rfl) (by simp[Value.oneCell']) ?_;intro V8 hc8 hr8)|fail)
   refine waY (zhk rfl rfl hc8 kQ) rfl ?_;exact⟨rfl,hr8.to_below' HF.out.be oQ⟩
theorem zul {w:World} {C B:Nat} {c:CalV} (h:zaQ w C B c) (hn:∀j,j<8->j≠4->j≠0->zhx c j≠[]):∃A0 n0 m0 a1 n1 m1 a2 n2 m2 a3 n3 m3 a5 n5 m5 a6 n6 m6 a7 n7 m7,
 (∀(j:Nat) (v:Value),(#[.slice A0 n0 m0,.slice (some a1) n1 m1,.slice (some a2) n2 m2,.slice (some a3) n3 m3,.bool c.back,.slice (some a5) n5 m5,.slice (some a6) n6 m6,.slice (some a7) n7 m7]:Array Value)[j]?=some v->w.cell? ⟨C,0+j,none⟩=some v)/\
 zb0 w B (.agg #[.slice A0 n0 m0,.slice (some a1) n1 m1,.slice (some a2) n2 m2,.slice (some a3) n3 m3,.bool c.back,.slice (some a5) n5 m5,.slice (some a6) n6 m6,.slice (some a7) n7 m7]) c:=by
 obtain⟨g,h1,h2,h3⟩:=h;obtain⟨A0,n0,m0,e0⟩:=zf7 (h3 0 dQ dQ).1;have hs:∀j,j<8->j≠4->j≠0->∃p n m,g j=.slice (some p) n m:=fun j hj h4 hne=>by
  rcases zbO (h3 j hj h4).1 with ⟨_,h0⟩|⟨gb,cap,e,_⟩
  ·exact absurd (List.length_eq_zero_iff.1 h0) (hn j hj h4 hne)
  ·exact⟨_,_,_,e⟩
 obtain⟨a1,n1,m1,e1⟩:=hs 1 dQ dQ dQ;obtain⟨a2,n2,m2,e2⟩:=hs 2 dQ dQ dQ;obtain⟨a3,n3,m3,e3⟩:=hs 3 dQ dQ dQ;obtain⟨a5,n5,m5,e5⟩:=hs 5 dQ dQ dQ;obtain⟨a6,n6,m6,e6⟩:=hs 6 dQ dQ dQ;obtain⟨a7,n7,m7,e7⟩:=hs 7 dQ dQ dQ;refine⟨A0,n0,m0,a1,n1,m1,a2,n2,m2,a3,n3,m3,a5,n5,m5,a6,n6,m6,a7,n7,m7,fun j v hj=>?_,?_⟩
 ·rw[waH];have hj8:j<8:=(waL.1 hj).1;rw[h1.1 j hj8];rw[<-e0,<-e1,<-e2,<-e3,<-h2,<-e5,<-e6,<-e7] at hj;obtain rfl|rfl|rfl|rfl|rfl|rfl|rfl|rfl:j=0\/j=1\/j=2\/j=3\/j=4\/j=5\/j=6\/j=7:=by omega
  all_goals (injection hj with hj;subst hj;rfl)
 ·have H:=fun j hj h4=>(h3 j hj h4).1
  refine⟨_,_,_,_,_,_,_,rfl,⟨?_,?_,?_,?_⟩,?_,?_,?_⟩
  ·rw[<-e0];exact H 0 (by decide) (by decide)
  ·rw[<-e1];exact H 1 (by decide) (by decide)
  ·rw[<-e2];exact H 2 (by decide) (by decide)
  ·rw[<-e3];exact H 3 (by decide) (by decide)
  ·rw[<-e5];exact H 5 (by decide) (by decide)
  ·rw[<-e6];exact H 6 (by decide) (by decide)
  ·rw[<-e7];exact H 7 (by decide) (by decide)
def zx7:List UInt8:=[109,111,110,116,104,108,121]
def T37:List UInt8:=[42,45,42,45,48,49,32,48,48,58,48,48,58,48,48]
def P37 (k:Nat):PS:=⟨T37.drop k,0,0⟩
theorem zfz (b:Nat) (f:Nat) (hf:f<7) (i j:Nat) (n:Int) (k1:zou (za2 T37).size f (P37 i)=(P37 j,n)) (k2:zlU (za2 T37).size f (P37 j)=P37 j) (k3:zeD zwQ (P37 j)=(P37 j,false)) (k4:isP [47] (P37 j)=(P37 j,false)) (k5:isP [42] (P37 i)=(P37 i,false)) (k6:isP [44] (P37 j)=(P37 j,false)) (hf1:f≠1):
 ∀W,RdP W b (za2 T37) (P37 i)->Calls prog 168 #[kV b (za2 T37),.int .i64 (f:Int)] W (zhK [⟨1,n,0,0⟩] b (za2 T37) (P37 j) W):=fun W h=>
 zwz dQ f hf1 (P37 j) ⟨1,n,0,0⟩ (fun V hV=>zx3 dQ f hf (P37 j) n hV k1 k2 k3 k4) k5 k6 h
theorem zum (w:World) (b C B:Nat) (h:RdP w b (za2 T37) (P37 0)) (hc:zaQ w C B zc8) (hm:zcv w) (hCb:C≠b) (hCB:C<B) (hbB:b<B) (hB:B<=w.heap.size):Calls prog 44 #[kV b (za2 T37),.pointer (some ⟨C,0,none⟩)] w (zwS (.tuple #[]) b C B (za2 T37) (P37 15) evM w):=by
 have hs:(za2 T37).size<=1000000:=by decide
 refine zwA hs (σ:=P37 0) (σ1:=P37 6) (σ2:=P37 7) (σ3:=P37 15) (σ4:=P37 15) (cD:={zc8 with year:=[⟨0,0,0,1⟩],month:=[⟨0,0,0,1⟩],back:=false,day:=[⟨1,1,0,0⟩]}) (cT:=evM) h hc hm hCb hCB hbB hB dQ dQ kQ (fun W hW hcW hmW hBW=>?_) kQ dQ dQ kQ (fun W hW hcW hBW=>?_) kQ
 ·exact zx5 hs (c:=zc8) (τ1:=P37 1) (τ2:=P37 2) (τ3:=P37 3) (τ4:=P37 4) (τ5:=P37 6) (X:=za2 [42,45,42,45,48,49]) hW hcW hmW hCb hCB hbB hBW kQ kQ kQ (fun V hV=>zu8 hs 1 (P37 1) kQ hV) kQ (fun V hV=>zu8 hs 2 (P37 3) kQ hV) kQ
   (zfz b 3 dQ 4 6 1 kQ kQ kQ kQ kQ kQ dQ)
 ·exact zx6 hs (τ1:=P37 9) (τ2:=P37 10) (τ3:=P37 12) (τ4:=P37 13) (τ5:=P37 15) (c:={zc8 with year:=[⟨0,0,0,1⟩],month:=[⟨0,0,0,1⟩],back:=false,day:=[⟨1,1,0,0⟩]}) hW hcW hCb hCB hbB hBW
   (zfz b 4 dQ 7 9 0 kQ kQ kQ kQ kQ kQ dQ) kQ
   (zfz b 5 dQ 10 12 0 kQ kQ kQ kQ kQ kQ dQ) kQ
   (zfz b 6 dQ 13 15 0 kQ kQ kQ kQ kQ kQ dQ)
theorem zmf {fn:Func} {p t u:Tmp} (hf:fn.results=#[.cell p 26,.tmp t,.tmp u]) {tmps:Array Value} {W:World} {b:Nat} {cs:Array Value} {x y:Value} (hp:tmps.getD p undef=.pointer (some ⟨b,0,none⟩)) (hx:tmps.getD t undef=x) (hy:tmps.getD u undef=y) (h:zb9 W b cs) (hi:(prog.info? 26).map (·.size)=some cs.size):
 (results fn tmps).run prog W=.ok (.tuple #[.agg cs,x,y]) W:=by
 rw[ze9 hf,hp,hx,hy];have e:(asAddr (.pointer (some ⟨b,0,none⟩))).run prog W=.ok ⟨b,0,none⟩ W:=rfl;rw[e,Result.andThen_ok,zl4 h hi,Result.andThen_ok]
theorem zb9.chg2 {w w':World} {b C D:Nat} {cs:Array Value} (h:zb9 w D cs) (g:Chg2 b C w w') (hb:D≠b) (hC:D≠C):zb9 w' D cs:=(g.block D h.lt hb hC).trans h
def zmg (w:World) (e:Ending) (w':World):Prop:=Below w.heap.size w w'/\∃v,e=.returned (.tuple #[v,.int .i64 7,.int .i64 0])/\zb0 w' w.heap.size v evM
theorem zx8 (w:World) (hm:zcv w):Calls prog 15 #[.string (za2 zx7)] w (zmg w):=by
 have HN:=waV (fun W=>ztS (za2 zx7) dQ W)
 rw[show zlV (za2 zx7).data.toList=T37 by rw[zbd];kernel_rfl] at HN
 have HNw:=waV (fun W=>zw6 (s:=za2 T37) dQ W)
 unfold zpB at HNw;rw[show newP (za2 T37)=P37 0 by rw[zwk,zbd];kernel_rfl] at HNw
 have HWd:=waV (fun W b C B h hc hm h1 h2 h3 h4=>zum W b C B h hc hm h1 h2 h3 h4)
 have hT:(za2 T37).toList.isEmpty=false:=by rw[zjq];rfl
 have hz:(za2 zx7).size=7:=rfl;have HZ0:Hid (zb9 (w.alloc (.cells zcT 26)) w.heap.size zcT):=zb9.new _ _;have HM0:=waV (hm.alloc (.cells zcT 26));have HB0:=waV ((waC _ w).alloc (waJ _) (.cells zcT 26));have HP15:Hid ((P37 15).a=0/\(P37 15).e=0):=⟨rfl,rfl⟩;have HC1:=waV (fun W C B (h:zaQ W C B evM)=>zul h dQ)
 have HOw:=waV (fun(W X:World) B v (h:zb0 W B v evM) (hb:Below W.heap.size W X)=>h.below hb)
 rw[show evM.back=false from rfl] at HC1
 clear hm;unfold zmg;generalize P37 15=τ at *;generalize za2 T37=T at *;generalize za2 zx7=S at *;generalize evM=M at *;go_enter func15,ntmps15;go_wp2_with fail;refine(HN.out _).mono ?_;rintro e w1 ⟨rfl,hb1⟩;have HB1:=waV (zaf HB0.out hb1 HB0.out.size);have HM1:=waV (HM0.out.below hb1);have HZ1:=waV (HZ0.out.below hb1);clear hb1 HB0 HM0 HZ0 HN;go_wp2_with fail;refine(HNw.out _).mono ?_;rintro e w2 ⟨b,hb,rfl,hr2,hb2⟩;have hlt2:=hr2.lt;have hbw:w.heap.size<=b:=waW HB1.out.size hb;have HB2:=waV (zaf HB1.out hb2 HB1.out.size);have HM2:=waV (HM1.out.below hb2);have HZ2:=waV (HZ1.out.below hb2);have hRb:w.heap.size≠b:=by have:=HZ1.out.lt;omega
 clear hb2;go_wp2_with fail;have HB3:=waV ((HB2.out.alloc HB2.out.size (.cells #[.pointer (some ⟨b,0,none⟩),.string T] 98)).alloc (by have:=HB2.out.size;simp;omega) (.cells zcT 26))
 have HZ3:=waV (HZ2.out.below (((waC _ w2).alloc (waJ _) (.cells #[.pointer (some ⟨b,0,none⟩),.string T] 98)).alloc (by simp) (.cells zcT 26)))
 have HX3:=waV ((zdu w2 b T 98).alloc (.cells zcT 26));have hzR:=HZ2.out.lt;refine(HWd.out _ b (w2.heap.size+1) (w2.heap.size+2) ((hr2.alloc _).alloc _) (zoH w2 _ _ _) ((HM2.out.alloc _).alloc _) oQ oQ oQ (by simp)).mono ?_
 rintro e w4 ⟨rfl,h4,hc4,g4⟩;have HB4:=waV (g4.below HB3.out hbw oQ HB3.out.size);have HZ4:=waV (HZ3.out.chg2 g4 hRb oQ);obtain⟨c0,c1⟩:=(⟨g4.cell oQ oQ HX3.out.1,g4.cell oQ oQ HX3.out.2⟩:zdg w4 w2.heap.size b T);clear hr2;go_wp2_with fail;refine(zso h4).mono ?_;rintro e w5 ⟨rfl,hn5⟩;have hb5:Below w4.heap.size w4 w5:=by obtain⟨n5,rfl⟩:=hn5;exact⟨rfl,rfl,rfl,waJ _,fun _ _=>rfl⟩
 have HB5:=waV (zaf HB4.out hb5 HB4.out.size);have HZ5:=waV (HZ4.out.below hb5);have HC5:=waV (zl8 hc4 oQ hb5);obtain⟨A0,n0,m0,a1,n1,m1,a2,n2,m2,a3,n3,m3,a5,n5,m5,a6,n6,m6,a7,n7,m7,hl,ho⟩:=HC1.out _ _ _ HC5.out;have HL:=waV hl;have HO:=waV (ho.base (B':=w.heap.size) oQ);clear c0 c1 h4 hc4 g4 hb5 hn5 HB3 HZ3 HX3 HB2 HM2 HZ2 HB1 HM1 HZ1 hl ho HC5 HC1 HWd HNw;rw[HP15.out.1,HP15.out.2]
 go_wp2_with (first|(refine zag (by rfl) 26 _ rfl #[_,_,_,_,_,_,_,_] (w2.heap.size+1) 0 rfl underlying26 rfl (by kernel_rfl) HL.out ?_)|fail)
 refine(zuk A0 a1 a2 a3 a5 a6 a7 n0 n1 n2 n3 n5 n6 n7 m0 m1 m2 m3 m5 m6 m7 false _).mono ?_;rintro e w6 ⟨rfl,hb6⟩;have HZ6:=waV (HZ5.out.below hb6);have HO6:=waV (HOw.out _ _ _ _ HO.out hb6);have HB6:=waV (zaf HB5.out hb6 HB5.out.size);clear hb6
 go_wp2_with (first|(refine za0 rfl _ _ rfl _ HZ6.out rfl rfl rfl (by kernel_rfl) (by simp[Value.oneCell']) ?_;intro V8 hc8 hr8)|fail)
 refine waY (zmf rfl rfl rfl rfl hc8 kQ) rfl ?_;exact⟨hr8.to_below' HB6.out (waJ _),_,rfl,HO6.out.rls HZ6.out hr8⟩
end Go.Proofs.YtllcdbgjeidlkaaGreatDoor
namespace Go.Proofs.YtllcdbgjeidlkaaGreatDoor
open Go.Proofs.Tryz
open Go.RowKit
open Go.Maps
theorem zx9 (W:World):Calls prog 9 #[.agg zcT,.agg zcT] W (Ret (.bool true) W):=by
 have:=zrd (fun _=>none) (fun _=>none) (fun _=>0) (fun _=>0) (fun _=>0) (fun _=>0) zc8 zc8 W (zno W) (zno W) (fun _ _=>by decide) (fun _ _=>by decide)
 rwa [zoz] at this
theorem zmh (w:World) (hx:zcv w) (hp:Pow w) (ht:Tz w):Calls prog 5 #[] w (Ret (.bool true) w):=by
 have HA:=waV (zx8 w hx);have HTx:Hid (za2 (evT evM)=za2 [42,45,42,45,48,49,32,48,48,58,48,48,58,48,48]):=congrArg za2 (show evT evM=_ by kernel_rfl)
 have HRaise:=waV (fun b W (hr:zbh W (some ⟨b,0,none⟩) 1 [evC evM]) (ht:Tz W)=>zoP (some ⟨b,0,none⟩) 1 1 [evC evM] W hr dQ (fun h=>(by cases h)) (zrw evM) ht)
 have HE:Hid (zbI 1 [evC evM]=0):=zrx evM;have HRs:=waV (fun r h=>ztY (r:=r) h)
 have HP:=waV hp;have HT:=waV ht;have hl:∀j,j<8->j≠4->(zhx evM j).length<=1:=by decide
 have hRd:∀(v:Value) (W X:World) (B:Nat),zb0 W B v evM->Below W.heap.size W X->∃A n m,v=evV A n m evM.back/\zjr X A n evM/\∀j,j<8->j≠4->n j<=1000:=fun v W X B ho hX=>by
  obtain⟨A',n',m',e,hr',hz',hn'⟩:=ho.rd;exact⟨A',n',m',e,hr'.below hX,fun j hj h4=>by rw[hn' j,if_pos ⟨hj,h4⟩];have:=hl j hj h4;omega⟩
 have HSh:Hid (∀(v:Value) (W:World) B,zb0 W B v evM->∀X,Below W.heap.size W X->Pow X->Calls prog 16 #[v] X (Ret (.tuple #[.string (za2 [42,45,42,45,48,49,32,48,48,58,48,48,58,48,48]),.int .i64 0]) X)):=fun v W B ho X hX hp=>by
  obtain⟨A',n',m',e,hr',hn'⟩:=hRd v W X B ho hX;rw[e,<-HTx.out];exact zwy A' n' m' X hr' hn' hp
 have HLw:Hid (∀(v:Value) (W:World) B,zb0 W B v evM->∀X,Below W.heap.size W X->Calls prog 10 #[v] X (zjo (evC evM) X)):=fun v W B ho X hX=>by
  obtain⟨A',n',m',e,hr',hn'⟩:=hRd v W X B ho hX;rw[e];exact zhn A' n' m' evM X hr' (fun j h1 h2=>by have:=hn' j h1 h2;omega) zma
 have HOw:Hid (∀v W B,zb0 W B v evM->∃S0 n0 d0 S1 n1 d1 S2 n2 d2 S3 n3 d3 S5 n5 d5 S6 n6 d6 S7 n7 d7,v=.agg #[.slice S0 n0 d0,.slice S1 n1 d1,.slice S2 n2 d2,.slice S3 n3 d3,.bool evM.back,.slice S5 n5 d5,.slice S6 n6 d6,.slice S7 n7 d7]):=fun v W B ho=>ho.eight
 unfold zmg at HA;clear hx hp ht hl hRd HTx;generalize evC evM=K at *;generalize evM.back=bk at *;generalize evM=c at *;go_enter func5,ntmps5;go_wp2_with fail;refine HA.out.mono ?_;rintro e w1 ⟨hb1,v,rfl,ho⟩;have HL1:=waV (HLw.out v w1 _ ho);obtain⟨S0,n0,d0,S1,n1,d1,S2,n2,d2,S3,n3,d3,S5,n5,d5,S6,n6,d6,S7,n7,d7,hv⟩:=HOw.out _ _ _ ho;subst hv;clear ho HA HLw;go_wp2_with fail;refine(HL1.out _ (by exact zaE)).mono ?_
 rintro e w2 ⟨b,rfl,hr,hq2⟩;have hb2:Below w.heap.size w w2:=(hb1.alloc hb1.size _).trans (hq2.mono (by simp;have:=hb1.size;omega))
 have HR:=waV (HRaise.out b w2 hr (HT.out.below hb2));clear hb1 hq2 hr HL1 HRaise;go_wp2_with fail;refine HR.out.mono ?_;rintro e w3 ⟨hb3,(⟨h,_⟩|⟨_,(⟨h,_⟩|⟨l,v,h,rfl,ho,hlen⟩)⟩)⟩
 ·exact absurd HE.out h
 ·cases HRs.out none h
 ·have hl:c=l:=(waB (HRs.out (some l) h)).symm;subst hl;have hb03:=zaf hb2 hb3 hb2.size;have HShw:=waV (fun X (hX:Below w3.heap.size w3 X)=>HSh.out v w3 _ ho X hX (zdn HP.out (zaf hb03 hX hb03.size)))
  obtain⟨S0,n0,d0,S1,n1,d1,S2,n2,d2,S3,n3,d3,S5,n5,d5,S6,n6,d6,S7,n7,d7,hv⟩:=HOw.out _ _ _ ho;subst hv;clear ho hlen h HP HT HE HR HRs HSh HOw hb2 hb3;go_wp2_with fail;refine(HShw.out _ (by exact zaE)).mono ?_
  rintro e w4 ⟨rfl,hq4⟩;have hb4:Below w.heap.size w w4:=(hb03.alloc hb03.size _).trans (hq4.mono (by simp;have:=hb03.size;omega))
  clear HShw hq4;have hs:((za2 [42,45,42,45,48,49,32,48,48,58,48,48,58,48,48]).toList==[42,45,42,45,48,49,32,48,48,58,48,48,58,48,48])=true:=by decide+kernel
  go_wp2;go_ret;exact⟨rfl,hb4⟩
end Go.Proofs.YtllcdbgjeidlkaaGreatDoor
namespace Go.Proofs.YtllcdbgjeidlkaaGreatDoor
open Go.Proofs.Tryz
theorem zrT (f:Int):1<=zcS f:=by unfold zcS;split<;>decide
theorem zf9 {f lo hi:Int} {l:List Int} (h:Numb lo hi l) (hf:f≠0) (hlo:lo=kLo f) (hhi:hi=kHi f) (hne:l≠[]) (hm:l.length<=zcS f) (S:Bool):zaF f (zae lo hi l S)=0:=by
 obtain⟨h1,h2⟩:=zqT h S;have h3:=zqU h S;have hodd:∀i∈zae lo hi l S,zkN f ((zae lo hi l S).length:Int) i=false:=by
  unfold zae;split
  ·intro i hi;rw[wbC] at hi;subst hi;unfold zkN;rw[if_neg hf];simp
  ·intro i hi;obtain⟨p,hp,rfl⟩:=List.mem_map.1 hi;unfold zkN;rw[if_neg hf,decide_eq_false_iff_not];rintro ⟨h0,_⟩;unfold itP at h0;split at h0<;>cases h0
 unfold zaF;rw[if_neg (fun e=>hne (h1.1 e)),if_neg (by omega)]
 have ha:(zae lo hi l S).any (fun i=>zkN f ((zae lo hi l S).length:Int) i||!zbK i (kLo f) (kHi f))=false:=by
  rw[List.any_eq_false];intro i hi;rw[hodd i hi,<-hlo,<-hhi,(h3 i hi).1];decide
 rw[ha];rfl
theorem zoV (f:Int) (hf:f≠0) (h0:0<=kLo f) (h1:kLo f<=kHi f) (h2:kHi f<=9999):zaF f [⟨0,0,0,1⟩]=0:=by
 have hk:=zrT f;have hm:zbK ⟨0,0,0,1⟩ (kLo f) (kHi f)=true:=waP ⟨h0,h1,h2,.inl ⟨rfl,rfl,rfl,by decide,by decide⟩⟩
 unfold zaF;rw[if_neg (by simp),if_neg (by simp;omega)]
 have ho:zkN f (([⟨0,0,0,1⟩]:List It).length:Int) ⟨0,0,0,1⟩=false:=by unfold zkN;rw[if_neg hf];simp
 simp only[List.any_cons,List.any_nil,Bool.or_false];rw[ho,hm];rfl
theorem zun (lo hi k:Int) (a:0<=lo) (b:hi<=9999) (c:lo<=k) (d:k<=hi):inB [⟨0,0,0,1⟩] lo hi k=true:=by
 unfold inB zfr;have hm:zbK ⟨0,0,0,1⟩ lo hi=true:=waP ⟨a,by omega,b,.inl ⟨rfl,rfl,rfl,by decide,by decide⟩⟩
 simp only[List.any_cons,List.any_nil,Bool.or_false,hm,Bool.true_and,zqO,bF,bT,bS,waM];simp;omega
theorem ziw {y:Nat->Nat} {x:Int}:x∈zbg y↔∃i k:Nat,i<7/\k<64/\(y i).testBit k=true/\x=1970+64 * (i:Int)+(k:Int):=by
 unfold zbg wyL wd1;simp only[List.mem_map,List.mem_flatMap,wbG,zaN];constructor
 ·rintro ⟨z,⟨i,hi,k,⟨h1,h2⟩,rfl⟩,rfl⟩;exact⟨i,k,hi,h1,h2,by push_cast;omega⟩
 ·rintro ⟨i,k,hi,h1,h2,rfl⟩;exact⟨i * 64+k,⟨i,hi,k,⟨h1,h2⟩,rfl⟩,by push_cast;omega⟩
theorem zix (y:Nat->Nat):∀k,(wyL y k).Pairwise (·< ·)/\∀x∈wyL y k,x<k * 64
 |0=>by simp[wyL]
 |k+1=>by
  obtain⟨h1,h2⟩:=zix y k;rw[zjt];refine⟨List.pairwise_append.2 ⟨h1,?_,?_⟩,fun x hx=>?_⟩
  ·unfold wd1;rw[List.pairwise_map];exact(zaW (y k)).imp (fun h=>by omega)
  ·intro a ha b hb;have:=h2 a ha;obtain⟨z,_,rfl⟩:=List.mem_map.1 hb;omega
  ·rcases wbB.1 hx with hx|hx
   ·have:=h2 x hx;omega
   ·obtain⟨z,hz,rfl⟩:=List.mem_map.1 hx;have:=(zaN.1 hz).1;omega
theorem zuo {lo hi:Int} {l:List Int} (h:Numb lo hi l):l.length<=(hi - lo+1).toNat:=by
 have:∀(l:List Int) (a:Int),(∀x∈l,a<=x/\x<=hi)->l.Pairwise (·< ·)->l.length<=(hi - a+1).toNat:=by
  intro l;induction l with
  |nil=>intro a _ _;exact waK _
  |cons b l ih=>
   intro a hb hp;obtain⟨h1,h2⟩:=List.pairwise_cons.1 hp;have hb0:=hb b (by simp)
   have:=ih (b+1) (fun x hx=>⟨by have:=h1 x hx;omega,(hb x (by simp[hx])).2⟩) h2
   rw[waG];omega
 exact this l lo h.bd h.up
theorem zfY (P:Int->Nat->Bool):Numb 1970 2369 (zbg (yrF P)):=⟨by decide,by decide,by decide,fun x hx=>by
 obtain⟨i,k,hi,hk,hb,rfl⟩:=ziw.1 hx;obtain⟨_,n,hl,e⟩:=(zb6 _ k).1 hb;have:=zce hl.win.1 hl.win.2;omega,by
 unfold zbg;rw[List.pairwise_map];exact(zix _ 7).1.imp (fun h=>by omega)⟩
theorem zu9 {P:Int->Nat->Bool} {n:Int} (h:zcy P n):yD n∈zbg (yrF P):=by
 have:=zce h.win.1 h.win.2;refine ziw.2 ⟨((yD n - 1970) / 64).toNat,((yD n - 1970)%64).toNat,by omega,by omega,?_,by omega⟩
 exact(zb6 _ _).2 ⟨by omega,n,h,by omega⟩
theorem zrU:∀j,j<128->j≠0->zaF 0 (zeG (2 * j))=0/\∀d,d<8->(2 * j).testBit d=true->(zeG (2 * j)).length=0\/inB (zeG (2 * j)) 1 7 (d:Int)=true:=by decide+kernel
theorem zup {m:Nat} (hm:m<18446744073709551616) (h:BdM 1 7 m):∃j,j<128/\m=2 * j:=by
 have h8:m<256:=by
  refine Nat.lt_of_not_le fun hge=>?_
  obtain⟨k,hk,hb⟩:=Nat.exists_ge_and_testBit_of_ge_two_pow (n:=8) hge
  by_cases h64:k<64
  ·have:=h k h64 hb;omega
  ·have:m<2^k:=waD hm (Nat.pow_le_pow_right (n:=2) (i:=64) dQ oQ);rw[waX this] at hb;cases hb
 have h0:m%2=0:=by
  cases hb:m.testBit 0 with
  |true=>have:=h 0 dQ hb;omega
  |false=>simpa using hb
 exact⟨m / 2,by omega,by omega⟩
section
variable {P : Int -> Nat -> Bool}
theorem zva (P:Int->Nat->Bool):BdM 0 59 (zo0 P):=fun k hk hb=>by
 obtain⟨_,n,s,h,e⟩:=(zb6 _ k).1 hb;omega
theorem zvb (P:Int->Nat->Bool):BdM 1 31 (zr5 P):=fun k hk hb=>by
 obtain⟨_,n,h,e⟩:=(zb6 _ k).1 hb;have:=zbm h.win.1 h.win.2;unfold bkD at e;omega
theorem zfZ {lo hi m k:Nat} (h:BdM lo hi m) (hle:lo<=hi) (h9:hi<=63) (S:Bool) (hk:k<64) (hb:m.testBit k=true):inB (zae (lo:Int) (hi:Int) (zbx m) S) (lo:Int) (hi:Int) (k:Int)=true:=by
 rw[zkF (h.numb hle (by omega)) S,waM]
 exact zji.2 ⟨k,hk,hb,rfl⟩
theorem zya {lo hi m k:Nat} (hk:k<64) (hb:m.testBit k=true):zbx m≠[]:=fun e=>by
 have:(k:Int)∈zbx m:=zji.2 ⟨k,hk,hb,rfl⟩;rw[e] at this;cases this
theorem zf0 {f:Int} {lo hi m k:Nat} (h:BdM lo hi m) (hle:lo<=hi) (h9:hi<=62) (hf:f≠0) (hf1:f≠1) (hlo:(lo:Int)=kLo f) (hhi:(hi:Int)=kHi f) (S:Bool) (hk:k<64) (hb:m.testBit k=true):zaF f (zae (lo:Int) (hi:Int) (zbx m) S)=0:=
 zf9 (h.numb hle (by omega)) hf hlo hhi (zya (lo:=lo) (hi:=hi) hk hb) (by unfold zcS;rw[if_neg hf1];have:=zgt m;omega) S
theorem zrV {n:Int} {s:Nat} (h:zdD P n s) (bk:Bool):zfB (evP P bk)=(7,0)/\zay [evC (evP P bk)] n s=true:=by
 have hd:zcy P n:=⟨s,h⟩;obtain⟨h0,h1,hs,_⟩:=id h;have b:=zbm h0 h1;obtain⟨_,_,_,_,y0,y1⟩:=zce h0 h1;have wb:=zeH n;have s0:(zo0 P).testBit (s%60)=true:=(zb6 _ _).2 ⟨by omega,n,s,h,rfl⟩
 have m0:(zlK P).testBit (s / 60%60)=true:=(zb6 _ _).2 ⟨by omega,n,s,h,rfl⟩
 have u0:(zeT P).testBit (s / 3600)=true:=(zb6 _ _).2 ⟨by omega,n,s,h,rfl⟩
 have o0:(zhw P).testBit (mD n).toNat=true:=(zb6 _ _).2 ⟨by omega,n,hd,by omega⟩
 have d0:(zhI P).testBit (dD n).toNat=true:=(zb6 _ _).2 ⟨by omega,n,hd,by omega⟩
 have e0:(zr5 P).testBit (bkD n).toNat=true:=(zb6 _ _).2 ⟨by unfold bkD;omega,n,hd,by unfold bkD;omega⟩
 have w0:(wkF P).testBit (wdD n).toNat=true:=(zb6 _ _).2 ⟨by omega,n,hd,by omega⟩
 obtain⟨j,hj,hw⟩:=zup (m:=wkF P) (zeg _) (bd_wk P);have hj0:j≠0:=by
  rintro rfl;rw[hw,Nat.mul_zero,Nat.zero_testBit] at w0;cases w0
 obtain⟨rf,ri⟩:=zrU j hj hj0;rw[<-hw] at rf ri;obtain⟨c,hc⟩:∃c,c=evP P bk:=⟨_,rfl⟩;have f0:c.week=zeG (wkF P):=by rw[hc];rfl
 have f1:c.year=zae 1970 2369 (zbg (yrF P)) true:=by rw[hc];rfl
 have f2:c.month=zae ((1:Nat):Int) ((12:Nat):Int) (zbx (zhw P)) true:=by rw[hc];rfl
 have f3:c.day=if zlN (zhw P) (zhI P) then [⟨0,0,0,1⟩] else zae ((1:Nat):Int) ((31:Nat):Int) (zbx (if bk then zr5 P else zhI P)) false:=by rw[hc];rfl
 have fb:c.back=(!zlN (zhw P) (zhI P)&&bk):=by rw[hc];rfl
 have f4:c.hour=zae ((0:Nat):Int) ((23:Nat):Int) (zbx (zeT P)) true:=by rw[hc];rfl
 have f5:c.minute=zae ((0:Nat):Int) ((59:Nat):Int) (zbx (zlK P)) true:=by rw[hc];rfl
 have f6:c.second=zae ((0:Nat):Int) ((59:Nat):Int) (zbx (zo0 P)) true:=by rw[hc];rfl
 rw[<-hc];clear hc;refine⟨zjp fun f hf=>?_,?_⟩
 ·obtain rfl|rfl|rfl|rfl|rfl|rfl|rfl:f=0\/f=1\/f=2\/f=3\/f=4\/f=5\/f=6:=by omega
  ·show zaF 0 c.week=0;rw[f0];exact rf
  ·show zaF 1 c.year=0;rw[f1];exact zf9 (f:=1) (zfY P) (by decide) rfl rfl (fun e=>by have:=zu9 hd;rw[e] at this;cases this) (waW (zuo (zfY P)) (by decide)) true
  ·show zaF 2 c.month=0;rw[f2];exact zf0 (f:=2) (zrj P) (by decide) (by decide) (by decide) (by decide) rfl rfl true (by omega) o0
  ·show zaF 3 c.day=0;rw[f3];split
   ·exact zoV 3 dQ dQ dQ dQ
   ·cases bk with
    |true=>exact zf0 (f:=3) (zvb P) dQ dQ dQ dQ rfl rfl false (by unfold bkD;omega) e0
    |false=>exact zf0 (f:=3) (zu2 P) dQ dQ dQ dQ rfl rfl false oQ d0
  ·show zaF 4 c.hour=0;rw[f4];exact zf0 (f:=4) (zri P) (by decide) (by decide) (by decide) (by decide) rfl rfl true (by omega) u0
  ·show zaF 5 c.minute=0;rw[f5];exact zf0 (f:=5) (zu1 P) (by decide) (by decide) (by decide) (by decide) rfl rfl true (by omega) m0
  ·show zaF 6 c.second=0;rw[f6];exact zf0 (f:=6) (zva P) (by decide) (by decide) (by decide) (by decide) rfl rfl true (by omega) s0
 ·rw[zru];unfold zis;have hi:inC (n * 86400+(s:Int))=true:=waP ⟨by omega,by omega⟩
  rw[hi,Bool.true_and];have e:(n * 86400+(s:Int)) / 86400=n:=by omega
  have e2:(n * 86400+(s:Int))%86400=(s:Int):=by omega
  have t0:stS (n * 86400+(s:Int)) 0=yD n:=by show yD _=_;rw[e]
  have t1:stS (n * 86400+(s:Int)) 1=mD n:=by show mD _=_;rw[e]
  have t3:stS (n * 86400+(s:Int)) 3=((s / 3600:Nat):Int):=by show(n * 86400+(s:Int))%86400 / 3600=_;rw[e2];omega
  have t4:stS (n * 86400+(s:Int)) 4=((s / 60%60:Nat):Int):=by show(n * 86400+(s:Int))%86400 / 60%60=_;rw[e2];omega
  have t5:stS (n * 86400+(s:Int)) 5=((s%60:Nat):Int):=by show(n * 86400+(s:Int))%86400%60=_;rw[e2];omega
  unfold znm;rw[t0,t1,t3,t4,t5,e];show(inB c.year 1970 2369 (yD n)&&(inB c.month 1 12 (mD n)&&(inB c.day 1 31 (if c.back then bkD n else dD n)&&((decide (c.week.length=0)||inB c.week 1 7 (wdD n))&&(inB c.hour 0 23 _&&(inB c.minute 0 59 _&&inB c.second 0 59 _))))))=true
  have k1:inB c.year 1970 2369 (yD n)=true:=by rw[f1,zkF (zfY P),waM];exact zu9 hd
  have k2:inB c.month 1 12 (mD n)=true:=by
   rw[f2,<-Int.toNat_of_nonneg (show 0<=mD n by omega)]
   exact zfZ (zrj P) dQ dQ true oQ o0
  have k4:inB c.hour 0 23 ((s / 3600:Nat):Int)=true:=by rw[f4];exact zfZ (zri P) (by decide) (by decide) true (by omega) u0
  have k5:inB c.minute 0 59 ((s / 60%60:Nat):Int)=true:=by rw[f5];exact zfZ (zu1 P) (by decide) (by decide) true (by omega) m0
  have k6:inB c.second 0 59 ((s%60:Nat):Int)=true:=by rw[f6];exact zfZ (zva P) (by decide) (by decide) true (by omega) s0
  have k0:(decide (c.week.length=0)||inB c.week 1 7 (wdD n))=true:=by
   rw[wbF,waM,f0,<-Int.toNat_of_nonneg (show 0<=wdD n by omega)]
   exact ri _ oQ w0
  have k3:inB c.day 1 31 (if c.back then bkD n else dD n)=true:=by
   rw[f3,fb];cases zlN (zhw P) (zhI P) with
   |true=>exact zun 1 31 _ dQ dQ (show 1<=dD n by omega) (show dD n<=31 by omega)
   |false=>
    cases bk with
    |true=>
     show inB (zae ((1:Nat):Int) ((31:Nat):Int) (zbx (zr5 P)) false) ((1:Nat):Int) ((31:Nat):Int) (bkD n)=true;rw[<-Int.toNat_of_nonneg (show 0<=bkD n by unfold bkD;omega)]
     exact zfZ (zvb P) dQ dQ false (by unfold bkD;omega) e0
    |false=>
     show inB (zae ((1:Nat):Int) ((31:Nat):Int) (zbx (zhI P)) false) ((1:Nat):Int) ((31:Nat):Int) (dD n)=true;rw[<-Int.toNat_of_nonneg (show 0<=dD n by omega)]
     exact zfZ (zu2 P) dQ dQ false oQ d0
  rw[k1,k2,k3,k4,k5,k6,k0];rfl
end
end Go.Proofs.YtllcdbgjeidlkaaGreatDoor
