/- A part of the proof: LTcS PTabR PTabZ OpenCl -/
import Derived.Test.YtgedndlifiihkaaGreatDoorT35
import Derived.Test.YtgedndlifiihkaaGreatDoorT36
import Derived.Test.YtgedndlifiihkaaGreatDoorCards
import Derived.Test.YtgedndlifiihkaaGreatDoorTie
import Derived.Deep.DeepHandedRow
import Derived.Lib.LaidTab
import Derived.LaidSub
import Derived.MakeChecks
import Derived.Test.YtgedndlifiihkaaGreatDoorT02
import Derived.Lib.LaidCaseMet
import Derived.PinnedBridge
import Derived.Deep.DeepWitnessRowRef
import Derived.Test.YtgedndlifiihkaaGreatDoorT10
import Derived.Test.YtgedndlifiihkaaGreatDoorT13
import Derived.Test.YtgedndlifiihkaaGreatDoorT08
set_option maxHeartbeats 80000000
set_option maxRecDepth 100000
set_option linter.unusedSimpArgs false
set_option linter.unusedVariables false
namespace Go.Proofs.YtgedndlifiihkaaGreatDoor
open Go.Proofs.Tryz
open Go.RowKit
open Go.Maps
theorem ztf (W:World):Calls prog 19 #[.agg #[.slice none 0 0,.slice none 0 0,.slice none 0 0,.slice none 0 0,.slice none 0 0],.agg #[.slice none 0 0,.slice none 0 0,.slice none 0 0,.slice none 0 0,.slice none 0 0]] W (Ret (.bool true) W):=by
 have:=zr1 (fun _=>none) (fun _=>none) (fun _=>0) (fun _=>0) (fun _=>0) (fun _=>0) (fun _=>[]) (fun _=>[]) W (fun k _=>Rd.nil) (fun k _=>Rd.nil) (fun _=>by decide) (fun _=>by decide)
 rwa [zi6] at this
theorem zvc {L:List Cl} {n:Nat} (hl:L.length=n) (h:8<n):zdF L=false:=by
 unfold zdF;rw[waO (by omega),Bool.false_and]
theorem zh4 (A:Option Addr) (n c:Nat) (L:List Cl) (w:World) (hA:zbd w A n L) (hnil:A=none→n=0) (hbit:∀k,k∈L→zbD k∧k.s≤9223372036854775807) (hp:Pow w) (ht:Tz w):
 Calls prog 5 #[.slice A n c] w (Ret (.bool true) w):=by
 have HV:=waV (fun W (hb:Below w.heap.size w W)=>zl7 W (zcY hp hb) (ht.below hb))
 have HSn:=waV (fun W=>ztf W)
 have hl:L.length=n:=hA.1
 by_cases h20:20<n
 ·have hn20:(n:Int)>20:=by omega
  clear hA hnil hbit hl h20 ht hp;go_enter func5,ntmps5;go_wp2_with fail;refine(HV.out _ (waC _ _)).mono ?_;rintro e w1 ⟨rfl,hb1⟩;go_wp2;go_ret;exact⟨rfl,hb1⟩
 ·by_cases h8:8<n
  ·have hs:=zvc hl h8;have he:zbA n L=5:=by unfold zbA;rw[if_pos h8]
   clear hl h8;have HR:=waV (fun W (hb:Below w.heap.size w W)=>zeM A n c L W (hA.below hb (waJ _)) oQ hnil hbit (ht.below hb))
   have HM:=waV (fun W (hb:Below w.heap.size w W)=>zhL A n c L W (hA.below hb (waJ _)) oQ (fun k hk=>(hbit k hk).1))
   have HI:=waV (fun W (hb:Below w.heap.size w W)=>zni A n c L W (hA.below hb (waJ _)) oQ hnil)
   rw[hs] at HM;have HS:=waV hs;have HE:Hid (zbA n L=5):=he;have hn20:¬(n:Int)>20:=by omega
   clear hA hnil hbit hs he ht hp;go_enter func5,ntmps5;go_wp2_with fail;refine(HR.out _ (waC _ _)).mono ?_;rintro e w1 ⟨hb1,(⟨_,rfl⟩|⟨hE,_⟩)⟩
   ·rw[HE.out];clear HR;unfold zb1;go_wp2_with fail;have hbX:Below w.heap.size w (w1.alloc (.cells #[.slice none 0 0,.slice none 0 0,.slice none 0 0,.slice none 0 0,.slice none 0 0] 24)):=hb1.alloc hb1.size _;have hC:(w1.alloc (.cells #[.slice none 0 0,.slice none 0 0,.slice none 0 0,.slice none 0 0,.slice none 0 0] 24)).heap[w1.heap.size]?=some (.cells #[.slice none 0 0,.slice none 0 0,.slice none 0 0,.slice none 0 0,.slice none 0 0] 24 (0,0)):=World.alloc_heap_new _ _;generalize w1.alloc (.cells #[.slice none 0 0,.slice none 0 0,.slice none 0 0,.slice none 0 0,.slice none 0 0] 24)=V1 at *;generalize w1.heap.size=xb at *;refine(HM.out V1 hbX).mono ?_;rintro e w2 ⟨rfl,hq⟩;replace hC:=(hq.block _ (waL.1 hC).1).trans hC;replace hbX:=zak hbX hq hbX.size;clear hq hb1;go_wp2_with fail;refine(HI.out _ hbX).mono ?_;rintro e w3 ⟨hq,(⟨k8,rfl⟩|⟨k8,_,rfl⟩|⟨_,k,_⟩)⟩
    ·have h:(5:Int)=5:=HE.out.symm.trans (by unfold zbA;rw[if_pos k8])
     first
      |(exfalso;revert h;decide)
      |(replace hC:=(hq.block _ (waL.1 hC).1).trans hC
        replace hbX:=zak hbX hq hbX.size;clear hq h k8 HI HM;have z0:World.cell? w3 ⟨xb,0,none⟩=some (.slice none 0 0):=by rw[World.cell?_of_heap hC];rfl
        have z1:World.cell? w3 ⟨xb,1,none⟩=some (.slice none 0 0):=by rw[World.cell?_of_heap hC];rfl
        have z2:World.cell? w3 ⟨xb,2,none⟩=some (.slice none 0 0):=by rw[World.cell?_of_heap hC];rfl
        have z3:World.cell? w3 ⟨xb,3,none⟩=some (.slice none 0 0):=by rw[World.cell?_of_heap hC];rfl
        have z4:World.cell? w3 ⟨xb,4,none⟩=some (.slice none 0 0):=by rw[World.cell?_of_heap hC];rfl
        clear hC;go_wp2_with fail;refine(HSn.out _).mono ?_;rintro e w5 ⟨rfl,hq⟩;replace hbX:=zak hbX hq hbX.size;clear hq z0 z1 z2 z3 z4;go_wp2_with fail;refine(HV.out _ hbX).mono ?_;rintro e w6 ⟨rfl,hq⟩;go_wp2;go_ret;exact⟨rfl,zak hbX hq hbX.size⟩)
    ·have h:(5:Int)=1:=HE.out.symm.trans (by unfold zbA;rw[if_neg (by omega),if_neg (by rw[HS.out];decide)])
     first
      |(exfalso;revert h;decide)
      |(replace hC:=(hq.block _ (waL.1 hC).1).trans hC
        replace hbX:=zak hbX hq hbX.size;clear hq h k8 HI HM;have z0:World.cell? w3 ⟨xb,0,none⟩=some (.slice none 0 0):=by rw[World.cell?_of_heap hC];rfl
        have z1:World.cell? w3 ⟨xb,1,none⟩=some (.slice none 0 0):=by rw[World.cell?_of_heap hC];rfl
        have z2:World.cell? w3 ⟨xb,2,none⟩=some (.slice none 0 0):=by rw[World.cell?_of_heap hC];rfl
        have z3:World.cell? w3 ⟨xb,3,none⟩=some (.slice none 0 0):=by rw[World.cell?_of_heap hC];rfl
        have z4:World.cell? w3 ⟨xb,4,none⟩=some (.slice none 0 0):=by rw[World.cell?_of_heap hC];rfl
        clear hC;go_wp2_with fail;refine(HSn.out _).mono ?_;rintro e w5 ⟨rfl,hq⟩;replace hbX:=zak hbX hq hbX.size;clear hq z0 z1 z2 z3 z4;go_wp2_with fail;refine(HV.out _ hbX).mono ?_;rintro e w6 ⟨rfl,hq⟩;go_wp2;go_ret;exact⟨rfl,zak hbX hq hbX.size⟩)
    ·rw[HS.out] at k;cases k
   ·rw[HE.out] at hE;exact absurd hE (by decide)
  ·cases hs:zdF L with
   |false=>
    have he:zbA n L=1:=by unfold zbA;rw[if_neg h8,if_neg (by rw[hs];decide)]
    clear hl h8;have HR:=waV (fun W (hb:Below w.heap.size w W)=>zeM A n c L W (hA.below hb (waJ _)) oQ hnil hbit (ht.below hb))
    have HM:=waV (fun W (hb:Below w.heap.size w W)=>zhL A n c L W (hA.below hb (waJ _)) oQ (fun k hk=>(hbit k hk).1))
    have HI:=waV (fun W (hb:Below w.heap.size w W)=>zni A n c L W (hA.below hb (waJ _)) oQ hnil)
    rw[hs] at HM;have HS:=waV hs;have HE:Hid (zbA n L=1):=he;have hn20:¬(n:Int)>20:=by omega
    clear hA hnil hbit hs he ht hp;go_enter func5,ntmps5;go_wp2_with fail;refine(HR.out _ (waC _ _)).mono ?_;rintro e w1 ⟨hb1,(⟨_,rfl⟩|⟨hE,_⟩)⟩
    ·rw[HE.out];clear HR;unfold zb1;go_wp2_with fail;have hbX:Below w.heap.size w (w1.alloc (.cells #[.slice none 0 0,.slice none 0 0,.slice none 0 0,.slice none 0 0,.slice none 0 0] 24)):=hb1.alloc hb1.size _;have hC:(w1.alloc (.cells #[.slice none 0 0,.slice none 0 0,.slice none 0 0,.slice none 0 0,.slice none 0 0] 24)).heap[w1.heap.size]?=some (.cells #[.slice none 0 0,.slice none 0 0,.slice none 0 0,.slice none 0 0,.slice none 0 0] 24 (0,0)):=World.alloc_heap_new _ _;generalize w1.alloc (.cells #[.slice none 0 0,.slice none 0 0,.slice none 0 0,.slice none 0 0,.slice none 0 0] 24)=V1 at *;generalize w1.heap.size=xb at *;refine(HM.out V1 hbX).mono ?_;rintro e w2 ⟨rfl,hq⟩;replace hC:=(hq.block _ (waL.1 hC).1).trans hC;replace hbX:=zak hbX hq hbX.size;clear hq hb1;go_wp2_with fail;refine(HI.out _ hbX).mono ?_;rintro e w3 ⟨hq,(⟨k8,rfl⟩|⟨k8,_,rfl⟩|⟨_,k,_⟩)⟩
     ·have h:(1:Int)=5:=HE.out.symm.trans (by unfold zbA;rw[if_pos k8])
      first
       |(exfalso;revert h;decide)
       |(replace hC:=(hq.block _ (waL.1 hC).1).trans hC
         replace hbX:=zak hbX hq hbX.size;clear hq h k8 HI HM;have z0:World.cell? w3 ⟨xb,0,none⟩=some (.slice none 0 0):=by rw[World.cell?_of_heap hC];rfl
         have z1:World.cell? w3 ⟨xb,1,none⟩=some (.slice none 0 0):=by rw[World.cell?_of_heap hC];rfl
         have z2:World.cell? w3 ⟨xb,2,none⟩=some (.slice none 0 0):=by rw[World.cell?_of_heap hC];rfl
         have z3:World.cell? w3 ⟨xb,3,none⟩=some (.slice none 0 0):=by rw[World.cell?_of_heap hC];rfl
         have z4:World.cell? w3 ⟨xb,4,none⟩=some (.slice none 0 0):=by rw[World.cell?_of_heap hC];rfl
         clear hC;go_wp2_with fail;refine(HSn.out _).mono ?_;rintro e w5 ⟨rfl,hq⟩;replace hbX:=zak hbX hq hbX.size;clear hq z0 z1 z2 z3 z4;go_wp2_with fail;refine(HV.out _ hbX).mono ?_;rintro e w6 ⟨rfl,hq⟩;go_wp2;go_ret;exact⟨rfl,zak hbX hq hbX.size⟩)
     ·have h:(1:Int)=1:=HE.out.symm.trans (by unfold zbA;rw[if_neg (by omega),if_neg (by rw[HS.out];decide)])
      first
       |(exfalso;revert h;decide)
       |(replace hC:=(hq.block _ (waL.1 hC).1).trans hC
         replace hbX:=zak hbX hq hbX.size;clear hq h k8 HI HM;have z0:World.cell? w3 ⟨xb,0,none⟩=some (.slice none 0 0):=by rw[World.cell?_of_heap hC];rfl
         have z1:World.cell? w3 ⟨xb,1,none⟩=some (.slice none 0 0):=by rw[World.cell?_of_heap hC];rfl
         have z2:World.cell? w3 ⟨xb,2,none⟩=some (.slice none 0 0):=by rw[World.cell?_of_heap hC];rfl
         have z3:World.cell? w3 ⟨xb,3,none⟩=some (.slice none 0 0):=by rw[World.cell?_of_heap hC];rfl
         have z4:World.cell? w3 ⟨xb,4,none⟩=some (.slice none 0 0):=by rw[World.cell?_of_heap hC];rfl
         clear hC;go_wp2_with fail;refine(HSn.out _).mono ?_;rintro e w5 ⟨rfl,hq⟩;replace hbX:=zak hbX hq hbX.size;clear hq z0 z1 z2 z3 z4;go_wp2_with fail;refine(HV.out _ hbX).mono ?_;rintro e w6 ⟨rfl,hq⟩;go_wp2;go_ret;exact⟨rfl,zak hbX hq hbX.size⟩)
     ·rw[HS.out] at k;cases k
    ·rw[HE.out] at hE;exact absurd hE (by decide)
   |true=>
    have he:zbA n L=0:=by unfold zbA;rw[if_neg h8,if_pos hs]
    have HR:=waV (fun W (hb:Below w.heap.size w W)=>zeM A n c L W (hA.below hb (waJ _)) oQ hnil hbit (ht.below hb))
    have HM:=waV (fun W (hb:Below w.heap.size w W)=>zhL A n c L W (hA.below hb (waJ _)) oQ (fun k hk=>(hbit k hk).1))
    rw[hs] at HM;have HE:Hid (zbA n L=0):=he;have HA:=waV hA;have HB:=waV hbit;have HN:=waV hnil;have HT:=waV ht;have hn20:¬(n:Int)>20:=by omega
    clear hA hnil hbit hs he ht hp hl h8;go_enter func5,ntmps5;go_wp2_with fail;refine(HR.out _ (waC _ _)).mono ?_;rintro e w1 ⟨hb1,(⟨hE,_⟩|⟨_,(⟨hr,rfl⟩|⟨x,v,hr,rfl,ho⟩)⟩)⟩
    ·exact absurd HE.out hE
    ·clear HR hr;unfold zb1;go_wp2_with fail;have hbX:Below w.heap.size w (w1.alloc (.cells #[.slice none 0 0,.slice none 0 0,.slice none 0 0,.slice none 0 0,.slice none 0 0] 24)):=hb1.alloc hb1.size _;have hC:(w1.alloc (.cells #[.slice none 0 0,.slice none 0 0,.slice none 0 0,.slice none 0 0,.slice none 0 0] 24)).heap[w1.heap.size]?=some (.cells #[.slice none 0 0,.slice none 0 0,.slice none 0 0,.slice none 0 0,.slice none 0 0] 24 (0,0)):=World.alloc_heap_new _ _;generalize w1.alloc (.cells #[.slice none 0 0,.slice none 0 0,.slice none 0 0,.slice none 0 0,.slice none 0 0] 24)=V1 at *;generalize w1.heap.size=xb at *;refine(HM.out V1 hbX).mono ?_;rintro e w2 ⟨rfl,hq⟩;replace hC:=(hq.block _ (waL.1 hC).1).trans hC;replace hbX:=zak hbX hq hbX.size;clear hq hb1;have z0:World.cell? w2 ⟨xb,0,none⟩=some (.slice none 0 0):=by rw[World.cell?_of_heap hC];rfl
     have z1:World.cell? w2 ⟨xb,1,none⟩=some (.slice none 0 0):=by rw[World.cell?_of_heap hC];rfl
     have z2:World.cell? w2 ⟨xb,2,none⟩=some (.slice none 0 0):=by rw[World.cell?_of_heap hC];rfl
     have z3:World.cell? w2 ⟨xb,3,none⟩=some (.slice none 0 0):=by rw[World.cell?_of_heap hC];rfl
     have z4:World.cell? w2 ⟨xb,4,none⟩=some (.slice none 0 0):=by rw[World.cell?_of_heap hC];rfl
     clear hC;go_wp2_with fail;refine(HSn.out _).mono ?_;rintro e w5 ⟨rfl,hq⟩;replace hbX:=zak hbX hq hbX.size;clear hq z0 z1 z2 z3 z4;go_wp2_with fail;refine(HV.out _ hbX).mono ?_;rintro e w6 ⟨rfl,hq⟩;go_wp2;go_ret;exact⟨rfl,zak hbX hq hbX.size⟩
    ·clear HR;have hm:zgs x (zao L):=by
      cases hr with
      |empty h=>exact znV h
      |both _ _ h=>exact h
      |either _ _ _ _ h=>exact h
     obtain⟨A',n',c',e,hr',hz',hn',_⟩:=ho.rd;obtain⟨S0,n0,d0,S1,n1,d1,S2,n2',d2,S3,n3,d3,S4,n4,d4,hv⟩:=ho.five;have hfx:∀k,k<5→zaM k (x k)=0:=by
      rcases ztH x with g|g
      ·exact g.2
      ·exact absurd (by rw[hm.1]) g
     have hnx:∀k,n' k≤64:=fun k=>by
      rw[hn' k];split
      ·exact(zlA (hfx k ‹_›)).2.1
      ·exact waK _
     have HLx:=waV (fun V (hb:Below w1.heap.size w1 V)=>(show Calls prog 8 #[v] V (zmE (zaT x) V) by
      rw[e];exact zje A' n' c' x V (hr'.below hb (waJ _)) (fun k=>waW (hnx k) (by decide)) hz' (by rw[hm.1])))
     have HSl:Hid (zqK L [zaT x]):=fun k h0 h1 s hs=>(ziB.2 hm.2 k h0 h1 s hs).symm
     subst hv;clear ho hr' hz' hn' e hfx hnx hm hr;have hz1:=hb1.size;go_wp2_with fail;have hbY:Below w1.heap.size w1 (w1.alloc (.cells #[.slice S0 n0 d0,.slice S1 n1 d1,.slice S2 n2' d2,.slice S3 n3 d3,.slice S4 n4 d4] 24)):=(waC _ _).alloc (waJ _) _;have hC:(w1.alloc (.cells #[.slice S0 n0 d0,.slice S1 n1 d1,.slice S2 n2' d2,.slice S3 n3 d3,.slice S4 n4 d4] 24)).heap[w1.heap.size]?=some (.cells #[.slice S0 n0 d0,.slice S1 n1 d1,.slice S2 n2' d2,.slice S3 n3 d3,.slice S4 n4 d4] 24 (0,0)):=World.alloc_heap_new _ _;generalize w1.alloc (.cells #[.slice S0 n0 d0,.slice S1 n1 d1,.slice S2 n2' d2,.slice S3 n3 d3,.slice S4 n4 d4] 24)=V1 at *;refine(HM.out V1 (hb1.trans (hbY.mono hz1))).mono ?_;rintro e w2 ⟨rfl,hq⟩;replace hC:=(hq.block _ (waL.1 hC).1).trans hC;replace hbY:=zak hbY hq hbY.size;clear hq HM;have z0:w2.cell? ⟨w1.heap.size,0,none⟩=some (.slice S0 n0 d0):=by rw[World.cell?_of_heap hC];rfl
     have z1:w2.cell? ⟨w1.heap.size,1,none⟩=some (.slice S1 n1 d1):=by rw[World.cell?_of_heap hC];rfl
     have z2:w2.cell? ⟨w1.heap.size,2,none⟩=some (.slice S2 n2' d2):=by rw[World.cell?_of_heap hC];rfl
     have z3:w2.cell? ⟨w1.heap.size,3,none⟩=some (.slice S3 n3 d3):=by rw[World.cell?_of_heap hC];rfl
     have z4:w2.cell? ⟨w1.heap.size,4,none⟩=some (.slice S4 n4 d4):=by rw[World.cell?_of_heap hC];rfl
     clear hC;go_wp2_with fail;refine(HLx.out _ hbY).mono ?_;rintro e w3 ⟨b2,rfl,hr2,hq⟩;replace hbY:=zak hbY hq hbY.size;have hb3:=hb1.trans (hbY.mono hz1);clear hq z0 z1 z2 z3 z4 HLx;have HQ:=waV (ziy A (some ⟨b2,0,none⟩) n 1 c 1 L [zaT x] w3 (HA.out.below hb3 (waJ _)) (by omega) HN.out HB.out hr2 (by decide) (fun h=>(by cases h)) (fun k hk=>by rw[wbC.1 hk];exact⟨zhb x,show(1:Int)≤9223372036854775807 by decide⟩) (HT.out.below hb3))
     have HE2:Hid (erE (zbA n L) (zbA 1 [zaT x])=0):=by
      show _=_;rw[HE.out];show zbA 1 [zaT x]=0;unfold zbA;rw[if_neg (by decide),if_pos (zjD x)]
     clear hr2;go_wp2_with fail;refine HQ.out.mono ?_;rintro e w7 ⟨hb7,y,f,t,rfl,hy⟩;obtain rfl:y=true:=(hy HE2.out).2 HSl.out;rw[HE2.out];clear HQ hy HE2;go_wp2_with fail;have hb8:Below w.heap.size w (w7.alloc (.cells #[.bool true,.int .i64 t,.bool f] 45)):=(zak hb3 hb7 hb3.size).alloc ((zak hb3 hb7 hb3.size).size) _;refine(HV.out _ hb8).mono ?_;rintro e w9 ⟨rfl,hq⟩;go_wp2;go_ret;exact⟨rfl,zak hb8 hq hb8.size⟩
end Go.Proofs.YtgedndlifiihkaaGreatDoor
namespace Go.Proofs.YtgedndlifiihkaaGreatDoor
open Go.Proofs.Tryz
open Go.ChangeShapes Go.WideShapes Go.ChangeAt Go.RowKit
def zvd:Nat→DataW Unit→List Value
 |n+1,.agg xs=>xs.flatMap (zvd n)
 |n+1,.slice xs _=>xs.flatMap (zvd n)
 |_,.lit (.int k z)=>[.int k z]
 |_,_=>[undef]
def zrf (d:DataW Unit):Obj→Obj
 | .cells _ t fr=>.cells (zvd 4 d).toArray t fr
 |o=>o
def ztg (cs:Array Value):Obj→Obj
 | .cells _ t fr=>.cells cs t fr
 |o=>o
def zfb:Go.Shelf.Ren:={Tryz.lays274_ren with g:=fun|13=>1|n=>n}
theorem zrg:Go.Proofs.Lays.n274 prog zfb:={Tryz.lays274 with}
noncomputable def zfP (os:Os):World:=
 {World.holding prog os ⟨#[.cells Lib.caseCells5 (zfb.t 208)],#[],[]⟩ with heap:=(((World.holding prog os ⟨#[.cells Lib.caseCells5 (zfb.t 208)],#[],[]⟩).heap.modify 4 (zrf Rows.laid_unicode_utf8_acceptRanges)).modify 3 (zrf Rows.laid_unicode_utf8_first)).modify 1 (ztg #[.slice (some ⟨(World.settled prog os).heap.size,0,none⟩) 336 336])}
theorem zrh (os:Os) (args:Array Value):laidMet prog ([("unicode/utf8.acceptRanges",Rows.laid_unicode_utf8_acceptRanges),("unicode/utf8.first",Rows.laid_unicode_utf8_first)]++[("unicode.CaseRanges",Lib.caseData)]) ((zfP os).forCall (fun _ _=>0) ⟨#[],args,[]⟩).memory:=
 laidMet_with_case (ρ:=zfb) zrg kQ ⟨by kernel_rfl,by kernel_rfl,by kernel_rfl,by kernel_rfl,by kernel_rfl,by kernel_rfl⟩
  (l:=[("unicode/utf8.acceptRanges",Rows.laid_unicode_utf8_acceptRanges),("unicode/utf8.first",Rows.laid_unicode_utf8_first)])
  10 kQ kQ kQ ((World.settled prog default).heap.size) (zfb.t 208) (waA kQ) kQ kQ kQ
theorem zk3 {P:Program} {w:World} {a f c:String×DataW Unit} (h:laidMet P [a,f,c] w):laidMet P [a,c,f] w:=by
 obtain⟨ps,hv,hnd,hrows⟩:=h;obtain⟨na,da⟩:=a;obtain⟨nf,df⟩:=f;obtain⟨nc,dc⟩:=c;obtain⟨ga,ta,csa,fua,pa,qa,a1,a2,a3,a4,hf,rfl⟩:=hv;obtain⟨gf,tf,csf,fuf,pf,qf,f1,f2,f3,f4,hc,rfl⟩:=hf;obtain⟨gc,tc,csc,fuc,pc,qc,c1,c2,c3,c4,hn,rfl⟩:=hc;cases hn;have hperm:∀(X Y Z:List MemPlace),List.Perm (X++(Y++(Z++[]))) (X++(Z++(Y++[]))):=fun X Y Z=>by
  rw[List.append_nil,List.append_nil];exact List.Perm.append_left _ List.perm_append_comm
 refine⟨_,⟨ga,ta,csa,fua,pa,_,a1,a2,a3,a4,⟨gc,tc,csc,fuc,pc,_,c1,c2,c3,c4,⟨gf,tf,csf,fuf,pf,_,f1,f2,f3,f4,rfl,rfl⟩,rfl⟩,rfl⟩,?_,?_⟩
 ·exact(hperm _ _ _).nodup_iff.1 hnd
 ·intro b off hp;exact hrows b off ((hperm _ _ _).mem_iff.2 hp)
theorem rune_met (os:Os) (args:Array Value):laidMet prog [("unicode/utf8.acceptRanges",Rows.laid_unicode_utf8_acceptRanges),("unicode.CaseRanges",Rows.laid_unicode_CaseRanges),("unicode/utf8.first",Rows.laid_unicode_utf8_first)] ((zfP os).forCall (fun _ _=>0) ⟨#[],args,[]⟩).memory:=by
 have h:=zrh os args;have e:Rows.laid_unicode_CaseRanges=Lib.caseData:=Pinned.caseRanges_eq;rw[e];exact zk3 h
def zwu:DataW Unit→Array Value
 | .agg xs=>(xs.map fun| .lit (.int k z)=>Value.int k z|_=>undef).toArray
 |_=> #[]
def zve (d:DataW Unit):Obj→Obj
 | .cells _ t fr=>.cells (zwu d) t fr
 |o=>o
theorem zth:(Rows.laid_internal_strconv_uint64pow10:DataW Unit)=Lib.tabData .u64 Lib.pow10Tab:=by kernel_rfl
theorem zwv {l:List (String×DataW Unit)} {W:World} (h:laidMetH prog l W) (hl:l.filter (fun x=>x.1== "internal/strconv.uint64pow10")=[("internal/strconv.uint64pow10",Rows.laid_internal_strconv_uint64pow10)]):Pow W:=by
 have h1:=h.filter (fun x=>x.1== "internal/strconv.uint64pow10")
 rw[hl,MakeChecks.laidMetH_plain _ _ _ (by kernel_rfl),zth] at h1
 exact Lib.tabIs_of_head (rest:=[]) (show prog.globalNamed "internal/strconv.uint64pow10" =some 5 by kernel_rfl) (show(prog.globals[5]?).map (·.type)=some 363 by kernel_rfl) underlying363 underlying33 kQ kQ h1
theorem zvf:(Rows.laid_math_bits_deBruijn64tab:DataW Unit)=Lib.tabData .u8 (Go.Lib.deBruijn64tab.map fun(k:Nat)=>(k:Int)):=by kernel_rfl
theorem tz_of {l:List (String×DataW Unit)} {W:World} (h:laidMetH prog l W) (hl:l.filter (fun x=>x.1== "math/bits.deBruijn64tab")=[("math/bits.deBruijn64tab",Rows.laid_math_bits_deBruijn64tab)]):Tz W:=by
 have h1:=h.filter (fun x=>x.1== "math/bits.deBruijn64tab")
 rw[hl,MakeChecks.laidMetH_plain _ _ _ (by kernel_rfl),zvf] at h1
 have hg:=(show prog.globalNamed "math/bits.deBruijn64tab" =some 0 by kernel_rfl)
 have h2:=Lib.tabIs_of_head (rest:=[]) hg (show(prog.globals[0]?).map (·.type)=some 310 by kernel_rfl) underlying310 underlying5 kQ kQ h1
 intro j hj;have h3:=h2.cell hg j (by rw[List.length_map];exact hj)
 rw[h3,List.getD_eq_getElem?_getD,List.getD_eq_getElem?_getD,List.getElem?_map,waE hj];rfl
theorem zjH {P:Program} {w:World} {a b d e f c:String×DataW Unit} (h:laidMet P [a,b,d,e,f,c] w):laidMet P [a,b,d,e,c,f] w:=by
 obtain⟨ps,hv,hnd,hrows⟩:=h;obtain⟨na,da⟩:=a;obtain⟨nb,db⟩:=b;obtain⟨nd,dd⟩:=d;obtain⟨ne,de⟩:=e;obtain⟨nf,df⟩:=f;obtain⟨nc,dc⟩:=c;obtain⟨ga,ta,csa,fua,pa,qa,a1,a2,a3,a4,hv,rfl⟩:=hv;obtain⟨gb,tb,csb,fub,pb,qb,b1,b2,b3,b4,hv,rfl⟩:=hv;obtain⟨gd,td,csd,fud,pd,qd,d1,d2,d3,d4,hv,rfl⟩:=hv;obtain⟨ge,te,cse,fue,pe,qe,e1,e2,e3,e4,hf,rfl⟩:=hv;obtain⟨gf,tf,csf,fuf,pf,qf,f1,f2,f3,f4,hc,rfl⟩:=hf;obtain⟨gc,tc,csc,fuc,pc,qc,c1,c2,c3,c4,hn,rfl⟩:=hc;cases hn;have hperm:∀(X1 X2 X3 X Y Z:List MemPlace),List.Perm (X1++(X2++(X3++(X++(Y++(Z++[])))))) (X1++(X2++(X3++(X++(Z++(Y++[])))))):=fun X1 X2 X3 X Y Z=>by
  rw[List.append_nil,List.append_nil];exact List.Perm.append_left _ (List.Perm.append_left _ (List.Perm.append_left _ (List.Perm.append_left _ List.perm_append_comm)))
 refine⟨_,⟨ga,ta,csa,fua,pa,_,a1,a2,a3,a4,⟨gb,tb,csb,fub,pb,_,b1,b2,b3,b4,⟨gd,td,csd,fud,pd,_,d1,d2,d3,d4,⟨ge,te,cse,fue,pe,_,e1,e2,e3,e4,⟨gc,tc,csc,fuc,pc,_,c1,c2,c3,c4,⟨gf,tf,csf,fuf,pf,_,f1,f2,f3,f4,rfl,rfl⟩,rfl⟩,rfl⟩,rfl⟩,rfl⟩,rfl⟩,?_,?_⟩
 ·exact(hperm _ _ _ _ _ _).nodup_iff.1 hnd
 ·intro b off hp;exact hrows b off ((hperm _ _ _ _ _ _).mem_iff.2 hp)
noncomputable def zhM (os:Os):World:=
 {zfP os with heap:=(((zfP os).heap.modify 5 (zve Rows.laid_internal_strconv_uint64pow10)).modify 6 (zve Rows.laid_math_bits_deBruijn32tab)).modify 0 (zve Rows.laid_math_bits_deBruijn64tab)}
theorem zri (os:Os) (args:Array Value):laidMet prog ([("math/bits.deBruijn32tab",Rows.laid_math_bits_deBruijn32tab),("math/bits.deBruijn64tab",Rows.laid_math_bits_deBruijn64tab),("internal/strconv.uint64pow10",Rows.laid_internal_strconv_uint64pow10),("unicode/utf8.acceptRanges",Rows.laid_unicode_utf8_acceptRanges),("unicode/utf8.first",Rows.laid_unicode_utf8_first)]++[("unicode.CaseRanges",Lib.caseData)]) ((zhM os).forCall (fun _ _=>0) ⟨#[],args,[]⟩).memory:=
 laidMet_with_case (ρ:=zfb) zrg kQ ⟨by kernel_rfl,by kernel_rfl,by kernel_rfl,by kernel_rfl,by kernel_rfl,by kernel_rfl⟩
  (l:=[("math/bits.deBruijn32tab",Rows.laid_math_bits_deBruijn32tab),("math/bits.deBruijn64tab",Rows.laid_math_bits_deBruijn64tab),("internal/strconv.uint64pow10",Rows.laid_internal_strconv_uint64pow10),("unicode/utf8.acceptRanges",Rows.laid_unicode_utf8_acceptRanges),("unicode/utf8.first",Rows.laid_unicode_utf8_first)])
  10 kQ kQ kQ ((World.settled prog default).heap.size) (zfb.t 208) (waA kQ) kQ kQ kQ
theorem zti (os:Os) (args:Array Value):laidMet prog [("math/bits.deBruijn32tab",Rows.laid_math_bits_deBruijn32tab),("math/bits.deBruijn64tab",Rows.laid_math_bits_deBruijn64tab),("internal/strconv.uint64pow10",Rows.laid_internal_strconv_uint64pow10),("unicode/utf8.acceptRanges",Rows.laid_unicode_utf8_acceptRanges),("unicode.CaseRanges",Rows.laid_unicode_CaseRanges),("unicode/utf8.first",Rows.laid_unicode_utf8_first)] ((zhM os).forCall (fun _ _=>0) ⟨#[],args,[]⟩).memory:=by
 have h:=zri os args;have e:Rows.laid_unicode_CaseRanges=Lib.caseData:=Pinned.caseRanges_eq;rw[e];exact zjH h
end Go.Proofs.YtgedndlifiihkaaGreatDoor
namespace Go.Proofs.YtgedndlifiihkaaGreatDoor
open Go.Proofs.Tryz
open Go.ChangeShapes Go.WideShapes Go.ChangeAt Go.RowKit Go.Deep
section
variable {H : Type} {enc : TypeId × Value → H} {w : World} {base : Nat} {spare : Nat → Bool} {held : Bool}
theorem zbM {x:Int} (h:(Lit.int .u64 x).wf=true):M64 x:=by
 have:0≤x∧x≤18446744073709551615:=by simpa[Lit.wf,IntKind.min,IntKind.max,IntKind.signed,IntKind.bits] using h
 exact⟨this.1,by omega⟩
theorem zci:prog.cellsOf 33=1:=by kernel_rfl
theorem znj:prog.cellsOf 56=8:=by kernel_rfl
theorem zvg {fuel:Nat} {cs:List Value} {x:DataW H×List MemPlace} (h:DataW.trod enc prog w base spare held fuel 56 cs=some x):∃g:Nat→Int,cs=[.int .u64 (g 0),.int .u64 (g 1),.int .u64 (g 2),.int .u64 (g 3),.int .u64 (g 4),.int .u64 (g 5),.int .u64 (g 6),.int .u64 (g 7)]∧∀k,k<8→M64 (g k):=by
 obtain⟨xs,n,_,hx,hlen,hxl,hf⟩:=DataW.trod_array underlying56 h;rw[znj] at hlen
 match cs,hlen with
 |[c0,c1,c2,c3,c4,c5,c6,c7],_=>
  have i0:=hf 0 dQ;have i1:=hf 1 dQ;have i2:=hf 2 dQ;have i3:=hf 3 dQ;have i4:=hf 4 dQ;have i5:=hf 5 dQ;have i6:=hf 6 dQ;have i7:=hf 7 dQ
  match xs,hxl with
  |[y0,y1,y2,y3,y4,y5,y6,y7],_=>
   rw[zci] at i0 i1 i2 i3 i4 i5 i6 i7;obtain⟨z0,e0,_,w0⟩:=DataW.trod_int underlying33 i0;obtain⟨z1,e1,_,w1⟩:=DataW.trod_int underlying33 i1;obtain⟨z2,e2,_,w2⟩:=DataW.trod_int underlying33 i2;obtain⟨z3,e3,_,w3⟩:=DataW.trod_int underlying33 i3;obtain⟨z4,e4,_,w4⟩:=DataW.trod_int underlying33 i4;obtain⟨z5,e5,_,w5⟩:=DataW.trod_int underlying33 i5;obtain⟨z6,e6,_,w6⟩:=DataW.trod_int underlying33 i6;obtain⟨z7,e7,_,w7⟩:=DataW.trod_int underlying33 i7;simp at e0 e1 e2 e3 e4 e5 e6 e7;subst e0 e1 e2 e3 e4 e5 e6 e7;refine⟨fun k=>match k with|0=>z0|1=>z1|2=>z2|3=>z3|4=>z4|5=>z5|6=>z6|_=>z7,rfl,fun k hk=>?_⟩
   obtain rfl|rfl|rfl|rfl|rfl|rfl|rfl|rfl:k=0∨k=1∨k=2∨k=3∨k=4∨k=5∨k=6∨k=7:=by omega
   ·exact zbM w0
   ·exact zbM w1
   ·exact zbM w2
   ·exact zbM w3
   ·exact zbM w4
   ·exact zbM w5
   ·exact zbM w6
   ·exact zbM w7
theorem znk:prog.cellsOf 59=7:=by kernel_rfl
theorem zvh {fuel:Nat} {cs:List Value} {x:DataW H×List MemPlace} (h:DataW.trod enc prog w base spare held fuel 59 cs=some x):∃g:Nat→Int,cs=[.int .u64 (g 0),.int .u64 (g 1),.int .u64 (g 2),.int .u64 (g 3),.int .u64 (g 4),.int .u64 (g 5),.int .u64 (g 6)]∧∀k,k<7→M64 (g k):=by
 obtain⟨xs,n,_,hx,hlen,hxl,hf⟩:=DataW.trod_array underlying59 h;rw[znk] at hlen
 match cs,hlen with
 |[c0,c1,c2,c3,c4,c5,c6],_=>
  have i0:=hf 0 dQ;have i1:=hf 1 dQ;have i2:=hf 2 dQ;have i3:=hf 3 dQ;have i4:=hf 4 dQ;have i5:=hf 5 dQ;have i6:=hf 6 dQ
  match xs,hxl with
  |[y0,y1,y2,y3,y4,y5,y6],_=>
   rw[zci] at i0 i1 i2 i3 i4 i5 i6;obtain⟨z0,e0,_,w0⟩:=DataW.trod_int underlying33 i0;obtain⟨z1,e1,_,w1⟩:=DataW.trod_int underlying33 i1;obtain⟨z2,e2,_,w2⟩:=DataW.trod_int underlying33 i2;obtain⟨z3,e3,_,w3⟩:=DataW.trod_int underlying33 i3;obtain⟨z4,e4,_,w4⟩:=DataW.trod_int underlying33 i4;obtain⟨z5,e5,_,w5⟩:=DataW.trod_int underlying33 i5;obtain⟨z6,e6,_,w6⟩:=DataW.trod_int underlying33 i6;simp at e0 e1 e2 e3 e4 e5 e6;subst e0 e1 e2 e3 e4 e5 e6;refine⟨fun k=>match k with|0=>z0|1=>z1|2=>z2|3=>z3|4=>z4|5=>z5|_=>z6,rfl,fun k hk=>?_⟩
   obtain rfl|rfl|rfl|rfl|rfl|rfl|rfl:k=0∨k=1∨k=2∨k=3∨k=4∨k=5∨k=6:=by omega
   ·exact zbM w0
   ·exact zbM w1
   ·exact zbM w2
   ·exact zbM w3
   ·exact zbM w4
   ·exact zbM w5
   ·exact zbM w6
theorem zk4:prog.cellsOf 58=10:=by kernel_rfl
theorem ziG:prog.cellsOf 3=1:=by kernel_rfl
theorem zfQ:prog.cellsOf 2=1:=by kernel_rfl
theorem zhN:prog.cellsOf 4=1:=by kernel_rfl
theorem ztj {fuel:Nat} {cs:List Value} {x:DataW H×List MemPlace} (h:DataW.trod enc prog w base spare held fuel 58 cs=some x):∃(i:Int) (b:Bool) (g:Nat→Int),cs=[.int .i64 i,.bool b,.int .u64 (g 0),.int .u64 (g 1),.int .u64 (g 2),.int .u64 (g 3),.int .u64 (g 4),.int .u64 (g 5),.int .u64 (g 6),.int .u64 (g 7)]∧∀k,k<8→M64 (g k):=by
 obtain⟨xs,q,_,hx,hlen,hxl,hf⟩:=DataW.trod_struct underlying58 h;rw[zk4] at hlen
 match cs,hlen with
 |[c0,c1,c2,c3,c4,c5,c6,c7,c8,c9],_=>
  have i0:=hf 0 _ rfl;have i1:=hf 1 _ rfl;have i2:=hf 2 _ rfl;have hl:xs.length=3:=hxl
  match xs,hl with
  |[y0,y1,y2],_=>
   change DataW.trod enc prog w base spare held q 3 (([c0,c1,c2,c3,c4,c5,c6,c7,c8,c9].drop 0).take (prog.cellsOf 3))=_ at i0
   change DataW.trod enc prog w base spare held q 4 (([c0,c1,c2,c3,c4,c5,c6,c7,c8,c9].drop 1).take (prog.cellsOf 4))=_ at i1
   change DataW.trod enc prog w base spare held q 56 (([c0,c1,c2,c3,c4,c5,c6,c7,c8,c9].drop 2).take (prog.cellsOf 56))=_ at i2
   rw[ziG] at i0;rw[zhN] at i1;rw[znj] at i2;obtain⟨a,e0,_,_⟩:=DataW.trod_int underlying3 i0;obtain⟨b,e1,_⟩:=DataW.trod_bool underlying4 i1;obtain⟨g,e2,hg⟩:=zvg i2;simp at e0 e1 e2;obtain⟨f0,f1,f2,f3,f4,f5,f6,f7⟩:=e2;subst e0 e1 f0 f1 f2 f3 f4 f5 f6 f7;exact⟨a,b,g,rfl,hg⟩
theorem ziH:prog.cellsOf 61=30:=by kernel_rfl
theorem zvi {fuel:Nat} {cs:List Value} {x:DataW H×List MemPlace} (h:DataW.trod enc prog w base spare held fuel 61 cs=some x):∃c:Cl,cs=zdp c∧zbD c∧c.s≤9223372036854775807:=by
 obtain⟨xs,q,_,hx,hlen,hxl,hf⟩:=DataW.trod_struct underlying61 h;rw[ziH] at hlen
 match cs,hlen with
 |[c0,c1,c2,c3,c4,c5,c6,c7,c8,c9,c10,c11,c12,c13,c14,c15,c16,c17,c18,c19,c20,c21,c22,c23,c24,c25,c26,c27,c28,c29],_=>
  have i0:=hf 0 _ rfl;have i1:=hf 1 _ rfl;have i2:=hf 2 _ rfl;have i3:=hf 3 _ rfl;have i4:=hf 4 _ rfl;have i5:=hf 5 _ rfl;have i6:=hf 6 _ rfl;have i7:=hf 7 _ rfl;have i8:=hf 8 _ rfl;have i9:=hf 9 _ rfl;have i10:=hf 10 _ rfl;have i11:=hf 11 _ rfl;have i12:=hf 12 _ rfl;have i13:=hf 13 _ rfl;have i14:=hf 14 _ rfl;have hl:xs.length=15:=hxl
  match xs,hl with
  |[y0,y1,y2,y3,y4,y5,y6,y7,y8,y9,y10,y11,y12,y13,y14],_=>
   change DataW.trod enc prog w base spare held q 33 (([c0,c1,c2,c3,c4,c5,c6,c7,c8,c9,c10,c11,c12,c13,c14,c15,c16,c17,c18,c19,c20,c21,c22,c23,c24,c25,c26,c27,c28,c29].drop 0).take (prog.cellsOf 33))=_ at i0
   rw[zci] at i0
   change DataW.trod enc prog w base spare held q 33 (([c0,c1,c2,c3,c4,c5,c6,c7,c8,c9,c10,c11,c12,c13,c14,c15,c16,c17,c18,c19,c20,c21,c22,c23,c24,c25,c26,c27,c28,c29].drop 1).take (prog.cellsOf 33))=_ at i1
   rw[zci] at i1
   change DataW.trod enc prog w base spare held q 33 (([c0,c1,c2,c3,c4,c5,c6,c7,c8,c9,c10,c11,c12,c13,c14,c15,c16,c17,c18,c19,c20,c21,c22,c23,c24,c25,c26,c27,c28,c29].drop 2).take (prog.cellsOf 33))=_ at i2
   rw[zci] at i2
   change DataW.trod enc prog w base spare held q 33 (([c0,c1,c2,c3,c4,c5,c6,c7,c8,c9,c10,c11,c12,c13,c14,c15,c16,c17,c18,c19,c20,c21,c22,c23,c24,c25,c26,c27,c28,c29].drop 3).take (prog.cellsOf 33))=_ at i3
   rw[zci] at i3
   change DataW.trod enc prog w base spare held q 33 (([c0,c1,c2,c3,c4,c5,c6,c7,c8,c9,c10,c11,c12,c13,c14,c15,c16,c17,c18,c19,c20,c21,c22,c23,c24,c25,c26,c27,c28,c29].drop 4).take (prog.cellsOf 33))=_ at i4
   rw[zci] at i4
   change DataW.trod enc prog w base spare held q 33 (([c0,c1,c2,c3,c4,c5,c6,c7,c8,c9,c10,c11,c12,c13,c14,c15,c16,c17,c18,c19,c20,c21,c22,c23,c24,c25,c26,c27,c28,c29].drop 5).take (prog.cellsOf 33))=_ at i5
   rw[zci] at i5
   change DataW.trod enc prog w base spare held q 33 (([c0,c1,c2,c3,c4,c5,c6,c7,c8,c9,c10,c11,c12,c13,c14,c15,c16,c17,c18,c19,c20,c21,c22,c23,c24,c25,c26,c27,c28,c29].drop 6).take (prog.cellsOf 33))=_ at i6
   rw[zci] at i6
   change DataW.trod enc prog w base spare held q 4 (([c0,c1,c2,c3,c4,c5,c6,c7,c8,c9,c10,c11,c12,c13,c14,c15,c16,c17,c18,c19,c20,c21,c22,c23,c24,c25,c26,c27,c28,c29].drop 7).take (prog.cellsOf 4))=_ at i7
   rw[zhN] at i7
   change DataW.trod enc prog w base spare held q 58 (([c0,c1,c2,c3,c4,c5,c6,c7,c8,c9,c10,c11,c12,c13,c14,c15,c16,c17,c18,c19,c20,c21,c22,c23,c24,c25,c26,c27,c28,c29].drop 8).take (prog.cellsOf 58))=_ at i8
   rw[zk4] at i8
   change DataW.trod enc prog w base spare held q 59 (([c0,c1,c2,c3,c4,c5,c6,c7,c8,c9,c10,c11,c12,c13,c14,c15,c16,c17,c18,c19,c20,c21,c22,c23,c24,c25,c26,c27,c28,c29].drop 18).take (prog.cellsOf 59))=_ at i9
   rw[znk] at i9
   change DataW.trod enc prog w base spare held q 3 (([c0,c1,c2,c3,c4,c5,c6,c7,c8,c9,c10,c11,c12,c13,c14,c15,c16,c17,c18,c19,c20,c21,c22,c23,c24,c25,c26,c27,c28,c29].drop 25).take (prog.cellsOf 3))=_ at i10
   rw[ziG] at i10
   change DataW.trod enc prog w base spare held q 2 (([c0,c1,c2,c3,c4,c5,c6,c7,c8,c9,c10,c11,c12,c13,c14,c15,c16,c17,c18,c19,c20,c21,c22,c23,c24,c25,c26,c27,c28,c29].drop 26).take (prog.cellsOf 2))=_ at i11
   rw[zfQ] at i11
   change DataW.trod enc prog w base spare held q 2 (([c0,c1,c2,c3,c4,c5,c6,c7,c8,c9,c10,c11,c12,c13,c14,c15,c16,c17,c18,c19,c20,c21,c22,c23,c24,c25,c26,c27,c28,c29].drop 27).take (prog.cellsOf 2))=_ at i12
   rw[zfQ] at i12
   change DataW.trod enc prog w base spare held q 2 (([c0,c1,c2,c3,c4,c5,c6,c7,c8,c9,c10,c11,c12,c13,c14,c15,c16,c17,c18,c19,c20,c21,c22,c23,c24,c25,c26,c27,c28,c29].drop 28).take (prog.cellsOf 2))=_ at i13
   rw[zfQ] at i13
   change DataW.trod enc prog w base spare held q 2 (([c0,c1,c2,c3,c4,c5,c6,c7,c8,c9,c10,c11,c12,c13,c14,c15,c16,c17,c18,c19,c20,c21,c22,c23,c24,c25,c26,c27,c28,c29].drop 29).take (prog.cellsOf 2))=_ at i14
   rw[zfQ] at i14;obtain⟨z0,e0,_,w0⟩:=DataW.trod_int underlying33 i0;obtain⟨z1,e1,_,w1⟩:=DataW.trod_int underlying33 i1;obtain⟨z2,e2,_,w2⟩:=DataW.trod_int underlying33 i2;obtain⟨z3,e3,_,w3⟩:=DataW.trod_int underlying33 i3;obtain⟨z4,e4,_,w4⟩:=DataW.trod_int underlying33 i4;obtain⟨z5,e5,_,w5⟩:=DataW.trod_int underlying33 i5;obtain⟨z6,e6,_,w6⟩:=DataW.trod_int underlying33 i6;obtain⟨z7,e7,_⟩:=DataW.trod_bool underlying4 i7;obtain⟨oi,ob,od,e8,hod⟩:=ztj i8;obtain⟨yy,e9,hyy⟩:=zvh i9;obtain⟨z10,e10,_,w10⟩:=DataW.trod_int underlying3 i10;obtain⟨z11,e11,_,w11⟩:=DataW.trod_int underlying2 i11;obtain⟨z12,e12,_,w12⟩:=DataW.trod_int underlying2 i12;obtain⟨z13,e13,_,w13⟩:=DataW.trod_int underlying2 i13;obtain⟨z14,e14,_,w14⟩:=DataW.trod_int underlying2 i14;simp at e0 e1 e2 e3 e4 e5 e6 e7 e8 e9 e10 e11 e12 e13 e14;obtain⟨f0,f1,f2,f3,f4,f5,f6,f7,f8,f9⟩:=e8;obtain⟨g0,g1,g2,g3,g4,g5,g6⟩:=e9;subst e0 e1 e2 e3 e4 e5 e6 e7 e10 e11 e12 e13 e14 f0 f1 f2 f3 f4 f5 f6 f7 f8 f9 g0 g1 g2 g3 g4 g5 g6;refine⟨⟨fun k=>match k with|0=>z0|1=>z1|2=>z2|3=>z3|4=>z4|5=>z5|_=>z6,z7,oi,ob,od,yy,z10,z11,z12,z13,z14⟩,rfl,⟨fun k hk=>?_,hod,hyy⟩,(zt0 w11).2⟩
   obtain rfl|rfl|rfl|rfl|rfl|rfl|rfl:k=0∨k=1∨k=2∨k=3∨k=4∨k=5∨k=6:=by omega
   ·exact zbM w0
   ·exact zbM w1
   ·exact zbM w2
   ·exact zbM w3
   ·exact zbM w4
   ·exact zbM w5
   ·exact zbM w6
theorem zk5 {fuel:Nat} {v:Value} {x:DataW H×List MemPlace} (h:DataW.trod enc prog w base spare held fuel 27 [v]=some x):
 ∃A n c l,v=.slice A n c∧zbd w A n l∧n≤c∧c≤maxLen∧(A=none→n=0)∧∀k∈l,zbD k∧k.s≤9223372036854775807:=by
 rcases open_slice underlying27 h with ⟨h0,_⟩|⟨a,len,cap,m,q,D,Pl,hcs,hb,hl,hm,hmm,_,hi⟩
 ·simp at h0;subst h0;exact⟨none,0,0,[],rfl,Rd.nil,waJ _,waK _,fun _=>rfl,fun it hit=>by simp at hit⟩
 ·simp at hcs;subst hcs;have hlm:len≤m:=by rw[hmm];split<;>omega
  have hall:∀i,i<len→∃it:Cl,(zbD it∧it.s≤9223372036854775807)∧(∀(j:Nat) v,(zdp it)[j]?=some v→w.cell? (a.add (i * 30+j))=some v)∧a.block<w.heap.size:=by
   intro i hil;obtain⟨cs',hc,ht⟩:=hi i oQ;obtain⟨it,rfl,hwf⟩:=zvi ht;rw[ziH] at hc;obtain⟨_,_,hat⟩:=World.cells?_some hc;refine⟨it,hwf,fun j v hj=>?_,?_⟩
   ·have hj4:j<30:=by have:=(waI.1 hj).1;simpa[zdp,clA] using this
    have:=hat j hj4;rw[←Go.Deep.add_add,this,hj]
   ·have:=hat 0 dQ;have h2:=waR w _ this;rw[Go.Deep.add_add] at h2;unfold Addr.add at h2;split at h2<;>exact h2
  let F:Nat→Cl:=fun i=>if hh:i<len then Classical.choose (hall i hh) else zbm
  have hF:∀i,i<len→(zbD (F i)∧(F i).s≤9223372036854775807)∧(∀(j:Nat) v,(zdp (F i))[j]?=some v→w.cell? (a.add (i * 30+j))=some v)∧a.block<w.heap.size:=by
   intro i hil;have:=Classical.choose_spec (hall i hil);simpa[F,hil] using this
  refine⟨some a,len,cap,(List.range len).map F,rfl,⟨by simp,fun hn=>?_⟩,hl,hm,(fun h=>by cases h),?_⟩
  ·obtain⟨b,o,s⟩:=a;have h00:=(hF 0 hn).2.1 0 _ rfl;have hs:s=none:=by
    have:=World.cell?_spot h00;simpa[Addr.add] using this
   subst hs;refine⟨b,o,rfl,(hF 0 hn).2.2,fun i x hx j v hj=>?_⟩
   have hil:i<len:=by have:=(waI.1 hx).1;simpa using this
   obtain rfl:F i=x:=by simpa[List.getElem?_map,List.getElem?_range hil] using hx
   have:=(hF i hil).2.1 j v hj;rw[zru] at this;rw[show o+i * 30+j=o+(i * 30+j) from by omega];exact this
  ·intro it hit;simp only[List.mem_map,wbG] at hit;obtain⟨i,hil,rfl⟩:=hit;exact(hF i hil).1
end
end Go.Proofs.YtgedndlifiihkaaGreatDoor
