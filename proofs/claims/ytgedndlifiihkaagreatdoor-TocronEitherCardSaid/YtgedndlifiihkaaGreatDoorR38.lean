/- A part of the proof: LTcE PTabR PTabZ -/
import Derived.Test.YtgedndlifiihkaaGreatDoorR37
import Derived.Test.YtgedndlifiihkaaGreatDoorR10
import Derived.Test.YtgedndlifiihkaaGreatDoorCards
import Derived.Test.YtgedndlifiihkaaGreatDoorTie
import Derived.Deep.DeepHandedRow
import Derived.Lib.LaidTab
import Derived.LaidSub
import Derived.MakeChecks
import Derived.Test.YtgedndlifiihkaaGreatDoorR03
import Derived.Test.YtgedndlifiihkaaGreatDoorR02
import Derived.Lib.LaidCaseMet
import Derived.PinnedBridge
import Derived.Deep.DeepWitnessRowRef
import Derived.Test.YtgedndlifiihkaaGreatDoorR13
set_option maxHeartbeats 80000000
set_option maxRecDepth 100000
set_option linter.unusedSimpArgs false
set_option linter.unusedVariables false
namespace Go.Proofs.YtgedndlifiihkaaGreatDoor
open Go.Proofs.Tryz
open Go.RowKit
open Go.Maps
attribute [local go_sem] Oper.semAt_some
structure EiFacts (l X:Nat→List It) (ok:Bool):Prop where
 no:ok=false→∀d∈zao (l 2) 1 31,zhE (zao (l 3) 1 12)<d
 day:ok=true→∀d∈zao (l 2) 1 31,d≤zhE (zao (l 3) 1 12)→inB (X 2) 1 31 d=true
 wk:ok=true→∀i,1≤i→i<8→zb3 (zan (wkL (zao (l 4) 0 7))) i=true→zb3 (zan (wkL (zao (X 4) 0 7))) i=true
 ei:ok=true→zbE X=true
def RetE2 (l:Nat→List It) (w:World) (e:Ending) (w':World):Prop:=Below w.heap.size w w'∧∃(A:Nat→Option Addr) (n c:Nat→Nat) (X:Nat→List It) (ok:Bool),e=.returned (.tuple #[crV A n c,.bool ok])∧zb0 w' A n X∧(∀k,n k≤100000)∧EiFacts l X ok
theorem zlX (b:Nat) (l:Nat→List It) (hf:∀k,k<5→zaD k (l k)=0) (he:zbE l=true) (W:World) (hr:zbx W (some ⟨b,0,none⟩) 1 [zaV l]) (ht:Tz W):Calls prog 10 #[.slice (some ⟨b,0,none⟩) 1 1] W (RetE2 l W):=by
 have hP:zcL (zeN l) (zap [zaV l]):=fun n s _ _ _=>(zhc l _).symm
 refine(zhB (some ⟨b,0,none⟩) 1 1 [zaV l] W hr (by decide) (fun h=>(by cases h)) (fun k hk=>by rw[wbC.1 hk];exact⟨zg4 l,show(1:Int)≤9223372036854775807 by decide⟩) (zjs l) ht).mono ?_
 rintro e w' ⟨hb,(⟨hno,rfl⟩|⟨⟨ha,hD,hW⟩,v,rfl,ho⟩)⟩
 ·exact⟨hb,fun _=>none,fun _=>0,fun _=>0,fun _=>[],false,rfl,fun k _=>Rd.nil,fun _=>waK _,⟨fun _ d hd=>zqU hf he hP hno hd,fun h=>(by cases h),fun h=>(by cases h),fun h=>(by cases h)⟩⟩
 ·obtain⟨A',n',c',e,hr',hz',hn',_⟩:=ho.rd;exact⟨hb,A',n',c',zbn (zap [zaV l]),true,by rw[e],hr',fun k=>by rw[hn' k];split;exact zgd _ k;exact waK _,
   ⟨fun h=>(by cases h),fun _ d hd h=>zoj hf he hP hd h,fun _ i h1 h8 h=>zqV hf he hP ha h1 h8 h,fun _=>zlW _⟩⟩
theorem zok {V:List Int} {k:Nat} {x:Int} (hx:V[k]?=some x):zhE (V.take (k+1))=max (zhE (V.take k)) (zbe 2000 x):=by
 unfold zhE;rw[List.take_add_one,hx,List.foldl_append];rfl
def Ln5 (w:World) (b:Nat) (A:Nat→Option Addr) (n c:Nat→Nat):Prop:=w.heap[b]?=some (.cells #[.slice (A 0) (n 0) (c 0),.slice (A 1) (n 1) (c 1),.slice (A 2) (n 2) (c 2),.slice (A 3) (n 3) (c 3),.slice (A 4) (n 4) (c 4)] 24 (0,0))
theorem Ln5.below {w w':World} {b:Nat} {A:Nat→Option Addr} {n c:Nat→Nat} (h:Ln5 w b A n c) (hb:Below w.heap.size w w'):Ln5 w' b A n c:=(hb.block _ (waL.1 h).1).trans h
theorem Ln5.cell {w:World} {b:Nat} {A:Nat→Option Addr} {n c:Nat→Nat} (h:Ln5 w b A n c):w.cell? ⟨b,0,none⟩=some (.slice (A 0) (n 0) (c 0))∧w.cell? ⟨b,1,none⟩=some (.slice (A 1) (n 1) (c 1))∧w.cell? ⟨b,2,none⟩=some (.slice (A 2) (n 2) (c 2))∧w.cell? ⟨b,3,none⟩=some (.slice (A 3) (n 3) (c 3))∧w.cell? ⟨b,4,none⟩=some (.slice (A 4) (n 4) (c 4)):=by
 refine⟨?_,?_,?_,?_,?_⟩<;>(rw[World.cell?_of_heap h];rfl)
structure EiB (w w':World) (A:Nat→Option Addr) (n c:Nat→Nat) (B:Nat→Option Addr) (m d:Nat→Nat) (X:Nat→List It) (bx:Nat):Prop where
 lc:Ln5 w' w.heap.size A n c
 lx:Ln5 w' bx B m d
 rx:zb0 w' B m X
 b:Below w.heap.size w w'
theorem EiB.below {w w' w'':World} {A B:Nat→Option Addr} {n c m d:Nat→Nat} {X:Nat→List It} {bx:Nat} (h:EiB w w' A n c B m d X bx) (hb:Below w'.heap.size w' w''):EiB w w'' A n c B m d X bx:=⟨h.lc.below hb,h.lx.below hb,h.rx.below hb (waJ _),zai h.b hb h.b.size⟩
theorem zgr (A:Nat→Option Addr) (n c:Nat→Nat) (l:Nat→List It) (w:World) (hA:zb0 w A n l) (hn:∀k,n k≤9223372036854775807) (hnil:∀k,A k=none→n k=0) (h5:∀k,5≤k→n k=0) (hp:Pow w) (ht:Tz w):
 Calls prog 3 #[crV A n c] w (Ret (.bool true) w):=by
 have HV:=waV (fun W (hb:Below w.heap.size w W)=>zlV W (zcQ hp hb) (ht.below hb))
 have HG:=waV (fun W=>zpA A n c W)
 have HT:=waV ht;clear hp ht;have hcr:crV A n c=.agg #[.slice (A 0) (n 0) (c 0),.slice (A 1) (n 1) (c 1),.slice (A 2) (n 2) (c 2),.slice (A 3) (n 3) (c 3),.slice (A 4) (n 4) (c 4)]:=rfl;have hL0:Ln5 (w.alloc (.cells #[.slice (A 0) (n 0) (c 0),.slice (A 1) (n 1) (c 1),.slice (A 2) (n 2) (c 2),.slice (A 3) (n 3) (c 3),.slice (A 4) (n 4) (c 4)] 24)) w.heap.size A n c:=World.alloc_heap_new _ _;have hbA:Below w.heap.size w (w.alloc (.cells #[.slice (A 0) (n 0) (c 0),.slice (A 1) (n 1) (c 1),.slice (A 2) (n 2) (c 2),.slice (A 3) (n 3) (c 3),.slice (A 4) (n 4) (c 4)] 24)):=(waC _ w).alloc (waJ _) _;cases hg:zfp n with
 |true=>
  rw[hg] at HG;clear hA hn hnil h5 hg hL0;rw[hcr];go_enter func3,ntmps3;go_wp2_with fail;refine(HG.out _).mono ?_;rintro x w1 ⟨rfl,hb1⟩;have hb1:Below w.heap.size w w1:=zai hbA hb1 hbA.size;go_wp2_with fail;refine(HV.out _ hb1).mono ?_;rintro x w2 ⟨rfl,hb2⟩;go_wp2;go_ret;exact⟨rfl,zai hb1 hb2 hb1.size⟩
 |false=>
  have hns:∀k,n k≤100000:=fun k=>by
   by_cases hk:k<5
   ·have:=zrI hg k hk;omega
   ·rw[h5 k (by omega)];omega
  rw[hg] at HG;clear hg;have HL0:=waV hL0;clear hL0
  by_cases hc:(chk l).2=0
  ·have hch:∀k,k<5→zaD k (l k)=0:=by
    rcases ztc l with h|h
    ·exact h.2
    ·exact absurd hc h
   have HLw:=waV (fun V (hV:Below w.heap.size w V)=>zi3 A n c l V (hA.below hV (waJ _)) hns hnil hc)
   have HEi:=waV (fun V (hV:Below w.heap.size w V)=>zfV A n c l V (hA.below hV (waJ _)))
   have HA:=waV hA;have HNs:=waV hns;have HF:=waV hch;clear hA hn hnil h5 hns hc hch;rw[hcr];go_enter func3,ntmps3;go_wp2_with fail;generalize w.alloc (.cells #[.slice (A 0) (n 0) (c 0),.slice (A 1) (n 1) (c 1),.slice (A 2) (n 2) (c 2),.slice (A 3) (n 3) (c 3),.slice (A 4) (n 4) (c 4)] 24)=V0 at *;refine(HG.out _).mono ?_;rintro x w1 ⟨rfl,hb1⟩;replace HL0:=waV (HL0.out.below hb1);obtain⟨l0,l1,l2,l3,l4⟩:=HL0.out.cell;replace hbA:=zai hbA hb1 hbA.size;clear hb1;go_wp2_with fail;refine(HLw.out _ hbA).mono ?_;rintro e w2 ⟨b,rfl,hr,hb2⟩;replace HL0:=waV (HL0.out.below hb2);replace hbA:=zai hbA hb2 hbA.size;clear l0 l1 l2 l3 l4 hb2 HLw;obtain⟨l0,l1,l2,l3,l4⟩:=HL0.out.cell;have HR:=waV hr;clear hr;go_wp2_with fail;refine(HEi.out _ hbA).mono ?_;rintro e w3 ⟨rfl,hb3⟩;replace HL0:=waV (HL0.out.below hb3);replace HR:=waV (HR.out.below hb3 (waJ _));replace hbA:=zai hbA hb3 hbA.size;clear l0 l1 l2 l3 l4 hb3 HEi;cases he:zbE l with
   |false=>
    go_wp2_with fail;refine(HV.out _ hbA).mono ?_;rintro x w4 ⟨rfl,hb4⟩;go_wp2;go_ret;exact⟨rfl,zai hbA hb4 hbA.size⟩
   |true=>
    have H2:=waV (zlX b l HF.out he w3 HR.out (HT.out.below hbA));clear he HR;go_wp2_with fail;refine H2.out.mono ?_;rintro e w4 ⟨hb4,B,m,d,X,ok,rfl,hrx,hmx,hfx⟩;replace HL0:=waV (HL0.out.below hb4);replace hbA:=zai hbA hb4 hbA.size;have HFx:=waV hfx;have HMx:=waV hmx;rw[show crV B m d=.agg #[.slice (B 0) (m 0) (d 0),.slice (B 1) (m 1) (d 1),.slice (B 2) (m 2) (d 2),.slice (B 3) (m 3) (d 3),.slice (B 4) (m 4) (d 4)] from rfl]
    clear hb4 hfx hmx H2;go_wp2_with fail;have hbY:Below w4.heap.size w4 (w4.alloc (.cells #[.slice (B 0) (m 0) (d 0),.slice (B 1) (m 1) (d 1),.slice (B 2) (m 2) (d 2),.slice (B 3) (m 3) (d 3),.slice (B 4) (m 4) (d 4)] 24)):=(waC _ _).alloc (waJ _) _;have hS0:EiB w (w4.alloc (.cells #[.slice (B 0) (m 0) (d 0),.slice (B 1) (m 1) (d 1),.slice (B 2) (m 2) (d 2),.slice (B 3) (m 3) (d 3),.slice (B 4) (m 4) (d 4)] 24)) A n c B m d X w4.heap.size:=⟨HL0.out.below hbY,World.alloc_heap_new _ _,hrx.below hbY (waJ _),zai hbA hbY hbA.size⟩;generalize w4.alloc (.cells #[.slice (B 0) (m 0) (d 0),.slice (B 1) (m 1) (d 1),.slice (B 2) (m 2) (d 2),.slice (B 3) (m 3) (d 3),.slice (B 4) (m 4) (d 4)] 24)=V4 at *;generalize w4.heap.size=bx at *;clear HL0 hrx hbY hbA;have HW1:=waV (fun V (h:EiB w V A n c B m d X bx)=>zea (A 4) (n 4) (c 4) (l 4) V (HA.out.below h.b (waJ _) 4 dQ) (HNs.out 4))
    have HW2:=waV (fun V (h:EiB w V A n c B m d X bx)=>zea (B 4) (m 4) (d 4) (X 4) V (h.rx 4 dQ) (HMx.out 4))
    have HMo:=waV (fun V (h:EiB w V A n c B m d X bx)=>zgM (A 3) (n 3) (c 3) (l 3) 1 12 V (HA.out.below h.b (waJ _) 3 dQ) (by have:=HNs.out 3;omega) ⟨by decide,by decide⟩ ⟨by decide,by decide⟩)
    have HDy:=waV (fun V (h:EiB w V A n c B m d X bx)=>zgM (A 2) (n 2) (c 2) (l 2) 1 31 V (HA.out.below h.b (waJ _) 2 dQ) (by have:=HNs.out 2;omega) ⟨by decide,by decide⟩ ⟨by decide,by decide⟩)
    have HIn:=waV (fun V x (h:EiB w V A n c B m d X bx)=>zoN (B 2) (m 2) (d 2) (X 2) 1 31 x V (h.rx 2 dQ) (by have:=HMx.out 2;omega))
    have HEx:=waV (fun V (h:EiB w V A n c B m d X bx)=>zfV B m d X V h.rx)
    have HVx:=waV (fun V (h:EiB w V A n c B m d X bx)=>HV.out V h.b)
    have HM1:Hid (M64 (zan (wkL (zao (l 4) 0 7)))):=ztR _;have HM2:Hid (M64 (zan (wkL (zao (X 4) 0 7)))):=ztR _;have HVb:Hid (∀x∈zao (l 3) 1 12,1≤x∧x≤12):=fun x hx=>zfU hx
    have HLm:Hid ((zao (l 3) 1 12).length≤1000000000):=zgj (l 3) 1 12 dQ;have HLd:Hid ((zao (l 2) 1 31).length≤1000000000):=zgj (l 2) 1 31 dQ;clear HA HNs HMx HV HF HT HG;have hno:=HFx.out.no;have hday:=HFx.out.day;have hwk:=HFx.out.wk;have hei:=HFx.out.ei;generalize zan (wkL (zao (l 4) 0 7))=M1 at *;generalize zan (wkL (zao (X 4) 0 7))=M2 at *;generalize zao (l 3) 1 12=Vm at *;generalize zao (l 2) 1 31=Vd at *;have HNo:=waV hno;have HDay:=waV hday;have HWk:=waV hwk;have HEi:=waV hei;clear hno hday hwk hei HFx;go_wp2_with fail;refine zdO (α:=Unit) (fun _=>[(36,.pointer (some ⟨w.heap.size,4,none⟩)),(37,.slice (A 4) (n 4) (c 4)),(38,.int .u64 M1),(39,.pointer (some ⟨bx,4,none⟩)),(40,.slice (B 4) (m 4) (d 4)),(41,.int .u64 M2),(7,.int .u64 M1),(8,.int .u64 M2)]) (fun _ w'=>EiB w w' A n c B m d X bx) ?ways ?on
    case ways=>
     have hHeld:Hid (EiB w V4.drew A n c B m d X bx):=hS0.below ((waC _ _).drew);clear hS0;refine zam 5 (fun w'=>Hid (EiB w w' A n c B m d X bx)) kQ ?_
     refine(kP 0 36 (h:=(kR 1 37 (fun w_ hSw_=>hSw_.out.lc.cell.2.2.2.2) (h:=(kP 3 39 (h:=(kR 4 40 (fun w_ hSw_=>hSw_.out.lx.cell.2.2.2.2) (h:=?_))))))))
     simp only[Act.put,aPu1,aPu2,aPu3];refine zac (i:=2) kQ fun o_ ho_ K_ hK_=>?_
     obtain rfl:=waB ho_;have HK_:=waV hK_;clear hK_ ho_;go_wp2_with fail;refine(HW1.out _ hHeld.out).mono ?_;rintro e w5 ⟨rfl,hq⟩;replace hHeld:=waV (hHeld.out.below hq);clear hq;go_wp2_with fail;refine HK_.out _ _ hHeld ?_;clear HK_;refine zaf (j:=3) dQ (.inr rfl) dQ kQ ?_;simp only[wbQ,waG,List.length_nil,Nat.reduceAdd,Nat.reduceSub,waZ,wbA];go_wp2_with fail;refine(HW2.out _ hHeld.out).mono ?_;rintro e w6 ⟨rfl,hq⟩;go_wp2_with fail;refine⟨rfl,(),?_,hHeld.out.below hq⟩;simp only[zcD,List.foldl,Act.put,wbU,wbV,wbW]
    case on=>
     rintro _ w7 hS;simp only[zcD,List.foldl,Act.put,wbU,wbW,wbV];have HS:=waV hS;clear hS hS0 HW1 HW2;have c3:=HS.out.lc.cell.2.2.2.1;go_wp2_with fail;refine(HMo.out _ HS.out).mono ?_;rintro e w8 ⟨v,rfl,hv,hq⟩;obtain⟨Am,cm,rfl,_,_,hrm,_⟩:=zbk.rd hv;replace HS:=waV (HS.out.below hq);have HRm:=waV hrm;clear hv hq hrm c3 HMo;go_wp2_with fail
     go_loopw [10,11] (fun lg i wr=>∃k:Nat,k≤Vm.length∧i=.int .i64 k∧Hid (lg=.int .i64 (zhE (Vm.take k)))∧wr=w8) (fun _ i _=>Vm.length - (intOf i).toNat)
     case atStart=>exact⟨0,waK _,by go_num,rfl,rfl⟩
     case round=>
      obtain⟨k,hk,rfl,HLg,rfl⟩:=hrel;obtain rfl:=HLg.out;have hlm:=HLm.out;clear HLg
      by_cases hlt:k<Vm.length
      ·obtain⟨b0,o0,x,rfl,hbl,hx,c0⟩:=zaO.at_ HRm.out hlt
       have hlt':(k:Int)<(Vm.length:Int):=by omega
       obtain⟨x1,x2⟩:=HVb.out x (List.mem_of_getElem? hx);have HTk:=waV (zok hx);have HLn:=waV (fun W=>zkd 2000 x dQ dQ x1 x2 W)
       clear hx;go_wp2_with fail;refine(HLn.out _).mono ?_;rintro e w9 ⟨rfl,rfl⟩;go_wp2;go_roundw
       case rel=>exact⟨k+1,by omega,by go_num,by show _=_;rw[HTk.out],by trivial⟩
       case measure=>simp [intOf];omega
      ·obtain rfl:k=Vm.length:=by omega
       rw[List.take_length];have HSr:=waV HS.out;clear HRm HVb HS;have c2:=HSr.out.lc.cell.2.2.1;go_wp2_with fail;refine(HDy.out _ HSr.out).mono ?_;rintro e w9 ⟨v,rfl,hv,hq⟩;obtain⟨Ad,cd,rfl,_,_,hrd,_⟩:=zbk.rd hv;replace HSr:=waV (HSr.out.below hq);have HRd:=waV hrd;generalize zhE Vm=lv at *;clear hv hq hrd c2 HDy;cases ok with
       |false=>
        by_cases h0:Vd.length=0
        ·have h0':((Vd.length:Int)==0)=true:=by rw[h0];rfl
         clear h0;go_wp2_with fail;refine(HVx.out _ HSr.out).mono ?_;rintro e wa ⟨rfl,hq⟩;go_wp2;go_ret;exact⟨rfl,zai HSr.out.b hq HSr.out.b.size⟩
        ·have h0':((Vd.length:Int)==0)=false:=by rw[wbE];omega
         obtain⟨b0,o0,x,rfl,hbl,hx,c0⟩:=zaO.at_ HRd.out (show 0<Vd.length by omega)
         have hgt:x>lv:=HNo.out (by trivial) x (List.mem_of_getElem? hx)
         have hl0:(0:Int)<(Vd.length:Int):=by omega
         rw[Nat.add_zero] at c0;clear h0 hx;go_wp2_with fail;refine(HVx.out _ HSr.out).mono ?_;rintro e wa ⟨rfl,hq⟩;go_wp2;go_ret;exact⟨rfl,zai HSr.out.b hq HSr.out.b.size⟩
       |true=>
        clear HNo;go_wp2_with fail
        go_loopw [13] (fun i wr=>∃k:Nat,k≤Vd.length∧i=.int .i64 k∧Hid (EiB w wr A n c B m d X bx)∧Hid (zaO wr Ad Vd.length Vd)) (fun i _=>Vd.length - (intOf i).toNat)
        case atStart=>exact⟨0,waK _,by go_num,HSr.out,HRd.out⟩
        case round=>
         obtain⟨k,hk,rfl,HSk,HRk⟩:=hrel;have hld:=HLd.out
         by_cases hlt:k<Vd.length
         ·obtain⟨b0,o0,x,rfl,hbl,hx,c0⟩:=zaO.at_ HRk.out hlt
          have hlt':(k:Int)<(Vd.length:Int):=by omega
          have HX:=waV (List.mem_of_getElem? hx);have HC0:=waV c0;clear hx HSr HRd c0
          by_cases hle:x≤lv
          ·have HI:=waV (fun V (h:EiB w V A n c B m d X bx)=>HIn.out V x h)
           rw[HDay.out (by trivial) x HX.out hle] at HI
           go_wp2_with fail;refine zdO (α:=Unit) (fun _=>[(82,.slice (some ⟨b0,o0,none⟩) Vd.length cd),(83,.int .i64 k),(84,.pointer (some ⟨b0,o0+k,none⟩)),(85,.int .i64 x),(86,.int .i64 lv),(87,.bool true),(88,.bool true),(89,.pointer (some ⟨bx,2,none⟩)),(90,.slice (B 2) (m 2) (d 2)),(91,.slice (some ⟨b0,o0,none⟩) Vd.length cd),(92,.int .i64 k),(93,.pointer (some ⟨b0,o0+k,none⟩)),(94,.int .i64 x),(95,.bool true),(96,.bool false),(97,.bool false)]) (fun _ w'=>EiB w w' A n c B m d X bx∧Below wr.heap.size wr w') ?ways ?on
           case ways=>
            have hHeld:Hid (EiB w wr.drew A n c B m d X bx∧wr.drew.cell? ⟨b0,o0+k,none⟩=some (.int .i64 x)∧Below wr.heap.size wr wr.drew):=⟨HSk.out.below ((waC _ _).drew),HC0.out,(waC _ _).drew⟩;refine zam 13 (fun w'=>Hid (EiB w w' A n c B m d X bx∧w'.cell? ⟨b0,o0+k,none⟩=some (.int .i64 x)∧Below wr.heap.size wr w')) kQ ?_
            refine(kP 0 82 (h:=(kP 1 83 (h:=(kP 2 84 (h:=(kR 3 85 (fun w_ hSw_=>hSw_.out.2.1) (h:=(kP 4 86 (h:=(kP 5 87 (h:=(kP 6 88 (h:=(kP 7 89 (h:=(kR 8 90 (fun w_ hSw_=>hSw_.out.1.lx.cell.2.2.1) (h:=(kP 9 91 (h:=(kP 10 92 (h:=(kP 11 93 (h:=?_))))))))))))))))))))))))
            simp only[Act.put,aPu1,aPu2,aPu3];refine(kR 12 94 (fun w_ hSw_=>hSw_.out.2.1) (h:=?_))
            simp only[Act.put,aPu1,aPu2,aPu3];refine zaf (j:=3) dQ (.inr rfl) dQ kQ ?_;simp only[wbQ,waG,List.length_nil,Nat.reduceAdd,Nat.reduceSub,waZ,wbA];go_wp2_with fail;refine(HI.out _ hHeld.out.1).mono ?_;rintro e w6 ⟨rfl,hq⟩;go_wp2_with fail;refine⟨rfl,(),?_,hHeld.out.1.below hq,zai hHeld.out.2.2 hq hHeld.out.2.2.size⟩;simp only[zcD,List.foldl,Act.put,wbU,wbV,wbW]
           case on=>
            rintro _ w7 ⟨hS,hq⟩;simp only[zcD,List.foldl,Act.put,wbU,wbW,wbV];have HS7:=waV hS;have HR7:Hid (zaO w7 (some ⟨b0,o0,none⟩) Vd.length Vd):=HRk.out.below hq (waJ _);clear hS hq;go_wp2_with fail;go_roundw
            case rel=>exact⟨k+1,by omega,by go_num,HS7.out,HR7.out⟩
            case measure=>simp [intOf];omega
          ·go_wp2_with fail;refine zdO (α:=Unit) (fun _=>[(82,.slice (some ⟨b0,o0,none⟩) Vd.length cd),(83,.int .i64 k),(84,.pointer (some ⟨b0,o0+k,none⟩)),(85,.int .i64 x),(86,.int .i64 lv),(87,.bool false),(88,.bool false),(89,undef),(90,undef),(91,undef),(92,undef),(93,undef),(94,undef),(95,undef),(96,undef),(97,.bool false)]) (fun _ w'=>EiB w w' A n c B m d X bx∧Below wr.heap.size wr w') ?ways ?on
           case ways=>
            have hle2:¬x≤lv:=by omega
            have hHeld:Hid (EiB w wr.drew A n c B m d X bx∧wr.drew.cell? ⟨b0,o0+k,none⟩=some (.int .i64 x)∧Below wr.heap.size wr wr.drew):=⟨HSk.out.below ((waC _ _).drew),HC0.out,(waC _ _).drew⟩;refine zam 13 (fun w'=>Hid (EiB w w' A n c B m d X bx∧w'.cell? ⟨b0,o0+k,none⟩=some (.int .i64 x)∧Below wr.heap.size wr w')) kQ ?_
            refine(kP 0 82 (h:=(kP 1 83 (h:=(kP 2 84 (h:=(kR 3 85 (fun w_ hSw_=>hSw_.out.2.1) (h:=(kP 4 86 (h:=(kP 5 87 (h:=(kP 6 88 (h:=?_))))))))))))))
            simp only[Act.put,aPu1,aPu2,aPu3];refine zaj (i:=7) (dst:=some 89) (v:=undef) (hy:=fun o_ ho_=>?_) (hS:=hHeld) (h:=?_)
            case refine_1=>(obtain rfl:=waB ho_;exact Or.inr ⟨by rfl,rfl⟩)
            simp only[Act.put,aPu1,aPu2,aPu3];refine zaj (i:=8) (dst:=some 90) (v:=undef) (hy:=fun o_ ho_=>?_) (hS:=hHeld) (h:=?_)
            case refine_1=>(obtain rfl:=waB ho_;exact Or.inr ⟨by rfl,rfl⟩)
            simp only[Act.put,aPu1,aPu2,aPu3];refine zaj (i:=9) (dst:=some 91) (v:=undef) (hy:=fun o_ ho_=>?_) (hS:=hHeld) (h:=?_)
            case refine_1=>(obtain rfl:=waB ho_;exact Or.inr ⟨by rfl,rfl⟩)
            simp only[Act.put,aPu1,aPu2,aPu3];refine zaj (i:=10) (dst:=some 92) (v:=undef) (hy:=fun o_ ho_=>?_) (hS:=hHeld) (h:=?_)
            case refine_1=>(obtain rfl:=waB ho_;exact Or.inr ⟨by rfl,rfl⟩)
            simp only[Act.put,aPu1,aPu2,aPu3];refine zaj (i:=11) (dst:=some 93) (v:=undef) (hy:=fun o_ ho_=>?_) (hS:=hHeld) (h:=?_)
            case refine_1=>(obtain rfl:=waB ho_;exact Or.inr ⟨by rfl,rfl⟩)
            simp only[Act.put,aPu1,aPu2,aPu3];refine zaj (i:=12) (dst:=some 94) (v:=undef) (hy:=fun o_ ho_=>?_) (hS:=hHeld) (h:=?_)
            case refine_1=>(obtain rfl:=waB ho_;exact Or.inr ⟨by rfl,rfl⟩)
            simp only[Act.put,aPu1,aPu2,aPu3];refine zaf (j:=3) dQ (.inr rfl) dQ kQ ?_;simp only[wbQ,waG,List.length_nil,Nat.reduceAdd,Nat.reduceSub,waZ,wbA];go_wp2_with fail;refine⟨rfl,(),?_,hHeld.out.1,hHeld.out.2.2⟩;simp only[zcD,List.foldl,Act.put,wbU,wbV,wbW]
           case on=>
            rintro _ w7 ⟨hS,hq⟩;simp only[zcD,List.foldl,Act.put,wbU,wbW,wbV];have HS7:=waV hS;have HR7:Hid (zaO w7 (some ⟨b0,o0,none⟩) Vd.length Vd):=HRk.out.below hq (waJ _);clear hS hq;go_wp2_with fail;go_roundw
            case rel=>exact⟨k+1,by omega,by go_num,HS7.out,HR7.out⟩
            case measure=>simp [intOf];omega
         ·obtain rfl:k=Vd.length:=by omega
          clear HRd HSr HRk HDay HIn;have HH1:=waV (fun(j:Nat) W=>zkW M1 HM1.out ((j:Int)+1) W)
          have HH2:=waV (fun(j:Nat) W=>zkW M2 HM2.out ((j:Int)+1) W)
          have HWj:Hid (∀j:Nat,j<7→zb3 M1 ((j:Int)+1)=true→zb3 M2 ((j:Int)+1)=true):=fun j hj h=>HWk.out (by trivial) _ oQ oQ h
          clear HM1 HM2 HWk;go_wp2_with fail
          go_loopw [14] (fun i wz=>∃j:Nat,j≤7∧i=.int .i64 ((j:Int)+1)∧wz=wr) (fun i _=>8 - (intOf i).toNat)
          case atStart=>exact⟨0,waK _,by go_num,rfl⟩
          case round=>
           obtain⟨j,hj,rfl,rfl⟩:=hrel
           by_cases hlj:j<7
           ·have hlj':(j:Int)+1<8:=by omega
            have HK1:=waV (HH1.out j wr);have HK2:=waV (HH2.out j wr);cases hm:zb3 M1 ((j:Int)+1) with
            |false=>
             rw[hm] at HK1;clear hm;go_wp2_with fail;refine HK1.out.mono ?_;rintro e w6 ⟨rfl,rfl⟩;go_wp2;go_roundw
             case rel=>exact⟨j+1,by omega,by go_num,by trivial⟩
             case measure=>simp [intOf];omega
            |true=>
             rw[HWj.out j hlj hm] at HK2;rw[hm] at HK1;clear hm;go_wp2_with fail;refine HK1.out.mono ?_;rintro e w6 ⟨rfl,rfl⟩;go_wp2_with fail;refine HK2.out.mono ?_;rintro e w6 ⟨rfl,rfl⟩;go_wp2;go_roundw
             case rel=>exact⟨j+1,by omega,by go_num,by trivial⟩
             case measure=>simp [intOf];omega
           ·obtain rfl:j=7:=by omega
            obtain⟨y0,y1,y2,y3,y4⟩:=HSk.out.lx.cell;have HE9:=waV (HEx.out _ HSk.out);rw[HEi.out (by trivial)] at HE9
            rw[show crV B m d=.agg #[.slice (B 0) (m 0) (d 0),.slice (B 1) (m 1) (d 1),.slice (B 2) (m 2) (d 2),.slice (B 3) (m 3) (d 3),.slice (B 4) (m 4) (d 4)] from rfl] at HE9
            go_wp2_with fail;refine HE9.out.mono ?_;rintro e wa ⟨rfl,hq⟩;have hS9:=HSk.out.below hq;have HS9:=waV hS9;clear hq hS9 y0 y1 y2 y3 y4;go_wp2_with fail;refine(HVx.out _ HS9.out).mono ?_;rintro e wb ⟨rfl,hq⟩;go_wp2;go_ret;exact⟨rfl,zai HS9.out.b hq HS9.out.b.size⟩
  ·have HBad:=waV (fun V (hV:Below w.heap.size w V)=>zkg A n c l V (hA.below hV (waJ _)) hn hc)
   have he:((chk l).2==0)=false:=by rw[wbE];exact hc
   have he':((chk l).2 !=0)=true:=by simpa using hc
   clear hA hn hnil h5 hns hc;generalize (chk l).2=k at *;rw[hcr];go_enter func3,ntmps3;go_wp2_with fail;generalize w.alloc (.cells #[.slice (A 0) (n 0) (c 0),.slice (A 1) (n 1) (c 1),.slice (A 2) (n 2) (c 2),.slice (A 3) (n 3) (c 3),.slice (A 4) (n 4) (c 4)] 24)=V0 at *;refine(HG.out _).mono ?_;rintro x w1 ⟨rfl,hb1⟩;replace HL0:=waV (HL0.out.below hb1);obtain⟨l0,l1,l2,l3,l4⟩:=HL0.out.cell;replace hbA:=zai hbA hb1 hbA.size;clear hb1;go_wp2_with fail;refine(HBad.out _ hbA).mono ?_;rintro x w2 ⟨rfl,hb2⟩;replace hbA:=zai hbA hb2 hbA.size;go_wp2_with fail;refine(HV.out _ hbA).mono ?_;rintro x w3 ⟨rfl,hb3⟩;go_wp2;go_ret;exact⟨rfl,zai hbA hb3 hbA.size⟩
end Go.Proofs.YtgedndlifiihkaaGreatDoor
namespace Go.Proofs.YtgedndlifiihkaaGreatDoor
open Go.Proofs.Tryz
open Go.ChangeShapes Go.WideShapes Go.ChangeAt Go.RowKit
def zuA:Nat→DataW Unit→List Value
 |n+1,.agg xs=>xs.flatMap (zuA n)
 |n+1,.slice xs _=>xs.flatMap (zuA n)
 |_,.lit (.int k z)=>[.int k z]
 |_,_=>[undef]
def zqW (d:DataW Unit):Obj→Obj
 | .cells _ t fr=>.cells (zuA 4 d).toArray t fr
 |o=>o
def zsN (cs:Array Value):Obj→Obj
 | .cells _ t fr=>.cells cs t fr
 |o=>o
def ze6:Go.Shelf.Ren:={Tryz.lays274_ren with g:=fun|13=>1|n=>n}
theorem zqX:Go.Proofs.Lays.n274 prog ze6:={Tryz.lays274 with}
noncomputable def zfL (os:Os):World:=
 {World.holding prog os ⟨#[.cells Lib.caseCells5 (ze6.t 208)],#[],[]⟩ with heap:=(((World.holding prog os ⟨#[.cells Lib.caseCells5 (ze6.t 208)],#[],[]⟩).heap.modify 4 (zqW Rows.laid_unicode_utf8_acceptRanges)).modify 3 (zqW Rows.laid_unicode_utf8_first)).modify 1 (zsN #[.slice (some ⟨(World.settled prog os).heap.size,0,none⟩) 336 336])}
theorem zqY (os:Os) (args:Array Value):laidMet prog ([("unicode/utf8.acceptRanges",Rows.laid_unicode_utf8_acceptRanges),("unicode/utf8.first",Rows.laid_unicode_utf8_first)]++[("unicode.CaseRanges",Lib.caseData)]) ((zfL os).forCall (fun _ _=>0) ⟨#[],args,[]⟩).memory:=
 laidMet_with_case (ρ:=ze6) zqX kQ ⟨by kernel_rfl,by kernel_rfl,by kernel_rfl,by kernel_rfl,by kernel_rfl,by kernel_rfl⟩
  (l:=[("unicode/utf8.acceptRanges",Rows.laid_unicode_utf8_acceptRanges),("unicode/utf8.first",Rows.laid_unicode_utf8_first)])
  10 kQ kQ kQ ((World.settled prog default).heap.size) (ze6.t 208) (waA kQ) kQ kQ kQ
theorem zkX {P:Program} {w:World} {a f c:String×DataW Unit} (h:laidMet P [a,f,c] w):laidMet P [a,c,f] w:=by
 obtain⟨ps,hv,hnd,hrows⟩:=h;obtain⟨na,da⟩:=a;obtain⟨nf,df⟩:=f;obtain⟨nc,dc⟩:=c;obtain⟨ga,ta,csa,fua,pa,qa,a1,a2,a3,a4,hf,rfl⟩:=hv;obtain⟨gf,tf,csf,fuf,pf,qf,f1,f2,f3,f4,hc,rfl⟩:=hf;obtain⟨gc,tc,csc,fuc,pc,qc,c1,c2,c3,c4,hn,rfl⟩:=hc;cases hn;have hperm:∀(X Y Z:List MemPlace),List.Perm (X++(Y++(Z++[]))) (X++(Z++(Y++[]))):=fun X Y Z=>by
  rw[List.append_nil,List.append_nil];exact List.Perm.append_left _ List.perm_append_comm
 refine⟨_,⟨ga,ta,csa,fua,pa,_,a1,a2,a3,a4,⟨gc,tc,csc,fuc,pc,_,c1,c2,c3,c4,⟨gf,tf,csf,fuf,pf,_,f1,f2,f3,f4,rfl,rfl⟩,rfl⟩,rfl⟩,?_,?_⟩
 ·exact(hperm _ _ _).nodup_iff.1 hnd
 ·intro b off hp;exact hrows b off ((hperm _ _ _).mem_iff.2 hp)
theorem rune_met (os:Os) (args:Array Value):laidMet prog [("unicode/utf8.acceptRanges",Rows.laid_unicode_utf8_acceptRanges),("unicode.CaseRanges",Rows.laid_unicode_CaseRanges),("unicode/utf8.first",Rows.laid_unicode_utf8_first)] ((zfL os).forCall (fun _ _=>0) ⟨#[],args,[]⟩).memory:=by
 have h:=zqY os args;have e:Rows.laid_unicode_CaseRanges=Lib.caseData:=Pinned.caseRanges_eq;rw[e];exact zkX h
def zvH:DataW Unit→Array Value
 | .agg xs=>(xs.map fun| .lit (.int k z)=>Value.int k z|_=>undef).toArray
 |_=> #[]
def zuB (d:DataW Unit):Obj→Obj
 | .cells _ t fr=>.cells (zvH d) t fr
 |o=>o
theorem zsO:(Rows.laid_internal_strconv_uint64pow10:DataW Unit)=Lib.tabData .u64 Lib.pow10Tab:=by kernel_rfl
theorem zvI {l:List (String×DataW Unit)} {W:World} (h:laidMetH prog l W) (hl:l.filter (fun x=>x.1== "internal/strconv.uint64pow10")=[("internal/strconv.uint64pow10",Rows.laid_internal_strconv_uint64pow10)]):Pow W:=by
 have h1:=h.filter (fun x=>x.1== "internal/strconv.uint64pow10")
 rw[hl,MakeChecks.laidMetH_plain _ _ _ (by kernel_rfl),zsO] at h1
 exact Lib.tabIs_of_head (rest:=[]) (show prog.globalNamed "internal/strconv.uint64pow10" =some 5 by kernel_rfl) (show(prog.globals[5]?).map (·.type)=some 363 by kernel_rfl) underlying363 underlying33 kQ kQ h1
theorem zuC:(Rows.laid_math_bits_deBruijn64tab:DataW Unit)=Lib.tabData .u8 (Go.Lib.deBruijn64tab.map fun(k:Nat)=>(k:Int)):=by kernel_rfl
theorem tz_of {l:List (String×DataW Unit)} {W:World} (h:laidMetH prog l W) (hl:l.filter (fun x=>x.1== "math/bits.deBruijn64tab")=[("math/bits.deBruijn64tab",Rows.laid_math_bits_deBruijn64tab)]):Tz W:=by
 have h1:=h.filter (fun x=>x.1== "math/bits.deBruijn64tab")
 rw[hl,MakeChecks.laidMetH_plain _ _ _ (by kernel_rfl),zuC] at h1
 have hg:=(show prog.globalNamed "math/bits.deBruijn64tab" =some 0 by kernel_rfl)
 have h2:=Lib.tabIs_of_head (rest:=[]) hg (show(prog.globals[0]?).map (·.type)=some 310 by kernel_rfl) underlying310 underlying5 kQ kQ h1
 intro j hj;have h3:=h2.cell hg j (by rw[List.length_map];exact hj)
 rw[h3,List.getD_eq_getElem?_getD,List.getD_eq_getElem?_getD,List.getElem?_map,waE hj];rfl
theorem zjt {P:Program} {w:World} {a b d e f c:String×DataW Unit} (h:laidMet P [a,b,d,e,f,c] w):laidMet P [a,b,d,e,c,f] w:=by
 obtain⟨ps,hv,hnd,hrows⟩:=h;obtain⟨na,da⟩:=a;obtain⟨nb,db⟩:=b;obtain⟨nd,dd⟩:=d;obtain⟨ne,de⟩:=e;obtain⟨nf,df⟩:=f;obtain⟨nc,dc⟩:=c;obtain⟨ga,ta,csa,fua,pa,qa,a1,a2,a3,a4,hv,rfl⟩:=hv;obtain⟨gb,tb,csb,fub,pb,qb,b1,b2,b3,b4,hv,rfl⟩:=hv;obtain⟨gd,td,csd,fud,pd,qd,d1,d2,d3,d4,hv,rfl⟩:=hv;obtain⟨ge,te,cse,fue,pe,qe,e1,e2,e3,e4,hf,rfl⟩:=hv;obtain⟨gf,tf,csf,fuf,pf,qf,f1,f2,f3,f4,hc,rfl⟩:=hf;obtain⟨gc,tc,csc,fuc,pc,qc,c1,c2,c3,c4,hn,rfl⟩:=hc;cases hn;have hperm:∀(X1 X2 X3 X Y Z:List MemPlace),List.Perm (X1++(X2++(X3++(X++(Y++(Z++[])))))) (X1++(X2++(X3++(X++(Z++(Y++[])))))):=fun X1 X2 X3 X Y Z=>by
  rw[List.append_nil,List.append_nil];exact List.Perm.append_left _ (List.Perm.append_left _ (List.Perm.append_left _ (List.Perm.append_left _ List.perm_append_comm)))
 refine⟨_,⟨ga,ta,csa,fua,pa,_,a1,a2,a3,a4,⟨gb,tb,csb,fub,pb,_,b1,b2,b3,b4,⟨gd,td,csd,fud,pd,_,d1,d2,d3,d4,⟨ge,te,cse,fue,pe,_,e1,e2,e3,e4,⟨gc,tc,csc,fuc,pc,_,c1,c2,c3,c4,⟨gf,tf,csf,fuf,pf,_,f1,f2,f3,f4,rfl,rfl⟩,rfl⟩,rfl⟩,rfl⟩,rfl⟩,rfl⟩,?_,?_⟩
 ·exact(hperm _ _ _ _ _ _).nodup_iff.1 hnd
 ·intro b off hp;exact hrows b off ((hperm _ _ _ _ _ _).mem_iff.2 hp)
noncomputable def zhF (os:Os):World:=
 {zfL os with heap:=(((zfL os).heap.modify 5 (zuB Rows.laid_internal_strconv_uint64pow10)).modify 6 (zuB Rows.laid_math_bits_deBruijn32tab)).modify 0 (zuB Rows.laid_math_bits_deBruijn64tab)}
theorem zqZ (os:Os) (args:Array Value):laidMet prog ([("math/bits.deBruijn32tab",Rows.laid_math_bits_deBruijn32tab),("math/bits.deBruijn64tab",Rows.laid_math_bits_deBruijn64tab),("internal/strconv.uint64pow10",Rows.laid_internal_strconv_uint64pow10),("unicode/utf8.acceptRanges",Rows.laid_unicode_utf8_acceptRanges),("unicode/utf8.first",Rows.laid_unicode_utf8_first)]++[("unicode.CaseRanges",Lib.caseData)]) ((zhF os).forCall (fun _ _=>0) ⟨#[],args,[]⟩).memory:=
 laidMet_with_case (ρ:=ze6) zqX kQ ⟨by kernel_rfl,by kernel_rfl,by kernel_rfl,by kernel_rfl,by kernel_rfl,by kernel_rfl⟩
  (l:=[("math/bits.deBruijn32tab",Rows.laid_math_bits_deBruijn32tab),("math/bits.deBruijn64tab",Rows.laid_math_bits_deBruijn64tab),("internal/strconv.uint64pow10",Rows.laid_internal_strconv_uint64pow10),("unicode/utf8.acceptRanges",Rows.laid_unicode_utf8_acceptRanges),("unicode/utf8.first",Rows.laid_unicode_utf8_first)])
  10 kQ kQ kQ ((World.settled prog default).heap.size) (ze6.t 208) (waA kQ) kQ kQ kQ
theorem zsP (os:Os) (args:Array Value):laidMet prog [("math/bits.deBruijn32tab",Rows.laid_math_bits_deBruijn32tab),("math/bits.deBruijn64tab",Rows.laid_math_bits_deBruijn64tab),("internal/strconv.uint64pow10",Rows.laid_internal_strconv_uint64pow10),("unicode/utf8.acceptRanges",Rows.laid_unicode_utf8_acceptRanges),("unicode.CaseRanges",Rows.laid_unicode_CaseRanges),("unicode/utf8.first",Rows.laid_unicode_utf8_first)] ((zhF os).forCall (fun _ _=>0) ⟨#[],args,[]⟩).memory:=by
 have h:=zqZ os args;have e:Rows.laid_unicode_CaseRanges=Lib.caseData:=Pinned.caseRanges_eq;rw[e];exact zjt h
end Go.Proofs.YtgedndlifiihkaaGreatDoor
