/- A part of the proof: WMay17 -/
import Derived.Test.YtllcdbgjeidlkaaGreatDoorT44
import Derived.Test.YtllcdbgjeidlkaaGreatDoorT32
import Derived.Test.YtllcdbgjeidlkaaGreatDoorT15
import Derived.Test.YtllcdbgjeidlkaaGreatDoorT09
import Derived.Test.YtllcdbgjeidlkaaGreatDoorT35
import Derived.Test.YtllcdbgjeidlkaaGreatDoorT04
import Derived.Lib.Repeat
import Derived.Test.YtllcdbgjeidlkaaGreatDoorT36
import Derived.Test.YtllcdbgjeidlkaaGreatDoorT03
import Derived.Test.YtllcdbgjeidlkaaGreatDoorT34
set_option maxHeartbeats 80000000
set_option maxRecDepth 100000
set_option linter.unusedSimpArgs false
set_option linter.unusedVariables false
namespace Go.Proofs.YtllcdbgjeidlkaaGreatDoor
open Go.Proofs.Tryz
open Go.RowKit
theorem zrK (u:Int) (w:World):Calls prog 54 #[.int .i64 u] w (zbE (.bool (decide (0<=u/\u<=6))) w):=by
 by_cases h0:u<0
 ·have HR:(decide (0<=u/\u<=6)=false):=waO oQ;rw[HR];clear HR;go_enter func54,ntmps54;go_wp2;go_ret;exact⟨rfl,rfl⟩
 ·by_cases h6:u<=6
  ·have HR:(decide (0<=u/\u<=6)=true):=waP oQ;rw[HR];clear HR;go_enter func54,ntmps54;go_wp2;go_ret;exact⟨rfl,rfl⟩
  ·have HR:(decide (0<=u/\u<=6)=false):=waO oQ;rw[HR];clear HR;go_enter func54,ntmps54;go_wp2;go_ret;exact⟨rfl,rfl⟩
structure M13 (w w':World) (c:Cl):Prop where
 a:Arr w' w.heap.size 30 (gC c)
 b:Below w.heap.size w w'
theorem M13.below {w w' w'':World} {c:Cl} (h:M13 w w' c) (hb:Below w'.heap.size w' w''):M13 w w'' c:=⟨Arr.below h.a (Arr.lt h.a dQ) hb,zaf h.b hb h.b.size⟩
theorem M13.ord {w w':World} {c:Cl} (h:M13 w w' c):∀j v,(zdI c).toList[j]?=some v->w'.cell? ⟨w.heap.size,8+j,none⟩=some v:=fun j v hj=>by
 have h10:j<10:=by have:=(waI.1 hj).1;simpa using this
 rw[h.a.1 (8+j) (by omega),<-hj]
 obtain rfl|rfl|rfl|rfl|rfl|rfl|rfl|rfl|rfl|rfl:j=0\/j=1\/j=2\/j=3\/j=4\/j=5\/j=6\/j=7\/j=8\/j=9:=by omega
 all_goals rfl
theorem M13.yr {w w':World} {c:Cl} (h:M13 w w' c):∀j v,([.int .u64 (c.y 0),.int .u64 (c.y 1),.int .u64 (c.y 2),.int .u64 (c.y 3),.int .u64 (c.y 4),.int .u64 (c.y 5),.int .u64 (c.y 6)]:List Value)[j]?=some v->w'.cell? ⟨w.heap.size,18+j,none⟩=some v:=fun j v hj=>by
 have h7:j<7:=by have:=(waI.1 hj).1;simpa using this
 rw[h.a.1 (18+j) (by omega),<-hj]
 obtain rfl|rfl|rfl|rfl|rfl|rfl|rfl:j=0\/j=1\/j=2\/j=3\/j=4\/j=5\/j=6:=by omega
 all_goals rfl
theorem zt7 (c:Cl):zoS c=((zbc (c.m 0) 0 59&&(zbc (c.m 1) 0 59&&(zbc (c.m 2) 0 23&&(zbc (c.m 3) 1 12&&(zbc (c.m 4) 1 31&&(zbc (c.m 5) 1 31&&zbc (c.m 6) 1 7))))))&&(zgf c&&(eqW (zaH (yrL c.y 400)) c.y&&(decide (0<=c.u/\c.u<=6)&&(decide (1<=c.s)&&inC c.a))))):=rfl
theorem zrL (c:Cl) (hc:zbC c) (w:World):Calls prog 19 #[.agg (clA c)] w (Ret (.bool (zoS c)) w):=by
 obtain⟨k1,k2,k3⟩:=hc;have H0:=waV (fun W=>zbZ (c.m 0) 0 59 (k1 0 dQ) W)
 have H1:=waV (fun W=>zbZ (c.m 1) 0 59 (k1 1 dQ) W)
 have H2:=waV (fun W=>zbZ (c.m 2) 0 23 (k1 2 dQ) W)
 have H3:=waV (fun W=>zbZ (c.m 3) 1 12 (k1 3 dQ) W)
 have H4:=waV (fun W=>zbZ (c.m 4) 1 31 (k1 4 dQ) W)
 have H5:=waV (fun W=>zbZ (c.m 5) 1 31 (k1 5 dQ) W)
 have H6:=waV (fun W=>zbZ (c.m 6) 1 7 (k1 6 dQ) W)
 have HO:=waV (fun W=>zrE c k2 W)
 have HL:=waV (fun W=>zoQ c.y k3 W)
 have HF:=waV (fun A n cc W (h:zaI W A n (yrL c.y 400)) hn=>zl6 A n cc (yrL c.y 400) W h hn)
 have HLn:=waV (zrH c.y 400);have HU:=waV (fun W=>zrK c.u W)
 have HI:=waV (fun W=>ztu c.a W)
 have HE:=fun W=>zuI (zaH (yrL c.y 400)) c.y W
 clear k1 k2 k3;rw[zt7 c];generalize zbc (c.m 0) 0 59=b0 at *;generalize zbc (c.m 1) 0 59=b1 at *;generalize zbc (c.m 2) 0 23=b2 at *;generalize zbc (c.m 3) 1 12=b3 at *;generalize zbc (c.m 4) 1 31=b4 at *;generalize zbc (c.m 5) 1 31=b5 at *;generalize zbc (c.m 6) 1 7=b6 at *;unfold zkU at HF;generalize zgf c=B2 at *;generalize eqW (zaH (yrL c.y 400)) c.y=B3 at *;generalize zaH (yrL c.y 400)=yl at *;generalize yrL c.y 400=Y at *;generalize inC c.a=B6 at *;have HC:=waV (zgH w c 60);have hbX:Below w.heap.size w (w.alloc (.cells (clA c) 60)):=(waC _ _).alloc (waJ _) _;unfold clA wdV zdI at *;go_enter func19,ntmps19;go_wp2_with fail;generalize hV:World.alloc w _=V at *;clear hV;generalize Value.agg #[.int .u64 (c.m 0),.int .u64 (c.m 1),.int .u64 (c.m 2),.int .u64 (c.m 3),.int .u64 (c.m 4),.int .u64 (c.m 5),.int .u64 (c.m 6),.bool c.or,.int .i64 c.oi,.bool c.ob,.int .u64 (c.od 0),.int .u64 (c.od 1),.int .u64 (c.od 2),.int .u64 (c.od 3),.int .u64 (c.od 4),.int .u64 (c.od 5),.int .u64 (c.od 6),.int .u64 (c.od 7),.int .u64 (c.y 0),.int .u64 (c.y 1),.int .u64 (c.y 2),.int .u64 (c.y 3),.int .u64 (c.y 4),.int .u64 (c.y 5),.int .u64 (c.y 6),.int .i64 c.u,.int .i64 c.s,.int .i64 c.a,.int .i64 c.f,.int .i64 c.t]=vc;refine(H0.out _).mono ?_;rintro e w1 ⟨rfl,rfl⟩;cases b0 with
 |false=>
  go_wp2;go_ret;exact⟨zab (by simp),hbX⟩
 |true=>
  have m1:V.cell? ⟨w.heap.size,1,none⟩=some (.int .u64 (c.m 1)):=HC.out.1 1 dQ;go_wp2_with fail;refine(H1.out _).mono ?_;rintro e w1 ⟨rfl,rfl⟩;clear m1;cases b1 with
  |false=>
   go_wp2;go_ret;exact⟨zab (by simp),hbX⟩
  |true=>
   have m2:V.cell? ⟨w.heap.size,2,none⟩=some (.int .u64 (c.m 2)):=HC.out.1 2 dQ;go_wp2_with fail;refine(H2.out _).mono ?_;rintro e w1 ⟨rfl,rfl⟩;clear m2;cases b2 with
   |false=>
    go_wp2;go_ret;exact⟨zab (by simp),hbX⟩
   |true=>
    have m3:V.cell? ⟨w.heap.size,3,none⟩=some (.int .u64 (c.m 3)):=HC.out.1 3 dQ;go_wp2_with fail;refine(H3.out _).mono ?_;rintro e w1 ⟨rfl,rfl⟩;clear m3;cases b3 with
    |false=>
     go_wp2;go_ret;exact⟨zab (by simp),hbX⟩
    |true=>
     have m4:V.cell? ⟨w.heap.size,4,none⟩=some (.int .u64 (c.m 4)):=HC.out.1 4 dQ;go_wp2_with fail;refine(H4.out _).mono ?_;rintro e w1 ⟨rfl,rfl⟩;clear m4;cases b4 with
     |false=>
      go_wp2;go_ret;exact⟨zab (by simp),hbX⟩
     |true=>
      have m5:V.cell? ⟨w.heap.size,5,none⟩=some (.int .u64 (c.m 5)):=HC.out.1 5 dQ;go_wp2_with fail;refine(H5.out _).mono ?_;rintro e w1 ⟨rfl,rfl⟩;clear m5;cases b5 with
      |false=>
       go_wp2;go_ret;exact⟨zab (by simp),hbX⟩
      |true=>
       have m6:V.cell? ⟨w.heap.size,6,none⟩=some (.int .u64 (c.m 6)):=HC.out.1 6 dQ;go_wp2_with fail;refine(H6.out _).mono ?_;rintro e w1 ⟨rfl,rfl⟩;clear m6;cases b6 with
       |false=>
        go_wp2;go_ret;exact⟨zab (by simp),hbX⟩
       |true=>
        have hHeld:Hid (M13 w V.drew c):=⟨HC.out,hbX.drew⟩;clear HC hbX;go_wp2_with fail;have hiO:(prog.info? 58).map (·.size)=some 10:=by kernel_rfl
        have hiY:(prog.info? 40).map (·.size)=some 7:=by kernel_rfl
        refine zaB 10 (fun w'=>Hid (M13 w w' c)) kQ ?_
        refine(kP 0 43 (h:=?_));simp only[Act.put,zbj,zbk,zbl];refine zai (i:=1) (dst:=some 44) (v:=.agg (zdI c).toList.toArray) (hy:=fun o_ ho_=>?_) (hS:=hHeld) (h:=?_)
        case refine_1=>(obtain rfl:=waB ho_;exact yieldsIf_load_mid (by rfl) 58 _ rfl w.heap.size 8 rfl (zdI c).toList _ (fun w' hw'=>hw'.out.ord) underlying58 rfl hiO)
        simp only[Act.put,zbj,zbk,zbl,Array.toArray_toList];refine zac (i:=2) kQ fun o_ ho_ K_ hK_=>?_
        obtain rfl:=waB ho_;have HK_:=waV hK_;clear hK_ ho_;go_wp2_with fail;refine(HO.out _).mono ?_;rintro e w3 ⟨rfl,hq3⟩;replace hHeld:=waV (hHeld.out.below hq3);clear hq3 HO;cases B2 with
        |false=>
         go_wp2_with fail;refine HK_.out _ _ hHeld ?_;clear HK_;refine(kP 3 46 (h:=?_));simp only[Act.put,zbj,zbk,zbl];refine zai (i:=4) (dst:=some 47) (v:=undef) (hy:=fun o_ ho_=>?_) (hS:=hHeld) (h:=?_)
         case refine_1=>(obtain rfl:=waB ho_;exact Or.inr ⟨by rfl,rfl⟩)
         simp only[Act.put,zbj,zbk,zbl];refine zai (i:=5) (dst:=some 48) (v:=undef) (hy:=fun o_ ho_=>?_) (hS:=hHeld) (h:=?_)
         case refine_1=>(obtain rfl:=waB ho_;exact Or.inr ⟨by rfl,rfl⟩)
         simp only[Act.put,zbj,zbk,zbl];refine zai (i:=8) (dst:=some 51) (v:=undef) (hy:=fun o_ ho_=>?_) (hS:=hHeld) (h:=?_)
         case refine_1=>(obtain rfl:=waB ho_;exact Or.inr ⟨by rfl,rfl⟩)
         simp only[Act.put,zbj,zbk,zbl];refine zai (i:=9) (dst:=some 52) (v:=undef) (hy:=fun o_ ho_=>?_) (hS:=hHeld) (h:=?_)
         case refine_1=>(obtain rfl:=waB ho_;exact Or.inr ⟨by rfl,rfl⟩)
         simp only[Act.put,zbj,zbk,zbl];refine zac (i:=6) kQ fun o_ ho_ K_ hK_=>?_
         obtain rfl:=waB ho_;have HK_:=waV hK_;clear hK_ ho_;go_wp2_with fail;refine HK_.out _ _ hHeld ?_;clear HK_;refine zac (i:=7) kQ fun o_ ho_ K_ hK_=>?_
         obtain rfl:=waB ho_;have HK_:=waV hK_;clear hK_ ho_;go_wp2_with fail;refine HK_.out _ _ hHeld ?_;clear HK_;refine zaq (j:=18) dQ (.inr rfl) dQ kQ ?_;simp only[wbQ,waG,List.length_nil,Nat.reduceAdd,Nat.reduceSub,waZ,wbA];go_wp2;go_ret;exact⟨zab (by simp),hHeld.out.b⟩
        |true=>
         go_wp2_with fail;refine HK_.out _ _ hHeld ?_;clear HK_;refine(kP 3 46 (h:=(kP 4 47 (h:=?_))));simp only[Act.put,zbj,zbk,zbl];refine zai (i:=5) (dst:=some 48) (v:=.agg [.int .u64 (c.y 0),.int .u64 (c.y 1),.int .u64 (c.y 2),.int .u64 (c.y 3),.int .u64 (c.y 4),.int .u64 (c.y 5),.int .u64 (c.y 6)].toArray) (hy:=fun o_ ho_=>?_) (hS:=hHeld) (h:=?_)
         case refine_1=>(obtain rfl:=waB ho_;exact yieldsIf_load_mid (by rfl) 40 _ rfl w.heap.size 18 rfl [.int .u64 (c.y 0),.int .u64 (c.y 1),.int .u64 (c.y 2),.int .u64 (c.y 3),.int .u64 (c.y 4),.int .u64 (c.y 5),.int .u64 (c.y 6)] _ (fun w' hw'=>hw'.out.yr) underlying40 rfl hiY)
         simp only[Act.put,zbj,zbk,zbl,Array.toArray_toList];refine(kP 8 51 (h:=?_));simp only[Act.put,zbj,zbk,zbl];refine zai (i:=9) (dst:=some 52) (v:=.agg [.int .u64 (c.y 0),.int .u64 (c.y 1),.int .u64 (c.y 2),.int .u64 (c.y 3),.int .u64 (c.y 4),.int .u64 (c.y 5),.int .u64 (c.y 6)].toArray) (hy:=fun o_ ho_=>?_) (hS:=hHeld) (h:=?_)
         case refine_1=>(obtain rfl:=waB ho_;exact yieldsIf_load_mid (by rfl) 40 _ rfl w.heap.size 18 rfl [.int .u64 (c.y 0),.int .u64 (c.y 1),.int .u64 (c.y 2),.int .u64 (c.y 3),.int .u64 (c.y 4),.int .u64 (c.y 5),.int .u64 (c.y 6)] _ (fun w' hw'=>hw'.out.yr) underlying40 rfl hiY)
         simp only[Act.put,zbj,zbk,zbl,Array.toArray_toList];refine zac (i:=6) kQ fun o_ ho_ K_ hK_=>?_
         obtain rfl:=waB ho_;have HK_:=waV hK_;clear hK_ ho_;go_wp2_with fail;refine(HL.out _).mono ?_;rintro e w4 ⟨v,rfl,hv,hq4⟩;obtain⟨A,cc,rfl,_,_,hrd,_⟩:=za8.rd hv;replace hHeld:=waV (hHeld.out.below hq4);have HFd:=waV (HF.out A Y.length cc w4 hrd (by have:=HLn.out;omega))
         clear hq4 hv hrd HL HF;go_wp2_with fail;refine HK_.out _ _ hHeld ?_;clear HK_;refine zac (i:=7) kQ fun o_ ho_ K_ hK_=>?_
         obtain rfl:=waB ho_;have HK_:=waV hK_;clear hK_ ho_;go_wp2_with fail;refine HFd.out.mono ?_;rintro e w5 ⟨rfl,hq5⟩;replace hHeld:=waV (hHeld.out.below hq5);clear hq5 HFd;go_wp2_with fail;refine HK_.out _ _ hHeld ?_;clear HK_;refine zaq (j:=18) dQ (.inr rfl) dQ kQ ?_;simp only[wbQ,waG,List.length_nil,Nat.reduceAdd,Nat.reduceSub,waZ,wbA];have o25:w5.cell? ⟨w.heap.size,25,none⟩=some (.int .i64 c.u):=hHeld.out.a.1 25 dQ;have o26:w5.cell? ⟨w.heap.size,26,none⟩=some (.int .i64 c.s):=hHeld.out.a.1 26 dQ;have o27:w5.cell? ⟨w.heap.size,27,none⟩=some (.int .i64 c.a):=hHeld.out.a.1 27 dQ;cases B3 with
         |false=>
          go_wp2;go_ret;exact⟨zab (by simp),hHeld.out.b⟩
         |true=>
          go_wp2_with fail;refine(HU.out _).mono ?_;rintro e w6 ⟨rfl,rfl⟩
          by_cases hu:0<=c.u/\c.u<=6
          ·rw[waP hu]
           by_cases hs:1<=c.s
           ·rw[waP hs];go_wp2_with fail;refine(HI.out _).mono ?_;rintro e w7 ⟨rfl,rfl⟩;go_wp2;go_ret;exact⟨zab (by simp[hu.1,hu.2,hs]),hHeld.out.b⟩
           ·rw[waO hs];go_wp2;go_ret;exact⟨zab (by simp;intro h;omega),hHeld.out.b⟩
          ·rw[waO hu];go_wp2;go_ret;exact⟨zab (by simp;intro a b;exact absurd ⟨a,b⟩ hu),hHeld.out.b⟩
def zu7 (l:List Cl):Bool:=(l.take 9).all zoS
theorem zt8 {l:List Cl} (h:∀c∈l,zbC c):(zu7 l&&decide (l.length<=8))=zeJ l:=by
 unfold zu7 zeJ
 by_cases h8:l.length<=8
 ·rw[waP h8,Bool.and_true,Bool.true_and,List.take_of_length_le (by omega),waQ,List.all_eq_true,List.all_eq_true]
  exact forall_congr' fun c=>⟨fun g hc=>by rw[<-zrJ (h c hc)];exact g hc,fun g hc=>by rw[zrJ (h c hc)];exact g hc⟩
 ·rw[waO h8,Bool.and_false,Bool.false_and]
theorem zt9 {l:List Cl} {k:Nat} {x:Cl} (H:∀j x,j<k->l[j]?=some x->zoS x=true) (hx:l[k]?=some x) (hm:zoS x=true):∀j x,j<k+1->l[j]?=some x->zoS x=true:=fun j y hj hy=>by
 rcases Nat.lt_or_eq_of_le (Nat.le_of_lt_succ hj) with h|rfl
 ·exact H j y h hy
 ·rw[hx] at hy;cases hy;exact hm
theorem zwu {l:List Cl} {k:Nat} {x:Cl} (hk:k<9) (hx:l[k]?=some x) (hm:zoS x=false):zu7 l=false:=by
 unfold zu7;rw[List.all_eq_false];exact⟨x,List.mem_of_getElem? (i:=k) (by rw[List.getElem?_take,if_pos hk];exact hx),by rw[hm];decide⟩
theorem zua {l:List Cl} (h:∀j x,j<9->l[j]?=some x->zoS x=true):zu7 l=true:=by
 unfold zu7;rw[List.all_eq_true];intro x hx;obtain⟨j,e⟩:=List.mem_iff_getElem?.1 hx;rw[List.getElem?_take] at e;split at e
 ·exact h j x ‹_› e
 ·cases e
theorem zrM (A:Option Addr) (n cc:Nat) (l:List Cl) (w:World) (hA:zbh w A n l) (hn:n<=9223372036854775806) (hb:∀c∈l,zbC c):Calls prog 7 #[.slice A n cc] w (Ret (.bool (zeJ l)) w):=by
 have HL:Hid (l.length=n):=hA.1;have HA:=waV hA;have HM:Hid (∀c W,c∈l->Calls prog 19 #[.agg (clA c)] W (Ret (.bool (zoS c)) W)):=fun c W h=>zrL c (hb c h) W
 rw[<-zt8 hb];clear hA hb;go_enter func7,ntmps7;go_wp2
 go_loopw [3] (fun i wr=>∃k:Nat,k<=n/\k<=9/\i=.int .i64 k/\Hid (∀j x,j<k->l[j]?=some x->zoS x=true)/\Below w.heap.size w wr) (fun i _=>n - (intOf i).toNat)
 case atStart=>exact⟨0,waK _,waK _,by go_num,fun j x h=>absurd h (Nat.not_lt_zero _),waC _ _⟩
 case round=>
  obtain⟨k,hk,hk9,rfl,H,hb⟩:=hrel;have hsz:=hb.size
  by_cases hlt:k<n/\k<9
  ·obtain⟨hl1,hl2⟩:=hlt;have hl1':(k:Int)<(n:Int):=by omega
   have hl2':(k:Int)<9:=by omega
   obtain⟨b,o,x,rfl,hbl,hx,hcl⟩:=zbh.at_ (HA.out.below hb (waJ _)) hl1
   have HX:=waV hx;have HI:=waV (zbV x);have HLd:=waV hcl;have HMx:=waV (fun W=>HM.out x W (List.mem_of_getElem? hx))
   clear hx hcl HM;generalize clA x=cs at *;cases hm:zoS x with
   |true=>
    have Hm:=waV hm;rw[hm] at HMx;clear hm
    go_wp2_with (first|(refine zag (by rfl) 60 _ rfl cs b (o+k * 30) rfl underlying60 rfl HI.out HLd.out ?_)|fail)
    refine(HMx.out _).mono ?_;rintro e w1 ⟨rfl,hb1⟩;go_wp2;go_roundw
    case rel=>exact⟨k+1,by omega,by omega,by go_num,zt9 H.out HX.out Hm.out,zaf hb hb1 hsz⟩
    case measure=>simp [intOf];omega
   |false=>
    have Hm:Hid (zu7 l=false):=zwu hl2 HX.out hm;rw[hm] at HMx;clear hm
    go_wp2_with (first|(refine zag (by rfl) 60 _ rfl cs b (o+k * 30) rfl underlying60 rfl HI.out HLd.out ?_)|fail)
    refine(HMx.out _).mono ?_;rintro e w1 ⟨rfl,hb1⟩;go_wp2;go_ret;exact⟨zab (by rw[Hm.out];rfl),zaf hb hb1 hsz⟩
  ·have HT:Hid (zu7 l=true):=zua fun j x hj hx=>H.out j x (by have:=HL.out;have:=(waI.1 hx).1;omega) hx
   clear H HM
   by_cases hl1:(k:Int)<(n:Int)
   ·have hl2:¬(k:Int)<9:=by omega
    by_cases h8:n<=8
    ·have h8':(n:Int)<=8:=by omega
     clear hlt;go_wp2;go_ret;exact⟨zab (by rw[HT.out,HL.out,waP h8];rfl),hb⟩
    ·have h8':¬(n:Int)<=8:=by omega
     clear hlt;go_wp2;go_ret;exact⟨zab (by rw[HT.out,HL.out,waO h8];rfl),hb⟩
   ·by_cases h8:n<=8
    ·have h8':(n:Int)<=8:=by omega
     clear hlt;go_wp2;go_ret;exact⟨zab (by rw[HT.out,HL.out,waP h8];rfl),hb⟩
    ·have h8':¬(n:Int)<=8:=by omega
     clear hlt;go_wp2;go_ret;exact⟨zab (by rw[HT.out,HL.out,waO h8];rfl),hb⟩
def wdT (n:Int):List UInt8:=if 1<=n/\n<=7 then zni (n.toNat - 1) else []
def zub (m:Nat) (n:Int):List UInt8:=if n<0 then Lib.itoa n else List.replicate (m - (Lib.itoa n).length) 48++Lib.itoa n
def zuc (f:Int):Nat:=if f=1 then 4 else 2
def zk0 (f n:Int):List UInt8:=if f=0 then wdT n else zub (zuc f) n
theorem znu {n:Int} (h:n<1\/7<n):wdT n=[]:=if_neg oQ
theorem zxZ {k:Nat} (hk:k<7):wdT ((k:Int)+1)=zni k:=by
 unfold wdT;rw[if_pos (by omega),show((k:Int)+1).toNat - 1=k by omega]
theorem zrN (n:Int) (w:World):Calls prog 224 #[.int .i64 n] w (Ret (.string (za2 (wdT n))) w):=by
 by_cases h1:n<1
 ·have HR:Hid (wdT n=[]):=znu (.inl h1);go_enter func224,ntmps224;go_wp2;go_ret;exact⟨zbT (by rw[HR.out]),waC _ _⟩
 ·by_cases h7:7<n
  ·have HR:Hid (wdT n=[]):=znu (.inr h7);go_enter func224,ntmps224;go_wp2;go_ret;exact⟨zbT (by rw[HR.out]),waC _ _⟩
  ·obtain⟨k,hk,rfl⟩:∃k:Nat,k<7/\n=(k:Int)+1:=⟨n.toNat - 1,by omega,by omega⟩
   have HR:Hid (wdT ((k:Int)+1)=zni k):=zxZ hk;have hix:∀W,(Instr.index 277 zhh (.int .i64 ((k:Int)+1 - 1))).run prog W=.ok (.string (za2 (zni k))) W:=fun W=>by
    rw[show (k:Int)+1 - 1=(k:Int) by omega];exact zil k hk W
   have e1:(k:Int)+1 - 1=(k:Int):=by omega
   have hix2:=fun W=>zil k hk W
   go_enter func224,ntmps224;go_wp2_with fail;refine(zlY _).mono ?_;rintro e w1 ⟨rfl,hb1⟩;go_wp2;go_ret;exact⟨zbT (by rw[HR.out,zbd]),hb1⟩
theorem zud {m:Nat} {n:Int} (h:n<0):zub m n=Lib.itoa n:=if_pos h
theorem zrO {m:Nat} {n:Int} (h:m<=(Lib.itoa n).length):zub m n=Lib.itoa n:=by
 unfold zub;split
 ·rfl
 ·rw[show m - (Lib.itoa n).length=0 by omega];rfl
theorem zoT {m:Nat} {n:Int} (h:¬n<0):zub m n=List.replicate (m - (Lib.itoa n).length) 48++Lib.itoa n:=if_neg h
theorem zk1 (c:Nat):Lib.repeatL [48] c=List.replicate c (48:UInt8):=by
 induction c with
 |zero=>rfl
 |succ c ih=>rw [List.replicate_succ];show [48]++Lib.repeatL [48] c=_;rw[ih];rfl
theorem zmd (n f:Int) (hn:zne n) (w:World) (hw:Pow w):Calls prog 175 #[.int .i64 n,.int .i64 f] w (Ret (.string (za2 (zk0 f n))) w):=by
 by_cases h0:f=0
 ·subst h0;have HN:=waV (fun W=>zrN n W)
  have HR:Hid (zk0 0 n=wdT n):=if_pos rfl;go_enter func175,ntmps175;go_wp2_with fail;refine(HN.out _).mono ?_;rintro e w1 ⟨rfl,hb1⟩;go_wp2;go_ret;exact⟨zbT (by rw[HR.out,zbd]),hb1⟩
 ·have h0':(f==0)=false:=by simpa using h0
  have HI:=waV (zkI n hn w hw);have HR:Hid (zk0 f n=zub (zuc f) n):=if_neg h0;have HP:=waV (fun h=>zud (m:=zuc f) (n:=n) h)
  have HL:=waV (fun h=>zrO (m:=zuc f) (n:=n) h)
  have HQ:=waV (fun h=>zoT (m:=zuc f) (n:=n) h)
  have hz:=zkH hn;have ds:=zbd (Lib.itoa n);have hl:=zcH (Lib.itoa n);have HS:=waV ds;have HLen:=waV hl;clear ds hl;generalize za2 (Lib.itoa n)=S at *;generalize zub (zuc f) n=R at *;clear h0 hw hn;have hrep:=waV (fun c W hc=>Tryz.strings_Repeat ⟨#[48]⟩ c W hc)
  by_cases hneg:n<0
  ·have HV:=waV (HP.out hneg);clear HL HQ
   by_cases h1:f=1
   ·have h1':(f==1)=true:=by simpa using h1
    clear h1;go_enter func175,ntmps175;go_wp2_with fail;refine HI.out.mono ?_;rintro e w1 ⟨rfl,hb1⟩;go_wp2;go_ret;exact⟨zbT (by rw[HR.out,HV.out,HS.out]),hb1⟩
   ·have h1':(f==1)=false:=by simpa using h1
    clear h1;go_enter func175,ntmps175;go_wp2_with fail;refine HI.out.mono ?_;rintro e w1 ⟨rfl,hb1⟩;go_wp2;go_ret;exact⟨zbT (by rw[HR.out,HV.out,HS.out]),hb1⟩
  ·by_cases h1:f=1
   ·have h1':(f==1)=true:=by simpa using h1
    have hd:zuc f=4:=if_pos h1;rw[hd] at HL HQ;clear h1 hd HP
    by_cases hsz:4<=S.size
    ·have HV:=waV (HL.out (by rw[<-HLen.out];exact hsz))
     have hsz':(4:Int)<=(S.size:Int):=by omega
     clear hsz HL HQ;go_enter func175,ntmps175;go_wp2_with fail;refine HI.out.mono ?_;rintro e w1 ⟨rfl,hb1⟩;go_wp2;go_ret;exact⟨zbT (by rw[HR.out,HV.out,HS.out]),hb1⟩
    ·have HV:=waV (HQ.out hneg);have hsz':¬(4:Int)<=(S.size:Int):=by omega
     have hsub:(4:Int) - (S.size:Int)=((4 - S.size:Nat):Int):=by omega
     have hrp:=hrep.out (4 - S.size);have hone:(⟨#[48]⟩:ByteArray).size=1:=rfl;have HRp:=waV (fun W=>hrp W (by omega) (by rw[hone];omega))
     have hrsz:(⟨(Lib.repeatL (⟨#[48]⟩:ByteArray).data.toList (4 - S.size)).toArray⟩:ByteArray).data.toList=List.replicate (4 - S.size) 48:=zk1 _;have hrl:(⟨(Lib.repeatL (⟨#[48]⟩:ByteArray).data.toList (4 - S.size)).toArray⟩:ByteArray).size=4 - S.size:=by rw[<-zaT,hrsz,List.length_replicate]
     have HRs:=waV hrsz;clear HL HQ hrp hrsz hone;generalize (⟨(Lib.repeatL (⟨#[48]⟩:ByteArray).data.toList (4 - S.size)).toArray⟩:ByteArray)=Z at *;have hzl:Z.size<=4:=by omega
     have HN:=waV hrl;clear hrl;generalize (4 - S.size:Nat)=c at *;go_enter func175,ntmps175;go_wp2_with fail;refine HI.out.mono ?_;rintro e w1 ⟨rfl,hb1⟩;go_wp2_with fail
     first|rw[hsub]|skip
     refine(HRp.out _).mono ?_;rintro e w2 ⟨rfl,hb2⟩;go_wp2;go_ret;exact⟨zbT (by rw[ziC,HR.out,HV.out,HRs.out,HS.out,<-HLen.out,show(4 - S.size:Nat)=c by omega]),zaf hb1 hb2 hb1.size⟩
   ·have h1':(f==1)=false:=by simpa using h1
    have hd:zuc f=2:=if_neg h1;rw[hd] at HL HQ;clear h1 hd HP
    by_cases hsz:2<=S.size
    ·have HV:=waV (HL.out (by rw[<-HLen.out];exact hsz))
     have hsz':(2:Int)<=(S.size:Int):=by omega
     clear hsz HL HQ;go_enter func175,ntmps175;go_wp2_with fail;refine HI.out.mono ?_;rintro e w1 ⟨rfl,hb1⟩;go_wp2;go_ret;exact⟨zbT (by rw[HR.out,HV.out,HS.out]),hb1⟩
    ·have HV:=waV (HQ.out hneg);have hsz':¬(2:Int)<=(S.size:Int):=by omega
     have hsub:(2:Int) - (S.size:Int)=((2 - S.size:Nat):Int):=by omega
     have hrp:=hrep.out (2 - S.size);have hone:(⟨#[48]⟩:ByteArray).size=1:=rfl;have HRp:=waV (fun W=>hrp W (by omega) (by rw[hone];omega))
     have hrsz:(⟨(Lib.repeatL (⟨#[48]⟩:ByteArray).data.toList (2 - S.size)).toArray⟩:ByteArray).data.toList=List.replicate (2 - S.size) 48:=zk1 _;have hrl:(⟨(Lib.repeatL (⟨#[48]⟩:ByteArray).data.toList (2 - S.size)).toArray⟩:ByteArray).size=2 - S.size:=by rw[<-zaT,hrsz,List.length_replicate]
     have HRs:=waV hrsz;clear HL HQ hrp hrsz hone;generalize (⟨(Lib.repeatL (⟨#[48]⟩:ByteArray).data.toList (2 - S.size)).toArray⟩:ByteArray)=Z at *;have hzl:Z.size<=4:=by omega
     have HN:=waV hrl;clear hrl;generalize (2 - S.size:Nat)=c at *;go_enter func175,ntmps175;go_wp2_with fail;refine HI.out.mono ?_;rintro e w1 ⟨rfl,hb1⟩;go_wp2_with fail
     first|rw[hsub]|skip
     refine(HRp.out _).mono ?_;rintro e w2 ⟨rfl,hb2⟩;go_wp2;go_ret;exact⟨zbT (by rw[ziC,HR.out,HV.out,HRs.out,HS.out,<-HLen.out,show(2 - S.size:Nat)=c by omega]),zaf hb1 hb2 hb1.size⟩
def zrP (f:Int) (i:It):List UInt8:=
 if i.k=0 then [42] else if i.k=1 then zk0 f i.f else if i.k=2 then zk0 f i.f++[46,46]++zk0 f i.t++(if i.s=1 then [] else 47::Lib.itoa i.s) else if i.k=3 then zk0 f i.f++47::Lib.itoa i.s else []
theorem zue {m:Nat} {n:Int} (h:zne n) (hm:m<=4):(zub m n).length<=25:=by
 have:=Lib.itoa_length_le n h.1 h.2;unfold zub;split
 ·omega
 ·rw[waF,List.length_replicate];omega
theorem zjC {n f:Int} (h:zne n):(zk0 f n).length<=25:=by
 unfold zk0;split
 ·unfold wdT;split
  ·exact waW (ztw _) dQ
  ·exact waK _
 ·exact zue h (by unfold zuc;split<;>decide)
theorem zuf {f:Int} {i:It} (h:i.wf):(zrP f i).length<=100:=by
 obtain⟨_,h1,h2,h3⟩:=h;have l1:=zjC (f:=f) h1;have l2:=zjC (f:=f) h2;have l3:=Lib.itoa_length_le i.s h3.1 h3.2;unfold zrP;split
 ·decide
 ·split
  ·omega
  ·split
   ·simp only[waF,waG,List.length_nil];split
    ·simp;omega
    ·simp;omega
   ·split
    ·simp;omega
    ·simp
section
variable {w : World} {B2 B3 : Nat} {i : It} {f : Int} (hf : zne i.f) (h2 : w.cell? ⟨B2, 1, none⟩ = some (.int .i64 i.f)) (h3 : w.cell? ⟨B3, 0, none⟩ = some (.int .i64 f)) (hw : Pow w)
include hf h2 h3 hw
theorem zoU:Calls prog 174 #[.slice none 0 0,.pointer (some ⟨B2,0,none⟩),.pointer (some ⟨B3,0,none⟩)] w (Ret (.string (za2 (zk0 f i.f))) w):=by
 have HN:=waV (zmd i.f f hf w hw);have HJ:=waV (fun W=>Tryz.strings_Join_none none 0 ⟨#[]⟩ W)
 have hz:(za2 (zk0 f i.f)).size<=25:=by rw[zcH];exact zjC hf
 generalize za2 (zk0 f i.f)=S at *;clear hw;go_enter func174,ntmps174;go_wp2_with fail;refine HN.out.mono ?_;rintro e w1 ⟨rfl,hb1⟩;go_wp2_with fail;refine(HJ.out _).mono ?_;rintro e w2 ⟨rfl,rfl⟩;go_wp2;go_ret;exact⟨by rw[show S++(⟨#[]⟩:ByteArray)=S from ByteArray.append_empty];rfl,hb1⟩
end
theorem zug:(prog.info? 9).map (fun i=>(i.zero,i.size,i.bytes))=some (some (.string ⟨#[]⟩),1,16):=by kernel_rfl
abbrev zme (w:World) (B:Nat) (v:Value) (l:List ByteArray):Prop:=w.ownsRow B 9 1 v l.length (l.map Value.string)
def cfT (f:Int) (l:List It):List UInt8:=Lib.join (l.map (zrP f)) [44]
theorem zwv {f:Int} {l:List It} (h:∀it∈l,it.wf):(cfT f l).length<=l.length * 101:=by
 have:=zts (l.map (zrP f)) [44] 100 (fun x hx=>by
  obtain⟨it,hi,rfl⟩:=List.mem_map.1 hx;exact zuf (h it hi))
 unfold cfT;simpa using this
theorem zk2 {f:Int} {l:List It} (h:∀it∈l,it.wf) (k:Nat) (hk:k<=l.length) (hl:l.length<=1000):(cfT f (l.take k)).length<=101000:=by
 have:=zwv (f:=f) (l:=l.take k) (fun it hi=>h it (List.mem_of_mem_take hi))
 rw[List.length_take_of_le hk] at this;omega
theorem zrQ (sep:ByteArray) (v:Value) (L:List ByteArray) (B:Nat) (w:World) (h:zme w B v L) (hN:L.length<=1000000) (hlen:(Lib.join (L.map (·.data.toList)) sep.data.toList).length<=140737488355328):
 Calls prog 110 #[v,.string sep] w (Ret (.string (za2 (Lib.join (L.map (·.data.toList)) sep.data.toList))) w):=by
 have HO:=h;rcases h.2 with ⟨rfl,h0⟩|⟨g,cap,cur,rfl,hB,hg,hnc,hcm,hcs,htake⟩
 ·obtain rfl:L=[]:=List.length_eq_zero_iff.1 h0;refine(Tryz.strings_Join_none none 0 sep w).mono ?_;rintro e w1 ⟨rfl,rfl⟩;exact⟨rfl,waC _ _⟩
 ·refine(Tryz.strings_Join g 0 cap L sep w (fun j x hx=>?_) (waL.1 hg).1 oQ hnc hlen).mono ?_
  ·have h1:=HO.cells (g:=g) rfl j (.string x) (by rw[List.getElem?_map,hx];rfl)
   rwa [show (⟨g,0,none⟩:Addr).add j=⟨g,0+j,none⟩ from by unfold Addr.add;split<;>simp_all] at h1
  ·rintro e w1 ⟨rfl,hb⟩;exact⟨rfl,hb⟩
def zfX (f:Int) (l:List It):List ByteArray:=l.map fun i=>za2 (zrP f i)
theorem zk3 (f:Int) (l:List It):(zfX f l).length=l.length:=by simp[zfX]
theorem ziv (f:Int) (l:List It):Lib.join ((zfX f l).map (·.data.toList)) [44]=cfT f l:=by
 unfold zfX cfT;rw[List.map_map];congr 1
theorem zjD (EA:Nat->Option Addr) (en em:Nat->Nat) (bk:Bool) (f:Int) (n:Nat) (l:List It) (w:World) (hn:n<=1000) (hL:l.length=n) (hwf:∀it∈l,it.wf) (hI:∀it∈l,∀W,Pow W->Calls prog 109 #[itV it,.int .i64 f] W (Ret (.string (za2 (zrP f it))) W)) (hw:Pow w)
 (hF:∀W,Below w.heap.size w W->Calls prog 62 #[evV EA en em bk,.int .i64 f] W (zo7 n l W)):
 Calls prog 48 #[evV EA en em bk,.int .i64 f] w (Ret (.string (za2 (cfT f l))) w):=by
 obtain⟨i0,hi0,hz0,hz1,hz2⟩:=info_parts zug;have HI0:=waV hi0;have HZ0:=waV hz0;have HZ1:=waV hz1;have HZ2:=waV hz2;clear hi0 hz0 hz1 hz2;have HL:Hid (l.length=n):=hL;have HWF:=waV hwf;have HIt:=waV hI;have HP:=waV (fun W (hb:Below w.heap.size w W)=>zdn hw hb)
 have HF:=waV hF;clear hwf hw hF hL hI;unfold evV at *;go_enter func48,ntmps48;go_wp2_with fail;refine(HF.out _ (by exact zaE)).mono ?_
 rintro e w0 ⟨A,c,rfl,hA,hbB⟩;have hb0:Below w.heap.size w w0:=((waC _ w).alloc (waJ _) _).trans (hbB.mono (by simp))
 have hzw:=hb0.size;clear hbB;go_wp2
 go_loopw [5,12] (fun v i wr=>∃(vo:Value) (k:Nat),vo=v/\k<=n/\i=.int .i64 k/\Hid (zme wr w0.heap.size vo (zfX f (l.take k)))/\Below w0.heap.size w0 wr) (fun _ i _=>n - (intOf i).toNat)
 case atStart=>exact⟨_,0,rfl,waK _,rfl,World.ownsRow_nil _ _ _ _,waC _ _⟩
 case round=>
  obtain⟨vo,k,rfl,hk,rfl,HO,hb⟩:=hrel;have hsz:=hb.size
  by_cases hlt:k<n
  ·obtain⟨b,o,it,rfl,hbl,hx,c0,c1,c2,c3⟩:=zcV.at_ (hA.below hb (waJ _)) hlt
   have hlt':(k:Int)<(n:Int):=by omega
   have hit:=List.mem_of_getElem? hx;have HI:=waV (fun W (hb1:Below w0.heap.size w0 W)=>HIt.out it hit W (HP.out _ (zaf hb0 hb1 hzw)))
   have HS1:Hid (zfX f (l.take (k+1))=zfX f (l.take k)++[za2 (zrP f it)]):=by
    show _=_;rw[List.take_add_one,hx];simp[zfX]
   have hkl:(zfX f (l.take k)).length=k:=by rw[zk3,List.length_take_of_le (by rw[HL.out];exact hk)]
   clear hx hit;obtain⟨T,hT⟩:∃T,T=za2 (zrP f it):=⟨_,rfl⟩;rw[<-hT] at HI HS1;clear hT;obtain⟨X0,hX0⟩:∃X,X=zfX f (l.take k):=⟨_,rfl⟩;obtain⟨X1,hX1⟩:∃X,X=zfX f (l.take (k+1)):=⟨_,rfl⟩;rw[<-hX0] at HO HS1 hkl;rw[<-hX1] at HS1;have HX1:=waV hX1;have HKL:=waV hkl;clear hX0 hX1 hkl;go_wp2_with fail;refine(HI.out _ (by exact zaE)).mono ?_
   rintro e w2 ⟨rfl,hb2⟩;have hb3:Below wr.heap.size wr w2:=((waC _ wr).alloc (waJ _) _).trans (hb2.mono (by simp))
   have hsz3:=hb3.size;have hbx:Below w0.heap.size w0 w2:=zaf hb hb3 hsz;have hi0:=HI0.out;have hz0:=HZ0.out;have hz1:=HZ1.out;have hz2:=HZ2.out
   go_wp2_with (at_builtin;refine wpList_append_own _ rfl _ _ 105 rfl w0.heap.size 9 i0 _ 1 16 underlying105 hi0 hz0 hz1 hz2 rfl dQ _ X0.length _ rfl (zak HO.out ?cB) ⟨w2.heap.size,0,none⟩ 1 1 [.string T] rfl rfl ?c1 ?c2 ?c3 ?c4 ?c5 ?c6)
   case cB=>exact hb3.alloc hsz3 _
   case c1=>
    intro j' u hu;rcases j' with _|j'
    ·simp at hu;subst hu;exact zaa rfl rfl
    ·simp at hu
   case c2=>intro u hu;simp at hu;subst hu;rfl
   case c3=>rw [HKL.out];simp only[maxLen];omega
   case c4=>rw [HKL.out];omega
   case c5=>simp;omega
   case c6=>
    intro v' w' hown hg _;have HV:Hid (zme w' w0.heap.size v' X1):=by
     show World.ownsRow _ _ _ _ _ _ _;rw[HS1.out,waF,List.map_append];exact hown
    have hbn:Below w0.heap.size w0 w':=by
     refine Below.grown (hbx.alloc oQ _) hg (by simp;omega) ?_
     intro b hb';rcases zbO HO.out with ⟨h1,_⟩|⟨g,cap,h1,h2,h3⟩
     ·rw[h1] at hb';simp[Value.ownBlock] at hb'
     ·rw[h1] at hb';simp[Value.ownBlock] at hb';subst hb';exact h2
    clear hown hg hi0 hz0 hz1 hz2;go_wp2;go_roundw
    case rel=>exact⟨_,k+1,rfl,by omega,by go_num,by rw[<-HX1.out];exact HV.out,hbn⟩
    case measure=>simp [intOf];omega
  ·obtain rfl:k=n:=by omega
   have HE:Hid (l.take k=l):=List.take_of_length_le (by rw[HL.out];exact waJ _)
   have HJ:=waV (zrQ ⟨#[44]⟩ vo _ _ wr HO.out (by rw[zk3,HE.out,HL.out];omega) (by
    have:=ziv f (l.take k);show(Lib.join ((zfX f (l.take k)).map (·.data.toList)) [44]).length<=_;rw[this];have:=zk2 (f:=f) HWF.out k (by rw[HL.out];exact waJ _) (by rw[HL.out];exact hn)
    omega))
   have HF2:Hid (Lib.join ((zfX f (l.take k)).map (·.data.toList)) [44]=cfT f l):=by
    show _=_;rw[ziv,HE.out]
   go_wp2_with fail;refine HJ.out.mono ?_;rintro e w1 ⟨rfl,hb1⟩;go_wp2;go_ret;exact⟨by rw[<-HF2.out];rfl,zaf hb0 (zaf hb hb1 hsz) hzw⟩
abbrev at0 (l:List UInt8) (a:Int):PS:=⟨l,a,0⟩
section
variable {N : Nat} {a : Int} {l : List UInt8}
end
section
variable {N : Nat} {a : Int} {l : List UInt8}
def Stop (l:List UInt8):Prop:=headB (fun c=>zav c||c==46||c==47) l=false
end
def zx0 (c:CalV):List UInt8:=cfT 1 c.year++45::(cfT 2 c.month++(if c.back then 126 else 45)::cfT 3 c.day)
def zx1 (c:CalV):List UInt8:=cfT 4 c.hour++58::(cfT 5 c.minute++58::cfT 6 c.second)
def evT (c:CalV):List UInt8:=(if c.week=[] then [] else cfT 0 c.week++[32])++(zx0 c++32::zx1 c)
def zuh (bk:Bool) (k:Nat):List UInt8:=if k=0 then [45] else if k=1 then(if bk then [126] else [45]) else if k=2 then [32] else if k=3 then [58] else if k=4 then [58] else []
def zhs (c:CalV) (bk:Bool):Nat->List UInt8
 |0=>if c.week=[] then [] else cfT 0 c.week++[32]
 |k+1=>zhs c bk k++(cfT ((k+1:Nat):Int) (zaJ c (k+1))++zuh bk k)
theorem zrR (c:CalV):zhs c c.back 6=evT c:=by
 unfold evT zx0 zx1;simp only[zhs,zuh];have k1:zaJ c 1=c.year:=rfl;have k2:zaJ c 2=c.month:=rfl;have k3:zaJ c 3=c.day:=rfl;have k4:zaJ c 4=c.hour:=rfl;have k5:zaJ c 5=c.minute:=rfl;have k6:zaJ c 6=c.second:=rfl;simp only[k1,k2,k3,k4,k5,k6];cases c.back<;>simp
theorem zui (bk:Bool) (k:Nat):(zuh bk k).length<=1:=by unfold zuh;repeat' split
                                                       all_goals simp
theorem zuj {S T:ByteArray} {e:Int} (h:S=T):Ending.returned (.tuple #[.string S,.int .i64 e])=.returned (.tuple #[.string T,.int .i64 e]):=by rw[h]
def zx2 (bk:Bool) (k:Nat):Value:=.string (za2 (zuh bk k))
end Go.Proofs.YtllcdbgjeidlkaaGreatDoor
