/- A part of the proof: WHas02 -/
import Derived.Test.YtllcdbgjeidlkaaGreatDoorT05
import Derived.Test.YtllcdbgjeidlkaaGreatDoorT08
import Derived.Test.YtllcdbgjeidlkaaGreatDoorT06
import Derived.Test.YtllcdbgjeidlkaaGreatDoorT01
import Derived.Test.YtllcdbgjeidlkaaGreatDoorT29
import Derived.Test.YtllcdbgjeidlkaaGreatDoorT00
import Derived.Test.YtllcdbgjeidlkaaGreatDoorT38
set_option maxHeartbeats 80000000
set_option maxRecDepth 100000
set_option linter.unusedSimpArgs false
set_option linter.unusedVariables false
namespace Go.Proofs.YtllcdbgjeidlkaaGreatDoor
open Go.Proofs.Tryz
open Go.RowKit
theorem zt4 (m:Int) (k:Nat):m / 2^k / 2=m / 2^(k+1):=by
 rw[Int.ediv_ediv_of_nonneg (Int.le_of_lt (Int.pow_pos (by decide))),Int.pow_succ]
theorem zxY {m:Int} (h:M64 m) (k:Nat):0<=m / 2^k/\m / 2^k<18446744073709551616:=by
 have hp:(0:Int)<2^k:=Int.pow_pos dQ;have h1:0<=m / 2^k:=Int.ediv_nonneg h.1 (Int.le_of_lt hp);have h2:m / 2^k<=m:=Int.ediv_le_self _ h.1;exact⟨h1,by have:=h.2;omega⟩
theorem zhr (m:Int) (hm:M64 m) (n:Int) (w:World):Calls prog 111 #[.int .u64 m,.int .i64 n] w (zbE (.bool (zbA m n)) w):=by
 by_cases h0:n<0
 ·have HR:Hid (zbA m n=false):=waO oQ;clear hm;go_enter func111,ntmps111;go_wp2;go_ret;exact⟨zab HR.out.symm,rfl⟩
 ·by_cases h63:63<n
  ·have HR:Hid (zbA m n=false):=waO oQ;clear hm;go_enter func111,ntmps111;go_wp2;go_ret;exact⟨zab HR.out.symm,rfl⟩
  ·obtain⟨N,rfl⟩:∃N:Nat,n=(N:Int):=⟨n.toNat,by omega⟩
   have HM:=waV hm;have HR:Hid (zbA m (N:Int)=(m / 2^N%2==1)):=by
    show _=_;unfold zbA;rw[waQ,waM,beq_iff_eq];exact⟨fun h=>h.2.2,fun h=>⟨by omega,by omega,h⟩⟩
   rw[HR.out];have HH:=waV (zt4 m);have h0':¬(N:Int)<0:=h0;have h63':¬(N:Int)>63:=h63;have hN:N<64:=by omega
   clear hm HR h0 h63;go_enter func111,ntmps111;go_wp2
   go_loopw [0,5] (fun x i wr=>∃(k:Nat) (q:Int),k<=N/\Hid (q=m / 2^k)/\x=.int .u64 q/\i=.int .i64 k/\wr=w) (fun _ i _=>N - (intOf i).toNat)
   case atStart=>exact⟨0,m,waK _,by show _=_;simp,rfl,by go_num,rfl⟩
   case round=>
    obtain⟨k,q,hk,HQ,rfl,rfl,rfl⟩:=hrel;have hq:=zxY HM.out k;rw[<-HQ.out] at hq;obtain⟨q0,q1⟩:=hq
    by_cases hlt:k<N
    ·have hlt':(k:Int)<(N:Int):=by omega
     go_wp2;go_roundw
     case rel=>exact⟨k+1,q / 2,by omega,by show _=_;rw[HQ.out,HH.out],by go_num,by go_num,by trivial⟩
     case measure=>simp [intOf];omega
    ·obtain rfl:k=N:=by omega
     have HQ2:Hid ((m / 2^k%2==1)=(q%2==1)):=by show _=_;rw[HQ.out]
     clear HQ;go_wp2;go_ret;exact⟨zab HQ2.out.symm,rfl⟩
def zbc (m lo hi:Int):Bool:=(List.range 64).all fun k=>!zbA m (k:Int)||decide (lo<=(k:Int)/\(k:Int)<=hi)
theorem zns {m lo hi:Int} {k:Nat} (hk:k<64) (h:zbA m (k:Int)=true) (ho:¬(lo<=(k:Int)/\(k:Int)<=hi)):zbc m lo hi=false:=by
 unfold zbc;rw[List.all_eq_false];exact⟨k,wbG.2 hk,by rw[h,waO ho];decide⟩
theorem zfy {m lo hi:Int} (h:∀k:Nat,k<64->zbA m (k:Int)=true->lo<=(k:Int)/\(k:Int)<=hi):zbc m lo hi=true:=by
 unfold zbc;rw[List.all_eq_true];intro k hk;cases hh:zbA m (k:Int) with
 |false=>rfl
 |true=>rw [waP (h k (wbG.1 hk) hh)];rfl
theorem zbZ (m lo hi:Int) (hm:M64 m) (w:World):Calls prog 50 #[.int .u64 m,.int .i64 lo,.int .i64 hi] w (zbE (.bool (zbc m lo hi)) w):=by
 have HH:=waV (fun(k:Nat) W=>zhr m hm (k:Int) W)
 clear hm;go_enter func50,ntmps50;go_wp2
 go_loopw [7] (fun i wr=>∃k:Nat,k<=64/\i=.int .i64 k/\Hid (∀j:Nat,j<k->zbA m (j:Int)=true->lo<=(j:Int)/\(j:Int)<=hi)/\wr=w) (fun i _=>64 - (intOf i).toNat)
 case atStart=>exact⟨0,waK _,by go_num,fun j h=>absurd h (Nat.not_lt_zero _),rfl⟩
 case round=>
  obtain⟨k,hk,rfl,H,rfl⟩:=hrel
  by_cases hlt:k<64
  ·have hlt':(k:Int)<64:=by omega
   cases hh:zbA m (k:Int) with
   |false=>
    have HK:=waV (HH.out k wr);rw[hh] at HK;have HN:Hid (∀j:Nat,j<k+1->zbA m (j:Int)=true->lo<=(j:Int)/\(j:Int)<=hi):=fun j hj h=>by
     rcases Nat.lt_or_eq_of_le (Nat.le_of_lt_succ hj) with h1|rfl
     ·exact H.out j h1 h
     ·rw[hh] at h;cases h
    clear hh H HH;go_wp2_with fail;refine HK.out.mono ?_;rintro e w1 ⟨rfl,rfl⟩;go_wp2;go_roundw
    case rel=>exact⟨k+1,by omega,by go_num,HN.out,by trivial⟩
    case measure=>simp [intOf];omega
   |true=>
    have HK:=waV (HH.out k wr);rw[hh] at HK
    by_cases hlo:(k:Int)<lo
    ·have HR:=waV (zns hlt hh (lo:=lo) (hi:=hi) oQ);clear hh H HH;go_wp2_with fail;refine HK.out.mono ?_;rintro e w1 ⟨rfl,rfl⟩;go_wp2;go_ret;exact⟨zab HR.out.symm,rfl⟩
    ·by_cases hhi:(k:Int)>hi
     ·have HR:=waV (zns hlt hh (lo:=lo) (hi:=hi) oQ);clear hh H HH;go_wp2_with fail;refine HK.out.mono ?_;rintro e w1 ⟨rfl,rfl⟩;go_wp2;go_ret;exact⟨zab HR.out.symm,rfl⟩
     ·have HN:Hid (∀j:Nat,j<k+1->zbA m (j:Int)=true->lo<=(j:Int)/\(j:Int)<=hi):=fun j hj h=>by
       rcases Nat.lt_or_eq_of_le (Nat.le_of_lt_succ hj) with h1|rfl
       ·exact H.out j h1 h
       ·omega
      clear hh H HH;go_wp2_with fail;refine HK.out.mono ?_;rintro e w1 ⟨rfl,rfl⟩;go_wp2;go_roundw
      case rel=>exact⟨k+1,by omega,by go_num,HN.out,by trivial⟩
      case measure=>simp [intOf];omega
  ·obtain rfl:k=64:=by omega
   have HR:=waV (zfy H.out);clear H HH;go_wp2;go_ret;exact⟨zab HR.out.symm,rfl⟩
def znt (c:Cl) (M:Int):Bool:=(List.range 7).all fun k=>zbc (c.od (k+1)) 1 M
theorem zmc {c:Cl} {M:Int} {k:Nat} (hk:k<7) (h:zbc (c.od (k+1)) 1 M=false):znt c M=false:=by
 unfold znt;rw[List.all_eq_false];exact⟨k,wbG.2 hk,by rw[h];decide⟩
theorem zjA {c:Cl} {M:Int} (h:∀j:Nat,j<7->zbc (c.od (j+1)) 1 M=true):znt c M=true:=by
 unfold znt;rw[List.all_eq_true];exact fun k hk=>h k (wbG.1 hk)
def zgf (c:Cl):Bool:=if c.oi=0 then(!c.ob&&(decide (c.od 0=0)&&znt c 0)) else if c.oi=1 then(decide (c.od 0=0)&&znt c 5) else if c.oi=2 then(decide (c.od 0=0)&&znt c 53) else false
def gO (c:Cl) (j:Nat):Value:=(zdI c).getD j undef
theorem gO_at (c:Cl):∀j,j<(zdI c).size->(zdI c)[j]?=some (gO c j):=fun j hj=>by
 unfold gO;rw[wbL,wbI hj];rfl
theorem zrD (c:Cl) (k:Nat) (hk:k<8):gO c (2+k)=.int .u64 (c.od k):=by
 obtain rfl|rfl|rfl|rfl|rfl|rfl|rfl|rfl:k=0\/k=1\/k=2\/k=3\/k=4\/k=5\/k=6\/k=7:=by omega
 all_goals rfl
theorem zrE (c:Cl) (hc:∀k,k<8->M64 (c.od k)) (w:World):Calls prog 51 #[.agg (zdI c)] w (Ret (.bool (zgf c)) w):=by
 have HB:Hid (∀k M W,k<8->Calls prog 50 #[.int .u64 (c.od k),.int .i64 1,.int .i64 M] W (zbE (.bool (zbc (c.od k) 1 M)) W)):=fun k M W hk=>zbZ _ _ _ (hc k hk) W
 clear hc;have hbA:Below w.heap.size w (w.alloc (.cells (zdI c) 58)):=(waC _ w).alloc (waJ _) _;have HC:Hid (Arr (w.alloc (.cells (zdI c) 58)) w.heap.size 10 (gO c)):=zdq w (zdI c) 58 (gO c) (gO_at c)
 by_cases h0:c.oi=0
 ·have e0:(c.oi==0)=true:=by rw[h0];rfl
  have e2:(c.oi==2)=false:=by rw[h0];rfl
  have q1:¬c.oi<0:=by omega
  have q2:¬c.oi>2:=by omega
  cases hb:c.ob with
  |true=>
   have HF:Hid (zgf c=false):=by
    show _=_;unfold zgf;rw[if_pos h0,hb];rfl
   clear h0 HC;go_enter func51,ntmps51;go_wp2;go_ret;exact⟨zab HF.out.symm,hbA⟩
  |false=>
   have HR:Hid (zgf c=(decide (c.od 0=0)&&znt c 0)):=by
    show _=_;unfold zgf;rw[if_pos h0,hb];rfl
   clear h0
   by_cases hd:c.od 0=0
   ·have hz:(c.od 0 !=0)=false:=by rw[hd];rfl
    have HD:=waV hd;clear hd;go_enter func51,ntmps51;go_wp2_with fail;generalize hgA:(w.alloc (.cells (zdI c) 58))=V at *;clear hgA hz
    go_loopw [4] (fun i wr=>∃k:Nat,k<=7/\i=.int .i64 ((k:Int)+1)/\Hid (∀j:Nat,j<k->zbc (c.od (j+1)) 1 0=true)/\wr=V) (fun i _=>8 - (intOf i).toNat)
    case atStart=>exact⟨0,waK _,by go_num,fun j h=>absurd h (Nat.not_lt_zero _),rfl⟩
    case round=>
     obtain⟨k,hk,rfl,H,rfl⟩:=hrel
     by_cases hlt:k<7
     ·have hlt':(k:Int)+1<8:=by omega
      have hlt0:¬(k:Int)+1<0:=by omega
      have ck:=HC.out.1 (2+(k+1)) oQ;rw[zrD c (k+1) (by omega)] at ck
      have hi1:((k:Int)+1).toNat=k+1:=by omega
      cases hh:zbc (c.od (k+1)) 1 0 with
      |false=>
       have HK:=waV (HB.out (k+1) 0 wr oQ);rw[hh] at HK;have HF:Hid (zgf c=false):=by
        show _=_;rw[HR.out,zmc hlt hh,Bool.and_false]
       clear hh H HC;go_wp2_with fail;refine HK.out.mono ?_;rintro e w1 ⟨rfl,rfl⟩;go_wp2;go_ret;exact⟨zab HF.out.symm,hbA⟩
      |true=>
       have HK:=waV (HB.out (k+1) 0 wr oQ);rw[hh] at HK;have HN:Hid (∀j:Nat,j<k+1->zbc (c.od (j+1)) 1 0=true):=fun j hj=>by
        rcases Nat.lt_or_eq_of_le (Nat.le_of_lt_succ hj) with h1|rfl
        ·exact H.out j h1
        ·exact hh
       clear hh H HC;go_wp2_with fail;refine HK.out.mono ?_;rintro e w1 ⟨rfl,rfl⟩;go_wp2;go_roundw
       case rel=>exact⟨k+1,by omega,by go_num,HN.out,by trivial⟩
       case measure=>simp [intOf];omega
     ·obtain rfl:k=7:=by omega
      have HT:Hid (zgf c=true):=by
       show _=_;rw[HR.out,waP HD.out,zjA H.out];rfl
      clear H HC;go_wp2;go_ret;exact⟨zab HT.out.symm,hbA⟩
   ·have hz:(c.od 0 !=0)=true:=by simpa using hd
    have HF:Hid (zgf c=false):=by
     show _=_;rw[HR.out,waO hd];rfl
    clear hd HC;go_enter func51,ntmps51;go_wp2;go_ret;exact⟨zab HF.out.symm,hbA⟩
 ·have e0:(c.oi==0)=false:=by simpa using h0
  by_cases h1:c.oi=1
  ·have e2:(c.oi==2)=false:=by rw[h1];rfl
   have q1:¬c.oi<0:=by omega
   have q2:¬c.oi>2:=by omega
   have HR:Hid (zgf c=(decide (c.od 0=0)&&znt c 5)):=by
    show _=_;unfold zgf;rw[if_neg h0,if_pos h1]
   clear h0 h1
   by_cases hd:c.od 0=0
   ·have hz:(c.od 0 !=0)=false:=by rw[hd];rfl
    have HD:=waV hd;clear hd;go_enter func51,ntmps51;go_wp2_with fail;generalize hgA:(w.alloc (.cells (zdI c) 58))=V at *;clear hgA hz
    go_loopw [4] (fun i wr=>∃k:Nat,k<=7/\i=.int .i64 ((k:Int)+1)/\Hid (∀j:Nat,j<k->zbc (c.od (j+1)) 1 5=true)/\wr=V) (fun i _=>8 - (intOf i).toNat)
    case atStart=>exact⟨0,waK _,by go_num,fun j h=>absurd h (Nat.not_lt_zero _),rfl⟩
    case round=>
     obtain⟨k,hk,rfl,H,rfl⟩:=hrel
     by_cases hlt:k<7
     ·have hlt':(k:Int)+1<8:=by omega
      have hlt0:¬(k:Int)+1<0:=by omega
      have ck:=HC.out.1 (2+(k+1)) oQ;rw[zrD c (k+1) (by omega)] at ck
      have hi1:((k:Int)+1).toNat=k+1:=by omega
      cases hh:zbc (c.od (k+1)) 1 5 with
      |false=>
       have HK:=waV (HB.out (k+1) 5 wr oQ);rw[hh] at HK;have HF:Hid (zgf c=false):=by
        show _=_;rw[HR.out,zmc hlt hh,Bool.and_false]
       clear hh H HC;go_wp2_with fail;refine HK.out.mono ?_;rintro e w1 ⟨rfl,rfl⟩;go_wp2;go_ret;exact⟨zab HF.out.symm,hbA⟩
      |true=>
       have HK:=waV (HB.out (k+1) 5 wr oQ);rw[hh] at HK;have HN:Hid (∀j:Nat,j<k+1->zbc (c.od (j+1)) 1 5=true):=fun j hj=>by
        rcases Nat.lt_or_eq_of_le (Nat.le_of_lt_succ hj) with h1|rfl
        ·exact H.out j h1
        ·exact hh
       clear hh H HC;go_wp2_with fail;refine HK.out.mono ?_;rintro e w1 ⟨rfl,rfl⟩;go_wp2;go_roundw
       case rel=>exact⟨k+1,by omega,by go_num,HN.out,by trivial⟩
       case measure=>simp [intOf];omega
     ·obtain rfl:k=7:=by omega
      have HT:Hid (zgf c=true):=by
       show _=_;rw[HR.out,waP HD.out,zjA H.out];rfl
      clear H HC;go_wp2;go_ret;exact⟨zab HT.out.symm,hbA⟩
   ·have hz:(c.od 0 !=0)=true:=by simpa using hd
    have HF:Hid (zgf c=false):=by
     show _=_;rw[HR.out,waO hd];rfl
    clear hd HC;go_enter func51,ntmps51;go_wp2;go_ret;exact⟨zab HF.out.symm,hbA⟩
  ·by_cases h2:c.oi=2
   ·have e2:(c.oi==2)=true:=by rw[h2];rfl
    have q1:¬c.oi<0:=by omega
    have q2:¬c.oi>2:=by omega
    have HR:Hid (zgf c=(decide (c.od 0=0)&&znt c 53)):=by
     show _=_;unfold zgf;rw[if_neg h0,if_neg h1,if_pos h2]
    clear h0 h1 h2
    by_cases hd:c.od 0=0
    ·have hz:(c.od 0 !=0)=false:=by rw[hd];rfl
     have HD:=waV hd;clear hd;go_enter func51,ntmps51;go_wp2_with fail;generalize hgA:(w.alloc (.cells (zdI c) 58))=V at *;clear hgA hz
     go_loopw [4] (fun i wr=>∃k:Nat,k<=7/\i=.int .i64 ((k:Int)+1)/\Hid (∀j:Nat,j<k->zbc (c.od (j+1)) 1 53=true)/\wr=V) (fun i _=>8 - (intOf i).toNat)
     case atStart=>exact⟨0,waK _,by go_num,fun j h=>absurd h (Nat.not_lt_zero _),rfl⟩
     case round=>
      obtain⟨k,hk,rfl,H,rfl⟩:=hrel
      by_cases hlt:k<7
      ·have hlt':(k:Int)+1<8:=by omega
       have hlt0:¬(k:Int)+1<0:=by omega
       have ck:=HC.out.1 (2+(k+1)) oQ;rw[zrD c (k+1) (by omega)] at ck
       have hi1:((k:Int)+1).toNat=k+1:=by omega
       cases hh:zbc (c.od (k+1)) 1 53 with
       |false=>
        have HK:=waV (HB.out (k+1) 53 wr oQ);rw[hh] at HK;have HF:Hid (zgf c=false):=by
         show _=_;rw[HR.out,zmc hlt hh,Bool.and_false]
        clear hh H HC;go_wp2_with fail;refine HK.out.mono ?_;rintro e w1 ⟨rfl,rfl⟩;go_wp2;go_ret;exact⟨zab HF.out.symm,hbA⟩
       |true=>
        have HK:=waV (HB.out (k+1) 53 wr oQ);rw[hh] at HK;have HN:Hid (∀j:Nat,j<k+1->zbc (c.od (j+1)) 1 53=true):=fun j hj=>by
         rcases Nat.lt_or_eq_of_le (Nat.le_of_lt_succ hj) with h1|rfl
         ·exact H.out j h1
         ·exact hh
        clear hh H HC;go_wp2_with fail;refine HK.out.mono ?_;rintro e w1 ⟨rfl,rfl⟩;go_wp2;go_roundw
        case rel=>exact⟨k+1,by omega,by go_num,HN.out,by trivial⟩
        case measure=>simp [intOf];omega
      ·obtain rfl:k=7:=by omega
       have HT:Hid (zgf c=true):=by
        show _=_;rw[HR.out,waP HD.out,zjA H.out];rfl
       clear H HC;go_wp2;go_ret;exact⟨zab HT.out.symm,hbA⟩
    ·have hz:(c.od 0 !=0)=true:=by simpa using hd
     have HF:Hid (zgf c=false):=by
      show _=_;rw[HR.out,waO hd];rfl
     clear hd HC;go_enter func51,ntmps51;go_wp2;go_ret;exact⟨zab HF.out.symm,hbA⟩
   ·have e2:(c.oi==2)=false:=by simpa using h2
    have HF:Hid (zgf c=false):=by
     show _=_;unfold zgf;rw[if_neg h0,if_neg h1,if_neg h2]
    by_cases q1:c.oi<0
    ·clear h0 h1 h2 HC;go_enter func51,ntmps51;go_wp2;go_ret;exact⟨zab HF.out.symm,hbA⟩
    ·have q2:c.oi>2:=by omega
     clear h0 h1 h2 HC;go_enter func51,ntmps51;go_wp2;go_ret;exact⟨zab HF.out.symm,hbA⟩
theorem zrF (g:Nat->Int) (hg:∀k,k<7->M64 (g k)) (n:Int) (h0:0<n) (h4:n<400) (w:World):Calls prog 112 #[wdV g,.int .i64 n] w (Ret (.bool (zgb g n)) w):=by
 obtain⟨N,rfl⟩:∃N:Nat,n=(N:Int):=⟨n.toNat,by omega⟩
 have hq:N / 64<7:=by omega
 have HR:Hid (zgb g (N:Int)=zbA (g (N / 64)) ((N%64:Nat):Int)):=by
  show _=_;unfold zgb;rw[waP (by omega),Bool.true_and,show((N:Int) / 64).toNat=N / 64 by omega,show(N:Int)%64=((N%64:Nat):Int) by omega]
 have HH:=waV (fun W=>zhr (g (N / 64)) (hg _ hq) ((N%64:Nat):Int) W)
 rw[HR.out];have hbA:Below w.heap.size w (w.alloc (.cells #[.int .u64 (g 0),.int .u64 (g 1),.int .u64 (g 2),.int .u64 (g 3),.int .u64 (g 4),.int .u64 (g 5),.int .u64 (g 6)] 40)):=(waC _ w).alloc (waJ _) _;unfold wdV;have n1:¬(N:Int)<0:=by omega
 have n0:0<N:=by omega
 have n2:(N:Int)<400:=h4;have e3:(N:Int) / 64%7=((N / 64:Nat):Int):=by omega
 have e4:(N:Int)%64=((N%64:Nat):Int):=by omega
 have cq:∀(Q:Nat) (h:Q<([Value.int .u64 (g 0),Value.int .u64 (g 1),Value.int .u64 (g 2),Value.int .u64 (g 3),Value.int .u64 (g 4),Value.int .u64 (g 5),Value.int .u64 (g 6)]:List Value).length),([Value.int .u64 (g 0),Value.int .u64 (g 1),Value.int .u64 (g 2),Value.int .u64 (g 3),Value.int .u64 (g 4),Value.int .u64 (g 5),Value.int .u64 (g 6)]:List Value)[Q]'h=.int .u64 (g Q):=fun Q h=>by
  have h7:Q<7:=h;obtain rfl|rfl|rfl|rfl|rfl|rfl|rfl:Q=0\/Q=1\/Q=2\/Q=3\/Q=4\/Q=5\/Q=6:=by omega
  all_goals rfl
 replace cq:=cq (N / 64);generalize hQ:N / 64=Q at *;generalize N%64=R at *;have q1:¬(Q:Int)<0:=by omega
 have q2:(Q:Int)<7:=by omega
 clear hg HR hQ;go_enter func112,ntmps112;go_wp2_with fail;refine(HH.out _).mono ?_;rintro e w1 ⟨rfl,rfl⟩;go_wp2;go_ret;exact⟨rfl,hbA⟩
theorem zrG (g:Nat->Int) (hg:∀k,k<7->M64 (g k)) (n:Int) (h0:0<=n) (h4:n<400) (w:World):Calls prog 112 #[wdV g,.int .i64 n] w (Ret (.bool (zgb g n)) w):=by
 by_cases h:0<n
 ·exact zrF g hg n h h4 w
 ·obtain rfl:n=0:=by omega
  have HH:=waV (fun W=>zhr (g 0) (hg 0 dQ) 0 W)
  have HR:Hid (zgb g 0=zbA (g 0) 0):=by
   show _=_;unfold zgb;rfl
  rw[HR.out];generalize zbA (g 0) 0=r at *;unfold wdV;clear hg h HR;go_enter func112,ntmps112;go_wp2_with fail;refine(HH.out _).mono ?_;rintro e w1 ⟨rfl,rfl⟩;go_wp2;go_ret;exact⟨rfl,(waC _ w).alloc (waJ _) _⟩
def yrL (g:Nat->Int) (k:Nat):List Int:=((List.range k).filter fun(i:Nat)=>zgb g (i:Int)).map fun(i:Nat)=>(i:Int)
theorem zt5 (g:Nat->Int) (k:Nat):yrL g (k+1)=yrL g k++(if zgb g (k:Int) then [(k:Int)] else []):=by
 unfold yrL;rw[List.range_succ,List.filter_append,List.map_append];refine congrArg (List.map (fun(i:Nat)=>(i:Int)) (List.filter (fun(i:Nat)=>zgb g (i:Int)) (List.range k))++·) ?_
 cases h:zgb g (k:Int) with
 |true=>simp only[List.filter_cons,h,List.filter_nil,if_true,List.map_cons,List.map_nil]
 |false=>simp only[List.filter_cons,h,List.filter_nil,Bool.false_eq_true,if_false,List.map_nil]
theorem zrH (g:Nat->Int) (k:Nat):(yrL g k).length<=k:=by
 unfold yrL;rw[List.length_map];exact waW (List.length_filter_le _ _) (by simp)
theorem zoQ (g:Nat->Int) (hg:∀k,k<7->M64 (g k)) (w:World):Calls prog 53 #[wdV g] w (zuw (yrL g 400) w):=by
 obtain⟨i0,hi0,hz0,hz1,hz2⟩:=info_parts zgg;have HH:=waV (fun n h0 h4 W=>zrG g hg n h0 h4 W)
 have HC:Hid (Arr (w.alloc (.cells #[.int .u64 (g 0),.int .u64 (g 1),.int .u64 (g 2),.int .u64 (g 3),.int .u64 (g 4),.int .u64 (g 5),.int .u64 (g 6)] 40)) w.heap.size 7 (fun j=>.int .u64 (g j))):=zdv w 40 (.int .u64 (g 0)) (.int .u64 (g 1)) (.int .u64 (g 2)) (.int .u64 (g 3)) (.int .u64 (g 4)) (.int .u64 (g 5)) (.int .u64 (g 6)) (fun j=>.int .u64 (g j)) rfl rfl rfl rfl rfl rfl rfl
 have hbA:Below w.heap.size w (w.alloc (.cells #[.int .u64 (g 0),.int .u64 (g 1),.int .u64 (g 2),.int .u64 (g 3),.int .u64 (g 4),.int .u64 (g 5),.int .u64 (g 6)] 40)):=(waC _ w).alloc (waJ _) _;have hzV:(w.alloc (.cells #[.int .u64 (g 0),.int .u64 (g 1),.int .u64 (g 2),.int .u64 (g 3),.int .u64 (g 4),.int .u64 (g 5),.int .u64 (g 6)] 40)).heap.size=w.heap.size+1:=by simp
 unfold wdV at *;clear hg;go_enter func53,ntmps53;go_wp2_with fail;generalize (w.alloc (.cells #[.int .u64 (g 0),.int .u64 (g 1),.int .u64 (g 2),.int .u64 (g 3),.int .u64 (g 4),.int .u64 (g 5),.int .u64 (g 6)] 40))=V at *;have HzV:=waV hzV;clear hzV
 go_loopw [3,4] (fun v i wr=>∃(vo:Value) (k:Nat),vo=v/\k<=400/\i=.int .i64 k/\Hid (za8 wr V.heap.size vo (yrL g k))/\Below V.heap.size V wr) (fun _ i _=>400 - (intOf i).toNat)
 case atStart=>exact⟨_,0,rfl,waK _,by go_num,World.ownsRow_nil _ _ _ _,waC _ _⟩
 case round=>
  obtain⟨vo,k,rfl,hk,rfl,HO,hb⟩:=hrel;have hsz:=hb.size
  by_cases hlt:k<400
  ·have hc1:(k:Int)<400:=by omega
   have HS:=waV (zt5 g k);have hln:=zrH g k;obtain⟨c0,c1,c2,c3,c4,c5,c6,_⟩:=arr7 (Arr.below HC.out (Arr.lt HC.out dQ) hb);cases hv:zgb g (k:Int) with
   |false=>
    have HI1:=waV (HH.out (k:Int) oQ oQ wr);rw[hv] at HS HI1;clear hv;go_wp2_with fail;refine HI1.out.mono ?_;rintro e w1 ⟨rfl,hb1⟩;go_wp2;go_roundw
    case rel=>
     have HS':Hid (yrL g (k+1)=yrL g k):=by show _=_;rw[HS.out];simp
     exact⟨_,k+1,rfl,by omega,by go_num,by rw[HS'.out];exact zak HO.out hb1,zaf hb hb1 hsz⟩
    case measure=>simp [intOf];omega
   |true=>
    have HI1:=waV (HH.out (k:Int) oQ oQ wr);rw[hv] at HS HI1;have HS1:Hid (yrL g (k+1)=yrL g k++[(k:Int)]):=by show _=_;rw[HS.out];simp
    clear hv HS;have HSN:Hid ((yrL g k).map (Value.int .i64)++[.int .i64 (k:Int)]=(yrL g (k+1)).map (Value.int .i64)):=by
     show _=_;rw[HS1.out];simp
    have HNL:Hid ((yrL g (k+1)).length=(yrL g k).length+1):=by
     show _=_;rw[HS1.out];simp
    generalize hX1:yrL g (k+1)=X1 at *;have HX1:=waV hX1;clear hX1;generalize yrL g k=X0 at *;go_wp2_with fail;refine HI1.out.mono ?_;rintro e w1 ⟨rfl,hb1⟩;have HO1:=waV (zak HO.out hb1);have hb2:=zaf hb hb1 hsz;have hsz2:=hb2.size;clear c0 c1 c2 c3 c4 c5 c6
    go_wp2_with (at_builtin;refine wpList_append_own _ rfl _ _ 87 rfl V.heap.size 3 i0 (.int .i64 0) 1 8 underlying87 hi0 hz0 hz1 hz2 rfl dQ _ X0.length _ rfl (HO1.out.alloc _) ⟨w1.heap.size,0,none⟩ 1 1 [.int .i64 (k:Int)] rfl rfl ?c1 ?c2 ?c3 ?c4 ?c5 ?c6)
    case c1=>
     intro j' u hu;rcases j' with _|j'
     ·simp at hu;subst hu;exact zaa rfl rfl
     ·simp at hu
    case c2=>intro u hu;simp at hu;subst hu;rfl
    case c3=>simp only[maxLen];omega
    case c4=>omega
    case c5=>simp;omega
    case c6=>
     intro v' w' hown hg _;have HV:Hid (za8 w' V.heap.size v' X1):=by
      show World.ownsRow _ _ _ _ _ _ _;rw[HNL.out,<-HSN.out];exact hown
     have hbn:Below V.heap.size V w':=zhb (HO1.out.alloc _) (hb2.alloc oQ _) (by simp;omega) hg
     clear hown hg;go_wp2;go_roundw
     case rel=>exact⟨_,k+1,rfl,by omega,by go_num,by rw[HX1.out];exact HV.out,hbn⟩
     case measure=>simp [intOf];omega
  ·obtain rfl:k=400:=by omega
   have HO2:Hid (za8 wr w.heap.size vo (yrL g 400)):=zar HO.out (by rw[HzV.out];omega)
   go_wp2;go_ret;exact⟨_,rfl,HO2.out,hbA.trans (hb.mono hbA.size)⟩
theorem zjB {m:Int} (h:M64 m):∃l,m=zal l:=by
 refine⟨((List.range 64).filter fun i=>m.toNat.testBit i).map fun(i:Nat)=>(i:Int),?_⟩
 unfold zal;have e:mkN (inL (((List.range 64).filter fun i=>m.toNat.testBit i).map fun(i:Nat)=>(i:Int))) 64=mkN (fun i=>m.toNat.testBit i) 64:=zbe fun i hi=>by
  unfold inL;rw[waQ,waM,List.mem_map];constructor
  ·rintro ⟨j,hj,e⟩;obtain rfl:j=i:=by omega
   exact(List.mem_filter.1 hj).2
  ·intro hb;exact⟨i,List.mem_filter.2 ⟨wbG.2 hi,hb⟩,rfl⟩
 rw[e,zr7 _ _ (by have:=h.2;have:=h.1;omega)]
 have:=h.1;omega
theorem zoR {l m:List Int}:zaz (zal l,zal m)=true↔∀x,0<=x->x<64->x∈l->x∈m:=by
 constructor
 ·intro h x h0 h1 hx;have hl:=zcZ l;have hm:=zcZ m;unfold zaz at h;rw[beq_iff_eq] at h
  change bits .andNot .u64 (zal l) (zal m)=0 at h
  rw[u64_andNot _ _ hl.1 hl.2 hm.1 hm.2] at h;have e1:(zal l).toNat=mkN (inL l) 64:=by unfold zal;simp
  have e2:(zal m).toNat=mkN (inL m) 64:=by unfold zal;simp
  have e3:(18446744073709551615 - mkN (inL m) 64)=mkN (fun i=>!inL m i) 64:=(zlL _ 64).symm
  rw[e1,e2,e3,ziG] at h;have h0':mkN (fun i=>inL l i&&!inL m i) 64=0:=by omega
  have hb:=za9 (fun i=>inL l i&&!inL m i) 64 x.toNat
  rw[h0',Nat.zero_testBit,waP (by omega),Bool.true_and] at hb
  have hx':inL l x.toNat=true:=by
   unfold inL;rw[waM,show((x.toNat:Nat):Int)=x by omega];exact hx
  rw[hx',Bool.true_and] at hb;have hm':inL m x.toNat=true:=by
   cases he:inL m x.toNat with
   |true=>rfl
   |false=>rw [he] at hb;cases hb
  unfold inL at hm';rw[waM,show((x.toNat:Nat):Int)=x by omega] at hm'
  exact hm'
 ·exact zhe
theorem zcq {m:Int} (h:M64 m) (lo hi:Int):zbc m lo hi=zaz (m,zas lo hi):=by
 obtain⟨l,rfl⟩:=zjB h;rw[waQ,show zas lo hi=zal (zgl lo (hi+1 - lo).toNat) from rfl,zoR]
 constructor
 ·intro hb x h0 h1 hx;rw[zbQ];have:=List.all_eq_true.1 hb x.toNat (wbG.2 oQ);rw[show ((x.toNat:Nat):Int)=x by omega,zbY,waP ⟨h0,h1,hx⟩,Bool.not_true,Bool.false_or,waM] at this
  omega
 ·intro hb;refine zfy fun k hk hh=>?_
  rw[zbY,waM] at hh;have:=hb (k:Int) hh.1 hh.2.1 hh.2.2;rw[zbQ] at this;omega
theorem zcn {m:Int} (h:M64 m):zbc m 1 0=decide (m=0):=by
 rw[waQ,waM];constructor
 ·intro hb;obtain⟨l,rfl⟩:=zjB h;rw[<-zdT];refine zgz fun i hi=>⟨fun hx=>?_,fun hx=>by cases hx⟩
  have:=List.all_eq_true.1 hb i (wbG.2 hi);rw[zbY,waP ⟨by omega,by omega,hx⟩,Bool.not_true,Bool.false_or,waM] at this
  omega
 ·rintro rfl;refine zfy fun k hk hh=>?_
  rw[<-zdT,zbY,waM] at hh;exact absurd hh.2.2 (by simp)
theorem all8 (f:Nat->Bool):(List.range 8).all f=(f 0&&(List.range 7).all fun k=>f (k+1)):=by
 rw[List.range_succ_eq_map,List.all_cons,List.all_map];rfl
theorem zwt {c:Cl} (h:∀k,k<8->M64 (c.od k)):zgf c=zh0 c:=by
 have e7:∀M,znt c M=(List.range 7).all fun k=>zaz (c.od (k+1),zas 1 M):=fun M=>by
  unfold znt;rw[waQ,List.all_eq_true,List.all_eq_true];exact forall_congr' fun k=>⟨fun g hk=>by rw[<-zcq (h _ (by have:=wbG.1 hk;omega))];exact g hk,fun g hk=>by rw[zcq (h _ (by have:=wbG.1 hk;omega))];exact g hk⟩
 have e8:∀M,(decide (c.od 0=0)&&znt c M)=(decide (c.od 0=0)&&(List.range 8).all fun k=>zaz (c.od k,zas 1 M)):=fun M=>by
  by_cases h0:c.od 0=0
  ·rw[all8,e7,h0];have:zaz ((0:Int),zas 1 M)=true:=by
    rw[<-zcq ⟨by omega,by omega⟩]
    refine zfy fun k hk hh=>?_
    rw[<-zdT,zbY,waM] at hh;exact absurd hh.2.2 (by simp)
   rw[this];simp
  ·rw[waO h0];rfl
 unfold zgf zh0
 by_cases h0:c.oi=0
 ·rw[if_pos h0,if_pos h0];unfold zvq;rw[waP h0,Bool.true_and,show decide (c.ob=false)=!c.ob by cases c.ob<;>rfl]
  have e0:znt c 0=(List.range 7).all (fun k=>zbc (c.od (k+1)) 1 0):=rfl
  rw[e0];rw[show List.range 7=[0,1,2,3,4,5,6] from rfl]
  simp only[List.all_cons,List.all_nil,Bool.and_true];rw[zcn (h 1 (by decide)),zcn (h 2 (by decide)),zcn (h 3 (by decide)),zcn (h 4 (by decide)),zcn (h 5 (by decide)),zcn (h 6 (by decide)),zcn (h 7 (by decide))]
 ·rw[if_neg h0,if_neg h0]
  by_cases h1:c.oi=1
  ·rw[if_pos h1,if_pos (.inl h1),e8,h1];rfl
  ·rw[if_neg h1]
   by_cases h2:c.oi=2
   ·rw[if_pos h2,if_pos (.inr h2),e8,h2];rfl
   ·rw[if_neg h2,if_neg (by omega)]
theorem zt6 {m:Int} (h:M64 m) (b:Int):bits .and .u64 m (zas 0 b)=(mkN (fun k=>zbA m (k:Int)&&decide ((k:Int)<=b)) 64:Nat):=by
 obtain⟨l,rfl⟩:=zjB h;show bits .and .u64 (zal l) (zal (zgl 0 (b+1 - 0).toNat))=_;have hl:=zcZ l;have hm:=zcZ (zgl 0 (b+1 - 0).toNat);rw[u64_and _ _ hl.1 hl.2 hm.1 hm.2];have e1:(zal l).toNat=mkN (inL l) 64:=by unfold zal;simp
 have e2:(zal (zgl 0 (b+1 - 0).toNat)).toNat=mkN (inL (zgl 0 (b+1 - 0).toNat)) 64:=by unfold zal;simp
 rw[e1,e2,ziG];refine congrArg (fun(q:Nat)=>(q:Int)) (zbe fun i hi=>?_)
 rw[zbY,waQ];simp only[inL,waN,waM,zbQ];constructor
 ·rintro ⟨h1,h2⟩;exact⟨⟨by omega,by omega,h1⟩,by omega⟩
 ·rintro ⟨⟨_,_,h1⟩,h2⟩;exact⟨h1,by omega⟩
theorem zco (g:Nat->Int) (hg:∀k,k<7->M64 (g k)) (i:Nat) (hi:i<7):zaH (yrL g 400) i=ziX g i:=by
 unfold ziX zcW zaH;rw[zt6 (hg i hi)];refine congrArg (fun(q:Nat)=>(q:Int)) (zbe fun k hk=>?_)
 show zdp (yrL g 400) (64 * i+k)=(zbA (g i) (k:Int)&&decide ((k:Int)<=399 - (i:Int) * 64));have hin:zdp (yrL g 400) (64 * i+k)=true↔(64 * i+k<400/\((64 * i+k:Nat):Int)∈yrL g 400):=by
  unfold zdp;rw[waM]
 rw[waQ,hin,waN,waM];unfold yrL;simp only[List.mem_map,List.mem_filter,wbG];have hw:∀h4:64 * i+k<400,zgb g ((64 * i+k:Nat):Int)=zbA (g i) (k:Int):=fun h4=>by
  unfold zgb;rw[waP (by omega),Bool.true_and,show(((64 * i+k:Nat):Int) / 64).toNat=i by omega,show((64 * i+k:Nat):Int)%64=(k:Int) by omega]
 constructor
 ·rintro ⟨h4,j,⟨_,hj⟩,e⟩;obtain rfl:j=64 * i+k:=by omega
  rw[hw h4] at hj;exact⟨hj,by omega⟩
 ·rintro ⟨h1,h2⟩;have h4:64 * i+k<400:=by omega
  exact⟨h4,64 * i+k,⟨h4,by rw[hw h4];exact h1⟩,rfl⟩
theorem zrI (u:Int):(!(unT u).isEmpty)=decide (0<=u/\u<=6):=by
 unfold unT
 by_cases h:0<=u/\u<7
 ·rw[if_pos h,waP (by omega)]
  have hb:∀k:Nat,k<7->(!(zoY k).isEmpty)=true:=by decide
  exact hb _ oQ
 ·rw[if_neg h,waO (by omega)];rfl
def zoS (c:Cl):Bool:=(zbc (c.m 0) 0 59&&(zbc (c.m 1) 0 59&&(zbc (c.m 2) 0 23&&(zbc (c.m 3) 1 12&&(zbc (c.m 4) 1 31&&(zbc (c.m 5) 1 31&&zbc (c.m 6) 1 7))))))&&(zgf c&&(eqW (zaH (yrL c.y 400)) c.y&&(decide (0<=c.u/\c.u<=6)&&(decide (1<=c.s)&&inC c.a))))
theorem zrJ {c:Cl} (h:zbC c):zoS c=zeI c zbn:=by
 obtain⟨h1,h2,h3⟩:=h;have e2:(zsw c zbn).all zaz=(zaz (c.m 0,zas 0 59)&&(zaz (c.m 1,zas 0 59)&&(zaz (c.m 2,zas 0 23)&&(zaz (c.m 3,zas 1 12)&&(zaz (c.m 4,zas 1 31)&&(zaz (c.m 5,zas 1 31)&&zaz (c.m 6,zas 1 7))))))):=by
  show [(c.m 0,zas 0 59),(c.m 1,zas 0 59),(c.m 2,zas 0 23),(c.m 3,zas 1 12),(c.m 4,zas 1 31),(c.m 5,zas 1 31),(c.m 6,zas 1 7)].all zaz=_;simp only[List.all_cons,List.all_nil,Bool.and_true]
 have e3:eqW (zaH (yrL c.y 400)) c.y=eqW (ziX c.y) c.y:=by
  unfold eqW;rw[zco _ h3 0 (by decide),zco _ h3 1 (by decide),zco _ h3 2 (by decide),zco _ h3 3 (by decide),zco _ h3 4 (by decide),zco _ h3 5 (by decide),zco _ h3 6 (by decide)]
 unfold zoS zeI;rw[e2,e3,zwt h2,zrI,zcq (h1 0 (by decide)),zcq (h1 1 (by decide)),zcq (h1 2 (by decide)),zcq (h1 3 (by decide)),zcq (h1 4 (by decide)),zcq (h1 5 (by decide)),zcq (h1 6 (by decide))]
end Go.Proofs.YtllcdbgjeidlkaaGreatDoor
