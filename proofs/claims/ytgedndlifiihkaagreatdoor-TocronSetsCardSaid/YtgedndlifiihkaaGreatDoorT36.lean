/- A part of the proof: WWide2 RMay17 WMay17 WIrOf -/
import Derived.Test.YtgedndlifiihkaaGreatDoorT03
import Derived.Test.YtgedndlifiihkaaGreatDoorT01
import Derived.Test.YtgedndlifiihkaaGreatDoorT02
import Derived.Test.YtgedndlifiihkaaGreatDoorT09
import Derived.Test.YtgedndlifiihkaaGreatDoorT35
import Derived.Test.YtgedndlifiihkaaGreatDoorT00
import Derived.Test.YtgedndlifiihkaaGreatDoorT10
import Derived.Test.YtgedndlifiihkaaGreatDoorT16
import Derived.Test.YtgedndlifiihkaaGreatDoorT08
set_option maxHeartbeats 80000000
set_option maxRecDepth 100000
set_option linter.unusedSimpArgs false
set_option linter.unusedVariables false
namespace Go.Proofs.YtgedndlifiihkaaGreatDoor
open Go.Proofs.Tryz
open Go.RowKit
def zfO (l:List Int) (n:Nat):Bool:=decide (n<400∧(n:Int)∈l)
def zbI (l:List Int) (i:Nat):Int:=(mkN (fun k=>zfO l (64 * i+k)) 64:Nat)
abbrev zu6 (l:List Int):Value:=.agg #[.int .u64 (zbI l 0),.int .u64 (zbI l 1),.int .u64 (zbI l 2),.int .u64 (zbI l 3),.int .u64 (zbI l 4),.int .u64 (zbI l 5),.int .u64 (zbI l 6)]
theorem zk2 (i:Nat):zbI [] i=0:=by
 unfold zbI;have:(fun k=>zfO [] (64 * i+k))=fun _=>false:=by funext k;simp[zfO]
 rw[this,zfd];rfl
def zb6 (w:World) (b:Nat) (g:Nat→Int):Prop:=(∀j,j<7→w.cell? ⟨b,j,none⟩=some (.int .u64 (g j)))∧∀j,w.frozen? ⟨b,j,none⟩=false
theorem zb6.set {w:World} {b:Nat} {g g':Nat→Int} (h:zb6 w b g) (i:Nat) (hi:i<7) (v:Int) (h1:g' i=v) (h2:∀j,j<7→j≠i→g' j=g j):zb6 (w.setCell ⟨b,i,none⟩ (.int .u64 v)) b g':=by
 refine⟨fun j hj=>?_,fun j=>by rw[waS];exact h.2 j⟩
 by_cases e:j=i
 ·subst e;rw[waT _ _ _ (h.1 j hj),h1]
 ·rw[waU _ _ _ _ (by intro e2;injection e2 with _ e3;exact e e3.symm),h.1 j hj,h2 j hj e]
theorem zb6.other {w:World} {b b' i:Nat} {g:Nat→Int} {v:Value} (h:zb6 w b g) (hne:b'≠b):zb6 (w.setCell ⟨b',i,none⟩ v) b g:=
 ⟨fun j hj=>by rw[waU _ _ _ _ (by intro e2;injection e2 with e3;exact hne e3)];exact h.1 j hj,fun j=>by rw[waS];exact h.2 j⟩
theorem zb6.alloc {w:World} {b:Nat} {g:Nat→Int} (h:zb6 w b g) (hb:b<w.heap.size) (o:Obj):zb6 (w.alloc o) b g:=by
 have hb1:Below w.heap.size w (w.alloc o):=(waC _ w).alloc (waJ _) _;exact⟨fun j hj=>(hb1.cell (p:=⟨b,j,none⟩) hb).trans (h.1 j hj),fun j=>(hb1.frozen (p:=⟨b,j,none⟩) hb).trans (h.2 j)⟩
theorem ziF (w:World) (C:Array Value) (t:TypeId) (j:Nat):(w.alloc (.cells C t)).frozen? ⟨w.heap.size,j,none⟩=false:=by
 have h1:=heap_alloc_new w (.cells C t);unfold World.frozen?;rw[h1];simp
theorem zb6.new (w:World) (t:TypeId) (l:List Int):zb6 (w.alloc (.cells #[.int .u64 (zbI [] 0),.int .u64 (zbI [] 1),.int .u64 (zbI [] 2),.int .u64 (zbI [] 3),.int .u64 (zbI [] 4),.int .u64 (zbI [] 5),.int .u64 (zbI [] 6)] t)) w.heap.size (zbI []):=by
 refine⟨fun j hj=>?_,fun j=>ziF _ _ _ _⟩
 rcases j with _|_|_|_|_|_|_|j
 all_goals first|exact zaa rfl rfl|omega
theorem zb6.zero (w:World) (t:TypeId):zb6 (w.alloc (.cells #[.int .u64 0,.int .u64 0,.int .u64 0,.int .u64 0,.int .u64 0,.int .u64 0,.int .u64 0] t)) w.heap.size (zbI []):=by
 have:=zb6.new w t [];simp only[zk2] at this;exact this
def zco (w:World) (b:Nat) (g:Nat→Bool):Prop:=(∀j,j<448→w.cell? ⟨b,j,none⟩=some (.bool (g j)))∧∀j,w.frozen? ⟨b,j,none⟩=false
theorem zco.set {w:World} {b:Nat} {g g':Nat→Bool} (h:zco w b g) (i:Nat) (v:Bool) (h1:g' i=v) (h2:∀j,j≠i→g' j=g j):zco (w.setCell ⟨b,i,none⟩ (.bool v)) b g':=by
 refine⟨fun j hj=>?_,fun j=>by rw[waS];exact h.2 j⟩
 by_cases e:j=i
 ·subst e;rw[waT _ _ _ (h.1 j hj),h1]
 ·rw[waU _ _ _ _ (by intro e2;injection e2 with _ e3;exact e e3.symm),h.1 j hj,h2 j e]
theorem zco.other {w:World} {b b' i:Nat} {g:Nat→Bool} {v:Value} (h:zco w b g) (hne:b'≠b):zco (w.setCell ⟨b',i,none⟩ v) b g:=
 ⟨fun j hj=>by rw[waU _ _ _ _ (by intro e2;injection e2 with e3;exact hne e3)];exact h.1 j hj,fun j=>by rw[waS];exact h.2 j⟩
theorem zco.alloc {w:World} {b:Nat} {g:Nat→Bool} (h:zco w b g) (hb:b<w.heap.size) (o:Obj):zco (w.alloc o) b g:=by
 have hb1:Below w.heap.size w (w.alloc o):=(waC _ w).alloc (waJ _) _;exact⟨fun j hj=>(hb1.cell (p:=⟨b,j,none⟩) hb).trans (h.1 j hj),fun j=>(hb1.frozen (p:=⟨b,j,none⟩) hb).trans (h.2 j)⟩
theorem zu7:Tryz.zeroCells235=Array.replicate 448 (.bool false):=by kernel_rfl
theorem zco.zero (w:World) (t:TypeId):zco (w.alloc (.cells Tryz.zeroCells235 t)) w.heap.size (zfO []):=by
 refine⟨fun j hj=>?_,fun j=>ziF _ _ _ _⟩
 refine zaa rfl ?_;rw[zu7,Array.getElem?_replicate,if_pos hj];simp[zfO]
theorem zu8 {l:List Int} {x:Int} (h0:0≤x) (h1:x<400):zfO (l++[x]) x.toNat=true:=by
 simp only[zfO,waM,wbB,wbC];omega
theorem zng {l:List Int} {x:Int} {j:Nat} (h:¬((j:Int)=x∧j<400)):zfO (l++[x]) j=zfO l j:=by
 rw[waQ];simp only[zfO,waM,wbB,wbC];constructor
 ·rintro ⟨h1,h2|h2⟩
  ·exact⟨h1,h2⟩
  ·exact absurd ⟨h2,h1⟩ h
 ·rintro ⟨h1,h2⟩;exact⟨h1,.inl h2⟩
def upW (l:List Int) (i k:Nat):Int:=(mkN (fun t=>zfO l (64 * i+(t+k))) (64 - k):Nat)
theorem zs8 (l:List Int) (i:Nat):upW l i 0=zbI l i:=rfl
theorem zu9 (l:List Int) (i:Nat):upW l i 64=0:=rfl
theorem zs9 (l:List Int) (i k:Nat) (h:k<64):upW l i k=(if zfO l (64 * i+k) then 1 else 0)+2 * upW l i (k+1):=by
 obtain⟨q,hq⟩:∃q,64 - k=q+1:=⟨63 - k,by omega⟩
 unfold upW;rw[hq,show 64 - (k+1)=q by omega,zoR]
 have:(fun t=>zfO l (64 * i+(t+1+k)))=fun t=>zfO l (64 * i+(t+(k+1))):=by funext t;congr 2;omega
 rw[this,waH];split<;>simp
theorem zws (l:List Int) (i k:Nat) (h:k<64):0≤upW l i (k+1)∧upW l i (k+1)<9223372036854775808:=by
 obtain⟨P,hP⟩:∃P:Nat→Bool,P=fun t=>zfO l (64 * i+(t+(k+1))):=⟨_,rfl⟩
 have h1:=zcU P (64 - (k+1));have h2:2^(64 - (k+1))≤2^63:=Nat.pow_le_pow_right oQ oQ;unfold upW;rw[←hP];generalize mkN P (64 - (k+1))=z at *;omega
def zl9 (l:List Int) (q j:Nat):Int:=if j<q then zbI l j else 0
def zfa (l:List Int) (q p j:Nat):Int:=if j<q then zbI l j else if j=q then upW l q p else 0
theorem zra (l:List Int) (q:Nat):zfa l q 64=zl9 l q:=by
 funext j;unfold zfa zl9;split
 ·rfl
 ·split
  ·exact zu9 l q
  ·rfl
theorem zoA (l:List Int) (q:Nat):zfa l q 0=zl9 l (q+1):=by
 funext j;unfold zfa zl9
 by_cases h1:j<q
 ·rw[if_pos h1,if_pos (by omega)]
 ·rw[if_neg h1]
  by_cases h2:j=q
  ·rw[if_pos h2,if_pos (by omega),h2,zs8]
  ·rw[if_neg h2,if_neg (by omega)]
theorem zjF (l:List Int) (q p:Nat):zfa l q p q=upW l q p:=by unfold zfa;simp
theorem znh (l:List Int) (q p p' j:Nat) (h:j≠q):zfa l q p j=zfa l q p' j:=by unfold zfa;simp[h]
theorem zma (A:Option Addr) (n c:Nat) (l:List Int) (w:World) (hA:zaU w A n l) (hn:n≤9223372036854775806):
 Calls prog 95 #[.slice A n c] w (Ret (zu6 l) w):=by
 have HL:Hid (l.length=n):=hA.1;have HA:=waV hA;clear hA;go_enter func95,ntmps95;go_wp2
 go_loopw [4] (fun i wr=>∃k:Nat,k≤n∧i=.int .i64 k∧Hid (zco wr (w.heap.size+1) (zfO (l.take k)))∧Hid (zb6 wr w.heap.size (zbI []))∧w.heap.size+2≤wr.heap.size∧Below w.heap.size w wr) (fun i _=>n - (intOf i).toNat)
 case atStart=>
  refine⟨0,waK _,by go_num,?_,?_,by simp,by exact zaI⟩
  ·have:=zco.zero (w.alloc (.cells #[.int .u64 0,.int .u64 0,.int .u64 0,.int .u64 0,.int .u64 0,.int .u64 0,.int .u64 0] 59)) 235;have e:(w.alloc (.cells #[.int .u64 0,.int .u64 0,.int .u64 0,.int .u64 0,.int .u64 0,.int .u64 0,.int .u64 0] 59)).heap.size=w.heap.size+1:=by simp
   rw[e] at this;exact this
  ·exact(zb6.zero w 59).alloc (by simp) _
 case round=>
  obtain⟨k,hk,rfl,HT,HZ,hs2,hb⟩:=hrel
  by_cases hlt:k<n
  ·obtain⟨b,o,x,rfl,hbl,hx,c0⟩:=zaU.at_ (HA.out.below hb (waJ _)) hlt
   have hlt':(k:Int)<(n:Int):=by omega
   have hts:l.take (k+1)=l.take k++[x]:=by rw[List.take_add_one,hx];rfl
   clear hx
   by_cases hin:0≤x∧x<400
   ·obtain⟨h0,h4⟩:=hin;have HP:Hid (zfO (l.take (k+1)) x.toNat=true):=by show _=_;rw[hts,zu8 h0 h4]
    have HN:Hid (∀j,j≠x.toNat→zfO (l.take (k+1)) j=zfO (l.take k) j):=fun j hj=>by rw[hts,zng (by omega)]
    clear hts;have g0:=HT.out.1 x.toNat oQ;have f0:=HT.out.2 x.toNat;have h5:x<448:=by omega
    go_wp2;go_roundw
    case rel=>exact⟨k+1,by omega,by go_num,zco.set HT.out _ _ HP.out HN.out,zb6.other HZ.out oQ,by simpa using hs2,hb.setCell (by simp) _⟩
    case measure=>simp [intOf];omega
   ·have HN:Hid (zfO (l.take (k+1))=zfO (l.take k)):=by
     show _=_;rw[hts];funext j;rw[zng (by omega)]
    clear hts
    by_cases h0:x<0
    ·clear hin;go_wp2;go_roundw
     case rel=>exact⟨k+1,by omega,by go_num,by rw[HN.out];exact HT.out,HZ.out,hs2,hb⟩
     case measure=>simp [intOf];omega
    ·have h1:400≤x:=by omega
     have h0':0≤x:=by omega
     clear hin;go_wp2;go_roundw
     case rel=>exact⟨k+1,by omega,by go_num,by rw[HN.out];exact HT.out,HZ.out,hs2,hb⟩
     case measure=>simp [intOf];omega
  ·obtain rfl:k=n:=by omega
   have HE:Hid (l.take k=l):=List.take_of_length_le (by have:=HL.out;omega)
   rw[HE.out] at HT;clear HE HA;obtain⟨wo,rfl⟩:∃wo:World,wo=wr:=⟨_,rfl⟩;go_wp2
   go_loopw [6,7] (fun i _ wr=>∃q:Nat,q≤7∧i=.int .i64 q∧Hid (zco wr (w.heap.size+1) (zfO l))∧Hid (zb6 wr w.heap.size (zbI []))∧Hid (zb6 wr wo.heap.size (zl9 l q))∧wo.heap.size<wr.heap.size∧Below w.heap.size w wr) (fun i _ _=>7 - (intOf i).toNat)
   case atStart=>
    refine⟨0,waK _,by go_num,HT.out.alloc oQ _,HZ.out.alloc oQ _,?_,by simp,by exact zaI⟩
    have:=zb6.zero wo 59;refine⟨fun j hj=>?_,this.2⟩
    have h1:=this.1 j hj;rw[zk2] at h1;exact h1
   case round=>
    obtain⟨q,hq,rfl,HT2,HZ2,HS,hs3,hb3⟩:=hrel
    by_cases hq7:q<7
    ·have hq7':(q:Int)<7:=by omega
     obtain⟨wi,rfl⟩:∃wi:World,wi=wr:=⟨_,rfl⟩;go_wp2
     go_loopw [7] (fun i wr=>∃p:Nat,p≤64∧i=.int .i64 ((p:Int) - 1)∧Hid (zco wr (w.heap.size+1) (zfO l))∧Hid (zb6 wr w.heap.size (zbI []))∧Hid (zb6 wr wo.heap.size (zfa l q p))∧wo.heap.size<wr.heap.size∧Below w.heap.size w wr) (fun i _=>(intOf i+1).toNat)
     case atStart=>
      exact⟨64,waJ _,by go_num,HT2.out,HZ2.out,by rw[zra];exact HS.out,hs3,hb3⟩
     case round=>
      obtain⟨p,hp,rfl,HT3,HZ3,HS3,hs4,hb4⟩:=hrel;rcases p with _|p
      ·have HS4:Hid (zb6 wr wo.heap.size (zl9 l (q+1))):=by
        rw[←zoA];exact HS3.out
       clear HS3 HS;go_wp2;go_roundw
       case rel=>exact⟨q+1,by omega,by go_num,HT3.out,HZ3.out,HS4.out,hs4,hb4⟩
       case measure=>simp [intOf];omega
      ·have e1:((p+1:Nat):Int) - 1=(p:Int):=by omega
       rw[e1];clear e1;have hu:=zws l q p oQ;have HU:=waV (zs9 l q p oQ);obtain⟨hu0,hu1⟩:=hu;have g0:=HS3.out.1 q hq7;rw[zjF] at g0;have f0:=HS3.out.2 q;have t0:=HT3.out.1 (64 * q+p) oQ;have hi1:(64 * (q:Int)+(p:Int)).toNat=64 * q+p:=by omega
       rw[←hi1] at t0;have HI1:=waV hi1;clear hi1;have q1:¬(64 * (q:Int)+(p:Int)<0):=by omega
       have q2:64 * (q:Int)+(p:Int)<448:=by omega
       have HA1:Hid (zco (wr.setCell ⟨wo.heap.size,q,none⟩ (.int .u64 (2 * upW l q (p+1)))) (w.heap.size+1) (zfO l)):=HT3.out.other oQ;have HA2:Hid (zb6 (wr.setCell ⟨wo.heap.size,q,none⟩ (.int .u64 (2 * upW l q (p+1)))) w.heap.size (zbI [])):=HZ3.out.other oQ;have HA3:Hid (∀g':Nat→Int,g' q=2 * upW l q (p+1)→(∀j,j<7→j≠q→g' j=zfa l q (p+1) j)→zb6 (wr.setCell ⟨wo.heap.size,q,none⟩ (.int .u64 (2 * upW l q (p+1)))) wo.heap.size g'):=fun g' h1 h2=>HS3.out.set q hq7 _ h1 h2
       have hb5:Below w.heap.size w (wr.setCell ⟨wo.heap.size,q,none⟩ (.int .u64 (2 * upW l q (p+1)))):=hb4.setCell (by show w.heap.size≤wo.heap.size;omega) _
       have hs5:wo.heap.size<(wr.setCell ⟨wo.heap.size,q,none⟩ (.int .u64 (2 * upW l q (p+1)))).heap.size:=by simpa using hs4
       have hmul:(2 * upW l q (p+1))<18446744073709551616:=by omega
       clear t0 q1 q2
       go_upto_region 15 with (fail)
       clear g0 f0;generalize (wr.setCell ⟨wo.heap.size,q,none⟩ (.int .u64 (2 * upW l q (p+1))))=wx at *;have t0:=HA1.out.1 (64 * q+p) oQ;have hqn:(q:Int).toNat=q:=Int.toNat_natCast q;generalize hQ:(q:Int)=Q at *;generalize hP:(p:Int)=P at *;have HQ:=waV hQ;have HPP:=waV hP;have hi2:(64 * Q+P).toNat=64 * q+p:=by omega
       rw[←hi2] at t0;have q1:¬(64 * Q+P<0):=by omega
       have q2:64 * Q+P<448:=by omega
       have q3:0≤Q:=by omega
       have q4:Q<7:=by omega
       have q5:0≤P:=by omega
       have q6:P<64:=by omega
       cases hb':zfO l (64 * q+p) with
       |false=>
        rw[hi2,hb',←hi2] at t0;have HS5:Hid (zb6 wx wo.heap.size (zfa l q p)):=HA3.out _ (by rw[zjF,HU.out,hb'];simp) (fun j _ hj=>znh l q p (p+1) j hj)
        clear hb' HU HA3 hi2 hQ hP hqn HI1;go_wp2;obtain rfl:=HQ.out;obtain rfl:=HPP.out;go_roundw
        case rel=>
         refine⟨_,⟨p,by omega,rfl,?_⟩,?_⟩
         ·(repeat' (with_reducible refine And.intro ?_ ?_))
          all_goals (with_reducible assumption)
         ·first|exact rfl|exact⟨rfl,rfl⟩|exact⟨rfl,rfl,rfl⟩|trivial
        case measure=>simp [intOf];omega
       |true=>
        rw[hi2,hb',←hi2] at t0;have HUU:Hid (upW l q p=2 * upW l q (p+1)+1):=by show _=_;rw[HU.out,hb'];simp;omega
        have HS5:=waV (HA3.out (fun j=>if j=q then 2 * upW l q (p+1) else zfa l q (p+1) j) (by simp) (fun j _ hj=>by simp[hj]))
        have g0:wx.cell? ⟨wo.heap.size,Q.toNat,none⟩=some (.int .u64 (2 * upW l q (p+1))):=by
         have h:=HS5.out.1 q hq7;simp only[if_true] at h;rw[hqn];exact h
        have f0:wx.frozen? ⟨wo.heap.size,Q.toNat,none⟩=false:=HS5.out.2 _;have HB1:Hid (zco (wx.setCell ⟨wo.heap.size,q,none⟩ (.int .u64 (upW l q p))) (w.heap.size+1) (zfO l)):=HA1.out.other oQ;have HB2:Hid (zb6 (wx.setCell ⟨wo.heap.size,q,none⟩ (.int .u64 (upW l q p))) w.heap.size (zbI [])):=HA2.out.other oQ;have HB3:Hid (zb6 (wx.setCell ⟨wo.heap.size,q,none⟩ (.int .u64 (upW l q p))) wo.heap.size (zfa l q p)):=HS5.out.set q hq7 _ (zjF l q p) (fun j _ hj=>by simp only[if_neg hj];exact znh l q p (p+1) j hj)
        have hb6:Below w.heap.size w (wx.setCell ⟨wo.heap.size,q,none⟩ (.int .u64 (upW l q p))):=hb5.setCell (by show w.heap.size≤wo.heap.size;omega) _
        have hs6:wo.heap.size<(wx.setCell ⟨wo.heap.size,q,none⟩ (.int .u64 (upW l q p))).heap.size:=by simpa using hs5
        rw[HUU.out] at HB1 HB2 hb6 hs6;have HB3':Hid (zb6 (wx.setCell ⟨wo.heap.size,q,none⟩ (.int .u64 (2 * upW l q (p+1)+1))) wo.heap.size (zfa l q p)):=by rw[←HUU.out];exact HB3.out
        clear hb' HU HA3 HS5 hi2 hQ hP hqn HI1 HB3;go_wp2;obtain rfl:=HQ.out;obtain rfl:=HPP.out
        (try simp only[Int.toNat_natCast])
        go_roundw
        case rel=>
         refine⟨_,⟨p,by omega,rfl,?_⟩,?_⟩
         ·(repeat' (with_reducible refine And.intro ?_ ?_))
          all_goals (with_reducible assumption)
         ·exact⟨trivial,rfl,trivial⟩
        case measure=>simp [intOf];omega
    ·obtain rfl:q=7:=by omega
     have HS7:Hid (zb6 wr wo.heap.size (zbI l)):=⟨fun j hj=>by rw[HS.out.1 j hj];unfold zl9;rw[if_pos hj],HS.out.2⟩
     have g0:=HS7.out.1 0 dQ;have g1:=HS7.out.1 1 dQ;have g2:=HS7.out.1 2 dQ;have g3:=HS7.out.1 3 dQ;have g4:=HS7.out.1 4 dQ;have g5:=HS7.out.1 5 dQ;have g6:=HS7.out.1 6 dQ;have z0:=HZ2.out.1 0 dQ;have z1:=HZ2.out.1 1 dQ;have z2:=HZ2.out.1 2 dQ;have z3:=HZ2.out.1 3 dQ;have z4:=HZ2.out.1 4 dQ;have z5:=HZ2.out.1 5 dQ;have z6:=HZ2.out.1 6 dQ;have f0:=HZ2.out.2;clear HS HT2;go_wp2
     (try simp only[Exit.inBlock,Exit.then])
     refine waY (v:=zu6 l) ?_ rfl ⟨rfl,?_⟩
     ·rw[zah rfl]
      go_simp
     ·have hl:=hb3;exact zaI
theorem zjG {m:Int} (h:M64 m):∃l,m=zal l:=by
 refine⟨((List.range 64).filter fun i=>m.toNat.testBit i).map fun(i:Nat)=>(i:Int),?_⟩
 unfold zal;have e:mkN (inL (((List.range 64).filter fun i=>m.toNat.testBit i).map fun(i:Nat)=>(i:Int))) 64=mkN (fun i=>m.toNat.testBit i) 64:=zbr fun i hi=>by
  unfold inL;rw[waQ,waM,List.mem_map];constructor
  ·rintro ⟨j,hj,e⟩;obtain rfl:j=i:=by omega
   exact(List.mem_filter.1 hj).2
  ·intro hb;exact⟨i,List.mem_filter.2 ⟨wbG.2 hi,hb⟩,rfl⟩
 rw[e,zro _ _ (by have:=h.2;have:=h.1;omega)]
 have:=h.1;omega
theorem zoB {l m:List Int}:zaJ (zal l,zal m)=true↔∀x,0≤x→x<64→x∈l→x∈m:=by
 constructor
 ·intro h x h0 h1 hx;have hl:=zcC l;have hm:=zcC m;unfold zaJ at h;rw[beq_iff_eq] at h
  change bits .andNot .u64 (zal l) (zal m)=0 at h
  rw[u64_andNot _ _ hl.1 hl.2 hm.1 hm.2] at h;have e1:(zal l).toNat=mkN (inL l) 64:=by unfold zal;simp
  have e2:(zal m).toNat=mkN (inL m) 64:=by unfold zal;simp
  have e3:(18446744073709551615 - mkN (inL m) 64)=mkN (fun i=>!inL m i) 64:=(zlq _ 64).symm
  rw[e1,e2,e3,ziN] at h;have h0':mkN (fun i=>inL l i&&!inL m i) 64=0:=by omega
  have hb:=za8 (fun i=>inL l i&&!inL m i) 64 x.toNat
  rw[h0',Nat.zero_testBit,waP (by omega),Bool.true_and] at hb
  have hx':inL l x.toNat=true:=by
   unfold inL;rw[waM,show((x.toNat:Nat):Int)=x by omega];exact hx
  rw[hx',Bool.true_and] at hb;have hm':inL m x.toNat=true:=by
   cases he:inL m x.toNat with
   |true=>rfl
   |false=>rw [he] at hb;cases hb
  unfold inL at hm';rw[waM,show((x.toNat:Nat):Int)=x by omega] at hm'
  exact hm'
 ·exact zg9
theorem zcF {m:Int} (h:M64 m) (lo hi:Int):zbk m lo hi=zaJ (m,zaC lo hi):=by
 obtain⟨l,rfl⟩:=zjG h;rw[waQ,show zaC lo hi=zal (zhO lo (hi+1 - lo).toNat) from rfl,zoB]
 constructor
 ·intro hb x h0 h1 hx;rw[zcE];have:=List.all_eq_true.1 hb x.toNat (wbG.2 oQ);rw[show ((x.toNat:Nat):Int)=x by omega,zbv,waP ⟨h0,h1,hx⟩,Bool.not_true,Bool.false_or,waM] at this
  omega
 ·intro hb;refine zfN fun k hk hh=>?_
  rw[zbv,waM] at hh;have:=hb (k:Int) hh.1 hh.2.1 hh.2.2;rw[zcE] at this;omega
theorem zcA {m:Int} (h:M64 m):zbk m 1 0=decide (m=0):=by
 rw[waQ,waM];constructor
 ·intro hb;obtain⟨l,rfl⟩:=zjG h;rw[←zd7];refine zgO fun i hi=>⟨fun hx=>?_,fun hx=>by cases hx⟩
  have:=List.all_eq_true.1 hb i (wbG.2 hi);rw[zbv,waP ⟨by omega,by omega,hx⟩,Bool.not_true,Bool.false_or,waM] at this
  omega
 ·rintro rfl;refine zfN fun k hk hh=>?_
  rw[←zd7,zbv,waM] at hh;exact absurd hh.2.2 (by simp)
theorem all8 (f:Nat→Bool):(List.range 8).all f=(f 0&&(List.range 7).all fun k=>f (k+1)):=by
 rw[List.range_succ_eq_map,List.all_cons,List.all_map];rfl
theorem zva {c:Cl} (h:∀k,k<8→M64 (c.od k)):zgu c=zih c:=by
 have e7:∀M,znf c M=(List.range 7).all fun k=>zaJ (c.od (k+1),zaC 1 M):=fun M=>by
  unfold znf;rw[waQ,List.all_eq_true,List.all_eq_true];exact forall_congr' fun k=>⟨fun g hk=>by rw[←zcF (h _ (by have:=wbG.1 hk;omega))];exact g hk,fun g hk=>by rw[zcF (h _ (by have:=wbG.1 hk;omega))];exact g hk⟩
 have e8:∀M,(decide (c.od 0=0)&&znf c M)=(decide (c.od 0=0)&&(List.range 8).all fun k=>zaJ (c.od k,zaC 1 M)):=fun M=>by
  by_cases h0:c.od 0=0
  ·rw[all8,e7,h0];have:zaJ ((0:Int),zaC 1 M)=true:=by
    rw[←zcF ⟨by omega,by omega⟩]
    refine zfN fun k hk hh=>?_
    rw[←zd7,zbv,waM] at hh;exact absurd hh.2.2 (by simp)
   rw[this];simp
  ·rw[waO h0];rfl
 unfold zgu zih
 by_cases h0:c.oi=0
 ·rw[if_pos h0,if_pos h0];unfold zug;rw[waP h0,Bool.true_and,show decide (c.ob=false)=!c.ob by cases c.ob<;>rfl]
  have e0:znf c 0=(List.range 7).all (fun k=>zbk (c.od (k+1)) 1 0):=rfl
  rw[e0];rw[show List.range 7=[0,1,2,3,4,5,6] from rfl]
  simp only[List.all_cons,List.all_nil,Bool.and_true];rw[zcA (h 1 (by decide)),zcA (h 2 (by decide)),zcA (h 3 (by decide)),zcA (h 4 (by decide)),zcA (h 5 (by decide)),zcA (h 6 (by decide)),zcA (h 7 (by decide))]
 ·rw[if_neg h0,if_neg h0]
  by_cases h1:c.oi=1
  ·rw[if_pos h1,if_pos (.inl h1),e8,h1];rfl
  ·rw[if_neg h1]
   by_cases h2:c.oi=2
   ·rw[if_pos h2,if_pos (.inr h2),e8,h2];rfl
   ·rw[if_neg h2,if_neg (by omega)]
theorem zta {m:Int} (h:M64 m) (b:Int):bits .and .u64 m (zaC 0 b)=(mkN (fun k=>zbP m (k:Int)&&decide ((k:Int)≤b)) 64:Nat):=by
 obtain⟨l,rfl⟩:=zjG h;show bits .and .u64 (zal l) (zal (zhO 0 (b+1 - 0).toNat))=_;have hl:=zcC l;have hm:=zcC (zhO 0 (b+1 - 0).toNat);rw[u64_and _ _ hl.1 hl.2 hm.1 hm.2];have e1:(zal l).toNat=mkN (inL l) 64:=by unfold zal;simp
 have e2:(zal (zhO 0 (b+1 - 0).toNat)).toNat=mkN (inL (zhO 0 (b+1 - 0).toNat)) 64:=by unfold zal;simp
 rw[e1,e2,ziN];refine congrArg (fun(q:Nat)=>(q:Int)) (zbr fun i hi=>?_)
 rw[zbv,waQ];simp only[inL,waN,waM,zcE];constructor
 ·rintro ⟨h1,h2⟩;exact⟨⟨by omega,by omega,h1⟩,by omega⟩
 ·rintro ⟨⟨_,_,h1⟩,h2⟩;exact⟨h1,by omega⟩
theorem zcB (g:Nat→Int) (hg:∀k,k<7→M64 (g k)) (i:Nat) (hi:i<7):zbI (yrL g 400) i=zlk g i:=by
 unfold zlk zca zbI;rw[zta (hg i hi)];refine congrArg (fun(q:Nat)=>(q:Int)) (zbr fun k hk=>?_)
 show zfO (yrL g 400) (64 * i+k)=(zbP (g i) (k:Int)&&decide ((k:Int)≤399 - (i:Int) * 64));have hin:zfO (yrL g 400) (64 * i+k)=true↔(64 * i+k<400∧((64 * i+k:Nat):Int)∈yrL g 400):=by
  unfold zfO;rw[waM]
 rw[waQ,hin,waN,waM];unfold yrL;simp only[List.mem_map,List.mem_filter,wbG];have hw:∀h4:64 * i+k<400,zgz g ((64 * i+k:Nat):Int)=zbP (g i) (k:Int):=fun h4=>by
  unfold zgz;rw[waP (by omega),Bool.true_and,show(((64 * i+k:Nat):Int) / 64).toNat=i by omega,show((64 * i+k:Nat):Int)%64=(k:Int) by omega]
 constructor
 ·rintro ⟨h4,j,⟨_,hj⟩,e⟩;obtain rfl:j=64 * i+k:=by omega
  rw[hw h4] at hj;exact⟨hj,by omega⟩
 ·rintro ⟨h1,h2⟩;have h4:64 * i+k<400:=by omega
  exact⟨h4,64 * i+k,⟨h4,by rw[hw h4];exact h1⟩,rfl⟩
theorem zrb (u:Int):(!(unT u).isEmpty)=decide (0≤u∧u≤6):=by
 unfold unT
 by_cases h:0≤u∧u<7
 ·rw[if_pos h,waP (by omega)]
  have hb:∀k:Nat,k<7→(!(zoF k).isEmpty)=true:=by decide
  exact hb _ oQ
 ·rw[if_neg h,waO (by omega)];rfl
def zoC (c:Cl):Bool:=(zbk (c.m 0) 0 59&&(zbk (c.m 1) 0 59&&(zbk (c.m 2) 0 23&&(zbk (c.m 3) 1 12&&(zbk (c.m 4) 1 31&&(zbk (c.m 5) 1 31&&zbk (c.m 6) 1 7))))))&&(zgu c&&(eqW (zbI (yrL c.y 400)) c.y&&(decide (0≤c.u∧c.u≤6)&&(decide (1≤c.s)&&inC c.a))))
theorem zrc {c:Cl} (h:zbD c):zoC c=zeT c zbm:=by
 obtain⟨h1,h2,h3⟩:=h;have e2:(zrQ c zbm).all zaJ=(zaJ (c.m 0,zaC 0 59)&&(zaJ (c.m 1,zaC 0 59)&&(zaJ (c.m 2,zaC 0 23)&&(zaJ (c.m 3,zaC 1 12)&&(zaJ (c.m 4,zaC 1 31)&&(zaJ (c.m 5,zaC 1 31)&&zaJ (c.m 6,zaC 1 7))))))):=by
  show [(c.m 0,zaC 0 59),(c.m 1,zaC 0 59),(c.m 2,zaC 0 23),(c.m 3,zaC 1 12),(c.m 4,zaC 1 31),(c.m 5,zaC 1 31),(c.m 6,zaC 1 7)].all zaJ=_;simp only[List.all_cons,List.all_nil,Bool.and_true]
 have e3:eqW (zbI (yrL c.y 400)) c.y=eqW (zlk c.y) c.y:=by
  unfold eqW;rw[zcB _ h3 0 (by decide),zcB _ h3 1 (by decide),zcB _ h3 2 (by decide),zcB _ h3 3 (by decide),zcB _ h3 4 (by decide),zcB _ h3 5 (by decide),zcB _ h3 6 (by decide)]
 unfold zoC zeT;rw[e2,e3,zva h2,zrb,zcF (h1 0 (by decide)),zcF (h1 1 (by decide)),zcF (h1 2 (by decide)),zcF (h1 3 (by decide)),zcF (h1 4 (by decide)),zcF (h1 5 (by decide)),zcF (h1 6 (by decide))]
theorem zrd (u:Int) (w:World):Calls prog 97 #[.int .i64 u] w (zbO (.bool (decide (0≤u∧u≤6))) w):=by
 by_cases h0:u<0
 ·have HR:(decide (0≤u∧u≤6)=false):=waO oQ;rw[HR];clear HR;go_enter func97,ntmps97;go_wp2;go_ret;exact⟨rfl,rfl⟩
 ·by_cases h6:u≤6
  ·have HR:(decide (0≤u∧u≤6)=true):=waP oQ;rw[HR];clear HR;go_enter func97,ntmps97;go_wp2;go_ret;exact⟨rfl,rfl⟩
  ·have HR:(decide (0≤u∧u≤6)=false):=waO oQ;rw[HR];clear HR;go_enter func97,ntmps97;go_wp2;go_ret;exact⟨rfl,rfl⟩
structure M13 (w w':World) (c:Cl):Prop where
 a:Arr w' w.heap.size 30 (gC c)
 b:Below w.heap.size w w'
theorem M13.below {w w' w'':World} {c:Cl} (h:M13 w w' c) (hb:Below w'.heap.size w' w''):M13 w w'' c:=⟨Arr.below h.a (Arr.lt h.a dQ) hb,zak h.b hb h.b.size⟩
theorem M13.ord {w w':World} {c:Cl} (h:M13 w w' c):∀j v,(zdW c).toList[j]?=some v→w'.cell? ⟨w.heap.size,8+j,none⟩=some v:=fun j v hj=>by
 have h10:j<10:=by have:=(waI.1 hj).1;simpa using this
 rw[h.a.1 (8+j) (by omega),←hj]
 obtain rfl|rfl|rfl|rfl|rfl|rfl|rfl|rfl|rfl|rfl:j=0∨j=1∨j=2∨j=3∨j=4∨j=5∨j=6∨j=7∨j=8∨j=9:=by omega
 all_goals rfl
theorem M13.yr {w w':World} {c:Cl} (h:M13 w w' c):∀j v,([.int .u64 (c.y 0),.int .u64 (c.y 1),.int .u64 (c.y 2),.int .u64 (c.y 3),.int .u64 (c.y 4),.int .u64 (c.y 5),.int .u64 (c.y 6)]:List Value)[j]?=some v→w'.cell? ⟨w.heap.size,18+j,none⟩=some v:=fun j v hj=>by
 have h7:j<7:=by have:=(waI.1 hj).1;simpa using this
 rw[h.a.1 (18+j) (by omega),←hj]
 obtain rfl|rfl|rfl|rfl|rfl|rfl|rfl:j=0∨j=1∨j=2∨j=3∨j=4∨j=5∨j=6:=by omega
 all_goals rfl
theorem ztb (c:Cl):zoC c=((zbk (c.m 0) 0 59&&(zbk (c.m 1) 0 59&&(zbk (c.m 2) 0 23&&(zbk (c.m 3) 1 12&&(zbk (c.m 4) 1 31&&(zbk (c.m 5) 1 31&&zbk (c.m 6) 1 7))))))&&(zgu c&&(eqW (zbI (yrL c.y 400)) c.y&&(decide (0≤c.u∧c.u≤6)&&(decide (1≤c.s)&&inC c.a))))):=rfl
theorem zre (c:Cl) (hc:zbD c) (w:World):Calls prog 49 #[.agg (clA c)] w (Ret (.bool (zoC c)) w):=by
 obtain⟨k1,k2,k3⟩:=hc;have H0:=waV (fun W=>zb5 (c.m 0) 0 59 (k1 0 dQ) W)
 have H1:=waV (fun W=>zb5 (c.m 1) 0 59 (k1 1 dQ) W)
 have H2:=waV (fun W=>zb5 (c.m 2) 0 23 (k1 2 dQ) W)
 have H3:=waV (fun W=>zb5 (c.m 3) 1 12 (k1 3 dQ) W)
 have H4:=waV (fun W=>zb5 (c.m 4) 1 31 (k1 4 dQ) W)
 have H5:=waV (fun W=>zb5 (c.m 5) 1 31 (k1 5 dQ) W)
 have H6:=waV (fun W=>zb5 (c.m 6) 1 7 (k1 6 dQ) W)
 have HO:=waV (fun W=>zq6 c k2 W)
 have HL:=waV (fun W=>zoz c.y k3 W)
 have HF:=waV (fun A n cc W (h:zaU W A n (yrL c.y 400)) hn=>zma A n cc (yrL c.y 400) W h hn)
 have HLn:=waV (zq9 c.y 400);have HU:=waV (fun W=>zrd c.u W)
 have HI:=waV (fun W=>zsd c.a W)
 have HE:=fun W=>ztz (zbI (yrL c.y 400)) c.y W
 clear k1 k2 k3;rw[ztb c];generalize zbk (c.m 0) 0 59=b0 at *;generalize zbk (c.m 1) 0 59=b1 at *;generalize zbk (c.m 2) 0 23=b2 at *;generalize zbk (c.m 3) 1 12=b3 at *;generalize zbk (c.m 4) 1 31=b4 at *;generalize zbk (c.m 5) 1 31=b5 at *;generalize zbk (c.m 6) 1 7=b6 at *;unfold zu6 at HF;generalize zgu c=B2 at *;generalize eqW (zbI (yrL c.y 400)) c.y=B3 at *;generalize zbI (yrL c.y 400)=yl at *;generalize yrL c.y 400=Y at *;generalize inC c.a=B6 at *;have HC:=waV (zg3 w c 61);have hbX:Below w.heap.size w (w.alloc (.cells (clA c) 61)):=(waC _ _).alloc (waJ _) _;unfold clA wdV zdW at *;go_enter func49,ntmps49;go_wp2_with fail;generalize hV:World.alloc w _=V at *;clear hV;generalize Value.agg #[.int .u64 (c.m 0),.int .u64 (c.m 1),.int .u64 (c.m 2),.int .u64 (c.m 3),.int .u64 (c.m 4),.int .u64 (c.m 5),.int .u64 (c.m 6),.bool c.or,.int .i64 c.oi,.bool c.ob,.int .u64 (c.od 0),.int .u64 (c.od 1),.int .u64 (c.od 2),.int .u64 (c.od 3),.int .u64 (c.od 4),.int .u64 (c.od 5),.int .u64 (c.od 6),.int .u64 (c.od 7),.int .u64 (c.y 0),.int .u64 (c.y 1),.int .u64 (c.y 2),.int .u64 (c.y 3),.int .u64 (c.y 4),.int .u64 (c.y 5),.int .u64 (c.y 6),.int .i64 c.u,.int .i64 c.s,.int .i64 c.a,.int .i64 c.f,.int .i64 c.t]=vc;refine(H0.out _).mono ?_;rintro e w1 ⟨rfl,rfl⟩;cases b0 with
 |false=>
  go_wp2;go_ret;exact⟨zaf (by simp),hbX⟩
 |true=>
  have m1:V.cell? ⟨w.heap.size,1,none⟩=some (.int .u64 (c.m 1)):=HC.out.1 1 dQ;go_wp2_with fail;refine(H1.out _).mono ?_;rintro e w1 ⟨rfl,rfl⟩;clear m1;cases b1 with
  |false=>
   go_wp2;go_ret;exact⟨zaf (by simp),hbX⟩
  |true=>
   have m2:V.cell? ⟨w.heap.size,2,none⟩=some (.int .u64 (c.m 2)):=HC.out.1 2 dQ;go_wp2_with fail;refine(H2.out _).mono ?_;rintro e w1 ⟨rfl,rfl⟩;clear m2;cases b2 with
   |false=>
    go_wp2;go_ret;exact⟨zaf (by simp),hbX⟩
   |true=>
    have m3:V.cell? ⟨w.heap.size,3,none⟩=some (.int .u64 (c.m 3)):=HC.out.1 3 dQ;go_wp2_with fail;refine(H3.out _).mono ?_;rintro e w1 ⟨rfl,rfl⟩;clear m3;cases b3 with
    |false=>
     go_wp2;go_ret;exact⟨zaf (by simp),hbX⟩
    |true=>
     have m4:V.cell? ⟨w.heap.size,4,none⟩=some (.int .u64 (c.m 4)):=HC.out.1 4 dQ;go_wp2_with fail;refine(H4.out _).mono ?_;rintro e w1 ⟨rfl,rfl⟩;clear m4;cases b4 with
     |false=>
      go_wp2;go_ret;exact⟨zaf (by simp),hbX⟩
     |true=>
      have m5:V.cell? ⟨w.heap.size,5,none⟩=some (.int .u64 (c.m 5)):=HC.out.1 5 dQ;go_wp2_with fail;refine(H5.out _).mono ?_;rintro e w1 ⟨rfl,rfl⟩;clear m5;cases b5 with
      |false=>
       go_wp2;go_ret;exact⟨zaf (by simp),hbX⟩
      |true=>
       have m6:V.cell? ⟨w.heap.size,6,none⟩=some (.int .u64 (c.m 6)):=HC.out.1 6 dQ;go_wp2_with fail;refine(H6.out _).mono ?_;rintro e w1 ⟨rfl,rfl⟩;clear m6;cases b6 with
       |false=>
        go_wp2;go_ret;exact⟨zaf (by simp),hbX⟩
       |true=>
        have hHeld:Hid (M13 w V.drew c):=⟨HC.out,hbX.drew⟩;clear HC hbX;go_wp2_with fail;have hiO:(prog.info? 58).map (·.size)=some 10:=by kernel_rfl
        have hiY:(prog.info? 59).map (·.size)=some 7:=by kernel_rfl
        refine zan 10 (fun w'=>Hid (M13 w w' c)) kQ ?_
        refine(kP 0 43 (h:=?_));simp only[Act.put,aPu1,aPu2,aPu3];refine zaj (i:=1) (dst:=some 44) (v:=.agg (zdW c).toList.toArray) (hy:=fun o_ ho_=>?_) (hS:=hHeld) (h:=?_)
        case refine_1=>(obtain rfl:=waB ho_;exact yieldsIf_load_mid (by rfl) 58 _ rfl w.heap.size 8 rfl (zdW c).toList _ (fun w' hw'=>hw'.out.ord) underlying58 rfl hiO)
        simp only[Act.put,aPu1,aPu2,aPu3,Array.toArray_toList];refine zac (i:=2) kQ fun o_ ho_ K_ hK_=>?_
        obtain rfl:=waB ho_;have HK_:=waV hK_;clear hK_ ho_;go_wp2_with fail;refine(HO.out _).mono ?_;rintro e w3 ⟨rfl,hq3⟩;replace hHeld:=waV (hHeld.out.below hq3);clear hq3 HO;cases B2 with
        |false=>
         go_wp2_with fail;refine HK_.out _ _ hHeld ?_;clear HK_;refine(kP 3 46 (h:=?_));simp only[Act.put,aPu1,aPu2,aPu3];refine zaj (i:=4) (dst:=some 47) (v:=undef) (hy:=fun o_ ho_=>?_) (hS:=hHeld) (h:=?_)
         case refine_1=>(obtain rfl:=waB ho_;exact Or.inr ⟨by rfl,rfl⟩)
         simp only[Act.put,aPu1,aPu2,aPu3];refine zaj (i:=5) (dst:=some 48) (v:=undef) (hy:=fun o_ ho_=>?_) (hS:=hHeld) (h:=?_)
         case refine_1=>(obtain rfl:=waB ho_;exact Or.inr ⟨by rfl,rfl⟩)
         simp only[Act.put,aPu1,aPu2,aPu3];refine zaj (i:=8) (dst:=some 51) (v:=undef) (hy:=fun o_ ho_=>?_) (hS:=hHeld) (h:=?_)
         case refine_1=>(obtain rfl:=waB ho_;exact Or.inr ⟨by rfl,rfl⟩)
         simp only[Act.put,aPu1,aPu2,aPu3];refine zaj (i:=9) (dst:=some 52) (v:=undef) (hy:=fun o_ ho_=>?_) (hS:=hHeld) (h:=?_)
         case refine_1=>(obtain rfl:=waB ho_;exact Or.inr ⟨by rfl,rfl⟩)
         simp only[Act.put,aPu1,aPu2,aPu3];refine zac (i:=6) kQ fun o_ ho_ K_ hK_=>?_
         obtain rfl:=waB ho_;have HK_:=waV hK_;clear hK_ ho_;go_wp2_with fail;refine HK_.out _ _ hHeld ?_;clear HK_;refine zac (i:=7) kQ fun o_ ho_ K_ hK_=>?_
         obtain rfl:=waB ho_;have HK_:=waV hK_;clear hK_ ho_;go_wp2_with fail;refine HK_.out _ _ hHeld ?_;clear HK_;refine zag (j:=18) dQ (.inr rfl) dQ kQ ?_;simp only[wbQ,waG,List.length_nil,Nat.reduceAdd,Nat.reduceSub,waZ,wbA];go_wp2;go_ret;exact⟨zaf (by simp),hHeld.out.b⟩
        |true=>
         go_wp2_with fail;refine HK_.out _ _ hHeld ?_;clear HK_;refine(kP 3 46 (h:=(kP 4 47 (h:=?_))));simp only[Act.put,aPu1,aPu2,aPu3];refine zaj (i:=5) (dst:=some 48) (v:=.agg [.int .u64 (c.y 0),.int .u64 (c.y 1),.int .u64 (c.y 2),.int .u64 (c.y 3),.int .u64 (c.y 4),.int .u64 (c.y 5),.int .u64 (c.y 6)].toArray) (hy:=fun o_ ho_=>?_) (hS:=hHeld) (h:=?_)
         case refine_1=>(obtain rfl:=waB ho_;exact yieldsIf_load_mid (by rfl) 59 _ rfl w.heap.size 18 rfl [.int .u64 (c.y 0),.int .u64 (c.y 1),.int .u64 (c.y 2),.int .u64 (c.y 3),.int .u64 (c.y 4),.int .u64 (c.y 5),.int .u64 (c.y 6)] _ (fun w' hw'=>hw'.out.yr) underlying59 rfl hiY)
         simp only[Act.put,aPu1,aPu2,aPu3,Array.toArray_toList];refine(kP 8 51 (h:=?_));simp only[Act.put,aPu1,aPu2,aPu3];refine zaj (i:=9) (dst:=some 52) (v:=.agg [.int .u64 (c.y 0),.int .u64 (c.y 1),.int .u64 (c.y 2),.int .u64 (c.y 3),.int .u64 (c.y 4),.int .u64 (c.y 5),.int .u64 (c.y 6)].toArray) (hy:=fun o_ ho_=>?_) (hS:=hHeld) (h:=?_)
         case refine_1=>(obtain rfl:=waB ho_;exact yieldsIf_load_mid (by rfl) 59 _ rfl w.heap.size 18 rfl [.int .u64 (c.y 0),.int .u64 (c.y 1),.int .u64 (c.y 2),.int .u64 (c.y 3),.int .u64 (c.y 4),.int .u64 (c.y 5),.int .u64 (c.y 6)] _ (fun w' hw'=>hw'.out.yr) underlying59 rfl hiY)
         simp only[Act.put,aPu1,aPu2,aPu3,Array.toArray_toList];refine zac (i:=6) kQ fun o_ ho_ K_ hK_=>?_
         obtain rfl:=waB ho_;have HK_:=waV hK_;clear hK_ ho_;go_wp2_with fail;refine(HL.out _).mono ?_;rintro e w4 ⟨v,rfl,hv,hq4⟩;obtain⟨A,cc,rfl,_,_,hrd,_⟩:=zbl.rd hv;replace hHeld:=waV (hHeld.out.below hq4);have HFd:=waV (HF.out A Y.length cc w4 hrd (by have:=HLn.out;omega))
         clear hq4 hv hrd HL HF;go_wp2_with fail;refine HK_.out _ _ hHeld ?_;clear HK_;refine zac (i:=7) kQ fun o_ ho_ K_ hK_=>?_
         obtain rfl:=waB ho_;have HK_:=waV hK_;clear hK_ ho_;go_wp2_with fail;refine HFd.out.mono ?_;rintro e w5 ⟨rfl,hq5⟩;replace hHeld:=waV (hHeld.out.below hq5);clear hq5 HFd;go_wp2_with fail;refine HK_.out _ _ hHeld ?_;clear HK_;refine zag (j:=18) dQ (.inr rfl) dQ kQ ?_;simp only[wbQ,waG,List.length_nil,Nat.reduceAdd,Nat.reduceSub,waZ,wbA];have o25:w5.cell? ⟨w.heap.size,25,none⟩=some (.int .i64 c.u):=hHeld.out.a.1 25 dQ;have o26:w5.cell? ⟨w.heap.size,26,none⟩=some (.int .i64 c.s):=hHeld.out.a.1 26 dQ;have o27:w5.cell? ⟨w.heap.size,27,none⟩=some (.int .i64 c.a):=hHeld.out.a.1 27 dQ;cases B3 with
         |false=>
          go_wp2;go_ret;exact⟨zaf (by simp),hHeld.out.b⟩
         |true=>
          go_wp2_with fail;refine(HU.out _).mono ?_;rintro e w6 ⟨rfl,rfl⟩
          by_cases hu:0≤c.u∧c.u≤6
          ·rw[waP hu]
           by_cases hs:1≤c.s
           ·rw[waP hs];go_wp2_with fail;refine(HI.out _).mono ?_;rintro e w7 ⟨rfl,rfl⟩;go_wp2;go_ret;exact⟨zaf (by simp[hu.1,hu.2,hs]),hHeld.out.b⟩
           ·rw[waO hs];go_wp2;go_ret;exact⟨zaf (by simp;intro h;omega),hHeld.out.b⟩
          ·rw[waO hu];go_wp2;go_ret;exact⟨zaf (by simp;intro a b;exact absurd ⟨a,b⟩ hu),hHeld.out.b⟩
def ztT (l:List Cl):Bool:=(l.take 9).all zoC
theorem ztc {l:List Cl} (h:∀c∈l,zbD c):(ztT l&&decide (l.length≤8))=zdF l:=by
 unfold ztT zdF
 by_cases h8:l.length≤8
 ·rw[waP h8,Bool.and_true,Bool.true_and,List.take_of_length_le (by omega),waQ,List.all_eq_true,List.all_eq_true]
  exact forall_congr' fun c=>⟨fun g hc=>by rw[←zrc (h c hc)];exact g hc,fun g hc=>by rw[zrc (h c hc)];exact g hc⟩
 ·rw[waO h8,Bool.and_false,Bool.false_and]
theorem ztd {l:List Cl} {k:Nat} {x:Cl} (H:∀j x,j<k→l[j]?=some x→zoC x=true) (hx:l[k]?=some x) (hm:zoC x=true):∀j x,j<k+1→l[j]?=some x→zoC x=true:=fun j y hj hy=>by
 rcases Nat.lt_or_eq_of_le (Nat.le_of_lt_succ hj) with h|rfl
 ·exact H j y h hy
 ·rw[hx] at hy;cases hy;exact hm
theorem zvb {l:List Cl} {k:Nat} {x:Cl} (hk:k<9) (hx:l[k]?=some x) (hm:zoC x=false):ztT l=false:=by
 unfold ztT;rw[List.all_eq_false];exact⟨x,List.mem_of_getElem? (i:=k) (by rw[List.getElem?_take,if_pos hk];exact hx),by rw[hm];decide⟩
theorem zte {l:List Cl} (h:∀j x,j<9→l[j]?=some x→zoC x=true):ztT l=true:=by
 unfold ztT;rw[List.all_eq_true];intro x hx;obtain⟨j,e⟩:=List.mem_iff_getElem?.1 hx;rw[List.getElem?_take] at e;split at e
 ·exact h j x ‹_› e
 ·cases e
theorem zhL (A:Option Addr) (n cc:Nat) (l:List Cl) (w:World) (hA:zbd w A n l) (hn:n≤9223372036854775806) (hb:∀c∈l,zbD c):Calls prog 20 #[.slice A n cc] w (Ret (.bool (zdF l)) w):=by
 have HL:Hid (l.length=n):=hA.1;have HA:=waV hA;have HM:Hid (∀c W,c∈l→Calls prog 49 #[.agg (clA c)] W (Ret (.bool (zoC c)) W)):=fun c W h=>zre c (hb c h) W
 rw[←ztc hb];clear hA hb;go_enter func20,ntmps20;go_wp2
 go_loopw [3] (fun i wr=>∃k:Nat,k≤n∧k≤9∧i=.int .i64 k∧Hid (∀j x,j<k→l[j]?=some x→zoC x=true)∧Below w.heap.size w wr) (fun i _=>n - (intOf i).toNat)
 case atStart=>exact⟨0,waK _,waK _,by go_num,fun j x h=>absurd h (Nat.not_lt_zero _),waC _ _⟩
 case round=>
  obtain⟨k,hk,hk9,rfl,H,hb⟩:=hrel;have hsz:=hb.size
  by_cases hlt:k<n∧k<9
  ·obtain⟨hl1,hl2⟩:=hlt;have hl1':(k:Int)<(n:Int):=by omega
   have hl2':(k:Int)<9:=by omega
   obtain⟨b,o,x,rfl,hbl,hx,hcl⟩:=zbd.at_ (HA.out.below hb (waJ _)) hl1
   have HX:=waV hx;have HI:=waV (zbN x);have HLd:=waV hcl;have HMx:=waV (fun W=>HM.out x W (List.mem_of_getElem? hx))
   clear hx hcl HM;generalize clA x=cs at *;cases hm:zoC x with
   |true=>
    have Hm:=waV hm;rw[hm] at HMx;clear hm
    go_wp2_with (first|(refine zai (by rfl) 61 _ rfl cs b (o+k * 30) rfl underlying61 rfl HI.out HLd.out ?_)|fail)
    refine(HMx.out _).mono ?_;rintro e w1 ⟨rfl,hb1⟩;go_wp2;go_roundw
    case rel=>exact⟨k+1,by omega,by omega,by go_num,ztd H.out HX.out Hm.out,zak hb hb1 hsz⟩
    case measure=>simp [intOf];omega
   |false=>
    have Hm:Hid (ztT l=false):=zvb hl2 HX.out hm;rw[hm] at HMx;clear hm
    go_wp2_with (first|(refine zai (by rfl) 61 _ rfl cs b (o+k * 30) rfl underlying61 rfl HI.out HLd.out ?_)|fail)
    refine(HMx.out _).mono ?_;rintro e w1 ⟨rfl,hb1⟩;go_wp2;go_ret;exact⟨zaf (by rw[Hm.out];rfl),zak hb hb1 hsz⟩
  ·have HT:Hid (ztT l=true):=zte fun j x hj hx=>H.out j x (by have:=HL.out;have:=(waI.1 hx).1;omega) hx
   clear H HM
   by_cases hl1:(k:Int)<(n:Int)
   ·have hl2:¬(k:Int)<9:=by omega
    by_cases h8:n≤8
    ·have h8':(n:Int)≤8:=by omega
     clear hlt;go_wp2;go_ret;exact⟨zaf (by rw[HT.out,HL.out,waP h8];rfl),hb⟩
    ·have h8':¬(n:Int)≤8:=by omega
     clear hlt;go_wp2;go_ret;exact⟨zaf (by rw[HT.out,HL.out,waO h8];rfl),hb⟩
   ·by_cases h8:n≤8
    ·have h8':(n:Int)≤8:=by omega
     clear hlt;go_wp2;go_ret;exact⟨zaf (by rw[HT.out,HL.out,waP h8];rfl),hb⟩
    ·have h8':¬(n:Int)≤8:=by omega
     clear hlt;go_wp2;go_ret;exact⟨zaf (by rw[HT.out,HL.out,waO h8];rfl),hb⟩
def zwt (n:Nat) (l:List Cl) (w:World) (e:Ending) (w':World):Prop:=
 Below w.heap.size w w'∧((8<n∧e=.returned (.tuple #[.slice none 0 0,.int .i64 5]))∨(n≤8∧zdF l=false∧e=.returned (.tuple #[.slice none 0 0,.int .i64 1]))∨(n≤8∧zdF l=true∧∃A c,e=.returned (.tuple #[.slice A n c,.int .i64 0])∧zbd w' A n l))
theorem zni (A:Option Addr) (n c:Nat) (l:List Cl) (w:World) (hA:zbd w A n l) (hn:n≤4294967296) (hnil:A=none→n=0):
 Calls prog 21 #[.slice A n c] w (zwt n l w):=by
 have HM:=waV (fun W (hb:Below w.heap.size w W)=>zkb A n c l W (hA.below hb (waJ _)) oQ)
 have HC:=waV (fun W (hb:Below w.heap.size w W)=>znN A n c l W (hA.below hb (waJ _)) hn hnil)
 clear hA hnil
 by_cases h8:8<n
 ·have h8':(8:Int)<(n:Int):=by omega
  clear HM HC;go_enter func21,ntmps21;go_wp2
  (try simp only[Exit.inBlock,Exit.then])
  refine waY (wbM rfl _ _ _) rfl ?_;exact⟨waC _ _,.inl ⟨h8,rfl⟩⟩
 ·have h8':¬(8:Int)<(n:Int):=by omega
  cases hs:zdF l with
  |false=>
   rw[hs] at HM;clear HC;go_enter func21,ntmps21;go_wp2_with fail;refine(HM.out _ (by exact zaI)).mono ?_
   rintro e w1 ⟨rfl,hb1⟩;go_wp2
   (try simp only[Exit.inBlock,Exit.then])
   refine waY (wbM rfl _ _ _) rfl ?_;exact⟨hb1,.inr (.inl ⟨by omega,hs,rfl⟩)⟩
  |true=>
   rw[hs] at HM;go_enter func21,ntmps21;go_wp2_with fail;refine(HM.out _ (by exact zaI)).mono ?_
   rintro e w1 ⟨rfl,hb1⟩;go_wp2_with fail;refine(HC.out _ (by exact zaI)).mono ?_
   rintro e w2 ⟨A',c',rfl,hr,hb2⟩;go_wp2
   (try simp only[Exit.inBlock,Exit.then])
   refine waY (wbM rfl _ _ _) rfl ?_;exact⟨zak hb1 hb2 hb1.size,.inr (.inr ⟨by omega,hs,A',c',rfl,hr⟩)⟩
end Go.Proofs.YtgedndlifiihkaaGreatDoor
