/- A part of the proof: Open WRefVal WVal2 RItv RCiv2 -/
import Derived.Test.YtgedndlifiihkaaGreatDoorRows
import Derived.Test.YtgedndlifiihkaaGreatDoorR02
import Derived.ProofKit
import Derived.OpenShut
import Derived.ShutString
import Derived.ChangeOld
import Derived.Below
import Derived.Deep.Slices
import Derived.Deep.Fields
import Derived.Test.YtgedndlifiihkaaGreatDoorR01
import Derived.Test.YtgedndlifiihkaaGreatDoorR00
set_option maxHeartbeats 80000000
set_option maxRecDepth 100000
set_option linter.unusedSimpArgs false
set_option linter.unusedVariables false
namespace Go.Proofs.YtgedndlifiihkaaGreatDoor
open Go.Proofs.Tryz
open Go.ChangeShapes Go.WideShapes Go.ChangeAt Go.RowKit Go.Deep
def zoK (x:Int):Prop:=-9223372036854775808≤x∧x≤9223372036854775807
def It.wf (i:It):Prop:=zoK i.k∧zoK i.f∧zoK i.t∧zoK i.s
theorem ziD {x:Int} (h:(Lit.int .i64 x).wf=true):zoK x:=by simpa[Lit.wf,IntKind.min,IntKind.max,IntKind.signed,IntKind.bits,zoK] using h
section
variable {H : Type} {enc : TypeId × Value → H} {w : World} {base : Nat} {spare : Nat → Bool} {held : Bool}
theorem zl2:prog.cellsOf 81=4:=by kernel_rfl
theorem ztu {fuel:Nat} {cs:List Value} {x:DataW H×List MemPlace} (h:DataW.trod enc prog w base spare held fuel 81 cs=some x):
 ∃it:It,cs=zcW it∧it.wf:=by
 obtain⟨xs,n,_,hx,hlen,hxl,hf⟩:=DataW.trod_struct underlying81 h;rw[zl2] at hlen
 match cs,hlen with
 |[c0,c1,c2,c3],_=>
  have i0:=hf 0 _ rfl;have i1:=hf 1 _ rfl;have i2:=hf 2 _ rfl;have i3:=hf 3 _ rfl;have hl:xs.length=4:=hxl
  match xs,hl with
  |[y0,y1,y2,y3],_=>
   have one:prog.cellsOf 3=1:=by kernel_rfl
   change DataW.trod enc prog w base spare held n 3 (([c0,c1,c2,c3].drop 0).take (prog.cellsOf 3))=_ at i0
   change DataW.trod enc prog w base spare held n 3 (([c0,c1,c2,c3].drop 1).take (prog.cellsOf 3))=_ at i1
   change DataW.trod enc prog w base spare held n 3 (([c0,c1,c2,c3].drop 2).take (prog.cellsOf 3))=_ at i2
   change DataW.trod enc prog w base spare held n 3 (([c0,c1,c2,c3].drop 3).take (prog.cellsOf 3))=_ at i3
   rw[one] at i0 i1 i2 i3;obtain⟨k,e0,_,w0⟩:=DataW.trod_int underlying3 i0;obtain⟨f,e1,_,w1⟩:=DataW.trod_int underlying3 i1;obtain⟨t,e2,_,w2⟩:=DataW.trod_int underlying3 i2;obtain⟨s,e3,_,w3⟩:=DataW.trod_int underlying3 i3;simp at e0 e1 e2 e3;subst e0 e1 e2 e3;exact⟨⟨k,f,t,s⟩,rfl,ziD w0,ziD w1,ziD w2,ziD w3⟩
theorem zrb (b o j:Nat):(⟨b,o,none⟩:Addr).add j=⟨b,o+j,none⟩:=by
 unfold Addr.add;split
 ·subst_vars;rfl
 ·rfl
theorem zdl {fuel:Nat} {v:Value} {x:DataW H×List MemPlace} (h:DataW.trod enc prog w base spare held fuel 22 [v]=some x):
 ∃A n c l,v=.slice A n c∧zcA w A n l∧n≤c∧c≤maxLen∧(A=none→n=0)∧∀it∈l,it.wf:=by
 rcases open_slice underlying22 h with ⟨h0,_⟩|⟨a,len,cap,m,q,D,Pl,hcs,hb,hl,hm,hmm,_,hi⟩
 ·simp at h0;subst h0;exact⟨none,0,0,[],rfl,Rd.nil,waJ _,waK _,fun _=>rfl,fun it hit=>by simp at hit⟩
 ·simp at hcs;subst hcs;have hlm:len≤m:=by rw[hmm];split<;>omega
  have hall:∀i,i<len→∃it:It,it.wf∧(∀(j:Nat) v,(zcW it)[j]?=some v→w.cell? (a.add (i * 4+j))=some v)∧a.block<w.heap.size:=by
   intro i hil;obtain⟨cs',hc,ht⟩:=hi i oQ;obtain⟨it,rfl,hwf⟩:=ztu ht;rw[zl2] at hc;obtain⟨_,_,hat⟩:=World.cells?_some hc;refine⟨it,hwf,fun j v hj=>?_,?_⟩
   ·have hj4:j<4:=by have:=(waI.1 hj).1;simpa[zcW] using this
    have:=hat j hj4;rw[←Go.Deep.add_add,this,hj]
   ·have:=hat 0 dQ;have h2:=waR w _ this;rw[Go.Deep.add_add] at h2;unfold Addr.add at h2;split at h2<;>exact h2
  let F:Nat→It:=fun i=>if hh:i<len then Classical.choose (hall i hh) else⟨0,0,0,0⟩
  have hF:∀i,i<len→(F i).wf∧(∀(j:Nat) v,(zcW (F i))[j]?=some v→w.cell? (a.add (i * 4+j))=some v)∧a.block<w.heap.size:=by
   intro i hil;have:=Classical.choose_spec (hall i hil);simpa[F,hil] using this
  refine⟨some a,len,cap,(List.range len).map F,rfl,⟨by simp,fun hn=>?_⟩,hl,hm,(fun h=>by cases h),?_⟩
  ·obtain⟨b,o,s⟩:=a;have h00:=(hF 0 hn).2.1 0 _ rfl;have hs:s=none:=by
    have:=World.cell?_spot h00;simpa[Addr.add] using this
   subst hs;refine⟨b,o,rfl,(hF 0 hn).2.2,fun i x hx j v hj=>?_⟩
   have hil:i<len:=by have:=(waI.1 hx).1;simpa using this
   obtain rfl:F i=x:=by simpa[List.getElem?_map,List.getElem?_range hil] using hx
   have:=(hF i hil).2.1 j v hj;rw[zrb] at this;rw[show o+i * 4+j=o+(i * 4+j) from by omega];exact this
  ·intro it hit;simp only[List.mem_map,wbG] at hit;obtain⟨i,hil,rfl⟩:=hit;exact(hF i hil).1
theorem zna:prog.cellsOf 24=5:=by kernel_rfl
theorem zoL {fuel:Nat} {cs:List Value} {x:DataW H×List MemPlace} (h:DataW.trod enc prog w base spare held fuel 24 cs=some x):
 ∃(A:Nat→Option Addr) (n c:Nat→Nat) (l:Nat→List It),cs=[.slice (A 0) (n 0) (c 0),.slice (A 1) (n 1) (c 1),.slice (A 2) (n 2) (c 2),.slice (A 3) (n 3) (c 3),.slice (A 4) (n 4) (c 4)]∧
  zb0 w A n l∧(∀k,n k≤c k)∧(∀k,c k≤maxLen)∧(∀k,A k=none→n k=0)∧∀k,∀it∈l k,it.wf:=by
 obtain⟨xs,q,_,hx,hlen,hxl,hf⟩:=DataW.trod_struct underlying24 h;rw[zna] at hlen
 match cs,hlen with
 |[c0,c1,c2,c3,c4],_=>
  have i0:=hf 0 _ rfl;have i1:=hf 1 _ rfl;have i2:=hf 2 _ rfl;have i3:=hf 3 _ rfl;have i4:=hf 4 _ rfl;have hl:xs.length=5:=hxl
  match xs,hl with
  |[y0,y1,y2,y3,y4],_=>
   have one:prog.cellsOf 22=1:=by kernel_rfl
   change DataW.trod enc prog w base spare held q 22 (([c0,c1,c2,c3,c4].drop 0).take (prog.cellsOf 22))=_ at i0
   change DataW.trod enc prog w base spare held q 22 (([c0,c1,c2,c3,c4].drop 1).take (prog.cellsOf 22))=_ at i1
   change DataW.trod enc prog w base spare held q 22 (([c0,c1,c2,c3,c4].drop 2).take (prog.cellsOf 22))=_ at i2
   change DataW.trod enc prog w base spare held q 22 (([c0,c1,c2,c3,c4].drop 3).take (prog.cellsOf 22))=_ at i3
   change DataW.trod enc prog w base spare held q 22 (([c0,c1,c2,c3,c4].drop 4).take (prog.cellsOf 22))=_ at i4
   rw[one] at i0 i1 i2 i3 i4;obtain⟨A0,n0,k0,l0,e0,r0,p0,q0,z0,w0⟩:=zdl i0;obtain⟨A1,n1,k1,l1,e1,r1,p1,q1,z1,w1⟩:=zdl i1;obtain⟨A2,n2,k2,l2,e2,r2,p2,q2,z2,w2⟩:=zdl i2;obtain⟨A3,n3,k3,l3,e3,r3,p3,q3,z3,w3⟩:=zdl i3;obtain⟨A4,n4,k4,l4,e4,r4,p4,q4,z4,w4⟩:=zdl i4;subst e0 e1 e2 e3 e4;refine⟨fun k=>match k with|0=>A0|1=>A1|2=>A2|3=>A3|_=>A4,fun k=>match k with|0=>n0|1=>n1|2=>n2|3=>n3|_=>n4,fun k=>match k with|0=>k0|1=>k1|2=>k2|3=>k3|_=>k4,
    fun k=>match k with|0=>l0|1=>l1|2=>l2|3=>l3|_=>l4,rfl,?_,?_,?_,?_,?_⟩
   ·intro k hk;obtain rfl|rfl|rfl|rfl|rfl:k=0∨k=1∨k=2∨k=3∨k=4:=by omega
    all_goals assumption
   all_goals
    intro k;rcases k with _|_|_|_|k
    all_goals assumption
end
end Go.Proofs.YtgedndlifiihkaaGreatDoor
namespace Go.Proofs.YtgedndlifiihkaaGreatDoor
open Go.Proofs.Tryz
open Go.RowKit
def zgp (i:It) (lo hi n:Int):Bool:=decide (bF i lo≤n∧n≤bT i hi∧(n - bF i lo)%bS i=0)
theorem zoM {i:It} {lo hi n:Int} (h:zbo i lo hi=true):n∈itL i lo hi↔zgp i lo hi n=true:=by
 obtain⟨h1,h2,h3,h4,h5⟩:=zjG h;simp only[itL,zgp,waM,List.mem_map,wbG];generalize bF i lo=F at *;generalize bT i hi=T at *;generalize bS i=S at *;have hd:0≤(T - F) / S:=Int.ediv_nonneg oQ oQ;constructor
 ·rintro ⟨k,hk,rfl⟩;have hk':(k:Int)≤(T - F) / S:=by omega
  have:=Int.ediv_mul_le (T - F) (show S≠0 by omega)
  have h6:(k:Int) * S≤(T - F) / S * S:=Int.mul_le_mul_of_nonneg_right hk' oQ;have h7:0≤(k:Int) * S:=Int.mul_nonneg oQ oQ;refine⟨by omega,by omega,?_⟩
  rw[show F+(k:Int) * S - F=(k:Int) * S by omega]
  exact Int.mul_emod_left _ _
 ·rintro ⟨h6,h7,h8⟩;have h9:(n - F) / S * S=n - F:=by
   have:=Int.mul_ediv_add_emod (n - F) S;rw[h8,Int.mul_comm] at this;omega
  have h10:0≤(n - F) / S:=Int.ediv_nonneg oQ oQ;have h11:(n - F) / S≤(T - F) / S:=Int.ediv_le_ediv oQ oQ;refine⟨((n - F) / S).toNat,by omega,?_⟩
  rw[show ((((n - F) / S).toNat:Nat):Int)=(n - F) / S by omega,h9]
  omega
theorem zrc (i:It) (lo hi n:Int) (w:World) (hm:zbo i lo hi=true):Calls prog 38 #[.agg #[.int .i64 i.k,.int .i64 i.f,.int .i64 i.t,.int .i64 i.s],.int .i64 lo,.int .i64 hi,.int .i64 n] w (Ret (.bool (zgp i lo hi n)) w):=by
 have hb:=zjG hm;simp only[zbo,zq5,waM] at hm
 by_cases hr:n<lo∨hi<n
 ·have HR:Hid (zgp i lo hi n=false):=by
   show _=_;simp only[zgp,decide_eq_false_iff_not];unfold bF bT bS at *;intro h;split at hb<;>split at hb<;>(try split at hb)<;>simp_all<;>omega
  rcases hr with h|h
  ·go_enter func38,ntmps38;go_wp2;go_ret;exact⟨zak HR.out.symm,by exact zaG⟩
  ·by_cases h1:n<lo
   ·go_enter func38,ntmps38;go_wp2;go_ret;exact⟨zak HR.out.symm,by exact zaG⟩
   ·go_enter func38,ntmps38;go_wp2;go_ret;exact⟨zak HR.out.symm,by exact zaG⟩
 ·have hr1:¬n<lo:=by omega
  have hr2:¬hi<n:=by omega
  clear hr
  by_cases hk0:i.k=0
  ·have hs:(i.s==0)=false:=by simp;omega
   have h0:(i.k==0)=true:=by simpa using hk0
   have hm1:1≤i.s∧i.s≤999∧0≤lo∧hi≤9999:=by omega
   have HE:Hid (zgp i lo hi n=((n - lo)%i.s==0)):=by
    show _=_;rw[waQ];simp only[zgp,waM,beq_iff_eq,bF,bT,bS,hk0];simp;omega
   clear hm hb hk0;obtain⟨m1,m2,m3,m4⟩:=hm1;go_enter func38,ntmps38;go_wp2;go_ret;exact⟨zak HE.out.symm,by exact zaG⟩
  ·have h0:(i.k==0)=false:=by simpa using hk0
   by_cases hk1:i.k=1
   ·have h1:(i.k==1)=true:=by simpa using hk1
    have HE:Hid (zgp i lo hi n=(n==i.f)):=by
     show _=_;rw[waQ];simp only[zgp,waM,beq_iff_eq,bF,bT,bS,hk1];simp;omega
    clear hm hb hk0 hk1;go_enter func38,ntmps38;go_wp2;go_ret;exact⟨zak HE.out.symm,by exact zaG⟩
   ·have h1:(i.k==1)=false:=by simpa using hk1
    have hs:(i.s==0)=false:=by simp;omega
    by_cases hf:n<i.f
    ·have HE:Hid (zgp i lo hi n=false):=by
      show _=_;simp only[zgp,decide_eq_false_iff_not,bF,hk0,if_false];omega
     have hf':¬i.f≤n:=by omega
     by_cases hk2:i.k=2
     ·have h2:(i.k==2)=true:=by simpa using hk2
      clear hm hb hk0 hk1 hk2;go_enter func38,ntmps38;go_wp2;go_ret;exact⟨zak HE.out.symm,by exact zaG⟩
     ·have h2:(i.k==2)=false:=by simpa using hk2
      clear hm hb hk0 hk1 hk2;go_enter func38,ntmps38;go_wp2;go_ret;exact⟨zak HE.out.symm,by exact zaG⟩
    ·have hm1:1≤i.s∧i.s≤999∧0≤i.f∧hi≤9999:=by omega
     have hf':i.f≤n:=by omega
     by_cases hk2:i.k=2
     ·have h2:(i.k==2)=true:=by simpa using hk2
      have HE:Hid (zgp i lo hi n=(decide (n≤i.t)&&((n - i.f)%i.s==0))):=by
       show _=_;rw[waQ];simp only[zgp,waM,beq_iff_eq,bF,bT,bS,hk2,waN];simp;omega
      clear hm hb hk0 hk1 hk2;obtain⟨m1,m2,m3,m4⟩:=hm1
      by_cases ht:n≤i.t
      ·have HE2:Hid (zgp i lo hi n=((n - i.f)%i.s==0)):=by
        show _=_;rw[HE.out];simp[ht]
       clear HE;go_enter func38,ntmps38;go_wp2;go_ret;exact⟨zak HE2.out.symm,by exact zaG⟩
      ·have HE2:Hid (zgp i lo hi n=false):=by
        show _=_;rw[HE.out];simp[ht]
       clear HE;go_enter func38,ntmps38;go_wp2;go_ret;exact⟨zak HE2.out.symm,by exact zaG⟩
     ·have h2:(i.k==2)=false:=by simpa using hk2
      have HE:Hid (zgp i lo hi n=((n - i.f)%i.s==0)):=by
       show _=_;rw[waQ];simp only[zgp,waM,beq_iff_eq,bF,bT,bS,hk0,hk1,hk2];simp;omega
      clear hm hb hk0 hk1 hk2;obtain⟨m1,m2,m3,m4⟩:=hm1;go_enter func38,ntmps38;go_wp2;go_ret;exact⟨zak HE.out.symm,by exact zaG⟩
def zdU (lo hi n:Int) (i:It):Bool:=zbo i lo hi&&zgp i lo hi n
def inB (l:List It) (lo hi n:Int):Bool:=l.any (zdU lo hi n)
theorem zoN (A:Option Addr) (m c:Nat) (l:List It) (lo hi n:Int) (w:World) (hA:zcA w A m l) (hm:m≤9223372036854775806):
 Calls prog 14 #[.slice A m c,.int .i64 lo,.int .i64 hi,.int .i64 n] w (Ret (.bool (inB l lo hi n)) w):=by
 have HL:Hid (l.length=m):=hA.1;have HA:=waV hA;clear hA;go_enter func14,ntmps14;go_wp2
 go_loopw [9] (fun i wr=>∃k:Nat,k≤m∧i=.int .i64 k∧Hid (∀j it,j<k→l[j]?=some it→zdU lo hi n it=false)∧Below w.heap.size w wr) (fun i _=>m - (intOf i).toNat)
 case atStart=>exact⟨0,waK _,rfl,fun j _ h=>absurd h (Nat.not_lt_zero _),waC _ _⟩
 case round=>
  obtain⟨k,hk,rfl,H,hb⟩:=hrel;have hsz:=hb.size
  by_cases hlt:k<m
  ·obtain⟨b,o,it,rfl,hbl,hx,c0,c1,c2,c3⟩:=zcA.at_ (HA.out.below hb (waJ _)) hlt
   have hlt':(k:Int)<(m:Int):=by omega
   have Hx:=waV hx;clear hx;have HM:=waV (fun W=>zq9 it lo hi W)
   cases hmy:zbo it lo hi with
   |false=>
    have Hm:Hid (zdU lo hi n it=false):=by show _=_;simp[zdU,hmy]
    rw[hmy] at HM;clear hmy
    go_wp2_with (go_at_call 37;refine(HM.out _).mono ?_;rintro e w1 ⟨rfl,hb1⟩)
    go_roundw
    case rel=>exact⟨k+1,by omega,by go_num,zgt H.out Hx.out Hm.out,zai hb hb1 hsz⟩
    case measure=>simp [intOf];omega
   |true=>
    have HH:=waV (fun W=>zrc it lo hi n W hmy)
    rw[hmy] at HM;cases hh:zgp it lo hi n with
    |false=>
     have Hm:Hid (zdU lo hi n it=false):=by show _=_;simp[zdU,hh]
     rw[hh] at HH;clear hmy hh;go_wp2_with fail;refine(HM.out _).mono ?_;rintro e w1 ⟨rfl,hb1⟩;obtain⟨hc1,hf1⟩:=zad hb1;go_wp2_with fail;refine(HH.out _).mono ?_;rintro e w2 ⟨rfl,hb2⟩;have hb3:=zai hb1 hb2 hb1.size;go_wp2;go_roundw
     case rel=>exact⟨k+1,by omega,by go_num,zgt H.out Hx.out Hm.out,zai hb hb3 hsz⟩
     case measure=>simp [intOf];omega
    |true=>
     have HT:Hid (inB l lo hi n=true):=by
      show _=_;simp only[inB,List.any_eq_true];exact⟨it,List.mem_of_getElem? Hx.out,by simp[zdU,hmy,hh]⟩
     rw[hh] at HH;clear hmy hh;go_wp2_with fail;refine(HM.out _).mono ?_;rintro e w1 ⟨rfl,hb1⟩;obtain⟨hc1,hf1⟩:=zad hb1;go_wp2_with fail;refine(HH.out _).mono ?_;rintro e w2 ⟨rfl,hb2⟩;have hb3:=zai hb1 hb2 hb1.size;go_wp2;go_ret;exact⟨zak HT.out.symm,zai hb hb3 hsz⟩
  ·obtain rfl:k=m:=by omega
   have HT:Hid (inB l lo hi n=false):=by
    show _=_;simp only[inB,List.any_eq_false];intro it hit;obtain⟨j,hj,e⟩:=List.mem_iff_getElem.1 hit;have:=H.out j it (by have:=HL.out;omega) (by rw[waE hj,e])
    simp[this]
   clear H;go_wp2;go_ret;exact⟨zak HT.out.symm,hb⟩
def zao (l:List It) (lo hi:Int):List Int:=((List.range (min hi 9999 - max 0 lo+1).toNat).map fun(k:Nat)=>max 0 lo+(k:Int)).filter (inB l lo hi)
def refN (lo hi:Int):Nat:=(min hi 9999 - max 0 lo+1).toNat
def zd4 (l:List It) (lo hi:Int) (k:Nat):List Int:=((List.range k).map fun(k:Nat)=>max 0 lo+(k:Int)).filter (inB l lo hi)
theorem zoO (l:List It) (lo hi:Int):zd4 l lo hi (refN lo hi)=zao l lo hi:=rfl
theorem znb (l:List It) (lo hi:Int) (k:Nat):zd4 l lo hi (k+1)=zd4 l lo hi k++(if inB l lo hi (max 0 lo+(k:Int)) then [max 0 lo+(k:Int)] else []):=by
 simp only[zd4,List.range_succ,List.map_append,List.map_cons,List.map_nil,List.filter_append];congr 1;simp[List.filter_cons]
theorem zoP (l:List It) (lo hi:Int) (k:Nat):(zd4 l lo hi k).length≤k:=by
 unfold zd4;refine waW (List.length_filter_le _ _) ?_;simp
theorem zgM (A:Option Addr) (n c:Nat) (l:List It) (lo hi:Int) (w:World) (hA:zcA w A n l) (hn:n≤9223372036854775806) (hlo:zoK lo) (hhi:zoK hi):
 Calls prog 12 #[.slice A n c,.int .i64 lo,.int .i64 hi] w (zsR (zao l lo hi) w):=by
 obtain⟨i0,hi0,hz0,hz1,hz2⟩:=info_parts ziu;have HA:=waV hA;clear hA;have HR:=waV (zoO l lo hi);have HN:Hid (refN lo hi=(min hi 9999 - max 0 lo+1).toNat):=rfl;generalize refN lo hi=N at *;have hlo':=hlo.2;have hhi':=hhi.1;clear hlo hhi;go_enter func12,ntmps12;go_wp2
 go_loopw [7,8] (fun v i wr=>∃(vo:Value) (k:Nat),vo=v∧k≤N∧i=.int .i64 (max 0 lo+k)∧Hid (zbk wr w.heap.size vo (zd4 l lo hi k))∧Below w.heap.size w wr) (fun _ i _=>N - (intOf i - max 0 lo).toNat)
 case atStart=>exact⟨_,0,rfl,waK _,by go_num,World.ownsRow_nil _ _ _ _,waC _ _⟩
 case round=>
  obtain⟨vo,k,rfl,hk,rfl,HO,hb⟩:=hrel;have hsz:=hb.size;have HS:=waV (znb l lo hi k);have hln:=zoP l lo hi k;have HI:=waV (fun x W (hW:Below w.heap.size w W)=>zoN A n c l lo hi x W (HA.out.below hW (waJ _)) hn)
  have hN:=HN.out;have hL0:0≤max 0 lo:=by omega
  have hL1:max 0 lo≤9223372036854775807:=by omega
  generalize hL:max 0 lo=L at *;have HLL:=waV hL;clear hL
  by_cases hlt:k<N
  ·have hc1:L+(k:Int)≤hi:=by omega
   have hc2:L+(k:Int)≤9999:=by omega
   clear hN;cases hv:inB l lo hi (L+k) with
   |false=>
    have HI1:=waV (HI.out (L+k) wr hb);rw[hv] at HS HI1;clear hv;go_wp2_with fail;refine HI1.out.mono ?_;rintro e w1 ⟨rfl,hb1⟩;go_wp2;go_roundw
    case rel=>
     have HS':Hid (zd4 l lo hi (k+1)=zd4 l lo hi k):=by show _=_;rw[HS.out];simp
     exact⟨_,k+1,rfl,by omega,by go_num,by rw[HS'.out];exact zae HO.out hb1,zai hb hb1 hsz⟩
    case measure=>simp [intOf];omega
   |true=>
    have HI1:=waV (HI.out (L+k) wr hb);rw[hv] at HS HI1;have HS1:Hid (zd4 l lo hi (k+1)=zd4 l lo hi k++[L+(k:Int)]):=by show _=_;rw[HS.out];simp
    clear hv HS;have HSN:Hid ((zd4 l lo hi k).map (Value.int .i64)++[.int .i64 (L+(k:Int))]=(zd4 l lo hi (k+1)).map (Value.int .i64)):=by
     show _=_;rw[HS1.out];simp
    have HNL:Hid ((zd4 l lo hi (k+1)).length=(zd4 l lo hi k).length+1):=by
     show _=_;rw[HS1.out];simp
    generalize hX1:zd4 l lo hi (k+1)=X1 at *;have HX1:=waV hX1;clear hX1;generalize zd4 l lo hi k=X0 at *;go_wp2_with fail;refine HI1.out.mono ?_;rintro e w1 ⟨rfl,hb1⟩;have HO1:=waV (zae HO.out hb1);have hb2:=zai hb hb1 hsz;have hsz2:=hb2.size
    go_wp2_with (at_builtin;refine wpList_append_own _ rfl _ _ 35 rfl w.heap.size 3 i0 (.int .i64 0) 1 8 underlying35 hi0 hz0 hz1 hz2 rfl dQ _ X0.length _ rfl (HO1.out.alloc _) ⟨w1.heap.size,0,none⟩ 1 1 [.int .i64 (L+(k:Int))] rfl rfl ?c1 ?c2 ?c3 ?c4 ?c5 ?c6)
    case c1=>
     intro j' u hu;rcases j' with _|j'
     ·simp at hu;subst hu;exact zaa rfl rfl
     ·simp at hu
    case c2=>intro u hu;simp at hu;subst hu;rfl
    case c3=>simp only[maxLen];omega
    case c4=>omega
    case c5=>simp;omega
    case c6=>
     intro v' w' hown hg _;have HV:Hid (zbk w' w.heap.size v' X1):=by
      show World.ownsRow _ _ _ _ _ _ _;rw[HNL.out,←HSN.out];exact hown
     have hbn:Below w.heap.size w w':=zeT (HO1.out.alloc _) (hb2.alloc oQ _) (by simp;omega) hg
     clear hown hg;go_wp2;go_roundw
     case rel=>exact⟨_,k+1,rfl,by omega,by go_num,by rw[HX1.out];exact HV.out,hbn⟩
     case measure=>simp [intOf];omega
  ·obtain rfl:k=N:=by omega
   have HO2:Hid (zbk wr w.heap.size vo (zao l lo hi)):=by rw[←HR.out];exact HO.out
   by_cases hc1:L+(k:Int)≤hi
   ·have hc2:¬L+(k:Int)≤9999:=by omega
    clear hN;go_wp2;go_ret;exact⟨_,rfl,HO2.out,hb⟩
   ·clear hN;go_wp2;go_ret;exact⟨_,rfl,HO2.out,hb⟩
theorem zsW:∀{a b:List Int},a.Pairwise (·< ·)→b.Pairwise (·< ·)→(∀x,x∈a↔x∈b)→a=b
 |[],[],_,_,_=>rfl
 |[],y::b,_,_,h=>by have:=(h y).2 (by simp);simp at this
 |x::a,[],_,_,h=>by have:=(h x).1 (by simp);simp at this
 |x::a,y::b,ha,hb,h=>by
  have ha1:=List.pairwise_cons.1 ha;have hb1:=List.pairwise_cons.1 hb;have hxy:x=y:=by
   have h1:=(h x).1 (by simp)
   have h2:=(h y).2 (by simp)
   rcases List.mem_cons.1 h1 with h1|h1
   ·exact h1
   ·rcases List.mem_cons.1 h2 with h2|h2
    ·exact h2.symm
    ·have:=hb1.1 x h1;have:=ha1.1 y h2;omega
  subst hxy;congr 1;refine zsW ha1.2 hb1.2 fun z=>⟨fun hz=>?_,fun hz=>?_⟩
  ·rcases List.mem_cons.1 ((h z).1 (List.mem_cons_of_mem _ hz)) with rfl|h1
   ·exact absurd (ha1.1 z hz) oQ
   ·exact h1
  ·rcases List.mem_cons.1 ((h z).2 (List.mem_cons_of_mem _ hz)) with rfl|h1
   ·exact absurd (hb1.1 z hz) oQ
   ·exact h1
theorem zc1 (d:Array Int) (hd:∀i j,i≤j→j<d.size→d[i]!≤d[j]!):∀m,m≤d.size→
 (Lib.compactUpTo d m).Pairwise (·< ·)∧(∀x,x∈Lib.compactUpTo d m↔∃j,j<m∧d[j]! =x)
 |0,_=>by simp[Lib.compactUpTo]
 |m+1,hm=>by
  obtain⟨h1,h2⟩:=zc1 d hd m oQ;rw[Lib.compactUpTo_succ]
  by_cases hk:m=0∨d[m]!≠d[m - 1]!
  ·have hk':Lib.keeps d m=true:=by simp[Lib.keeps,hk]
   rw[if_pos hk'];refine⟨List.pairwise_append.2 ⟨h1,by simp,?_⟩,?_⟩
   ·intro a ha b hb;obtain rfl:b=d[m]!:=by simpa using hb
    obtain⟨j,hj,rfl⟩:=(h2 a).1 ha;have h3:=hd j (m - 1) oQ oQ;have h4:=hd (m - 1) m oQ oQ;rcases hk with hk|hk
    ·omega
    ·omega
   ·intro x;rw[wbB,h2];constructor
    ·rintro (⟨j,hj,rfl⟩|hx)
     ·exact⟨j,by omega,rfl⟩
     ·exact⟨m,by omega,(wbC.1 hx).symm⟩
    ·rintro ⟨j,hj,rfl⟩;rcases Nat.lt_or_eq_of_le (Nat.le_of_lt_succ hj) with h|rfl
     ·exact .inl ⟨j,h,rfl⟩
     ·exact .inr (by simp)
  ·have hk':¬Lib.keeps d m=true:=by simpa[Lib.keeps] using hk
   rw[if_neg hk',List.append_nil];refine⟨h1,fun x=>?_⟩
   rw[h2];constructor
   ·rintro ⟨j,hj,rfl⟩;exact⟨j,by omega,rfl⟩
   ·rintro ⟨j,hj,rfl⟩;rcases Nat.lt_or_eq_of_le (Nat.le_of_lt_succ hj) with h|rfl
    ·exact⟨j,h,rfl⟩
    ·have h5:j≠0:=fun e=>hk (.inl e)
     have h6:d[j]! =d[j - 1]!:=by
      rcases Classical.em (d[j]! =d[j - 1]!) with h|h
      ·exact h
      ·exact absurd (.inr h) hk
     exact⟨j - 1,by omega,h6.symm⟩
theorem zhK {l:List Int} (h:l.Pairwise (·≤·)):(Lib.compact l).Pairwise (·< ·)∧∀x,x∈Lib.compact l↔x∈l:=by
 have hd:∀i j,i≤j→j<l.toArray.size→l.toArray[i]!≤l.toArray[j]!:=by
  intro i j hij hj;have hj':j<l.length:=by simpa using hj
  rw[getElem!_pos l.toArray i (by simp;omega),getElem!_pos l.toArray j (by simp;omega)]
  simp only[List.getElem_toArray];rcases Nat.lt_or_eq_of_le hij with h1|rfl
  ·exact(List.pairwise_iff_getElem.1 h) i j oQ hj' h1
  ·exact Int.le_refl _
 obtain⟨h1,h2⟩:=zc1 l.toArray hd l.length (by simp)
 refine⟨h1,fun x=>(h2 x).trans ?_⟩
 rw[List.mem_iff_getElem];constructor
 ·rintro ⟨j,hj,rfl⟩;exact⟨j,hj,by rw[getElem!_pos l.toArray j (by simpa using hj)];simp⟩
 ·rintro ⟨j,hj,rfl⟩;exact⟨j,hj,by rw[getElem!_pos l.toArray j (by simpa using hj)];simp⟩
theorem zjI (lo hi:Int) (l:List It):(zsV lo hi l).Pairwise (·< ·)∧∀x,x∈zsV lo hi l↔inB l lo hi x=true:=by
 have hs:((zeQ lo hi l).mergeSort fun x y=>decide (x≤y)).Pairwise (·≤·):=by
  have:=List.pairwise_mergeSort (le:=fun x y:Int=>decide (x≤y)) (fun a b c h1 h2=>by simp at *;omega) (fun a b=>by simp;omega) (zeQ lo hi l)
  simpa using this
 obtain⟨h1,h2⟩:=zhK hs;refine⟨h1,fun x=>(h2 x).trans ?_⟩
 rw[List.mem_mergeSort];simp only[zeQ,List.mem_flatMap,inB,List.any_eq_true,zdU,waN];constructor
 ·rintro ⟨i,hil,hx⟩
  by_cases hm:zbo i lo hi=true
  ·rw[if_pos hm] at hx;exact⟨i,hil,hm,(zoM hm).1 hx⟩
  ·rw[if_neg hm] at hx;simp at hx
 ·rintro ⟨i,hil,hm,hh⟩;exact⟨i,hil,by rw[if_pos hm];exact(zoM hm).2 hh⟩
theorem zoQ {i:It} {lo hi:Int} (h:zbo i lo hi=true):0≤lo∧lo≤bF i lo∧bT i hi≤hi∧hi≤9999:=by
 simp only[zbo,zq5,waM] at h;unfold bF bT;split<;>(try split)<;>(try split)<;>omega
theorem zba (lo hi:Int) (l:List It):(zao l lo hi).Pairwise (·< ·)∧∀x,x∈zao l lo hi↔inB l lo hi x=true:=by
 constructor
 ·unfold zao;refine List.Pairwise.filter _ ?_;rw[List.pairwise_map];refine List.Pairwise.imp ?_ List.pairwise_lt_range;intro a b h;omega
 ·intro x;unfold zao;rw[List.mem_filter];constructor
  ·rintro ⟨_,h⟩;exact h
  ·intro h;refine⟨?_,h⟩;simp only[inB,List.any_eq_true,zdU,waN,zgp,waM] at h;obtain⟨i,_,hm,h1,h2,_⟩:=h;obtain⟨h3,h4,h5,h6⟩:=zoQ hm;rw[List.mem_map];exact⟨(x - max 0 lo).toNat,wbG.2 oQ,by omega⟩
theorem zuR (lo hi:Int) (l:List It):zsV lo hi l=zao l lo hi:=
 zsW (zjI lo hi l).1 (zba lo hi l).1 fun x=>((zjI lo hi l).2 x).trans ((zba lo hi l).2 x).symm
theorem zgN (l:List Int) (n:Nat) (hn:n<64):zan l / 2^n%2=if(n:Int)∈l then 1 else 0:=by
 have h:=zbl (inL l) 64 n;rw[Nat.testBit_eq_decide_div_mod_eq] at h;have h2:(mkN (inL l) 64 / 2^n)%2=0∨(mkN (inL l) 64 / 2^n)%2=1:=by omega
 have h3:zan l / 2^n%2=(((mkN (inL l) 64 / 2^n)%2:Nat):Int):=by
  unfold zan
  push_cast
  rfl
 rw[h3];simp only[inL,hn,decide_true,Bool.true_and,wbH] at h;split
 ·rename_i hm;rw[h.2 hm];rfl
 ·rename_i hm;rcases h2 with h2|h2
  ·rw[h2];rfl
  ·exact absurd (h.1 h2) hm
end Go.Proofs.YtgedndlifiihkaaGreatDoor
namespace Go.Proofs.YtgedndlifiihkaaGreatDoor
open Go.Proofs.Tryz
theorem zfd {p:Option Int} {l:List Int}:zci p l=true↔(∀x∈l,0≤x∧x≤9999)∧l.Pairwise (·< ·)∧∀y,p=some y→∀x∈l,y<x:=by
 induction l generalizing p with
 |nil=>simp [zci]
 |cons a l ih=>
  unfold zci;rw[waN,waM,ih,List.pairwise_cons];constructor
  ·rintro ⟨⟨h0,h1,h2⟩,h3,h4,h5⟩;refine⟨fun x hx=>?_,⟨fun x hx=>h5 a rfl x hx,h4⟩,fun y hy x hx=>?_⟩
   ·rcases List.mem_cons.1 hx with rfl|hx
    ·exact⟨h0,h1⟩
    ·exact h3 x hx
   ·rcases List.mem_cons.1 hx with rfl|hx
    ·exact h2 y hy
    ·exact Int.lt_trans (h2 y hy) (h5 a rfl x hx)
  ·rintro ⟨h1,⟨h2,h3⟩,h4⟩;obtain⟨a0,a1⟩:=h1 a (by simp)
   refine⟨⟨a0,a1,fun y hy=>h4 y hy a (by simp)⟩,fun x hx=>h1 x (by simp[hx]),h3,?_⟩
   rintro y hy x hx;cases hy;exact h2 x hx
theorem zsX {s:Int}:∀(l:List Int) (a:Int) (k:Nat),k≤zju s a l→(a::l)[k]?=some (a+(k:Int) * s)
 |_,a,0,_=>by simp
 |[],a,k+1,h=>by simp[zju] at h
 |b::l,a,k+1,h=>by
  unfold zju at h;split at h
  ·rename_i e;rw[List.getElem?_cons_succ,zsX (s:=s) l b k (by omega)]
   congr 1
   push_cast
   rw[Int.add_mul];omega
  ·omega
def zhL (p:Pc):List Int:=(List.range (zdT p).toNat).map fun(k:Nat)=>p.f+(k:Int) * p.s
def znc (p:Pc):Prop:=zq7 p∧(p.s=1∨p.s≤p.t - p.f)
theorem znd {a:Int} {l:List Int} (h:zci none (a::l)=true):znc (za7 a l).1∧zhL (za7 a l).1=(a::l).take (za7 a l).2∧1≤(za7 a l).2:=by
 obtain⟨h1,h2,_⟩:=zfd.1 h;obtain⟨a0,a1⟩:=h1 a (by simp)
 unfold za7;split
 ·have hl:zq7 ⟨a,a,1⟩:=⟨a0,Int.le_refl _,a1,Int.le_refl 1,by simp⟩
  refine⟨⟨hl,.inl rfl⟩,?_,waJ 1⟩;unfold zhL zdT;rw[if_pos hl];simp
 ·rename_i hn;have hm:ze9 a l=zju (zhJ a l) a l+1:=rfl;obtain⟨m,hmm⟩:∃m,m=zju (zhJ a l) a l:=⟨_,rfl⟩;have hm1:1≤m:=by omega
  cases l with
  |nil=>simp [zju] at hmm;omega
  |cons b l=>
   have hs:zhJ a (b::l)=b - a:=rfl;have hb:a<b:=(List.pairwise_cons.1 h2).1 b (by simp)
   obtain⟨s,hss⟩:∃s,s=b - a:=⟨_,rfl⟩;rw[hs,←hss] at hmm;have hat:=fun k hk=>zsX (s:=s) (b::l) a k hk
   rw[←hmm] at hat;have hlast:(a::b::l).getD (ze9 a (b::l) - 1) 0=a+(m:Int) * s:=by
    rw[hm,hs,←hss,←hmm,Nat.add_sub_cancel,List.getD_eq_getElem?_getD,hat m (waJ _)];rfl
   have hz:=List.mem_of_getElem? (hat m (waJ _));have hzb:=h1 _ hz;have hs1:1≤s:=by omega
   have hpos:s≤(m:Int) * s:=by
    have:=Int.mul_le_mul_of_nonneg_right (show(1:Int)≤(m:Int) by omega) (show 0≤s by omega)
    omega
   have hl:zq7 ⟨a,a+(m:Int) * s,s⟩:=⟨a0,by show a≤a+(m:Int) * s;omega,hzb.2,hs1,by
    show(a+(m:Int) * s - a)%s=0;rw[show a+(m:Int) * s - a=(m:Int) * s by omega,Int.mul_emod_left]⟩
   rw[hlast,hs,←hss,hm,hs,←hss,←hmm];refine⟨⟨hl,.inr (by show s≤a+(m:Int) * s - a;omega)⟩,?_,by show 1≤m+1;omega⟩
   unfold zhL zdT;rw[if_pos hl];dsimp only;rw[show a+(m:Int) * s - a=(m:Int) * s by omega,Int.mul_ediv_cancel _ (show s≠0 by omega)]
   have e:((m:Int)+1).toNat=m+1:=by omega
   rw[e];have hlen:m+1≤(a::b::l).length:=by
    have:=(waI.1 (hat m (waJ _))).1;omega
   apply List.ext_getElem?;intro k
   by_cases hk:k<m+1
   ·rw[List.getElem?_map,List.getElem?_range hk,List.getElem?_take_of_lt hk,hat k (by omega)];rfl
   ·rw[List.getElem?_eq_none (by simp;omega),List.getElem?_eq_none (by rw[List.length_take];omega)]
theorem zoR {l r:List Int} (h:zci none l=true) (hs:r.Sublist l):zci none r=true:=by
 obtain⟨h1,h2,_⟩:=zfd.1 h;exact zfd.2 ⟨fun x hx=>h1 x (hs.subset hx),h2.sublist hs,fun y hy=>by cases hy⟩
theorem zgO:∀(k:Nat) (l:List Int),l.length≤k→zci none l=true→(zcl k l).flatMap zhL=l∧∀p∈zcl k l,znc p
 |0,l,hk,h=>by
  have:l=[]:=List.length_eq_zero_iff.1 oQ;subst this;simp[zcl]
 |k+1,[],_,_=>by simp[zcl]
 |k+1,a::l,hk,h=>by
  obtain⟨h1,h2,h3⟩:=znd h;obtain⟨h4,h5⟩:=zgO k ((a::l).drop (za7 a l).2) (by simp only[List.length_drop,waG] at hk ⊢;omega) (zoR h (List.drop_sublist _ _))
  unfold zcl;refine⟨?_,fun p hp=>?_⟩
  ·rw[List.flatMap_cons,h4,h2,List.take_append_drop]
  ·rcases List.mem_cons.1 hp with rfl|hp
   ·exact h1
   ·exact h5 p hp
theorem zdD {l:List Int} (h:zci none l=true):(zb5 l).flatMap zhL=l∧∀p∈zb5 l,znc p:=by
 unfold zb5;rw[if_pos h];exact zgO _ _ (waJ _) h
theorem zfe {p:Pc} (h:zq7 p) {x:Int}:x∈zhL p↔p.f≤x∧x≤p.t∧(x - p.f)%p.s=0:=by
 obtain⟨h0,h1,h2,h3,h4⟩:=h;have hd:(p.t - p.f) / p.s * p.s=p.t - p.f:=Int.ediv_mul_cancel (Int.dvd_of_emod_eq_zero h4);have hq:0≤(p.t - p.f) / p.s:=Int.ediv_nonneg oQ oQ;unfold zhL zdT;rw[if_pos ⟨h0,h1,h2,h3,h4⟩,List.mem_map];constructor
 ·rintro ⟨k,hk,rfl⟩;have hk:=wbG.1 hk;have h5:(k:Int) * p.s≤(p.t - p.f) / p.s * p.s:=Int.mul_le_mul_of_nonneg_right oQ oQ;have h6:0≤(k:Int) * p.s:=Int.mul_nonneg oQ oQ;refine⟨by omega,by omega,?_⟩
  rw[show p.f+(k:Int) * p.s - p.f=(k:Int) * p.s by omega,Int.mul_emod_left]
 ·rintro ⟨h5,h6,h7⟩;have he:(x - p.f) / p.s * p.s=x - p.f:=Int.ediv_mul_cancel (Int.dvd_of_emod_eq_zero h7);have hk0:0≤(x - p.f) / p.s:=Int.ediv_nonneg oQ oQ;have hk1:(x - p.f) / p.s≤(p.t - p.f) / p.s:=Int.ediv_le_ediv oQ oQ;refine⟨((x - p.f) / p.s).toNat,wbG.2 oQ,?_⟩;rw[show ((((x - p.f) / p.s).toNat:Nat):Int)=(x - p.f) / p.s by omega,he]
  omega
theorem zoS {p:Pc} (h:znc p) {lo hi:Int} (h0:0≤lo) (h1:lo≤p.f) (h2:p.t≤hi) (h3:hi≤999):zbo (itP p) lo hi=true:=by
 obtain⟨⟨g0,g1,g2,g3,g4⟩,g5⟩:=h;unfold zbo itP;split
 ·exact waP ⟨h0,by omega,by omega,.inr (.inl ⟨rfl,h1,by show p.f≤hi;omega,rfl,rfl⟩)⟩
 ·exact waP ⟨h0,by omega,by omega,.inr (.inr (.inl ⟨rfl,h1,by show p.f≤hi;omega,by show lo≤p.t;omega,h2,g1,g3,by show p.s≤999;omega⟩))⟩
theorem zoT {p:Pc} (h:znc p) {lo hi:Int} (h0:0≤lo) (h1:lo≤p.f) (h2:p.t≤hi) (h3:hi≤999) (n:Int):zdU lo hi n (itP p)=decide (n∈zhL p):=by
 unfold zdU;rw[zoS h h0 h1 h2 h3,Bool.true_and];unfold zgp;rw[wbH,zfe h.1];unfold itP;split
 ·rename_i e;obtain⟨⟨g0,g1,g2,g3,g4⟩,g5⟩:=h;have hft:p.t=p.f:=by
   unfold zdT at e;rw[if_pos ⟨g0,g1,g2,g3,g4⟩] at e;have hd:(p.t - p.f) / p.s * p.s=p.t - p.f:=Int.ediv_mul_cancel (Int.dvd_of_emod_eq_zero g4);rw[show (p.t - p.f) / p.s=0 by omega] at hd
   omega
  show(bF ⟨1,p.f,0,0⟩ lo≤n∧n≤bT ⟨1,p.f,0,0⟩ hi∧(n - bF ⟨1,p.f,0,0⟩ lo)%bS ⟨1,p.f,0,0⟩=0)↔_;simp only[bF,bT,bS];constructor
  ·rintro ⟨a,b,c⟩;have a:p.f≤n:=a;have b:n≤p.f:=b;obtain rfl:n=p.f:=by omega
   exact⟨by omega,by omega,by simp⟩
  ·rintro ⟨a,b,c⟩;obtain rfl:n=p.f:=by omega
   refine⟨?_,?_,?_⟩<;>simp
 ·show(bF ⟨2,p.f,p.t,p.s⟩ lo≤n∧n≤bT ⟨2,p.f,p.t,p.s⟩ hi∧(n - bF ⟨2,p.f,p.t,p.s⟩ lo)%bS ⟨2,p.f,p.t,p.s⟩=0)↔_;simp only[bF,bT,bS];exact Iff.rfl
structure Numb (lo hi:Int) (l:List Int):Prop where
 lo0:0≤lo
 hi9:hi≤999
 le:lo≤hi
 bd:∀x∈l,lo≤x∧x≤hi
 up:l.Pairwise (·< ·)
theorem Numb.may {lo hi:Int} {l:List Int} (h:Numb lo hi l):zci none l=true:=zfd.2 ⟨fun x hx=>by
 have:=h.bd x hx;have:=h.lo0;have:=h.hi9;omega,h.up,fun y hy=>by cases hy⟩
theorem Numb.piece {lo hi:Int} {l:List Int} (h:Numb lo hi l) {p:Pc} (hp:p∈zb5 l):znc p∧lo≤p.f∧p.t≤hi∧∀x∈zhL p,x∈l:=by
 obtain⟨h1,h2⟩:=zdD h.may;have hg:=h2 p hp;have hsub:∀x∈zhL p,x∈l:=fun x hx=>by rw[←h1];exact List.mem_flatMap.2 ⟨p,hp,hx⟩
 obtain⟨g0,g1,g2,g3,g4⟩:=hg.1;have hf:=h.bd _ (hsub p.f ((zfe hg.1).2 ⟨Int.le_refl _,g1,by simp⟩))
 have ht:=h.bd _ (hsub p.t ((zfe hg.1).2 ⟨g1,Int.le_refl _,g4⟩));exact⟨hg,hf.1,ht.2,hsub⟩
theorem zrd {lo hi:Int} {l:List Int} (h:Numb lo hi l) (hc:zb5 l=[⟨lo,hi,1⟩]) (n:Int):n∈l↔lo≤n∧n≤hi:=by
 obtain⟨h1,h2⟩:=zdD h.may;rw[hc] at h1 h2;have hg:=h2 ⟨lo,hi,1⟩ (by simp)
 rw[←h1,List.flatMap_singleton,zfe hg.1];simp[Int.emod_one]
theorem zoU {lo hi:Int} {l:List Int} (h:Numb lo hi l) (S:Bool) (n:Int):inB (zab lo hi l S) lo hi n=decide (n∈l):=by
 unfold zab;split
 ·rename_i hc;rw[waQ,waM,zrd h hc.2];unfold inB zdU;have hm:zbo ⟨0,0,0,1⟩ lo hi=true:=waP ⟨h.lo0,h.le,by have:=h.hi9;omega,.inl ⟨rfl,rfl,rfl,by decide,by decide⟩⟩
  simp only[List.any_cons,List.any_nil,Bool.or_false,hm,Bool.true_and,zgp,bF,bT,bS,waM];simp
 ·rw[waQ,waM];unfold inB;rw[List.any_map,List.any_eq_true];obtain⟨h1,h2⟩:=zdD h.may;constructor
  ·rintro ⟨p,hp,hn⟩;obtain⟨hg,hf,ht,hsub⟩:=h.piece hp;have hn:zdU lo hi n (itP p)=true:=hn;rw[zoT hg h.lo0 hf ht h.hi9,waM] at hn;exact hsub n hn
  ·intro hn;rw[←h1] at hn;obtain⟨p,hp,hx⟩:=List.mem_flatMap.1 hn;obtain⟨hg,hf,ht,hsub⟩:=h.piece hp;refine⟨p,hp,?_⟩;show zdU lo hi n (itP p)=true;rw[zoT hg h.lo0 hf ht h.hi9,waM];exact hx
theorem zjJ {lo hi:Int} {l:List Int} (h:Numb lo hi l) (S:Bool):((zab lo hi l S).length=0↔l=[])∧(zab lo hi l S).length≤l.length:=by
 obtain⟨h1,h2⟩:=zdD h.may;have hn:zb5 l=[]↔l=[]:=by
  constructor
  ·intro e;rw[←h1,e];rfl
  ·rintro rfl;rfl
 unfold zab;split
 ·rename_i hc;have hne:l≠[]:=fun e=>by rw[hn.2 e] at hc;cases hc.2
  have:0<l.length:=List.length_pos_iff.2 hne;exact⟨⟨(fun e=>by cases e),fun e=>absurd e hne⟩,by simp only[waG,List.length_nil];omega⟩
 ·rw[List.length_map];exact⟨by rw[List.length_eq_zero_iff,hn],zhY l⟩
theorem zgP {lo hi:Int} {l:List Int} (h:Numb lo hi l) (S:Bool):∀i∈zab lo hi l S,zbo i lo hi=true∧i.k≠3:=by
 unfold zab;split
 ·intro i hi;rw[wbC] at hi;subst hi;exact⟨waP ⟨h.lo0,h.le,by have:=h.hi9;omega,.inl ⟨rfl,rfl,rfl,by decide,by decide⟩⟩,by decide⟩
 ·intro i hi;obtain⟨p,hp,rfl⟩:=List.mem_map.1 hi;obtain⟨hg,hf,ht,_⟩:=h.piece hp;refine⟨zoS hg h.lo0 hf ht h.hi9,?_⟩;unfold itP;split
  ·show(1:Int)≠3;decide
  ·show(2:Int)≠3;decide
theorem zc2 {lo hi:Int} (l:List Int):zbJ (zab lo hi l false)=false:=by
 unfold zab;rw[if_neg (by rintro ⟨h,_⟩;cases h)]
 cases zb5 l with
 |nil=>rfl
 |cons p ps=>
  show decide ((itP p).k=0)=false;unfold itP;split<;>rfl
end Go.Proofs.YtgedndlifiihkaaGreatDoor
namespace Go.Proofs.YtgedndlifiihkaaGreatDoor
open Go.Proofs.Tryz
open Go.RowKit
def zcJ (y:Int):Bool:=decide (y%4=0∧(y%100≠0∨y%400=0))
def zre (m:Int):Int:=if m=2 then 28 else if m=4∨m=6∨m=9∨m=11 then 30 else 31
def zbe (y m:Int):Int:=if m<1∨12<m then 0 else if m=2∧zcJ y=true then 29 else zre m
def zrf (y m d:Int):Bool:=decide (-1000000000≤y∧y≤1000000000∧1≤d∧d≤zbe y m)
def zbb (k:Int):Int:=365 * k+k / 4 - k / 100+k / 400
def gY (o:Int):Int:=o - o / 1460+o / 36524 - o / 146096
def yrs (o:Int):Int:=gY o / 365
theorem ztv {x:Int} (h0:0≤x) (h:x+1<146097):gY x≤gY (x+1):=by
 unfold gY
 by_cases e:x=146095
 ·subst e;decide
 ·have h1:x / 146096=0:=by omega
  have h2:(x+1) / 146096=0:=by omega
  rw[h1,h2];omega
theorem zoV {a b:Int} (h0:0≤a) (h:a≤b) (hb:b<146097):gY a≤gY b:=by
 obtain⟨d,rfl⟩:∃d:Nat,b=a+d:=⟨(b - a).toNat,by omega⟩
 clear h;induction d with
 |zero=>simp
 |succ d ih=>
  have h1:=ih oQ;have h2:=ztv (x:=a+(d:Int)) oQ oQ;rw[show a+((d+1:Nat):Int)=a+(d:Int)+1 by omega]
  omega
def zuS (k:Nat):Bool:=decide (365 * (k:Int)≤gY (zbb k)∧gY (zbb ((k:Int)+1) - 1)≤365 * (k:Int)+364∧0≤zbb k∧zbb ((k:Int)+1)≤146097)
theorem ztw:(List.range 400).all zuS=true:=by decide+kernel
theorem zl3 (o:Int) (h0:0≤o):∀K:Nat,o<zbb K→∃k:Nat,k<K∧zbb k≤o∧o<zbb ((k:Int)+1)
 |0,h=>by simp[zbb] at h;omega
 |K+1,h=>by
  by_cases h1:o<zbb K
  ·obtain⟨k,hk,h2⟩:=zl3 o h0 K h1;exact⟨k,by omega,h2⟩
  ·exact⟨K,by omega,by omega,by simpa using h⟩
theorem zl4 {o:Int} (h0:0≤o) (h1:o<146097):0≤yrs o∧yrs o<400∧zbb (yrs o)≤o∧o<zbb (yrs o+1):=by
 obtain⟨k,hk,h2,h3⟩:=zl3 o h0 400 (by simp[zbb];omega)
 have ha:=List.all_eq_true.1 ztw k (wbG.2 hk);unfold zuS at ha;rw[waM] at ha;obtain⟨a1,a2,a3,a4⟩:=ha;have m1:=zoV a3 h2 h1;have m2:=zoV h0 (show o≤zbb ((k:Int)+1) - 1 by omega) oQ
 have e:yrs o=(k:Int):=by unfold yrs;omega
 rw[e];exact⟨by omega,by omega,h2,h3⟩
def lft (o:Int):Int:=o - (yrs o * 365+yrs o / 4 - yrs o / 100)
theorem zoW {o:Int} (h0:0≤o) (h1:o<146097):lft o=o - zbb (yrs o)∧0≤lft o∧lft o≤365:=by
 obtain⟨a,b,c,d⟩:=zl4 h0 h1;unfold lft;generalize yrs o=k at *;have e0:k / 400=0:=by omega
 have e1:zbb k=k * 365+k / 4 - k / 100:=by unfold zbb;omega
 have e2:zbb (k+1)≤zbb k+366:=by
  by_cases hk:k=399
  ·subst hk;decide
  ·have:(k+1) / 400=0:=by omega
   unfold zbb;omega
 omega
def mm (o:Int):Int:=(5 * lft o+2) / 153
def dd (o:Int):Int:=lft o - (153 * mm o+2) / 5+1
def mon (o:Int):Int:=(mm o+2)%12+1
def zjK (n:Int):Int:=(n+719468) / 146097
def zbP (n:Int):Int:=(n+719468)%146097
def dD (n:Int):Int:=dd (zbP n)
def mD (n:Int):Int:=mon (zbP n)
def yD (n:Int):Int:=zjK n * 400+yrs (zbP n)+if mD n≤2 then 1 else 0
theorem zk7 {n:Int} (h:0≤n):0≤zbP n∧zbP n<146097:=by unfold zbP;omega
theorem zoX {n:Int} (h:0≤n) (h1:n<146097):4≤zjK n∧zjK n≤5:=by unfold zjK;omega
theorem zuT {o:Int} (h0:0≤lft o) (h1:lft o≤365):0≤mm o∧mm o≤11∧1≤dd o∧dd o≤31∧1≤mon o∧mon o≤12:=by
 unfold dd mon mm;omega
def zuU (l:Nat):Bool:=
 let m:=(5 * (l:Int)+2) / 153
 let d:=(l:Int) - (153 * m+2) / 5+1
 let mo:=(m+2)%12+1
 decide (1≤d∧1≤mo∧mo≤12∧(d≤zre mo∨l=365∧mo=2∧d=29))
theorem ztx:(List.range 366).all zuU=true:=by decide+kernel
theorem ziE {n:Int} (h:0≤n) (h1:n<146097):zrf (yD n) (mD n) (dD n)=true∧1969≤yD n∧yD n≤2401:=by
 obtain⟨o0,o1⟩:=zk7 h;obtain⟨e0,e1⟩:=zoX h h1;obtain⟨y0,y1,y2,y3⟩:=zl4 o0 o1;obtain⟨l0,l1,l2⟩:=zoW o0 o1;obtain⟨L,hL⟩:=wbD l1;have ha:=List.all_eq_true.1 ztx L (wbG.2 oQ);unfold zuU at ha;simp only[waM] at ha;have em:mm (zbP n)=(5 * (L:Int)+2) / 153:=by unfold mm;rw[hL]
 have ed:dd (zbP n)=(L:Int) - (153 * ((5 * (L:Int)+2) / 153)+2) / 5+1:=by unfold dd;rw[em,hL]
 have eo:mon (zbP n)=((5 * (L:Int)+2) / 153+2)%12+1:=by unfold mon;rw[em]
 rw[←eo,←ed] at ha;obtain⟨a1,a2,a3,a4⟩:=ha;have hyl:yD n=zjK n * 400+yrs (zbP n)+if mon (zbP n)≤2 then 1 else 0:=rfl
 have hy1:1969≤yD n∧yD n≤2401:=by
  rw[hyl];have hn:zjK n=4→3≤400:=fun _=>by decide
  by_cases he:zjK n=4
  ·have:zbP n=n+719468 - 584388:=by unfold zbP zjK at *;omega
   have hy:369≤yrs (zbP n):=by
    false_or_by_contra
    rename_i hc;have:zbb (yrs (zbP n)+1)≤zbb 369:=by unfold zbb;omega
    have e2:zbb 369=134774:=by decide
    omega
   split<;>omega
  ·split<;>omega
 refine⟨?_,hy1⟩;unfold zrf;refine waP ⟨by omega,by omega,a1,?_⟩
 show dd (zbP n)≤zbe (yD n) (mon (zbP n));unfold zbe;rw[if_neg (by omega)]
 rcases a4 with a4|⟨b1,b2,b3⟩
 ·split
  ·rename_i hq;have:zre (mon (zbP n))=28:=by rw[hq.1];rfl
   omega
  ·exact a4
 ·have hleap:zcJ (yD n)=true:=by
   have hl:zbb (yrs (zbP n)+1) - zbb (yrs (zbP n))=366:=by
    have hu:zbb (yrs (zbP n)+1) - zbb (yrs (zbP n))≤366:=by unfold zbb;omega
    omega
   have hq:(yrs (zbP n)+1)%4=0∧((yrs (zbP n)+1)%100≠0∨(yrs (zbP n)+1)%400=0):=by unfold zbb at hl;omega
   unfold zcJ;rw[hyl,if_pos (by omega)]
   exact waP ⟨by omega,by omega⟩
  rw[if_pos ⟨b2,hleap⟩,b3];decide
def jan (y:Int):Int:=365 * (y - 1970)+(y - 1) / 4 - (y - 1) / 100+(y - 1) / 400 - 477
def lpC (y:Int):Int:=if zcJ y=true then 1 else 0
def zuE (m:Int):Int:=if m=1 then 0 else if m=2 then 31 else if m=3 then 59 else if m=4 then 90 else if m=5 then 120 else if m=6 then 151 else if m=7 then 181 else if m=8 then 212 else if m=9 then 243 else if m=10 then 273 else if m=11 then 304 else if m=12 then 334 else 365
def zb6 (y m:Int):Int:=zuE m+if 2<m then lpC y else 0
theorem zsY (y:Int):lpC y=y / 4 - (y - 1) / 4 - (y / 100 - (y - 1) / 100)+(y / 400 - (y - 1) / 400):=by
 unfold lpC zcJ
 by_cases h:y%4=0∧(y%100≠0∨y%400=0)
 ·rw[if_pos (by simpa using h)];omega
 ·rw[if_neg (by simpa using h)];omega
theorem zl5 (y:Int):lpC y=0∨lpC y=1:=by unfold lpC;split<;>omega
theorem zff (y:Int):jan (y+1)=jan y+365+lpC y:=by
 rw[zsY];unfold jan;rw[show y+1 - 1=y by omega]
 omega
theorem zd5 {y m:Int} (h1:1≤m) (h2:m≤12):zb6 y (m+1)=zb6 y m+zbe y m:=by
 have hl:lpC y=if zcJ y=true then 1 else 0:=rfl
 obtain rfl|rfl|rfl|rfl|rfl|rfl|rfl|rfl|rfl|rfl|rfl|rfl:m=1∨m=2∨m=3∨m=4∨m=5∨m=6∨m=7∨m=8∨m=9∨m=10∨m=11∨m=12:=by omega
 all_goals (unfold zb6 zbe zre zuE;simp[hl];try(split<;>omega);try omega)
theorem zc3 (y:Int):zb6 y 1=0:=by unfold zb6 zuE;simp
theorem zey (y:Int):zb6 y 13=365+lpC y:=by unfold zb6 zuE;simp
def zsZ (l:Nat):Bool:=
 let m:=(5 * (l:Int)+2) / 153
 let d:=(l:Int) - (153 * m+2) / 5+1
 let mo:=(m+2)%12+1
 decide ((2<mo→(l:Int)+59=zuE mo+d - 1)∧(mo≤2→(l:Int) - 306=zuE mo+d - 1))
theorem zrg:(List.range 366).all zsZ=true:=by decide+kernel
theorem zc4 {n:Int} (h:0≤n) (h1:n<146097):n=jan (yD n)+zb6 (yD n) (mD n)+dD n - 1∧1≤mD n∧mD n≤12∧1≤dD n∧dD n≤zbe (yD n) (mD n):=by
 obtain⟨o0,o1⟩:=zk7 h;obtain⟨y0,y1,y2,y3⟩:=zl4 o0 o1;obtain⟨l0,l1,l2⟩:=zoW o0 o1;obtain⟨m0,m1,d0,d1,q0,q1⟩:=zuT l1 l2;obtain⟨hmay,_,_⟩:=ziE h h1;unfold zrf at hmay;rw[waM] at hmay;obtain⟨L,hL⟩:=wbD l1;have ha:=List.all_eq_true.1 zrg L (wbG.2 oQ);unfold zsZ at ha;simp only[waM] at ha;have em:mm (zbP n)=(5 * (L:Int)+2) / 153:=by unfold mm;rw[hL]
 have ed:dd (zbP n)=(L:Int) - (153 * ((5 * (L:Int)+2) / 153)+2) / 5+1:=by unfold dd;rw[em,hL]
 have eo:mon (zbP n)=((5 * (L:Int)+2) / 153+2)%12+1:=by unfold mon;rw[em]
 rw[←eo,←ed] at ha;have hD:dD n=dd (zbP n):=rfl;have hM:mD n=mon (zbP n):=rfl;have hn:n+719468=zjK n * 146097+zbP n:=by unfold zjK zbP;omega
 have hk4:yrs (zbP n) / 400=0:=by omega
 have hs:zbb (yrs (zbP n))=365 * yrs (zbP n)+yrs (zbP n) / 4 - yrs (zbP n) / 100:=by unfold zbb;omega
 have hmar:∀e k:Int,0≤k→k<400→jan (e * 400+k)+lpC (e * 400+k)+59=e * 146097+(365 * k+k / 4 - k / 100) - 719468:=by
  intro e k hk0 hk1;rw[zsY];unfold jan;omega
 have hm0:=hmar (zjK n) (yrs (zbP n)) y0 y1;refine⟨?_,by rw[hM];omega,by rw[hM];omega,by rw[hD];omega,hmay.2.2.2⟩
 rw[hD,hM]
 by_cases h2:mon (zbP n)≤2
 ·have hy:yD n=zjK n * 400+yrs (zbP n)+1:=by show _+(if mon (zbP n)≤2 then 1 else 0)=_;rw[if_pos h2]
  have hq:=ha.2 h2;rw[hy,zff];unfold zb6;rw[if_neg (by omega)]
  omega
 ·have hy:yD n=zjK n * 400+yrs (zbP n):=by show _+(if mon (zbP n)≤2 then 1 else 0)=_;rw[if_neg h2];omega
  have hq:=ha.1 oQ;rw[hy];unfold zb6;rw[if_pos (by omega)]
  omega
theorem zgv {a b:Int} (h:a≤b):jan a≤jan b:=by
 obtain⟨d,rfl⟩:∃d:Nat,b=a+d:=⟨(b - a).toNat,by omega⟩
 clear h;induction d with
 |zero=>simp
 |succ d ih=>
  have h1:=zff (a+d);have h2:=zl5 (a+d);rw[show a+((d+1:Nat):Int)=a+(d:Int)+1 by omega]
  omega
theorem zb7 {y m:Int} (h1:1≤m) (h2:m≤12):28≤zbe y m∧zbe y m≤31:=by
 unfold zbe zre
 repeat' split
 all_goals omega
theorem zbu {y a b:Int} (h1:1≤a) (h:a≤b) (h2:b≤13):zb6 y a≤zb6 y b:=by
 obtain⟨d,rfl⟩:∃d:Nat,b=a+d:=⟨(b - a).toNat,by omega⟩
 clear h;induction d with
 |zero=>simp
 |succ d ih=>
  have h3:=ih oQ;have h4:=zd5 (y:=y) (m:=a+d) oQ oQ;have h5:=zb7 (y:=y) (m:=a+d) oQ oQ;rw[show a+((d+1:Nat):Int)=a+(d:Int)+1 by omega]
  omega
theorem zgQ {n:Int} (h:0≤n) (h1:n<146097):jan (yD n)≤n∧n<jan (yD n+1)∧jan (yD n)+zb6 (yD n) (mD n)≤n∧n<jan (yD n)+zb6 (yD n) (mD n+1)∧1970≤yD n∧yD n≤2369:=by
 obtain⟨e,m1,m2,d1,d2⟩:=zc4 h h1;have a1:=zbu (y:=yD n) (a:=1) (b:=mD n) oQ m1 oQ;have a2:=zbu (y:=yD n) (a:=mD n+1) (b:=13) oQ oQ oQ;rw[zc3] at a1;rw[zey] at a2;have a3:=zd5 (y:=yD n) m1 m2;have a4:=zff (yD n);have b1:jan 1970=0:=by decide
 have b2:jan 2370=146097:=by decide
 have b3:1970≤yD n:=by
  false_or_by_contra
  have:=zgv (a:=yD n+1) (b:=1970) oQ;omega
 have b4:yD n≤2369:=by
  false_or_by_contra
  have:=zgv (a:=2370) (b:=yD n) oQ;omega
 omega
end Go.Proofs.YtgedndlifiihkaaGreatDoor
