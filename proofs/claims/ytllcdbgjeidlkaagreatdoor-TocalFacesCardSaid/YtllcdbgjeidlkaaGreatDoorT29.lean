/- A part of the proof: WValues -/
import Derived.Test.YtllcdbgjeidlkaaGreatDoorT28
import Derived.Test.YtllcdbgjeidlkaaGreatDoorT00
import Derived.ProofKit
import Derived.OpenShut
import Derived.ShutString
import Derived.ChangeOld
import Derived.Below
import Derived.Deep.Slices
import Derived.Deep.Fields
import Derived.Test.YtllcdbgjeidlkaaGreatDoorT01
import Derived.Test.YtllcdbgjeidlkaaGreatDoorT21
import Derived.Test.YtllcdbgjeidlkaaGreatDoorT09
import Derived.Test.YtllcdbgjeidlkaaGreatDoorT11
import Derived.Test.YtllcdbgjeidlkaaGreatDoorT08
set_option maxHeartbeats 80000000
set_option maxRecDepth 100000
set_option linter.unusedSimpArgs false
set_option linter.unusedVariables false
namespace Go.Proofs.YtllcdbgjeidlkaaGreatDoor
open Go.Proofs.Tryz
open Go.RowKit
def bF (i:It) (lo:Int):Int:=if i.k=0 then lo else i.f
def bT (i:It) (hi:Int):Int:=if i.k=1 then i.f else if i.k=2 then i.t else hi
def bS (i:It):Int:=if i.k=1 then 1 else i.s
theorem zlH (i:It) (lo hi:Int) (w:World):Calls prog 182 #[.agg #[.int .i64 i.k,.int .i64 i.f,.int .i64 i.t,.int .i64 i.s],.int .i64 lo,.int .i64 hi] w (Ret (.tuple #[.int .i64 (bF i lo),.int .i64 (bT i hi),.int .i64 (bS i)]) w):=by
 by_cases h0:i.k=0
 ·have h0':(i.k==0)=true:=by simpa using h0
  have e1:bF i lo=lo:=if_pos h0;have e2:bT i hi=hi:=by simp[bT,h0]
  have e3:bS i=i.s:=by simp[bS,h0]
  rw[e1,e2,e3];clear h0 e1 e2 e3;go_enter func182,ntmps182;go_wp2
  go_quiet (fail)
  go_wp2
  go_ret3
  exact⟨rfl,by exact zaE⟩
 have h0':(i.k==0)=false:=by simpa using h0
 have e1:bF i lo=i.f:=if_neg h0
 by_cases h1:i.k=1
 ·have h1':(i.k==1)=true:=by simpa using h1
  have e2:bT i hi=i.f:=if_pos h1;have e3:bS i=1:=if_pos h1;rw[e1,e2,e3];clear h0 h1 e1 e2 e3;go_enter func182,ntmps182;go_wp2
  go_quiet (fail)
  go_wp2
  go_ret3
  exact⟨rfl,by exact zaE⟩
 have h1':(i.k==1)=false:=by simpa using h1
 have e3:bS i=i.s:=if_neg h1
 by_cases h2:i.k=2
 ·have h2':(i.k==2)=true:=by simpa using h2
  have e2:bT i hi=i.t:=by simp[bT,h2]
  rw[e1,e2,e3];clear h0 h1 h2 e1 e2 e3;go_enter func182,ntmps182;go_wp2
  go_quiet (fail)
  go_wp2
  go_ret3
  exact⟨rfl,by exact zaE⟩
 ·have h2':(i.k==2)=false:=by simpa using h2
  have e2:bT i hi=hi:=by simp[bT,h1,h2]
  rw[e1,e2,e3];clear h0 h1 h2 e1 e2 e3;go_enter func182,ntmps182;go_wp2
  go_quiet (fail)
  go_wp2
  go_ret3
  exact⟨rfl,by exact zaE⟩
theorem zqM {i:It} {lo hi:Int} (h:zbK i lo hi=true):0<=bF i lo/\bF i lo<=bT i hi/\bT i hi<=9999/\1<=bS i/\bS i<=999:=by
 simp only[zbK,zwT,waM] at h;unfold bF bT bS;split<;>split<;>(try split)<;>omega
def itL (i:It) (lo hi:Int):List Int:=(List.range ((bT i hi - bF i lo) / bS i+1).toNat).map fun(k:Nat)=>bF i lo+(k:Int) * bS i
def zeF (lo hi:Int) (l:List It):List Int:=l.flatMap fun i=>if zbK i lo hi then itL i lo hi else []
theorem zqN {i:It} {lo hi:Int} (h:zbK i lo hi=true):(itL i lo hi).length<=10000:=by
 have hb:=zqM h;simp only[itL,List.length_map,List.length_range];have:(bT i hi - bF i lo) / bS i<=bT i hi - bF i lo:=Int.ediv_le_self _ oQ;omega
theorem zgs (lo hi:Int) (l:List It):(zeF lo hi l).length<=l.length * 10000:=by
 induction l with
 |nil=>simp [zeF]
 |cons i l ih=>
  simp only[zeF,List.flatMap_cons,waF,waG] at ih ⊢;have:(if zbK i lo hi=true then itL i lo hi else []).length<=10000:=by
   split
   ·exact zqN (by assumption)
   ·simp
  omega
theorem zkD (lo hi:Int) (l:List It) (i:It):zeF lo hi (l++[i])=zeF lo hi l++(if zbK i lo hi then itL i lo hi else []):=by simp[zeF]
def zlI (lo hi:Int) (l:List It):List Int:=Lib.compact ((zeF lo hi l).mergeSort fun x y=>decide (x<=y))
theorem zhb {B n:Nat} {w0 w w':World} {v:Value} {t:TypeId} {k:Nat} {xs:List Value} (h:w.ownsRow B t k v n xs) (hb:Below B w0 w) (hB:B<=w.heap.size) (hg:w.grownBy w' v.ownBlock):Below B w0 w':=by
 refine hb.grown hg hB ?_;intro b hb';rcases zbO h with ⟨h1,_⟩|⟨g,cap,h1,h2,h3⟩
 ·rw[h1] at hb';simp[Value.ownBlock] at hb'
 ·rw[h1] at hb';simp[Value.ownBlock] at hb';subst hb';exact h2
theorem zdB (l:List Int):(Lib.compact l).length<=l.length:=Lib.compact_length_le l
theorem zef (l:List Int):(l.mergeSort fun x y=>decide (x<=y)).length=l.length:=List.length_mergeSort ..
theorem zjh {w:World} {B g cap q:Nat} {l:List Int} (h:za8 w B (.slice (some ⟨g,0,none⟩) l.length cap) l):
 za8 (Go.Sort.putRow (Value.int .i64) (Sort.ahead w q) g 0 (Lib.compact l++List.replicate (l.length - (Lib.compact l).length) 0).toArray) B (.slice (some ⟨g,0,none⟩) (Lib.compact l).length cap) (Lib.compact l):=by
 have h1:=Lib.ownsRow_putRow (enc:=Value.int .i64) (q:=q) (k:=(Lib.compact l).length) (ys:=Lib.compact l++List.replicate (l.length - (Lib.compact l).length) 0) h (by have:=zdB l;simp;omega) (zdB l)
 rw[List.take_left' rfl] at h1;exact h1
theorem zok {w:World} {B g cap q:Nat} {os:Array Obj} {l:List Int} (h:za8 w B (.slice (some ⟨g,0,none⟩) l.length cap) l):
 za8 (Go.Sort.grow (Go.Sort.putRow (Value.int .i64) (Sort.ahead w q) g 0 (l.mergeSort fun x y=>decide (x<=y)).toArray) os) B (.slice (some ⟨g,0,none⟩) (l.mergeSort fun x y=>decide (x<=y)).length cap) (l.mergeSort fun x y=>decide (x<=y)):=by
 rcases h.2 with ⟨h0,_⟩|⟨g',cap',cur,hv,hg,hb,hn,hcap,hs,ht⟩
 ·cases h0
 cases hv;have h2:=ownsRow_sortedI (n:=q) (os:=os) (zef l) hg hb hn hcap hs;rw[<-zef] at h2;exact h2
theorem zif (lo hi:Int) (A:Option Addr) (n c:Nat) (l:List It) (w:World) (hA:zcV w A n l) (hn:n<=100000):
 Calls prog 119 #[.int .i64 lo,.int .i64 hi,.slice A n c] w (zuw (zlI lo hi l) w):=by
 have HL:Hid (l.length=n):=hA.1;obtain⟨i0,hi0,hz0,hz1,hz2⟩:=info_parts zgg;have HA:=waV hA;clear hA;go_enter func119,ntmps119;go_wp2
 go_loopw [7,16] (fun v i wr=>∃(vo:Value) (k:Nat),vo=v/\k<=n/\i=.int .i64 k/\Hid (za8 wr w.heap.size vo (zeF lo hi (l.take k)))/\Below w.heap.size w wr) (fun _ i _=>n - (intOf i).toNat)
 case atStart=>exact⟨_,0,rfl,waK _,rfl,World.ownsRow_nil _ _ _ _,waC _ _⟩
 case round=>
  obtain⟨vo,k,rfl,hk,rfl,HO,hb⟩:=hrel;have hsz:=hb.size
  by_cases hlt:k<n
  ·obtain⟨b,o,it,rfl,hbl,hx,c0,c1,c2,c3⟩:=zcV.at_ (HA.out.below hb (waJ _)) hlt
   have hlt':(k:Int)<(n:Int):=by omega
   have Hx:=waV hx;have hts:l.take (k+1)=l.take k++[it]:=by rw[List.take_add_one,hx];rfl
   have hlk:(l.take k).length=k:=List.length_take_of_le (by have:=HL.out;omega)
   have hrl:=zgs lo hi (l.take k);rw[hlk] at hrl;clear hx;cases hm:zbK it lo hi with
   |false=>
    have HE:Hid (zeF lo hi (l.take (k+1))=zeF lo hi (l.take k)):=by
     show _=_;rw[hts,zkD,hm];simp
    clear hts hrl hlk;have HM:=waV (fun W=>zlG it lo hi W)
    rw[hm] at HM;clear hm;go_wp2_with fail;refine(HM.out _).mono ?_;rintro e w1 ⟨rfl,hb1⟩;have hb2:Below wr.heap.size wr w1:=((waC _ wr).alloc (waJ _) _).trans (hb1.mono (by simp))
    go_wp2;go_roundw
    case rel=>exact⟨_,k+1,rfl,by omega,by go_num,by rw[HE.out];exact zak HO.out hb2,zaf hb hb2 hsz⟩
    case measure=>simp [intOf];omega
   |true=>
    have hbd:=zqM hm;have hil:=zqN hm;have HE:Hid (zeF lo hi (l.take (k+1))=zeF lo hi (l.take k)++itL it lo hi):=by
     show _=_;rw[hts,zkD,hm];simp
    have HM:=waV (fun W=>zlG it lo hi W)
    rw[hm] at HM;have HBd:=waV (fun W=>zlH it lo hi W)
    unfold itL at HE hil;generalize bF it lo=F at *;generalize bT it hi=T at *;generalize bS it=S at *;obtain⟨hF,hFT,hT,hS,hS9⟩:=hbd;have hq0:0<=(T - F) / S:=Int.ediv_nonneg oQ oQ;obtain⟨m,hmm⟩:∃m:Nat,(m:Int)=(T - F) / S+1:=⟨((T - F) / S+1).toNat,by omega⟩
    rw[<-hmm,Int.toNat_natCast] at HE hil;have hmul:((m:Int) - 1) * S<=T - F:=by
     rw[hmm,Int.add_sub_cancel];have:=Int.ediv_mul_le (T - F) (show S≠0 by omega)
     exact this
    simp only[List.length_map,List.length_range] at hil;have hmq:(T - F) / S+1=(m:Int):=hmm.symm;have HMM:=waV hmm;have hq1:(T - F) / S<=9999:=by omega
    clear hts hlk hm hmm;go_wp2_with fail;refine(HM.out _).mono ?_;rintro e w1 ⟨rfl,hb1⟩;obtain⟨hc1,hf1⟩:=zad hb1;have hb2:Below wr.heap.size wr w1:=((waC _ wr).alloc (waJ _) _).trans (hb1.mono (by simp))
    have hsz1:wr.heap.size<w1.heap.size:=by have:=hb1.size;simp at this;omega
    go_wp2_with fail;refine(HBd.out _).mono ?_;rintro e w2 ⟨rfl,hb3⟩;have hb4:=zaf hb2 hb3 hb2.size;have hb5:=zaf hb hb4 hsz;clear hc1 hf1;obtain⟨wo,rfl⟩:∃wo:World,wo=wr:=⟨_,rfl⟩;go_wp2
    go_loopw [7,39] (fun v i wq=>∃(vo:Value) (j:Nat),vo=v/\j<=m/\i=.int .i64 j/\Hid (za8 wq w.heap.size vo (zeF lo hi (l.take k)++((List.range j).map fun(k:Nat)=>F+(k:Int) * S)))/\Below w.heap.size w wq) (fun _ i _=>m - (intOf i).toNat)
    case atStart=>
     refine⟨_,0,rfl,waK _,rfl,?_,hb5⟩;show za8 _ _ _ _;rw[List.range_zero,List.map_nil,List.append_nil];exact zak HO.out hb4
    case round=>
     obtain⟨vq,j,rfl,hj,rfl,HQ,hbq⟩:=hrel;have hszq:=hbq.size;clear hb1 hb3 hb4 hb5 hb2 hb hsz1
     by_cases hlj:j<m
     ·have hlj':(j:Int)<(m:Int):=by omega
      have hm1:0<=(j:Int) * S:=Int.mul_nonneg oQ oQ;have hm2:(j:Int) * S<=((m:Int) - 1) * S:=Int.mul_le_mul_of_nonneg_right oQ oQ;have hm3:(j:Int) * S<=9999:=by omega
      clear hm2 hmul;have hnl:(zeF lo hi (l.take k)++((List.range j).map fun(k:Nat)=>F+(k:Int) * S)).length=(zeF lo hi (l.take k)).length+j:=by simp
      have HSN:Hid ((zeF lo hi (l.take k)++((List.range j).map fun(k:Nat)=>F+(k:Int) * S)).map (Value.int .i64)++[.int .i64 (F+(j:Int) * S)]=(zeF lo hi (l.take k)++((List.range (j+1)).map fun(k:Nat)=>F+(k:Int) * S)).map (Value.int .i64)):=by
       simp[Hid,List.range_succ]
      have HQ':Hid (wr.ownsRow w.heap.size 3 1 vq ((zeF lo hi (l.take k)).length+j) ((zeF lo hi (l.take k)++((List.range j).map fun(k:Nat)=>F+(k:Int) * S)).map (Value.int .i64))):=by
       show World.ownsRow _ _ _ _ _ _ _;rw[<-hnl];exact HQ.out
      have HNL:Hid ((zeF lo hi (l.take k)++((List.range (j+1)).map fun(k:Nat)=>F+(k:Int) * S)).length=(zeF lo hi (l.take k)).length+j+1):=by simp[Hid];omega
      clear hnl HQ;generalize (zeF lo hi (l.take k)++((List.range j).map fun(k:Nat)=>F+(k:Int) * S)).map (Value.int .i64)=xs at *
      generalize hL2:(zeF lo hi (l.take k)++((List.range (j+1)).map fun(k:Nat)=>F+(k:Int) * S))=L2 at *
      have HL2:=waV hL2;clear hL2;generalize (zeF lo hi (l.take k)).length=q at *
      go_wp2_with (at_builtin;refine wpList_append_own _ rfl _ _ 87 rfl w.heap.size 3 i0 (.int .i64 0) 1 8 underlying87 hi0 hz0 hz1 hz2 rfl dQ _ (q+j) xs rfl (HQ'.out.alloc _) ⟨wr.heap.size,0,none⟩ 1 1 [.int .i64 (F+(j:Int) * S)] rfl rfl ?c1 ?c2 ?c3 ?c4 ?c5 ?c6)
      case c1=>
       intro j' u hu;rcases j' with _|j'
       ·simp at hu;subst hu;exact zaa rfl rfl
       ·simp at hu
      case c2=>intro u hu;simp at hu;subst hu;rfl
      case c3=>simp only[maxLen];omega
      case c4=>omega
      case c5=>simp;omega
      case c6=>
       intro v' w' hown hg _;have HV:Hid (za8 w' w.heap.size v' L2):=by
        show World.ownsRow _ _ _ _ _ _ _;rw[HNL.out,<-HSN.out];exact hown
       have hbn:Below w.heap.size w w':=zhb (HQ'.out.alloc _) (hbq.alloc oQ _) (by simp;omega) hg
       clear hown hg;go_wp2;go_roundw
       case rel=>exact⟨_,j+1,rfl,by omega,by go_num,by rw[HL2.out];exact HV.out,hbn⟩
       case measure=>simp [intOf];omega
     ·obtain rfl:j=m:=by omega
      go_wp2;go_roundw
      case rel=>exact⟨_,k+1,rfl,by omega,by go_num,by rw[HE.out];exact HQ.out,hbq⟩
      case measure=>simp [intOf];omega
  ·obtain rfl:k=n:=by omega
   have HE:Hid (zeF lo hi (l.take k)=zeF lo hi l):=by
    show _=_;rw[List.take_of_length_le (by have:=HL.out;omega)]
   have hrl:=zgs lo hi l;have HO2:za8 wr w.heap.size vo (zeF lo hi l):=by rw[<-HE.out];exact HO.out
   rw[HL.out] at hrl;clear HO;have hRL:∃R,R=zeF lo hi l:=⟨_,rfl⟩;obtain⟨R,hR⟩:=hRL;have HV:Hid (zlI lo hi l=Lib.compact (R.mergeSort fun x y=>decide (x<=y))):=by rw[hR];rfl
   rw[<-hR] at HO2 hrl;clear hR HE;obtain⟨B,hB⟩:∃B,B=w.heap.size:=⟨_,rfl⟩
   by_cases h0:R.length=0
   ·obtain rfl:=List.length_eq_zero_iff.1 h0;obtain⟨A',c',rfl,-,-,-⟩:=za8.rd HO2;have HO:=waV HO2;clear HO2 h0;have e0:Lib.compact (([]:List Int).mergeSort fun x y=>decide (x<=y))=[]:=by simp[List.mergeSort];rfl
    rw[e0] at HV;clear e0;have H1:=waV (fun W=>Tryz.slices_Sort_int_none A' c' W)
    have H2:=waV (fun W=>Tryz.slices_Compact_int_empty A' c' W)
    go_wp2_with fail;refine(H1.out _).mono ?_;rintro e w1 ⟨rfl,rfl⟩;go_wp2_with fail;refine(H2.out _).mono ?_;rintro e w1 ⟨rfl,rfl⟩;go_wp2;go_ret;exact⟨_,rfl,by rw[HV.out];exact HO.out,hb⟩
   ·obtain⟨g,cap,rfl,hg,hgs,hc1,hc2,-,HH⟩:=Lib.holds_of_ownsRow HO2 (by
     rintro rfl;rcases zbO HO2 with ⟨_,h2⟩|⟨g,cap,h1,_⟩
     ·exact h0 h2
     ·cases h1)
    have HO:=waV HO2;have H1:=Tryz.slices_Sort_int g 0 cap R wr HH hgs oQ;have hsl:=zef R;have HS1:Hid (∀q os,za8 (Go.Sort.grow (Go.Sort.putRow (Value.int .i64) (Sort.ahead wr q) g 0 (R.mergeSort fun x y=>decide (x<=y)).toArray) os) w.heap.size (.slice (some ⟨g,0,none⟩) (R.mergeSort fun x y=>decide (x<=y)).length cap) (R.mergeSort fun x y=>decide (x<=y))):=fun q os=>zok HO2
    have HB1:Hid (∀q os,Below w.heap.size w (Go.Sort.grow (Go.Sort.putRow (Value.int .i64) (Sort.ahead wr q) g 0 (R.mergeSort fun x y=>decide (x<=y)).toArray) os)):=fun q os=>hb.grown (grownBy_sortedI _) hsz (fun b hb'=>by simp at hb';omega)
    clear HO2 HH HO;generalize (R.mergeSort fun x y=>decide (x<=y))=T at *
    have H1':=waV H1;clear H1;go_wp2_with fail;refine H1'.out.mono ?_;intro e w1 hp;have hp1:=hp.1;obtain⟨q,os,hw⟩:=hp.2;clear hp;subst hp1;have HT:=HS1.out q os;have HBT:=HB1.out q os;rw[<-hw] at HT HBT;clear HS1 HB1 H1' hw;obtain⟨g',cap',hv,_,_,_,_,_,HH⟩:=Lib.holds_of_ownsRow HT (by simp)
    cases hv;have H2:=waV (Tryz.slices_Compact_int g 0 cap T w1 HH oQ oQ);have HF:Hid (∀q,za8 _ _ _ _):=fun q=>zjh (q:=q) HT
    have HFB:Hid (∀q,Below w.heap.size w _):=fun q=>Lib.below_putRow (q:=q) (d:=(Lib.compact T++List.replicate (T.length - (Lib.compact T).length) 0).toArray) (enc:=Value.int .i64) HBT hg
    clear HH HT HBT;rw[hsl] at H2 HF HFB;go_wp2_with fail;refine H2.out.mono ?_;rintro e w2 ⟨rfl,q2,rfl⟩;go_wp2;go_ret;exact⟨_,rfl,by rw[HV.out];exact HF.out q2,HFB.out q2⟩
end Go.Proofs.YtllcdbgjeidlkaaGreatDoor
namespace Go.Proofs.YtllcdbgjeidlkaaGreatDoor
open Go.Proofs.Tryz
open Go.ChangeShapes Go.WideShapes Go.ChangeAt Go.RowKit Go.Deep
def zne (x:Int):Prop:=-9223372036854775808<=x/\x<=9223372036854775807
def It.wf (i:It):Prop:=zne i.k/\zne i.f/\zne i.t/\zne i.s
theorem zvZ {x:Int} (h:(Lit.int .i64 x).wf=true):zne x:=by simpa[Lit.wf,IntKind.min,IntKind.max,IntKind.signed,IntKind.bits,zne] using h
section
variable {H : Type} {enc : TypeId × Value -> H} {w : World} {base : Nat} {spare : Nat -> Bool} {held : Bool}
theorem ztk (b o j:Nat):(⟨b,o,none⟩:Addr).add j=⟨b,o+j,none⟩:=by
 unfold Addr.add;split
 ·subst_vars;rfl
 ·rfl
end
end Go.Proofs.YtllcdbgjeidlkaaGreatDoor
namespace Go.Proofs.YtllcdbgjeidlkaaGreatDoor
open Go.Proofs.Tryz
open Go.RowKit
def zqO (i:It) (lo hi n:Int):Bool:=decide (bF i lo<=n/\n<=bT i hi/\(n - bF i lo)%bS i=0)
theorem zqP {i:It} {lo hi n:Int} (h:zbK i lo hi=true):n∈itL i lo hi↔zqO i lo hi n=true:=by
 obtain⟨h1,h2,h3,h4,h5⟩:=zqM h;simp only[itL,zqO,waM,List.mem_map,wbG];generalize bF i lo=F at *;generalize bT i hi=T at *;generalize bS i=S at *;have hd:0<=(T - F) / S:=Int.ediv_nonneg oQ oQ;constructor
 ·rintro ⟨k,hk,rfl⟩;have hk':(k:Int)<=(T - F) / S:=by omega
  have:=Int.ediv_mul_le (T - F) (show S≠0 by omega)
  have h6:(k:Int) * S<=(T - F) / S * S:=Int.mul_le_mul_of_nonneg_right hk' oQ;have h7:0<=(k:Int) * S:=Int.mul_nonneg oQ oQ;refine⟨by omega,by omega,?_⟩
  rw[show F+(k:Int) * S - F=(k:Int) * S by omega]
  exact Int.mul_emod_left _ _
 ·rintro ⟨h6,h7,h8⟩;have h9:(n - F) / S * S=n - F:=by
   have:=Int.mul_ediv_add_emod (n - F) S;rw[h8,Int.mul_comm] at this;omega
  have h10:0<=(n - F) / S:=Int.ediv_nonneg oQ oQ;have h11:(n - F) / S<=(T - F) / S:=Int.ediv_le_ediv oQ oQ;refine⟨((n - F) / S).toNat,by omega,?_⟩
  rw[show ((((n - F) / S).toNat:Nat):Int)=(n - F) / S by omega,h9]
  omega
def zfr (lo hi n:Int) (i:It):Bool:=zbK i lo hi&&zqO i lo hi n
def inB (l:List It) (lo hi n:Int):Bool:=l.any (zfr lo hi n)
def zaC (l:List It) (lo hi:Int):List Int:=((List.range (min hi 9999 - max 0 lo+1).toNat).map fun(k:Nat)=>max 0 lo+(k:Int)).filter (inB l lo hi)
theorem zuT:∀{a b:List Int},a.Pairwise (·< ·)->b.Pairwise (·< ·)->(∀x,x∈a↔x∈b)->a=b
 |[],[],_,_,_=>rfl
 |[],y::b,_,_,h=>by have:=(h y).2 (by simp);simp at this
 |x::a,[],_,_,h=>by have:=(h x).1 (by simp);simp at this
 |x::a,y::b,ha,hb,h=>by
  have ha1:=List.pairwise_cons.1 ha;have hb1:=List.pairwise_cons.1 hb;have hxy:x=y:=by
   have h1:=(h x).1 (by simp)
   have h2:=(h y).2 (by simp)
   rcases List.mem_cons.1 h1 with h1|h1
   ·exact h1
   ·rcases List.mem_cons.1 h2 with h2|h2
    ·exact h2.symm
    ·have:=hb1.1 x h1;have:=ha1.1 y h2;omega
  subst hxy;congr 1;refine zuT ha1.2 hb1.2 fun z=>⟨fun hz=>?_,fun hz=>?_⟩
  ·rcases List.mem_cons.1 ((h z).1 (List.mem_cons_of_mem _ hz)) with rfl|h1
   ·exact absurd (ha1.1 z hz) oQ
   ·exact h1
  ·rcases List.mem_cons.1 ((h z).2 (List.mem_cons_of_mem _ hz)) with rfl|h1
   ·exact absurd (hb1.1 z hz) oQ
   ·exact h1
theorem zc6 (d:Array Int) (hd:∀i j,i<=j->j<d.size->d[i]!<=d[j]!):∀m,m<=d.size->
 (Lib.compactUpTo d m).Pairwise (·< ·)/\(∀x,x∈Lib.compactUpTo d m↔∃j,j<m/\d[j]! =x)
 |0,_=>by simp[Lib.compactUpTo]
 |m+1,hm=>by
  obtain⟨h1,h2⟩:=zc6 d hd m oQ;rw[Lib.compactUpTo_succ]
  by_cases hk:m=0\/d[m]!≠d[m - 1]!
  ·have hk':Lib.keeps d m=true:=by simp[Lib.keeps,hk]
   rw[if_pos hk'];refine⟨List.pairwise_append.2 ⟨h1,by simp,?_⟩,?_⟩
   ·intro a ha b hb;obtain rfl:b=d[m]!:=by simpa using hb
    obtain⟨j,hj,rfl⟩:=(h2 a).1 ha;have h3:=hd j (m - 1) oQ oQ;have h4:=hd (m - 1) m oQ oQ;rcases hk with hk|hk
    ·omega
    ·omega
   ·intro x;rw[wbB,h2];constructor
    ·rintro (⟨j,hj,rfl⟩|hx)
     ·exact⟨j,by omega,rfl⟩
     ·exact⟨m,by omega,(wbC.1 hx).symm⟩
    ·rintro ⟨j,hj,rfl⟩;rcases Nat.lt_or_eq_of_le (Nat.le_of_lt_succ hj) with h|rfl
     ·exact .inl ⟨j,h,rfl⟩
     ·exact .inr (by simp)
  ·have hk':¬Lib.keeps d m=true:=by simpa[Lib.keeps] using hk
   rw[if_neg hk',List.append_nil];refine⟨h1,fun x=>?_⟩
   rw[h2];constructor
   ·rintro ⟨j,hj,rfl⟩;exact⟨j,by omega,rfl⟩
   ·rintro ⟨j,hj,rfl⟩;rcases Nat.lt_or_eq_of_le (Nat.le_of_lt_succ hj) with h|rfl
    ·exact⟨j,h,rfl⟩
    ·have h5:j≠0:=fun e=>hk (.inl e)
     have h6:d[j]! =d[j - 1]!:=by
      rcases Classical.em (d[j]! =d[j - 1]!) with h|h
      ·exact h
      ·exact absurd (.inr h) hk
     exact⟨j - 1,by omega,h6.symm⟩
theorem zhG {l:List Int} (h:l.Pairwise (·<=·)):(Lib.compact l).Pairwise (·< ·)/\∀x,x∈Lib.compact l↔x∈l:=by
 have hd:∀i j,i<=j->j<l.toArray.size->l.toArray[i]!<=l.toArray[j]!:=by
  intro i j hij hj;have hj':j<l.length:=by simpa using hj
  rw[getElem!_pos l.toArray i (by simp;omega),getElem!_pos l.toArray j (by simp;omega)]
  simp only[List.getElem_toArray];rcases Nat.lt_or_eq_of_le hij with h1|rfl
  ·exact(List.pairwise_iff_getElem.1 h) i j oQ hj' h1
  ·exact Int.le_refl _
 obtain⟨h1,h2⟩:=zc6 l.toArray hd l.length (by simp)
 refine⟨h1,fun x=>(h2 x).trans ?_⟩
 rw[List.mem_iff_getElem];constructor
 ·rintro ⟨j,hj,rfl⟩;exact⟨j,hj,by rw[getElem!_pos l.toArray j (by simpa using hj)];simp⟩
 ·rintro ⟨j,hj,rfl⟩;exact⟨j,hj,by rw[getElem!_pos l.toArray j (by simpa using hj)];simp⟩
theorem zhc (lo hi:Int) (l:List It):(zlI lo hi l).Pairwise (·< ·)/\∀x,x∈zlI lo hi l↔inB l lo hi x=true:=by
 have hs:((zeF lo hi l).mergeSort fun x y=>decide (x<=y)).Pairwise (·<=·):=by
  have:=List.pairwise_mergeSort (le:=fun x y:Int=>decide (x<=y)) (fun a b c h1 h2=>by simp at *;omega) (fun a b=>by simp;omega) (zeF lo hi l)
  simpa using this
 obtain⟨h1,h2⟩:=zhG hs;refine⟨h1,fun x=>(h2 x).trans ?_⟩
 rw[List.mem_mergeSort];simp only[zeF,List.mem_flatMap,inB,List.any_eq_true,zfr,waN];constructor
 ·rintro ⟨i,hil,hx⟩
  by_cases hm:zbK i lo hi=true
  ·rw[if_pos hm] at hx;exact⟨i,hil,hm,(zqP hm).1 hx⟩
  ·rw[if_neg hm] at hx;simp at hx
 ·rintro ⟨i,hil,hm,hh⟩;exact⟨i,hil,by rw[if_pos hm];exact(zqP hm).2 hh⟩
theorem zlJ {i:It} {lo hi:Int} (h:zbK i lo hi=true):0<=lo/\lo<=bF i lo/\bT i hi<=hi/\hi<=9999:=by
 simp only[zbK,zwT,waM] at h;unfold bF bT;split<;>(try split)<;>(try split)<;>omega
theorem zcR (lo hi:Int) (l:List It):(zaC l lo hi).Pairwise (·< ·)/\∀x,x∈zaC l lo hi↔inB l lo hi x=true:=by
 constructor
 ·unfold zaC;refine List.Pairwise.filter _ ?_;rw[List.pairwise_map];refine List.Pairwise.imp ?_ List.pairwise_lt_range;intro a b h;omega
 ·intro x;unfold zaC;rw[List.mem_filter];constructor
  ·rintro ⟨_,h⟩;exact h
  ·intro h;refine⟨?_,h⟩;simp only[inB,List.any_eq_true,zfr,waN,zqO,waM] at h;obtain⟨i,_,hm,h1,h2,_⟩:=h;obtain⟨h3,h4,h5,h6⟩:=zlJ hm;rw[List.mem_map];exact⟨(x - max 0 lo).toNat,wbG.2 oQ,by omega⟩
theorem zuU (lo hi:Int) (l:List It):zlI lo hi l=zaC l lo hi:=
 zuT (zhc lo hi l).1 (zcR lo hi l).1 fun x=>((zhc lo hi l).2 x).trans ((zcR lo hi l).2 x).symm
theorem zkE (l:List Int) (n:Nat) (hn:n<64):zal l / 2^n%2=if(n:Int)∈l then 1 else 0:=by
 have h:=za9 (inL l) 64 n;rw[Nat.testBit_eq_decide_div_mod_eq] at h;have h2:(mkN (inL l) 64 / 2^n)%2=0\/(mkN (inL l) 64 / 2^n)%2=1:=by omega
 have h3:zal l / 2^n%2=(((mkN (inL l) 64 / 2^n)%2:Nat):Int):=by
  unfold zal
  push_cast
  rfl
 rw[h3];simp only[inL,hn,decide_true,Bool.true_and,wbH] at h;split
 ·rename_i hm;rw[h.2 hm];rfl
 ·rename_i hm;rcases h2 with h2|h2
  ·rw[h2];rfl
  ·exact absurd (h.1 h2) hm
end Go.Proofs.YtllcdbgjeidlkaaGreatDoor
namespace Go.Proofs.YtllcdbgjeidlkaaGreatDoor
open Go.Proofs.Tryz
theorem zfs {p:Option Int} {l:List Int}:zb8 p l=true↔(∀x∈l,0<=x/\x<=9999)/\l.Pairwise (·< ·)/\∀y,p=some y->∀x∈l,y<x:=by
 induction l generalizing p with
 |nil=>simp [zb8]
 |cons a l ih=>
  unfold zb8;rw[waN,waM,ih,List.pairwise_cons];constructor
  ·rintro ⟨⟨h0,h1,h2⟩,h3,h4,h5⟩;refine⟨fun x hx=>?_,⟨fun x hx=>h5 a rfl x hx,h4⟩,fun y hy x hx=>?_⟩
   ·rcases List.mem_cons.1 hx with rfl|hx
    ·exact⟨h0,h1⟩
    ·exact h3 x hx
   ·rcases List.mem_cons.1 hx with rfl|hx
    ·exact h2 y hy
    ·exact Int.lt_trans (h2 y hy) (h5 a rfl x hx)
  ·rintro ⟨h1,⟨h2,h3⟩,h4⟩;obtain⟨a0,a1⟩:=h1 a (by simp)
   refine⟨⟨a0,a1,fun y hy=>h4 y hy a (by simp)⟩,fun x hx=>h1 x (by simp[hx]),h3,?_⟩
   rintro y hy x hx;cases hy;exact h2 x hx
theorem zuV {s:Int}:∀(l:List Int) (a:Int) (k:Nat),k<=zjE s a l->(a::l)[k]?=some (a+(k:Int) * s)
 |_,a,0,_=>by simp
 |[],a,k+1,h=>by simp[zjE] at h
 |b::l,a,k+1,h=>by
  unfold zjE at h;split at h
  ·rename_i e;rw[List.getElem?_cons_succ,zuV (s:=s) l b k (by omega)]
   congr 1
   push_cast
   rw[Int.add_mul];omega
  ·omega
def zhH (p:Pc):List Int:=(List.range (zga p).toNat).map fun(k:Nat)=>p.f+(k:Int) * p.s
def zol (p:Pc):Prop:=zr9 p/\(p.s=1\/p.s<=p.t - p.f)
theorem zom {a:Int} {l:List Int} (h:zb8 none (a::l)=true):zol (zbb a l).1/\zhH (zbb a l).1=(a::l).take (zbb a l).2/\1<=(zbb a l).2:=by
 obtain⟨h1,h2,_⟩:=zfs.1 h;obtain⟨a0,a1⟩:=h1 a (by simp)
 unfold zbb;split
 ·have hl:zr9 ⟨a,a,1⟩:=⟨a0,Int.le_refl _,a1,Int.le_refl 1,by simp⟩
  refine⟨⟨hl,.inl rfl⟩,?_,waJ 1⟩;unfold zhH zga;rw[if_pos hl];simp
 ·rename_i hn;have hm:ze2 a l=zjE (zhy a l) a l+1:=rfl;obtain⟨m,hmm⟩:∃m,m=zjE (zhy a l) a l:=⟨_,rfl⟩;have hm1:1<=m:=by omega
  cases l with
  |nil=>simp [zjE] at hmm;omega
  |cons b l=>
   have hs:zhy a (b::l)=b - a:=rfl;have hb:a<b:=(List.pairwise_cons.1 h2).1 b (by simp)
   obtain⟨s,hss⟩:∃s,s=b - a:=⟨_,rfl⟩;rw[hs,<-hss] at hmm;have hat:=fun k hk=>zuV (s:=s) (b::l) a k hk
   rw[<-hmm] at hat;have hlast:(a::b::l).getD (ze2 a (b::l) - 1) 0=a+(m:Int) * s:=by
    rw[hm,hs,<-hss,<-hmm,Nat.add_sub_cancel,List.getD_eq_getElem?_getD,hat m (waJ _)];rfl
   have hz:=List.mem_of_getElem? (hat m (waJ _));have hzb:=h1 _ hz;have hs1:1<=s:=by omega
   have hpos:s<=(m:Int) * s:=by
    have:=Int.mul_le_mul_of_nonneg_right (show(1:Int)<=(m:Int) by omega) (show 0<=s by omega)
    omega
   have hl:zr9 ⟨a,a+(m:Int) * s,s⟩:=⟨a0,by show a<=a+(m:Int) * s;omega,hzb.2,hs1,by
    show(a+(m:Int) * s - a)%s=0;rw[show a+(m:Int) * s - a=(m:Int) * s by omega,Int.mul_emod_left]⟩
   rw[hlast,hs,<-hss,hm,hs,<-hss,<-hmm];refine⟨⟨hl,.inr (by show s<=a+(m:Int) * s - a;omega)⟩,?_,by show 1<=m+1;omega⟩
   unfold zhH zga;rw[if_pos hl];dsimp only;rw[show a+(m:Int) * s - a=(m:Int) * s by omega,Int.mul_ediv_cancel _ (show s≠0 by omega)]
   have e:((m:Int)+1).toNat=m+1:=by omega
   rw[e];have hlen:m+1<=(a::b::l).length:=by
    have:=(waI.1 (hat m (waJ _))).1;omega
   apply List.ext_getElem?;intro k
   by_cases hk:k<m+1
   ·rw[List.getElem?_map,List.getElem?_range hk,List.getElem?_take_of_lt hk,hat k (by omega)];rfl
   ·rw[List.getElem?_eq_none (by simp;omega),List.getElem?_eq_none (by rw[List.length_take];omega)]
theorem zqQ {l r:List Int} (h:zb8 none l=true) (hs:r.Sublist l):zb8 none r=true:=by
 obtain⟨h1,h2,_⟩:=zfs.1 h;exact zfs.2 ⟨fun x hx=>h1 x (hs.subset hx),h2.sublist hs,fun y hy=>by cases hy⟩
theorem zhd:∀(k:Nat) (l:List Int),l.length<=k->zb8 none l=true->(zca k l).flatMap zhH=l/\∀p∈zca k l,zol p
 |0,l,hk,h=>by
  have:l=[]:=List.length_eq_zero_iff.1 oQ;subst this;simp[zca]
 |k+1,[],_,_=>by simp[zca]
 |k+1,a::l,hk,h=>by
  obtain⟨h1,h2,h3⟩:=zom h;obtain⟨h4,h5⟩:=zhd k ((a::l).drop (zbb a l).2) (by simp only[List.length_drop,waG] at hk ⊢;omega) (zqQ h (List.drop_sublist _ _))
  unfold zca;refine⟨?_,fun p hp=>?_⟩
  ·rw[List.flatMap_cons,h4,h2,List.take_append_drop]
  ·rcases List.mem_cons.1 hp with rfl|hp
   ·exact h1
   ·exact h5 p hp
theorem zdC {l:List Int} (h:zb8 none l=true):(zcb l).flatMap zhH=l/\∀p∈zcb l,zol p:=by
 unfold zcb;rw[if_pos h];exact zhd _ _ (waJ _) h
theorem zft {p:Pc} (h:zr9 p) {x:Int}:x∈zhH p↔p.f<=x/\x<=p.t/\(x - p.f)%p.s=0:=by
 obtain⟨h0,h1,h2,h3,h4⟩:=h;have hd:(p.t - p.f) / p.s * p.s=p.t - p.f:=Int.ediv_mul_cancel (Int.dvd_of_emod_eq_zero h4);have hq:0<=(p.t - p.f) / p.s:=Int.ediv_nonneg oQ oQ;unfold zhH zga;rw[if_pos ⟨h0,h1,h2,h3,h4⟩,List.mem_map];constructor
 ·rintro ⟨k,hk,rfl⟩;have hk:=wbG.1 hk;have h5:(k:Int) * p.s<=(p.t - p.f) / p.s * p.s:=Int.mul_le_mul_of_nonneg_right oQ oQ;have h6:0<=(k:Int) * p.s:=Int.mul_nonneg oQ oQ;refine⟨by omega,by omega,?_⟩
  rw[show p.f+(k:Int) * p.s - p.f=(k:Int) * p.s by omega,Int.mul_emod_left]
 ·rintro ⟨h5,h6,h7⟩;have he:(x - p.f) / p.s * p.s=x - p.f:=Int.ediv_mul_cancel (Int.dvd_of_emod_eq_zero h7);have hk0:0<=(x - p.f) / p.s:=Int.ediv_nonneg oQ oQ;have hk1:(x - p.f) / p.s<=(p.t - p.f) / p.s:=Int.ediv_le_ediv oQ oQ;refine⟨((x - p.f) / p.s).toNat,wbG.2 oQ,?_⟩;rw[show ((((x - p.f) / p.s).toNat:Nat):Int)=(x - p.f) / p.s by omega,he]
  omega
theorem zqR {p:Pc} (h:zol p) {lo hi:Int} (h0:0<=lo) (h1:lo<=p.f) (h2:p.t<=hi) (h3:hi<=9999/\hi - lo<=999):zbK (itP p) lo hi=true:=by
 obtain⟨⟨g0,g1,g2,g3,g4⟩,g5⟩:=h;unfold zbK itP;split
 ·exact waP ⟨h0,by omega,by omega,.inr (.inl ⟨rfl,h1,by show p.f<=hi;omega,rfl,rfl⟩)⟩
 ·exact waP ⟨h0,by omega,by omega,.inr (.inr (.inl ⟨rfl,h1,by show p.f<=hi;omega,by show lo<=p.t;omega,h2,g1,g3,by show p.s<=999;omega⟩))⟩
theorem zqS {p:Pc} (h:zol p) {lo hi:Int} (h0:0<=lo) (h1:lo<=p.f) (h2:p.t<=hi) (h3:hi<=9999/\hi - lo<=999) (n:Int):zfr lo hi n (itP p)=decide (n∈zhH p):=by
 unfold zfr;rw[zqR h h0 h1 h2 h3,Bool.true_and];unfold zqO;rw[wbH,zft h.1];unfold itP;split
 ·rename_i e;obtain⟨⟨g0,g1,g2,g3,g4⟩,g5⟩:=h;have hft:p.t=p.f:=by
   unfold zga at e;rw[if_pos ⟨g0,g1,g2,g3,g4⟩] at e;have hd:(p.t - p.f) / p.s * p.s=p.t - p.f:=Int.ediv_mul_cancel (Int.dvd_of_emod_eq_zero g4);rw[show (p.t - p.f) / p.s=0 by omega] at hd
   omega
  show(bF ⟨1,p.f,0,0⟩ lo<=n/\n<=bT ⟨1,p.f,0,0⟩ hi/\(n - bF ⟨1,p.f,0,0⟩ lo)%bS ⟨1,p.f,0,0⟩=0)↔_;simp only[bF,bT,bS];constructor
  ·rintro ⟨a,b,c⟩;have a:p.f<=n:=a;have b:n<=p.f:=b;obtain rfl:n=p.f:=by omega
   exact⟨by omega,by omega,by simp⟩
  ·rintro ⟨a,b,c⟩;obtain rfl:n=p.f:=by omega
   refine⟨?_,?_,?_⟩<;>simp
 ·show(bF ⟨2,p.f,p.t,p.s⟩ lo<=n/\n<=bT ⟨2,p.f,p.t,p.s⟩ hi/\(n - bF ⟨2,p.f,p.t,p.s⟩ lo)%bS ⟨2,p.f,p.t,p.s⟩=0)↔_;simp only[bF,bT,bS];exact Iff.rfl
structure Numb (lo hi:Int) (l:List Int):Prop where
 lo0:0<=lo
 hi9:hi<=9999/\hi - lo<=999
 le:lo<=hi
 bd:∀x∈l,lo<=x/\x<=hi
 up:l.Pairwise (·< ·)
theorem Numb.may {lo hi:Int} {l:List Int} (h:Numb lo hi l):zb8 none l=true:=zfs.2 ⟨fun x hx=>by
 have:=h.bd x hx;have:=h.lo0;have:=h.hi9;omega,h.up,fun y hy=>by cases hy⟩
theorem Numb.piece {lo hi:Int} {l:List Int} (h:Numb lo hi l) {p:Pc} (hp:p∈zcb l):zol p/\lo<=p.f/\p.t<=hi/\∀x∈zhH p,x∈l:=by
 obtain⟨h1,h2⟩:=zdC h.may;have hg:=h2 p hp;have hsub:∀x∈zhH p,x∈l:=fun x hx=>by rw[<-h1];exact List.mem_flatMap.2 ⟨p,hp,hx⟩
 obtain⟨g0,g1,g2,g3,g4⟩:=hg.1;have hf:=h.bd _ (hsub p.f ((zft hg.1).2 ⟨Int.le_refl _,g1,by simp⟩))
 have ht:=h.bd _ (hsub p.t ((zft hg.1).2 ⟨g1,Int.le_refl _,g4⟩));exact⟨hg,hf.1,ht.2,hsub⟩
theorem ztl {lo hi:Int} {l:List Int} (h:Numb lo hi l) (hc:zcb l=[⟨lo,hi,1⟩]) (n:Int):n∈l↔lo<=n/\n<=hi:=by
 obtain⟨h1,h2⟩:=zdC h.may;rw[hc] at h1 h2;have hg:=h2 ⟨lo,hi,1⟩ (by simp)
 rw[<-h1,List.flatMap_singleton,zft hg.1];simp[Int.emod_one]
theorem zkF {lo hi:Int} {l:List Int} (h:Numb lo hi l) (S:Bool) (n:Int):inB (zae lo hi l S) lo hi n=decide (n∈l):=by
 unfold zae;split
 ·rename_i hc;rw[waQ,waM,ztl h hc.2];unfold inB zfr;have hm:zbK ⟨0,0,0,1⟩ lo hi=true:=waP ⟨h.lo0,h.le,by have:=h.hi9;omega,.inl ⟨rfl,rfl,rfl,by decide,by decide⟩⟩
  simp only[List.any_cons,List.any_nil,Bool.or_false,hm,Bool.true_and,zqO,bF,bT,bS,waM];simp
 ·rw[waQ,waM];unfold inB;rw[List.any_map,List.any_eq_true];obtain⟨h1,h2⟩:=zdC h.may;constructor
  ·rintro ⟨p,hp,hn⟩;obtain⟨hg,hf,ht,hsub⟩:=h.piece hp;have hn:zfr lo hi n (itP p)=true:=hn;rw[zqS hg h.lo0 hf ht h.hi9,waM] at hn;exact hsub n hn
  ·intro hn;rw[<-h1] at hn;obtain⟨p,hp,hx⟩:=List.mem_flatMap.1 hn;obtain⟨hg,hf,ht,hsub⟩:=h.piece hp;refine⟨p,hp,?_⟩;show zfr lo hi n (itP p)=true;rw[zqS hg h.lo0 hf ht h.hi9,waM];exact hx
theorem zqT {lo hi:Int} {l:List Int} (h:Numb lo hi l) (S:Bool):((zae lo hi l S).length=0↔l=[])/\(zae lo hi l S).length<=l.length:=by
 obtain⟨h1,h2⟩:=zdC h.may;have hn:zcb l=[]↔l=[]:=by
  constructor
  ·intro e;rw[<-h1,e];rfl
  ·rintro rfl;rfl
 unfold zae;split
 ·rename_i hc;have hne:l≠[]:=fun e=>by rw[hn.2 e] at hc;cases hc.2
  have:0<l.length:=List.length_pos_iff.2 hne;exact⟨⟨(fun e=>by cases e),fun e=>absurd e hne⟩,by simp only[waG,List.length_nil];omega⟩
 ·rw[List.length_map];exact⟨by rw[List.length_eq_zero_iff,hn],zfE l⟩
theorem zqU {lo hi:Int} {l:List Int} (h:Numb lo hi l) (S:Bool):∀i∈zae lo hi l S,zbK i lo hi=true/\i.k≠3:=by
 unfold zae;split
 ·intro i hi;rw[wbC] at hi;subst hi;exact⟨waP ⟨h.lo0,h.le,by have:=h.hi9;omega,.inl ⟨rfl,rfl,rfl,by decide,by decide⟩⟩,by decide⟩
 ·intro i hi;obtain⟨p,hp,rfl⟩:=List.mem_map.1 hi;obtain⟨hg,hf,ht,_⟩:=h.piece hp;refine⟨zqR hg h.lo0 hf ht h.hi9,?_⟩;unfold itP;split
  ·show(1:Int)≠3;decide
  ·show(2:Int)≠3;decide
noncomputable def mOf (Q:Nat->Prop):Nat:=mkN (fun k=>@decide (Q k) (Classical.propDecidable _)) 64
theorem zeg (Q:Nat->Prop):mOf Q<18446744073709551616:=zcI _ 64
theorem zb6 (Q:Nat->Prop) (k:Nat):(mOf Q).testBit k=true↔k<64/\Q k:=by
 unfold mOf;rw[za9];simp
theorem zf5 {m:Nat} {Q:Nat->Prop} (hm:m<18446744073709551616) (h:∀k,k<64->(m.testBit k=true↔Q k)):m=mOf Q:=by
 apply Nat.eq_of_testBit_eq;intro k;rw[waQ,zb6]
 by_cases hk:k<64
 ·rw[h k hk];simp[hk]
 ·have h64:m<2^k:=waD hm (Nat.pow_le_pow_right (n:=2) (i:=64) (j:=k) dQ oQ);rw[waX h64];simp[hk]
def zdD (P:Int->Nat->Bool) (n:Int) (s:Nat):Prop:=0<=n/\n<146097/\s<86400/\P n s=true
def zcy (P:Int->Nat->Bool) (n:Int):Prop:=∃s,zdD P n s
def zv0 (P Q:Int->Nat->Bool):Prop:=∀n s,0<=n->n<146097->s<86400->P n s=Q n s
theorem zcy.win {P:Int->Nat->Bool} {n:Int} (h:zcy P n):0<=n/\n<146097:=by
 obtain⟨s,a,b,_⟩:=h;exact⟨a,b⟩
noncomputable def zo0 (P:Int->Nat->Bool):Nat:=mOf fun k=>∃n s,zdD P n s/\s%60=k
noncomputable def zlK (P:Int->Nat->Bool):Nat:=mOf fun k=>∃n s,zdD P n s/\s / 60%60=k
noncomputable def zeT (P:Int->Nat->Bool):Nat:=mOf fun k=>∃n s,zdD P n s/\s / 3600=k
noncomputable def zhw (P:Int->Nat->Bool):Nat:=mOf fun k=>∃n,zcy P n/\mD n=(k:Int)
noncomputable def zhI (P:Int->Nat->Bool):Nat:=mOf fun k=>∃n,zcy P n/\dD n=(k:Int)
noncomputable def wkF (P:Int->Nat->Bool):Nat:=mOf fun k=>∃n,zcy P n/\wdD n=(k:Int)
def bkD (n:Int):Int:=zbt (yD n) (mD n) - dD n+1
def yI (n:Int):Nat:=7+((yD n - 1970) / 64).toNat
def yK (n:Int):Nat:=((yD n - 1970)%64).toNat
noncomputable def zr5 (P:Int->Nat->Bool):Nat:=mOf fun k=>∃n,zcy P n/\bkD n=(k:Int)
noncomputable def yrF (P:Int->Nat->Bool) (i:Nat):Nat:=mOf fun k=>∃n,zcy P n/\yD n=1970+64 * (i:Int)+(k:Int)
def zk6 (P:Int->Nat->Bool):Prop:=∃n,zcy P n
noncomputable def domW (P:Int->Nat->Bool):Nat:=mOf fun k=>(∃n,0<=n/\n<146097/\(∃n',zcy P n'/\mD n'=mD n)/\dD n=(k:Int))/\∀n,0<=n->n<146097->(∃n',zcy P n'/\mD n'=mD n)->dD n=(k:Int)->zcy P n
noncomputable def wkW (P:Int->Nat->Bool):Nat:=mOf fun k=>(1<=k/\k<=7)/\∀n,0<=n->n<146097->(∃n',zcy P n'/\mD n'=mD n)->wdD n=(k:Int)->zcy P n
end Go.Proofs.YtllcdbgjeidlkaaGreatDoor
namespace Go.Proofs.YtllcdbgjeidlkaaGreatDoor
open Go.Proofs.Tryz
open Go.RowKit
theorem ztm (c:Cl) (p:Int->Bool) (n:Int):zwL c p n=(((zbA (c.m 4) (dD n)&&zbA (c.m 6) (wdD n))||(c.or&&(zbA (c.m 4) (dD n)||zbA (c.m 6) (wdD n))))&&(zbA (c.m 3) (mD n)&&(zbA (c.m 5) (zbt (yD n) (mD n) - dD n+1)&&(zgb c.y (yD n - 1970)&&(zhZ c n&&p n))))):=rfl
theorem zbY (l:List Int) (n:Int):zbA (zal l) n=decide (0<=n/\n<64/\n∈l):=by
 unfold zbA;rw[wbH];constructor
 ·rintro ⟨h0,h1,h2⟩;refine⟨h0,h1,?_⟩;rw[zkE l n.toNat (by omega)] at h2
  split at h2
  ·rename_i h;rwa [Int.toNat_of_nonneg h0] at h
  ·cases h2
 ·rintro ⟨h0,h1,h2⟩;refine⟨h0,h1,?_⟩;rw[zkE l n.toNat (by omega),if_pos (by rwa [Int.toNat_of_nonneg h0])]
theorem zey (a b n:Int) (h0:0<=n) (h1:n<64):zbA (zas a b) n=decide (a<=n/\n<=b):=by
 unfold zas;rw[zbY,wbH,zbQ];omega
theorem zlL (p:Nat->Bool):∀k,mkN (fun i=>!p i) k=2^k - 1 - mkN p k
 |0=>rfl
 |k+1=>by
  have h:=zcI p k;rw[mkN,mkN,zlL p k,Nat.pow_succ];cases p k<;>simp<;>omega
theorem zhe {l m:List Int} (h:∀x,0<=x->x<64->x∈l->x∈m):zaz (zal l,zal m)=true:=by
 have hl:=zcZ l;have hm:=zcZ m;unfold zaz;rw[beq_iff_eq];show bits .andNot .u64 (zal l) (zal m)=0;rw[u64_andNot _ _ hl.1 hl.2 hm.1 hm.2];have e1:(zal l).toNat=mkN (inL l) 64:=by unfold zal;simp
 have e2:(zal m).toNat=mkN (inL m) 64:=by unfold zal;simp
 have e3:(18446744073709551615 - mkN (inL m) 64)=mkN (fun i=>!inL m i) 64:=(zlL _ 64).symm
 rw[e1,e2,e3,ziG];have e4:mkN (fun i=>inL l i&&!inL m i) 64=mkN (fun _=>false) 64:=zbe fun i hi=>by
  simp only[inL]
  by_cases hx:(i:Int)∈l
  ·simp[h (i:Int) (by omega) (by omega) hx]
  ·simp[hx]
 rw[e4,ze0];rfl
theorem zlM (l:List Int):M64 (zal l):=zcZ l
theorem ztn (a b:Int):M64 (zas a b):=zcZ _
theorem zcj {l:List Int} {a b:Int} (h:∀x,x∈l->a<=x/\x<=b):zaz (zal l,zas a b)=true:=
 zhe fun x _ _ hx=>by have:=h x hx;rw[zbQ];omega
theorem zeU (a b:Int):zaz (zas a b,zas a b)=true:=zhe fun _ _ _ h=>h
theorem zxA {l:List It} {lo hi x:Int} (h:inB l lo hi x=true):lo<=x/\x<=hi:=by
 simp only[inB,List.any_eq_true,zfr,waN,zqO,waM] at h;obtain⟨i,_,hm,h1,h2,_⟩:=h;obtain⟨h3,h4,h5,h6⟩:=zlJ hm;omega
theorem zfT {l:List It} {lo hi x:Int} (h:x∈zaC l lo hi):lo<=x/\x<=hi:=zxA (((zcR lo hi l).2 x).1 h)
theorem zdE {l:List It} {lo hi n:Int} (h0:0<=n) (h1:n<64):zbA (zal (zaC l lo hi)) n=inB l lo hi n:=by
 rw[zbY,waQ,waM,(zcR lo hi l).2 n];exact⟨fun h=>h.2.2,fun h=>⟨h0,h1,h⟩⟩
theorem zto {c:Cl} (h0:c.oi=0) (h1:c.ob=false) (h2:∀k,c.od k=0):zh0 c=true:=by
 unfold zh0 zvq;rw[if_pos h0];simp[h0,h1,h2]
theorem zqV (A B:Option Addr) (n m c d:Nat) (l r:List It) (w:World) (hA:zcV w A n l) (hB:zcV w B m r) (hn:n<=9223372036854775807) (hm:m<=9223372036854775807):
 Calls prog 22 #[.slice A n c,.slice B m d] w (ziA (.bool (zbU l r)) w):=by
 by_cases hnm:n=m
 ·have HL:Hid (l.length=n):=hA.1;have HR:Hid (r.length=n):=hnm▸hB.1;subst hnm;go_enter func22,ntmps22;go_wp2
  go_loopw [13] (fun i wr=>∃k j:Nat,k<=n/\i=.int .i64 k/\Hid (l.take k=r.take k)/\wr=w.drewN j) (fun i _=>n - (intOf i).toNat)
  case atStart=>exact⟨0,0,waK _,rfl,by simp[Hid],rfl⟩
  case round=>
   obtain⟨k,j,hk,rfl,htk,rfl⟩:=hrel
   by_cases hlt:k<n
   ·obtain⟨b,o,it,rfl,_,hi,c0,c1,c2,c3⟩:=zcV.at_ hA hlt
    obtain⟨b',o',it',rfl,_,hi',c0',c1',c2',c3'⟩:=zcV.at_ hB hlt
    have Hi:=waV hi;have Hi':=waV hi';have hlt':(k:Int)<(n:Int):=by omega
    have hne:=zwY it it';clear hi hi';go_wp2
    go_quiet (fail)
    go_wp2
    ·go_ret;have h:zux it it'=true:=by assumption
     exact⟨zab (znz Hi.out Hi'.out (zo3 h)).symm,_,World.drewN_drewN ..⟩
    ·have h:zux it it'=false:=by assumption
     go_roundw
     case rel=>exact⟨k+1,_,by omega,by go_num,zo4 htk.out Hi.out Hi'.out (zny h),rfl⟩
     case measure=>simp [intOf];omega
   ·obtain rfl:k=n:=by omega
    go_wp2;go_ret;refine⟨zab ?_,_,rfl⟩;have h1:l=r:=by
     have:=htk.out
     rwa [List.take_of_length_le (by have:=HL.out;omega),List.take_of_length_le (by have:=HR.out;omega)] at this
    simp[zbU,h1]
 ·have hne:((n:Int)==(m:Int))=false:=by simp;omega
  have hne2:((n:Int) !=(m:Int))=true:=by simp;omega
  have HS:Hid (zbU l r=false):=zla (by rw[hA.1,hB.1];exact hnm)
  go_enter func22,ntmps22;go_wp2;go_ret;exact⟨zab HS.out.symm,0,rfl⟩
end Go.Proofs.YtllcdbgjeidlkaaGreatDoor
