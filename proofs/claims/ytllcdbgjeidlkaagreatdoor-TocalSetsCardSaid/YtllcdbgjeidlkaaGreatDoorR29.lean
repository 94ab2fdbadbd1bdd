/- A part of the proof: WValues -/
import Derived.Test.YtllcdbgjeidlkaaGreatDoorR28
import Derived.Test.YtllcdbgjeidlkaaGreatDoorR00
import Derived.Test.YtllcdbgjeidlkaaGreatDoorRows
import Derived.ProofKit
import Derived.OpenShut
import Derived.ShutString
import Derived.ChangeOld
import Derived.Below
import Derived.Deep.Slices
import Derived.Deep.Fields
import Derived.Test.YtllcdbgjeidlkaaGreatDoorR01
import Derived.Test.YtllcdbgjeidlkaaGreatDoorR21
import Derived.Test.YtllcdbgjeidlkaaGreatDoorR09
import Derived.Test.YtllcdbgjeidlkaaGreatDoorR11
import Derived.Test.YtllcdbgjeidlkaaGreatDoorR08
set_option maxHeartbeats 80000000
set_option maxRecDepth 100000
set_option linter.unusedSimpArgs false
set_option linter.unusedVariables false
namespace Go.Proofs.YtllcdbgjeidlkaaGreatDoor
open Go.Proofs.Tryz
open Go.RowKit
def bF (i:It) (lo:Int):Int:=if i.k=0 then lo else i.f
def bT (i:It) (hi:Int):Int:=if i.k=1 then i.f else if i.k=2 then i.t else hi
def bS (i:It):Int:=if i.k=1 then 1 else i.s
theorem zlo (i:It) (lo hi:Int) (w:World):Calls prog 182 #[.agg #[.int .i64 i.k,.int .i64 i.f,.int .i64 i.t,.int .i64 i.s],.int .i64 lo,.int .i64 hi] w (Ret (.tuple #[.int .i64 (bF i lo),.int .i64 (bT i hi),.int .i64 (bS i)]) w):=by
 by_cases h0:i.k=0
 ·have h0':(i.k==0)=true:=by simpa using h0
  have e1:bF i lo=lo:=if_pos h0;have e2:bT i hi=hi:=by simp[bT,h0]
  have e3:bS i=i.s:=by simp[bS,h0]
  rw[e1,e2,e3];clear h0 e1 e2 e3;go_enter func182,ntmps182;go_wp2
  go_quiet (fail)
  go_wp2
  go_ret3
  exact⟨rfl,by exact zaB⟩
 have h0':(i.k==0)=false:=by simpa using h0
 have e1:bF i lo=i.f:=if_neg h0
 by_cases h1:i.k=1
 ·have h1':(i.k==1)=true:=by simpa using h1
  have e2:bT i hi=i.f:=if_pos h1;have e3:bS i=1:=if_pos h1;rw[e1,e2,e3];clear h0 h1 e1 e2 e3;go_enter func182,ntmps182;go_wp2
  go_quiet (fail)
  go_wp2
  go_ret3
  exact⟨rfl,by exact zaB⟩
 have h1':(i.k==1)=false:=by simpa using h1
 have e3:bS i=i.s:=if_neg h1
 by_cases h2:i.k=2
 ·have h2':(i.k==2)=true:=by simpa using h2
  have e2:bT i hi=i.t:=by simp[bT,h2]
  rw[e1,e2,e3];clear h0 h1 h2 e1 e2 e3;go_enter func182,ntmps182;go_wp2
  go_quiet (fail)
  go_wp2
  go_ret3
  exact⟨rfl,by exact zaB⟩
 ·have h2':(i.k==2)=false:=by simpa using h2
  have e2:bT i hi=hi:=by simp[bT,h1,h2]
  rw[e1,e2,e3];clear h0 h1 h2 e1 e2 e3;go_enter func182,ntmps182;go_wp2
  go_quiet (fail)
  go_wp2
  go_ret3
  exact⟨rfl,by exact zaB⟩
theorem zqm {i:It} {lo hi:Int} (h:zct i lo hi=true):0<=bF i lo/\bF i lo<=bT i hi/\bT i hi<=9999/\1<=bS i/\bS i<=999:=by
 simp only[zct,zv7,waM] at h;unfold bF bT bS;split<;>split<;>(try split)<;>omega
def itL (i:It) (lo hi:Int):List Int:=(List.range ((bT i hi - bF i lo) / bS i+1).toNat).map fun(k:Nat)=>bF i lo+(k:Int) * bS i
def zeF (lo hi:Int) (l:List It):List Int:=l.flatMap fun i=>if zct i lo hi then itL i lo hi else []
theorem zqn {i:It} {lo hi:Int} (h:zct i lo hi=true):(itL i lo hi).length<=10000:=by
 have hb:=zqm h;simp only[itL,List.length_map,List.length_range];have:(bT i hi - bF i lo) / bS i<=bT i hi - bF i lo:=Int.ediv_le_self _ oQ;omega
theorem zgh (lo hi:Int) (l:List It):(zeF lo hi l).length<=l.length * 10000:=by
 induction l with
 |nil=>simp [zeF]
 |cons i l ih=>
  simp only[zeF,List.flatMap_cons,waF,waG] at ih ⊢;have:(if zct i lo hi=true then itL i lo hi else []).length<=10000:=by
   split
   ·exact zqn (by assumption)
   ·simp
  omega
theorem zkf (lo hi:Int) (l:List It) (i:It):zeF lo hi (l++[i])=zeF lo hi l++(if zct i lo hi then itL i lo hi else []):=by simp[zeF]
def zlp (lo hi:Int) (l:List It):List Int:=Lib.compact ((zeF lo hi l).mergeSort fun x y=>decide (x<=y))
theorem zgY {B n:Nat} {w0 w w':World} {v:Value} {t:TypeId} {k:Nat} {xs:List Value} (h:w.ownsRow B t k v n xs) (hb:Below B w0 w) (hB:B<=w.heap.size) (hg:w.grownBy w' v.ownBlock):Below B w0 w':=by
 refine hb.grown hg hB ?_;intro b hb';rcases zbN h with ⟨h1,_⟩|⟨g,cap,h1,h2,h3⟩
 ·rw[h1] at hb';simp[Value.ownBlock] at hb'
 ·rw[h1] at hb';simp[Value.ownBlock] at hb';subst hb';exact h2
theorem zdD (l:List Int):(Lib.compact l).length<=l.length:=Lib.compact_length_le l
theorem zeg (l:List Int):(l.mergeSort fun x y=>decide (x<=y)).length=l.length:=List.length_mergeSort ..
theorem ziT {w:World} {B g cap q:Nat} {l:List Int} (h:za4 w B (.slice (some ⟨g,0,none⟩) l.length cap) l):
 za4 (Go.Sort.putRow (Value.int .i64) (Sort.ahead w q) g 0 (Lib.compact l++List.replicate (l.length - (Lib.compact l).length) 0).toArray) B (.slice (some ⟨g,0,none⟩) (Lib.compact l).length cap) (Lib.compact l):=by
 have h1:=Lib.ownsRow_putRow (enc:=Value.int .i64) (q:=q) (k:=(Lib.compact l).length) (ys:=Lib.compact l++List.replicate (l.length - (Lib.compact l).length) 0) h (by have:=zdD l;simp;omega) (zdD l)
 rw[List.take_left' rfl] at h1;exact h1
theorem zn0 {w:World} {B g cap q:Nat} {os:Array Obj} {l:List Int} (h:za4 w B (.slice (some ⟨g,0,none⟩) l.length cap) l):
 za4 (Go.Sort.grow (Go.Sort.putRow (Value.int .i64) (Sort.ahead w q) g 0 (l.mergeSort fun x y=>decide (x<=y)).toArray) os) B (.slice (some ⟨g,0,none⟩) (l.mergeSort fun x y=>decide (x<=y)).length cap) (l.mergeSort fun x y=>decide (x<=y)):=by
 rcases h.2 with ⟨h0,_⟩|⟨g',cap',cur,hv,hg,hb,hn,hcap,hs,ht⟩
 ·cases h0
 cases hv;have h2:=ownsRow_sortedI (n:=q) (os:=os) (zeg l) hg hb hn hcap hs;rw[<-zeg] at h2;exact h2
theorem zhX (lo hi:Int) (A:Option Addr) (n c:Nat) (l:List It) (w:World) (hA:zcP w A n l) (hn:n<=100000):
 Calls prog 119 #[.int .i64 lo,.int .i64 hi,.slice A n c] w (ztQ (zlp lo hi l) w):=by
 have HL:Hid (l.length=n):=hA.1;obtain⟨i0,hi0,hz0,hz1,hz2⟩:=info_parts zf5;have HA:=waV hA;clear hA;go_enter func119,ntmps119;go_wp2
 go_loopw [7,16] (fun v i wr=>∃(vo:Value) (k:Nat),vo=v/\k<=n/\i=.int .i64 k/\Hid (za4 wr w.heap.size vo (zeF lo hi (l.take k)))/\Below w.heap.size w wr) (fun _ i _=>n - (intOf i).toNat)
 case atStart=>exact⟨_,0,rfl,waK _,rfl,World.ownsRow_nil _ _ _ _,waC _ _⟩
 case round=>
  obtain⟨vo,k,rfl,hk,rfl,HO,hb⟩:=hrel;have hsz:=hb.size
  by_cases hlt:k<n
  ·obtain⟨b,o,it,rfl,hbl,hx,c0,c1,c2,c3⟩:=zcP.at_ (HA.out.below hb (waJ _)) hlt
   have hlt':(k:Int)<(n:Int):=by omega
   have Hx:=waV hx;have hts:l.take (k+1)=l.take k++[it]:=by rw[List.take_add_one,hx];rfl
   have hlk:(l.take k).length=k:=List.length_take_of_le (by have:=HL.out;omega)
   have hrl:=zgh lo hi (l.take k);rw[hlk] at hrl;clear hx;cases hm:zct it lo hi with
   |false=>
    have HE:Hid (zeF lo hi (l.take (k+1))=zeF lo hi (l.take k)):=by
     show _=_;rw[hts,zkf,hm];simp
    clear hts hrl hlk;have HM:=waV (fun W=>zln it lo hi W)
    rw[hm] at HM;clear hm;go_wp2_with fail;refine(HM.out _).mono ?_;rintro e w1 ⟨rfl,hb1⟩;have hb2:Below wr.heap.size wr w1:=((waC _ wr).alloc (waJ _) _).trans (hb1.mono (by simp))
    go_wp2;go_roundw
    case rel=>exact⟨_,k+1,rfl,by omega,by go_num,by rw[HE.out];exact zak HO.out hb2,zag hb hb2 hsz⟩
    case measure=>simp [intOf];omega
   |true=>
    have hbd:=zqm hm;have hil:=zqn hm;have HE:Hid (zeF lo hi (l.take (k+1))=zeF lo hi (l.take k)++itL it lo hi):=by
     show _=_;rw[hts,zkf,hm];simp
    have HM:=waV (fun W=>zln it lo hi W)
    rw[hm] at HM;have HBd:=waV (fun W=>zlo it lo hi W)
    unfold itL at HE hil;generalize bF it lo=F at *;generalize bT it hi=T at *;generalize bS it=S at *;obtain⟨hF,hFT,hT,hS,hS9⟩:=hbd;have hq0:0<=(T - F) / S:=Int.ediv_nonneg oQ oQ;obtain⟨m,hmm⟩:∃m:Nat,(m:Int)=(T - F) / S+1:=⟨((T - F) / S+1).toNat,by omega⟩
    rw[<-hmm,Int.toNat_natCast] at HE hil;have hmul:((m:Int) - 1) * S<=T - F:=by
     rw[hmm,Int.add_sub_cancel];have:=Int.ediv_mul_le (T - F) (show S≠0 by omega)
     exact this
    simp only[List.length_map,List.length_range] at hil;have hmq:(T - F) / S+1=(m:Int):=hmm.symm;have HMM:=waV hmm;have hq1:(T - F) / S<=9999:=by omega
    clear hts hlk hm hmm;go_wp2_with fail;refine(HM.out _).mono ?_;rintro e w1 ⟨rfl,hb1⟩;obtain⟨hc1,hf1⟩:=zac hb1;have hb2:Below wr.heap.size wr w1:=((waC _ wr).alloc (waJ _) _).trans (hb1.mono (by simp))
    have hsz1:wr.heap.size<w1.heap.size:=by have:=hb1.size;simp at this;omega
    go_wp2_with fail;refine(HBd.out _).mono ?_;rintro e w2 ⟨rfl,hb3⟩;have hb4:=zag hb2 hb3 hb2.size;have hb5:=zag hb hb4 hsz;clear hc1 hf1;obtain⟨wo,rfl⟩:∃wo:World,wo=wr:=⟨_,rfl⟩;go_wp2
    go_loopw [7,39] (fun v i wq=>∃(vo:Value) (j:Nat),vo=v/\j<=m/\i=.int .i64 j/\Hid (za4 wq w.heap.size vo (zeF lo hi (l.take k)++((List.range j).map fun(k:Nat)=>F+(k:Int) * S)))/\Below w.heap.size w wq) (fun _ i _=>m - (intOf i).toNat)
    case atStart=>
     refine⟨_,0,rfl,waK _,rfl,?_,hb5⟩;show za4 _ _ _ _;rw[List.range_zero,List.map_nil,List.append_nil];exact zak HO.out hb4
    case round=>
     obtain⟨vq,j,rfl,hj,rfl,HQ,hbq⟩:=hrel;have hszq:=hbq.size;clear hb1 hb3 hb4 hb5 hb2 hb hsz1
     by_cases hlj:j<m
     ·have hlj':(j:Int)<(m:Int):=by omega
      have hm1:0<=(j:Int) * S:=Int.mul_nonneg oQ oQ;have hm2:(j:Int) * S<=((m:Int) - 1) * S:=Int.mul_le_mul_of_nonneg_right oQ oQ;have hm3:(j:Int) * S<=9999:=by omega
      clear hm2 hmul;have hnl:(zeF lo hi (l.take k)++((List.range j).map fun(k:Nat)=>F+(k:Int) * S)).length=(zeF lo hi (l.take k)).length+j:=by simp
      have HSN:Hid ((zeF lo hi (l.take k)++((List.range j).map fun(k:Nat)=>F+(k:Int) * S)).map (Value.int .i64)++[.int .i64 (F+(j:Int) * S)]=(zeF lo hi (l.take k)++((List.range (j+1)).map fun(k:Nat)=>F+(k:Int) * S)).map (Value.int .i64)):=by
       simp[Hid,List.range_succ]
      have HQ':Hid (wr.ownsRow w.heap.size 3 1 vq ((zeF lo hi (l.take k)).length+j) ((zeF lo hi (l.take k)++((List.range j).map fun(k:Nat)=>F+(k:Int) * S)).map (Value.int .i64))):=by
       show World.ownsRow _ _ _ _ _ _ _;rw[<-hnl];exact HQ.out
      have HNL:Hid ((zeF lo hi (l.take k)++((List.range (j+1)).map fun(k:Nat)=>F+(k:Int) * S)).length=(zeF lo hi (l.take k)).length+j+1):=by simp[Hid];omega
      clear hnl HQ;generalize (zeF lo hi (l.take k)++((List.range j).map fun(k:Nat)=>F+(k:Int) * S)).map (Value.int .i64)=xs at *
      generalize hL2:(zeF lo hi (l.take k)++((List.range (j+1)).map fun(k:Nat)=>F+(k:Int) * S))=L2 at *
      have HL2:=waV hL2;clear hL2;generalize (zeF lo hi (l.take k)).length=q at *
      go_wp2_with (at_builtin;refine wpList_append_own _ rfl _ _ 87 rfl w.heap.size 3 i0 (.int .i64 0) 1 8 underlying87 hi0 hz0 hz1 hz2 rfl dQ _ (q+j) xs rfl (HQ'.out.alloc _) ⟨wr.heap.size,0,none⟩ 1 1 [.int .i64 (F+(j:Int) * S)] rfl rfl ?c1 ?c2 ?c3 ?c4 ?c5 ?c6)
      case c1=>
       intro j' u hu;rcases j' with _|j'
       ·simp at hu;subst hu;exact zaa rfl rfl
       ·simp at hu
      case c2=>intro u hu;simp at hu;subst hu;rfl
      case c3=>simp only[maxLen];omega
      case c4=>omega
      case c5=>simp;omega
      case c6=>
       intro v' w' hown hg _;have HV:Hid (za4 w' w.heap.size v' L2):=by
        show World.ownsRow _ _ _ _ _ _ _;rw[HNL.out,<-HSN.out];exact hown
       have hbn:Below w.heap.size w w':=zgY (HQ'.out.alloc _) (hbq.alloc oQ _) (by simp;omega) hg
       clear hown hg;go_wp2;go_roundw
       case rel=>exact⟨_,j+1,rfl,by omega,by go_num,by rw[HL2.out];exact HV.out,hbn⟩
       case measure=>simp [intOf];omega
     ·obtain rfl:j=m:=by omega
      go_wp2;go_roundw
      case rel=>exact⟨_,k+1,rfl,by omega,by go_num,by rw[HE.out];exact HQ.out,hbq⟩
      case measure=>simp [intOf];omega
  ·obtain rfl:k=n:=by omega
   have HE:Hid (zeF lo hi (l.take k)=zeF lo hi l):=by
    show _=_;rw[List.take_of_length_le (by have:=HL.out;omega)]
   have hrl:=zgh lo hi l;have HO2:za4 wr w.heap.size vo (zeF lo hi l):=by rw[<-HE.out];exact HO.out
   rw[HL.out] at hrl;clear HO;have hRL:∃R,R=zeF lo hi l:=⟨_,rfl⟩;obtain⟨R,hR⟩:=hRL;have HV:Hid (zlp lo hi l=Lib.compact (R.mergeSort fun x y=>decide (x<=y))):=by rw[hR];rfl
   rw[<-hR] at HO2 hrl;clear hR HE;obtain⟨B,hB⟩:∃B,B=w.heap.size:=⟨_,rfl⟩
   by_cases h0:R.length=0
   ·obtain rfl:=List.length_eq_zero_iff.1 h0;obtain⟨A',c',rfl,-,-,-⟩:=za4.rd HO2;have HO:=waV HO2;clear HO2 h0;have e0:Lib.compact (([]:List Int).mergeSort fun x y=>decide (x<=y))=[]:=by simp[List.mergeSort];rfl
    rw[e0] at HV;clear e0;have H1:=waV (fun W=>Tryz.slices_Sort_int_none A' c' W)
    have H2:=waV (fun W=>Tryz.slices_Compact_int_empty A' c' W)
    go_wp2_with fail;refine(H1.out _).mono ?_;rintro e w1 ⟨rfl,rfl⟩;go_wp2_with fail;refine(H2.out _).mono ?_;rintro e w1 ⟨rfl,rfl⟩;go_wp2;go_ret;exact⟨_,rfl,by rw[HV.out];exact HO.out,hb⟩
   ·obtain⟨g,cap,rfl,hg,hgs,hc1,hc2,-,HH⟩:=Lib.holds_of_ownsRow HO2 (by
     rintro rfl;rcases zbN HO2 with ⟨_,h2⟩|⟨g,cap,h1,_⟩
     ·exact h0 h2
     ·cases h1)
    have HO:=waV HO2;have H1:=Tryz.slices_Sort_int g 0 cap R wr HH hgs oQ;have hsl:=zeg R;have HS1:Hid (∀q os,za4 (Go.Sort.grow (Go.Sort.putRow (Value.int .i64) (Sort.ahead wr q) g 0 (R.mergeSort fun x y=>decide (x<=y)).toArray) os) w.heap.size (.slice (some ⟨g,0,none⟩) (R.mergeSort fun x y=>decide (x<=y)).length cap) (R.mergeSort fun x y=>decide (x<=y))):=fun q os=>zn0 HO2
    have HB1:Hid (∀q os,Below w.heap.size w (Go.Sort.grow (Go.Sort.putRow (Value.int .i64) (Sort.ahead wr q) g 0 (R.mergeSort fun x y=>decide (x<=y)).toArray) os)):=fun q os=>hb.grown (grownBy_sortedI _) hsz (fun b hb'=>by simp at hb';omega)
    clear HO2 HH HO;generalize (R.mergeSort fun x y=>decide (x<=y))=T at *
    have H1':=waV H1;clear H1;go_wp2_with fail;refine H1'.out.mono ?_;intro e w1 hp;have hp1:=hp.1;obtain⟨q,os,hw⟩:=hp.2;clear hp;subst hp1;have HT:=HS1.out q os;have HBT:=HB1.out q os;rw[<-hw] at HT HBT;clear HS1 HB1 H1' hw;obtain⟨g',cap',hv,_,_,_,_,_,HH⟩:=Lib.holds_of_ownsRow HT (by simp)
    cases hv;have H2:=waV (Tryz.slices_Compact_int g 0 cap T w1 HH oQ oQ);have HF:Hid (∀q,za4 _ _ _ _):=fun q=>ziT (q:=q) HT
    have HFB:Hid (∀q,Below w.heap.size w _):=fun q=>Lib.below_putRow (q:=q) (d:=(Lib.compact T++List.replicate (T.length - (Lib.compact T).length) 0).toArray) (enc:=Value.int .i64) HBT hg
    clear HH HT HBT;rw[hsl] at H2 HF HFB;go_wp2_with fail;refine H2.out.mono ?_;rintro e w2 ⟨rfl,q2,rfl⟩;go_wp2;go_ret;exact⟨_,rfl,by rw[HV.out];exact HF.out q2,HFB.out q2⟩
end Go.Proofs.YtllcdbgjeidlkaaGreatDoor
namespace Go.Proofs.YtllcdbgjeidlkaaGreatDoor
open Go.Proofs.Tryz
open Go.ChangeShapes Go.WideShapes Go.ChangeAt Go.RowKit Go.Deep
def zmS (x:Int):Prop:=-9223372036854775808<=x/\x<=9223372036854775807
def It.wf (i:It):Prop:=zmS i.k/\zmS i.f/\zmS i.t/\zmS i.s
theorem zvb {x:Int} (h:(Lit.int .i64 x).wf=true):zmS x:=by simpa[Lit.wf,IntKind.min,IntKind.max,IntKind.signed,IntKind.bits,zmS] using h
section
variable {H : Type} {enc : TypeId × Value -> H} {w : World} {base : Nat} {spare : Nat -> Bool} {held : Bool}
theorem zsI (b o j:Nat):(⟨b,o,none⟩:Addr).add j=⟨b,o+j,none⟩:=by
 unfold Addr.add;split
 ·subst_vars;rfl
 ·rfl
end
end Go.Proofs.YtllcdbgjeidlkaaGreatDoor
namespace Go.Proofs.YtllcdbgjeidlkaaGreatDoor
open Go.Proofs.Tryz
open Go.RowKit
def zuc (i:It) (lo hi n:Int):Bool:=decide (bF i lo<=n/\n<=bT i hi/\(n - bF i lo)%bS i=0)
theorem zqo {i:It} {lo hi n:Int} (h:zct i lo hi=true):n∈itL i lo hi↔zuc i lo hi n=true:=by
 obtain⟨h1,h2,h3,h4,h5⟩:=zqm h;simp only[itL,zuc,waM,List.mem_map,wbG];generalize bF i lo=F at *;generalize bT i hi=T at *;generalize bS i=S at *;have hd:0<=(T - F) / S:=Int.ediv_nonneg oQ oQ;constructor
 ·rintro ⟨k,hk,rfl⟩;have hk':(k:Int)<=(T - F) / S:=by omega
  have:=Int.ediv_mul_le (T - F) (show S≠0 by omega)
  have h6:(k:Int) * S<=(T - F) / S * S:=Int.mul_le_mul_of_nonneg_right hk' oQ;have h7:0<=(k:Int) * S:=Int.mul_nonneg oQ oQ;refine⟨by omega,by omega,?_⟩
  rw[show F+(k:Int) * S - F=(k:Int) * S by omega]
  exact Int.mul_emod_left _ _
 ·rintro ⟨h6,h7,h8⟩;have h9:(n - F) / S * S=n - F:=by
   have:=Int.mul_ediv_add_emod (n - F) S;rw[h8,Int.mul_comm] at this;omega
  have h10:0<=(n - F) / S:=Int.ediv_nonneg oQ oQ;have h11:(n - F) / S<=(T - F) / S:=Int.ediv_le_ediv oQ oQ;refine⟨((n - F) / S).toNat,by omega,?_⟩
  rw[show ((((n - F) / S).toNat:Nat):Int)=(n - F) / S by omega,h9]
  omega
def zkg (lo hi n:Int) (i:It):Bool:=zct i lo hi&&zuc i lo hi n
def inB (l:List It) (lo hi n:Int):Bool:=l.any (zkg lo hi n)
def zaC (l:List It) (lo hi:Int):List Int:=((List.range (min hi 9999 - max 0 lo+1).toNat).map fun(k:Nat)=>max 0 lo+(k:Int)).filter (inB l lo hi)
theorem zud:∀{a b:List Int},a.Pairwise (·< ·)->b.Pairwise (·< ·)->(∀x,x∈a↔x∈b)->a=b
 |[],[],_,_,_=>rfl
 |[],y::b,_,_,h=>by have:=(h y).2 (by simp);simp at this
 |x::a,[],_,_,h=>by have:=(h x).1 (by simp);simp at this
 |x::a,y::b,ha,hb,h=>by
  have ha1:=List.pairwise_cons.1 ha;have hb1:=List.pairwise_cons.1 hb;have hxy:x=y:=by
   have h1:=(h x).1 (by simp)
   have h2:=(h y).2 (by simp)
   rcases List.mem_cons.1 h1 with h1|h1
   ·exact h1
   ·rcases List.mem_cons.1 h2 with h2|h2
    ·exact h2.symm
    ·have:=hb1.1 x h1;have:=ha1.1 y h2;omega
  subst hxy;congr 1;refine zud ha1.2 hb1.2 fun z=>⟨fun hz=>?_,fun hz=>?_⟩
  ·rcases List.mem_cons.1 ((h z).1 (List.mem_cons_of_mem _ hz)) with rfl|h1
   ·exact absurd (ha1.1 z hz) oQ
   ·exact h1
  ·rcases List.mem_cons.1 ((h z).2 (List.mem_cons_of_mem _ hz)) with rfl|h1
   ·exact absurd (hb1.1 z hz) oQ
   ·exact h1
theorem zc1 (d:Array Int) (hd:∀i j,i<=j->j<d.size->d[i]!<=d[j]!):∀m,m<=d.size->
 (Lib.compactUpTo d m).Pairwise (·< ·)/\(∀x,x∈Lib.compactUpTo d m↔∃j,j<m/\d[j]! =x)
 |0,_=>by simp[Lib.compactUpTo]
 |m+1,hm=>by
  obtain⟨h1,h2⟩:=zc1 d hd m oQ;rw[Lib.compactUpTo_succ]
  by_cases hk:m=0\/d[m]!≠d[m - 1]!
  ·have hk':Lib.keeps d m=true:=by simp[Lib.keeps,hk]
   rw[if_pos hk'];refine⟨List.pairwise_append.2 ⟨h1,by simp,?_⟩,?_⟩
   ·intro a ha b hb;obtain rfl:b=d[m]!:=by simpa using hb
    obtain⟨j,hj,rfl⟩:=(h2 a).1 ha;have h3:=hd j (m - 1) oQ oQ;have h4:=hd (m - 1) m oQ oQ;rcases hk with hk|hk
    ·omega
    ·omega
   ·intro x;rw[wbB,h2];constructor
    ·rintro (⟨j,hj,rfl⟩|hx)
     ·exact⟨j,by omega,rfl⟩
     ·exact⟨m,by omega,(wbC.1 hx).symm⟩
    ·rintro ⟨j,hj,rfl⟩;rcases Nat.lt_or_eq_of_le (Nat.le_of_lt_succ hj) with h|rfl
     ·exact .inl ⟨j,h,rfl⟩
     ·exact .inr (by simp)
  ·have hk':¬Lib.keeps d m=true:=by simpa[Lib.keeps] using hk
   rw[if_neg hk',List.append_nil];refine⟨h1,fun x=>?_⟩
   rw[h2];constructor
   ·rintro ⟨j,hj,rfl⟩;exact⟨j,by omega,rfl⟩
   ·rintro ⟨j,hj,rfl⟩;rcases Nat.lt_or_eq_of_le (Nat.le_of_lt_succ hj) with h|rfl
    ·exact⟨j,h,rfl⟩
    ·have h5:j≠0:=fun e=>hk (.inl e)
     have h6:d[j]! =d[j - 1]!:=by
      rcases Classical.em (d[j]! =d[j - 1]!) with h|h
      ·exact h
      ·exact absurd (.inr h) hk
     exact⟨j - 1,by omega,h6.symm⟩
theorem zhp {l:List Int} (h:l.Pairwise (·<=·)):(Lib.compact l).Pairwise (·< ·)/\∀x,x∈Lib.compact l↔x∈l:=by
 have hd:∀i j,i<=j->j<l.toArray.size->l.toArray[i]!<=l.toArray[j]!:=by
  intro i j hij hj;have hj':j<l.length:=by simpa using hj
  rw[getElem!_pos l.toArray i (by simp;omega),getElem!_pos l.toArray j (by simp;omega)]
  simp only[List.getElem_toArray];rcases Nat.lt_or_eq_of_le hij with h1|rfl
  ·exact(List.pairwise_iff_getElem.1 h) i j oQ hj' h1
  ·exact Int.le_refl _
 obtain⟨h1,h2⟩:=zc1 l.toArray hd l.length (by simp)
 refine⟨h1,fun x=>(h2 x).trans ?_⟩
 rw[List.mem_iff_getElem];constructor
 ·rintro ⟨j,hj,rfl⟩;exact⟨j,hj,by rw[getElem!_pos l.toArray j (by simpa using hj)];simp⟩
 ·rintro ⟨j,hj,rfl⟩;exact⟨j,hj,by rw[getElem!_pos l.toArray j (by simpa using hj)];simp⟩
theorem zgZ (lo hi:Int) (l:List It):(zlp lo hi l).Pairwise (·< ·)/\∀x,x∈zlp lo hi l↔inB l lo hi x=true:=by
 have hs:((zeF lo hi l).mergeSort fun x y=>decide (x<=y)).Pairwise (·<=·):=by
  have:=List.pairwise_mergeSort (le:=fun x y:Int=>decide (x<=y)) (fun a b c h1 h2=>by simp at *;omega) (fun a b=>by simp;omega) (zeF lo hi l)
  simpa using this
 obtain⟨h1,h2⟩:=zhp hs;refine⟨h1,fun x=>(h2 x).trans ?_⟩
 rw[List.mem_mergeSort];simp only[zeF,List.mem_flatMap,inB,List.any_eq_true,zkg,waN];constructor
 ·rintro ⟨i,hil,hx⟩
  by_cases hm:zct i lo hi=true
  ·rw[if_pos hm] at hx;exact⟨i,hil,hm,(zqo hm).1 hx⟩
  ·rw[if_neg hm] at hx;simp at hx
 ·rintro ⟨i,hil,hm,hh⟩;exact⟨i,hil,by rw[if_pos hm];exact(zqo hm).2 hh⟩
theorem zlq {i:It} {lo hi:Int} (h:zct i lo hi=true):0<=lo/\lo<=bF i lo/\bT i hi<=hi/\hi<=9999:=by
 simp only[zct,zv7,waM] at h;unfold bF bT;split<;>(try split)<;>(try split)<;>omega
theorem zcM (lo hi:Int) (l:List It):(zaC l lo hi).Pairwise (·< ·)/\∀x,x∈zaC l lo hi↔inB l lo hi x=true:=by
 constructor
 ·unfold zaC;refine List.Pairwise.filter _ ?_;rw[List.pairwise_map];refine List.Pairwise.imp ?_ List.pairwise_lt_range;intro a b h;omega
 ·intro x;unfold zaC;rw[List.mem_filter];constructor
  ·rintro ⟨_,h⟩;exact h
  ·intro h;refine⟨?_,h⟩;simp only[inB,List.any_eq_true,zkg,waN,zuc,waM] at h;obtain⟨i,_,hm,h1,h2,_⟩:=h;obtain⟨h3,h4,h5,h6⟩:=zlq hm;rw[List.mem_map];exact⟨(x - max 0 lo).toNat,wbG.2 oQ,by omega⟩
theorem zue (lo hi:Int) (l:List It):zlp lo hi l=zaC l lo hi:=
 zud (zgZ lo hi l).1 (zcM lo hi l).1 fun x=>((zgZ lo hi l).2 x).trans ((zcM lo hi l).2 x).symm
theorem zkh (l:List Int) (n:Nat) (hn:n<64):zal l / 2^n%2=if(n:Int)∈l then 1 else 0:=by
 have h:=za5 (inL l) 64 n;rw[Nat.testBit_eq_decide_div_mod_eq] at h;have h2:(mkN (inL l) 64 / 2^n)%2=0\/(mkN (inL l) 64 / 2^n)%2=1:=by omega
 have h3:zal l / 2^n%2=(((mkN (inL l) 64 / 2^n)%2:Nat):Int):=by
  unfold zal
  push_cast
  rfl
 rw[h3];simp only[inL,hn,decide_true,Bool.true_and,wbH] at h;split
 ·rename_i hm;rw[h.2 hm];rfl
 ·rename_i hm;rcases h2 with h2|h2
  ·rw[h2];rfl
  ·exact absurd (h.1 h2) hm
end Go.Proofs.YtllcdbgjeidlkaaGreatDoor
namespace Go.Proofs.YtllcdbgjeidlkaaGreatDoor
open Go.Proofs.Tryz
noncomputable def mOf (Q:Nat->Prop):Nat:=mkN (fun k=>@decide (Q k) (Classical.propDecidable _)) 64
theorem zeK (Q:Nat->Prop):mOf Q<18446744073709551616:=zcF _ 64
theorem zlr (Q:Nat->Prop) (k:Nat):(mOf Q).testBit k=true↔k<64/\Q k:=by
 unfold mOf;rw[za5];simp
theorem zfS {m:Nat} {Q:Nat->Prop} (hm:m<18446744073709551616) (h:∀k,k<64->(m.testBit k=true↔Q k)):m=mOf Q:=by
 apply Nat.eq_of_testBit_eq;intro k;rw[waQ,zlr]
 by_cases hk:k<64
 ·rw[h k hk];simp[hk]
 ·have h64:m<2^k:=waD hm (Nat.pow_le_pow_right (n:=2) (i:=64) (j:=k) dQ oQ);rw[waX h64];simp[hk]
def zeG (P:Int->Nat->Bool) (n:Int) (s:Nat):Prop:=0<=n/\n<146097/\s<86400/\P n s=true
def zc8 (P:Int->Nat->Bool) (n:Int):Prop:=∃s,zeG P n s
def zvc (P Q:Int->Nat->Bool):Prop:=∀n s,0<=n->n<146097->s<86400->P n s=Q n s
theorem zc8.win {P:Int->Nat->Bool} {n:Int} (h:zc8 P n):0<=n/\n<146097:=by
 obtain⟨s,a,b,_⟩:=h;exact⟨a,b⟩
noncomputable def zsJ (P:Int->Nat->Bool):Nat:=mOf fun k=>∃n s,zeG P n s/\s%60=k
noncomputable def zqp (P:Int->Nat->Bool):Nat:=mOf fun k=>∃n s,zeG P n s/\s / 60%60=k
noncomputable def zg0 (P:Int->Nat->Bool):Nat:=mOf fun k=>∃n s,zeG P n s/\s / 3600=k
noncomputable def zki (P:Int->Nat->Bool):Nat:=mOf fun k=>∃n,zc8 P n/\mD n=(k:Int)
noncomputable def zn1 (P:Int->Nat->Bool):Nat:=mOf fun k=>∃n,zc8 P n/\dD n=(k:Int)
noncomputable def wkF (P:Int->Nat->Bool):Nat:=mOf fun k=>∃n,zc8 P n/\wdD n=(k:Int)
def bkD (n:Int):Int:=zbk (yD n) (mD n) - dD n+1
def yI (n:Int):Nat:=7+((yD n - 1970) / 64).toNat
def yK (n:Int):Nat:=((yD n - 1970)%64).toNat
noncomputable def zv2 (P:Int->Nat->Bool):Nat:=mOf fun k=>∃n,zc8 P n/\bkD n=(k:Int)
noncomputable def yrF (P:Int->Nat->Bool) (i:Nat):Nat:=mOf fun k=>∃n,zc8 P n/\yD n=1970+64 * (i:Int)+(k:Int)
def zls (P:Int->Nat->Bool):Prop:=∃n,zc8 P n
noncomputable def domW (P:Int->Nat->Bool):Nat:=mOf fun k=>(∃n,0<=n/\n<146097/\(∃n',zc8 P n'/\mD n'=mD n)/\dD n=(k:Int))/\∀n,0<=n->n<146097->(∃n',zc8 P n'/\mD n'=mD n)->dD n=(k:Int)->zc8 P n
noncomputable def wkW (P:Int->Nat->Bool):Nat:=mOf fun k=>(1<=k/\k<=7)/\∀n,0<=n->n<146097->(∃n',zc8 P n'/\mD n'=mD n)->wdD n=(k:Int)->zc8 P n
end Go.Proofs.YtllcdbgjeidlkaaGreatDoor
namespace Go.Proofs.YtllcdbgjeidlkaaGreatDoor
open Go.Proofs.Tryz
open Go.RowKit
theorem zsK (c:Cl) (p:Int->Bool) (n:Int):zvY c p n=(((zbz (c.m 4) (dD n)&&zbz (c.m 6) (wdD n))||(c.or&&(zbz (c.m 4) (dD n)||zbz (c.m 6) (wdD n))))&&(zbz (c.m 3) (mD n)&&(zbz (c.m 5) (zbk (yD n) (mD n) - dD n+1)&&(zfX c.y (yD n - 1970)&&(zhG c n&&p n))))):=rfl
theorem zbW (l:List Int) (n:Int):zbz (zal l) n=decide (0<=n/\n<64/\n∈l):=by
 unfold zbz;rw[wbH];constructor
 ·rintro ⟨h0,h1,h2⟩;refine⟨h0,h1,?_⟩;rw[zkh l n.toNat (by omega)] at h2
  split at h2
  ·rename_i h;rwa [Int.toNat_of_nonneg h0] at h
  ·cases h2
 ·rintro ⟨h0,h1,h2⟩;refine⟨h0,h1,?_⟩;rw[zkh l n.toNat (by omega),if_pos (by rwa [Int.toNat_of_nonneg h0])]
theorem zey (a b n:Int) (h0:0<=n) (h1:n<64):zbz (zas a b) n=decide (a<=n/\n<=b):=by
 unfold zas;rw[zbW,wbH,zbO];omega
theorem zlt (p:Nat->Bool):∀k,mkN (fun i=>!p i) k=2^k - 1 - mkN p k
 |0=>rfl
 |k+1=>by
  have h:=zcF p k;rw[mkN,mkN,zlt p k,Nat.pow_succ];cases p k<;>simp<;>omega
theorem zg1 {l m:List Int} (h:∀x,0<=x->x<64->x∈l->x∈m):zaz (zal l,zal m)=true:=by
 have hl:=zcT l;have hm:=zcT m;unfold zaz;rw[beq_iff_eq];show bits .andNot .u64 (zal l) (zal m)=0;rw[u64_andNot _ _ hl.1 hl.2 hm.1 hm.2];have e1:(zal l).toNat=mkN (inL l) 64:=by unfold zal;simp
 have e2:(zal m).toNat=mkN (inL m) 64:=by unfold zal;simp
 have e3:(18446744073709551615 - mkN (inL m) 64)=mkN (fun i=>!inL m i) 64:=(zlt _ 64).symm
 rw[e1,e2,e3,zii];have e4:mkN (fun i=>inL l i&&!inL m i) 64=mkN (fun _=>false) 64:=zbb fun i hi=>by
  simp only[inL]
  by_cases hx:(i:Int)∈l
  ·simp[h (i:Int) (by omega) (by omega) hx]
  ·simp[hx]
 rw[e4,zeX];rfl
theorem zlu (l:List Int):M64 (zal l):=zcT l
theorem zsL (a b:Int):M64 (zas a b):=zcT _
theorem zce {l:List Int} {a b:Int} (h:∀x,x∈l->a<=x/\x<=b):zaz (zal l,zas a b)=true:=
 zg1 fun x _ _ hx=>by have:=h x hx;rw[zbO];omega
theorem zeR (a b:Int):zaz (zas a b,zas a b)=true:=zg1 fun _ _ _ h=>h
theorem zwQ {l:List It} {lo hi x:Int} (h:inB l lo hi x=true):lo<=x/\x<=hi:=by
 simp only[inB,List.any_eq_true,zkg,waN,zuc,waM] at h;obtain⟨i,_,hm,h1,h2,_⟩:=h;obtain⟨h3,h4,h5,h6⟩:=zlq hm;omega
theorem zfH {l:List It} {lo hi x:Int} (h:x∈zaC l lo hi):lo<=x/\x<=hi:=zwQ (((zcM lo hi l).2 x).1 h)
theorem zdE {l:List It} {lo hi n:Int} (h0:0<=n) (h1:n<64):zbz (zal (zaC l lo hi)) n=inB l lo hi n:=by
 rw[zbW,waQ,waM,(zcM lo hi l).2 n];exact⟨fun h=>h.2.2,fun h=>⟨h0,h1,h⟩⟩
theorem zsM {c:Cl} (h0:c.oi=0) (h1:c.ob=false) (h2:∀k,c.od k=0):zhH c=true:=by
 unfold zhH zuE;rw[if_pos h0];simp[h0,h1,h2]
theorem zqq (A B:Option Addr) (n m c d:Nat) (l r:List It) (w:World) (hA:zcP w A n l) (hB:zcP w B m r) (hn:n<=9223372036854775807) (hm:m<=9223372036854775807):
 Calls prog 22 #[.slice A n c,.slice B m d] w (zid (.bool (zbS l r)) w):=by
 by_cases hnm:n=m
 ·have HL:Hid (l.length=n):=hA.1;have HR:Hid (r.length=n):=hnm▸hB.1;subst hnm;go_enter func22,ntmps22;go_wp2
  go_loopw [13] (fun i wr=>∃k j:Nat,k<=n/\i=.int .i64 k/\Hid (l.take k=r.take k)/\wr=w.drewN j) (fun i _=>n - (intOf i).toNat)
  case atStart=>exact⟨0,0,waK _,rfl,by simp[Hid],rfl⟩
  case round=>
   obtain⟨k,j,hk,rfl,htk,rfl⟩:=hrel
   by_cases hlt:k<n
   ·obtain⟨b,o,it,rfl,_,hi,c0,c1,c2,c3⟩:=zcP.at_ hA hlt
    obtain⟨b',o',it',rfl,_,hi',c0',c1',c2',c3'⟩:=zcP.at_ hB hlt
    have Hi:=waV hi;have Hi':=waV hi';have hlt':(k:Int)<(n:Int):=by omega
    have hne:=zwc it it';clear hi hi';go_wp2
    go_quiet (fail)
    go_wp2
    ·go_ret;have h:ztR it it'=true:=by assumption
     exact⟨zab (znf Hi.out Hi'.out (zoG h)).symm,_,World.drewN_drewN ..⟩
    ·have h:ztR it it'=false:=by assumption
     go_roundw
     case rel=>exact⟨k+1,_,by omega,by go_num,zoH htk.out Hi.out Hi'.out (zne h),rfl⟩
     case measure=>simp [intOf];omega
   ·obtain rfl:k=n:=by omega
    go_wp2;go_ret;refine⟨zab ?_,_,rfl⟩;have h1:l=r:=by
     have:=htk.out
     rwa [List.take_of_length_le (by have:=HL.out;omega),List.take_of_length_le (by have:=HR.out;omega)] at this
    simp[zbS,h1]
 ·have hne:((n:Int)==(m:Int))=false:=by simp;omega
  have hne2:((n:Int) !=(m:Int))=true:=by simp;omega
  have HS:Hid (zbS l r=false):=zkO (by rw[hA.1,hB.1];exact hnm)
  go_enter func22,ntmps22;go_wp2;go_ret;exact⟨zab HS.out.symm,0,rfl⟩
def zwR (l:Nat->List It) (t:Int):Bool:=
 inC t&&(decide (t%86400%60=0)&&(inB (l 0) 0 59 (t%86400 / 60%60)&&(inB (l 1) 0 23 (t%86400 / 3600)&&(inB (l 3) 1 12 (mD (t / 86400))&&
 (if zv9 (l 2)||zv9 (l 4) then inB (l 2) 1 31 (dD (t / 86400))&&(inB (l 4) 0 7 (wdD (t / 86400))||(decide (wdD (t / 86400)=7)&&inB (l 4) 0 7 0))
  else inB (l 2) 1 31 (dD (t / 86400))||(inB (l 4) 0 7 (wdD (t / 86400))||(decide (wdD (t / 86400)=7)&&inB (l 4) 0 7 0)))))))
end Go.Proofs.YtllcdbgjeidlkaaGreatDoor
namespace Go.Proofs.YtllcdbgjeidlkaaGreatDoor
open Go.Proofs.Tryz
def zb7 (m:Nat):List Int:=(zam m).map fun(k:Nat)=>(k:Int)
theorem ziU (m:Nat):(zb7 m).length<65:=by
 unfold zb7;rw[List.length_map];exact Nat.lt_succ_of_le (zdy m)
def BdM (lo hi:Nat) (m:Nat):Prop:=∀k,k<64->m.testBit k=true->lo<=k/\k<=hi
def zv3 (w:Nat):Nat:=mkN (fun k=>if k=0 then w.testBit 0||w.testBit 7 else decide (k≠7)&&w.testBit k) 64
def zwS (m j:Nat):Nat:=mkN (fun k=>decide (k≠j)&&m.testBit k) 64
def zdQ (mo:Nat):Int:=(zam mo).foldl (fun(a:Int) (m:Nat)=>max a (zbk 2000 (m:Int))) 0
theorem zsN {mo:Nat} {d:Int} (h0:1<=d) (h:d<=zdQ mo):∃m∈zam mo,d<=zbk 2000 (m:Int):=by
 unfold zdQ at h;have:∀(l:List Nat) (a:Int),d<=l.foldl (fun(a:Int) (m:Nat)=>max a (zbk 2000 (m:Int))) a->d<=a\/∃m∈l,d<=zbk 2000 (m:Int):=by
  intro l;induction l with
  |nil=>intro a h;exact .inl h
  |cons b l ih=>
   intro a h;rw[List.foldl_cons] at h;rcases ih _ h with h|⟨m,hm,h⟩
   ·by_cases hb:d<=zbk 2000 (b:Int)
    ·exact .inr ⟨b,by simp,hb⟩
    ·exact .inl oQ
   ·exact .inr ⟨m,by simp[hm],h⟩
 rcases this _ 0 h with h|h
 ·omega
 ·exact h
def zoD (mo d:Nat):Bool:=(List.range 32).all fun k=>!decide (1<=k/\(k:Int)<=zdQ mo)||d.testBit k
def zqr (w:Nat):Bool:=(List.range 7).all fun k=>(zv3 w).testBit k
def zuf (mi ho mo:Nat) (day week:List It) (k:Nat):List It:=
 if k=0 then zaj 0 59 (zb7 mi) true else if k=1 then zaj 0 23 (zb7 ho) true else if k=2 then day else if k=3 then zaj 1 12 (zb7 mo) true else week
def zvd (mo d w:Nat):List It:=if zoD mo d then [⟨0,0,0,1⟩] else if zqr w then zaj 1 31 (zb7 d) false else if d.testBit 1 then⟨0,0,0,31⟩::zaj 1 31 (zb7 (zwS d 1)) false else zaj 1 31 (zb7 d) false
def zsO (mo d w:Nat):List It:=if zqr w then [⟨0,0,0,1⟩] else if zoD mo d then zaj 0 6 (zb7 (zv3 w)) false else if d.testBit 1 then zaj 0 6 (zb7 (zv3 w)) false else⟨0,0,0,8⟩::zaj 0 6 (zb7 (zwS (zv3 w) 0)) false
def zqs (mo d w:Nat):Bool:=zoD mo d||(zqr w||(d.testBit 1||(zv3 w).testBit 0))
noncomputable def zsP (P:Int->Nat->Bool):Nat->List It:=zuf (zqp P) (zg0 P) (zki P) (zvd (zki P) (zn1 P) (wkF P)) (zsO (zki P) (zn1 P) (wkF P))
noncomputable def zlv (P:Int->Nat->Bool):Nat->List It:=zuf (zqp P) (zg0 P) (zki P) (zaj 1 31 (zb7 (domW P)) false) (zaj 0 6 (zb7 (zv3 (wkW P))) false)
def noneL (k:Nat):List It:=if k=0 then [⟨1,0,0,0⟩] else if k=1 then [⟨1,0,0,0⟩] else if k=2 then [⟨1,30,0,0⟩] else if k=3 then [⟨1,2,0,0⟩] else [⟨0,0,0,1⟩]
def lineP (x:Nat->List It) (n:Int) (s:Nat):Bool:=zwR x (n * 86400+(s:Int))
def zqt (x:Nat->List It) (P:Int->Nat->Bool):Prop:=chk x=(5,0)/\zvc (lineP x) P
inductive Rais (P:Int->Nat->Bool):Option (Nat->List It)->Prop
 |empty:¬zls P->Rais P (some noneL)
 |both:zls P->zqs (zki P) (zn1 P) (wkF P)=true->zqt (zsP P) P->Rais P (some (zsP P))
 |either:zls P->¬(zqs (zki P) (zn1 P) (wkF P)=true/\zqt (zsP P) P)->domW P≠0->wkW P≠0->zqt (zlv P) P->Rais P (some (zlv P))
 |none:zls P->¬(zqs (zki P) (zn1 P) (wkF P)=true/\zqt (zsP P) P)->¬(domW P≠0/\wkW P≠0/\zqt (zlv P) P)->Rais P Option.none
end Go.Proofs.YtllcdbgjeidlkaaGreatDoor
namespace Go.Proofs.YtllcdbgjeidlkaaGreatDoor
open Go.Proofs.Tryz
open Go.RowKit
attribute [local go_sem] Oper.semAt_some
theorem zn2 {F:Fence} {n:Nat} {P:Program} {α:Type} {c:Code} {Q:Exit->Act->World->Prop} {a:Act} {w:World} (ds:α->List (Nat×Value)) (R:α->World->Prop) (h2:c.wpIn F n P (zwK ds R a) a w) (h1:∀x w',R x w'->Q .normal (zdP (ds x) a) w'):c.wpIn F n P Q a w:=
 Go.wpIn_mono h2 (by rintro e a' w' ⟨rfl,x,rfl,hr⟩;exact h1 x w' hr)
def zlw (l:List Nat):Int:=l.foldl (fun(a:Int) (m:Nat)=>max a (zbk 2000 (m:Int))) 0
theorem zn3 (l:List Nat) (x:Nat):zlw (l++[x])=max (zlw l) (zbk 2000 (x:Int)):=by
 unfold zlw;rw[List.foldl_append];rfl
end Go.Proofs.YtllcdbgjeidlkaaGreatDoor
