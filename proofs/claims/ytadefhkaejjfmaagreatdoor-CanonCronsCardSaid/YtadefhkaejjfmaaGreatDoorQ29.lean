/- A part of the proof: WValues Open WRefVal WVal2 RItv -/
import Derived.Test.YtadefhkaejjfmaaGreatDoorQ28
import Derived.Test.YtadefhkaejjfmaaGreatDoorQ00
import Derived.ProofKit
import Derived.OpenShut
import Derived.ShutString
import Derived.ChangeOld
import Derived.Below
import Derived.Deep.Slices
import Derived.Deep.Fields
import Derived.Test.YtadefhkaejjfmaaGreatDoorQ01
set_option maxHeartbeats 80000000
set_option maxRecDepth 100000
set_option linter.unusedSimpArgs false
set_option linter.unusedVariables false
namespace Go.Proofs.YtadefhkaejjfmaaGreatDoor
open Go.Proofs.Tryz
open Go.RowKit
def bF (i:It) (lo:Int):Int:=if i.k=0 then lo else i.f
def bT (i:It) (hi:Int):Int:=if i.k=1 then i.f else if i.k=2 then i.t else hi
def bS (i:It):Int:=if i.k=1 then 1 else i.s
theorem zlZ (i:It) (lo hi:Int) (w:World):Calls prog 272 #[.agg #[.int .i64 i.k,.int .i64 i.f,.int .i64 i.t,.int .i64 i.s],.int .i64 lo,.int .i64 hi] w (Ret (.tuple #[.int .i64 (bF i lo),.int .i64 (bT i hi),.int .i64 (bS i)]) w):=by
 by_cases h0:i.k=0
 ·have h0':(i.k==0)=true:=by simpa using h0
  have e1:bF i lo=lo:=if_pos h0;have e2:bT i hi=hi:=by simp[bT,h0]
  have e3:bS i=i.s:=by simp[bS,h0]
  rw[e1,e2,e3];clear h0 e1 e2 e3;go_enter func272,ntmps272;go_wp2
  go_quiet (fail)
  go_wp2
  go_ret3
  exact⟨rfl,by exact zaI⟩
 have h0':(i.k==0)=false:=by simpa using h0
 have e1:bF i lo=i.f:=if_neg h0
 by_cases h1:i.k=1
 ·have h1':(i.k==1)=true:=by simpa using h1
  have e2:bT i hi=i.f:=if_pos h1;have e3:bS i=1:=if_pos h1;rw[e1,e2,e3];clear h0 h1 e1 e2 e3;go_enter func272,ntmps272;go_wp2
  go_quiet (fail)
  go_wp2
  go_ret3
  exact⟨rfl,by exact zaI⟩
 have h1':(i.k==1)=false:=by simpa using h1
 have e3:bS i=i.s:=if_neg h1
 by_cases h2:i.k=2
 ·have h2':(i.k==2)=true:=by simpa using h2
  have e2:bT i hi=i.t:=by simp[bT,h2]
  rw[e1,e2,e3];clear h0 h1 h2 e1 e2 e3;go_enter func272,ntmps272;go_wp2
  go_quiet (fail)
  go_wp2
  go_ret3
  exact⟨rfl,by exact zaI⟩
 ·have h2':(i.k==2)=false:=by simpa using h2
  have e2:bT i hi=hi:=by simp[bT,h1,h2]
  rw[e1,e2,e3];clear h0 h1 h2 e1 e2 e3;go_enter func272,ntmps272;go_wp2
  go_quiet (fail)
  go_wp2
  go_ret3
  exact⟨rfl,by exact zaI⟩
theorem zqx {i:It} {lo hi:Int} (h:zbx i lo hi=true):0≤bF i lo∧bF i lo≤bT i hi∧bT i hi≤9999∧1≤bS i∧bS i≤999:=by
 simp only[zbx,zvb,waM] at h;unfold bF bT bS;split<;>split<;>(try split)<;>omega
def itL (i:It) (lo hi:Int):List Int:=(List.range ((bT i hi - bF i lo) / bS i+1).toNat).map fun(k:Nat)=>bF i lo+(k:Int) * bS i
def zeX (lo hi:Int) (l:List It):List Int:=l.flatMap fun i=>if zbx i lo hi then itL i lo hi else []
theorem zqy {i:It} {lo hi:Int} (h:zbx i lo hi=true):(itL i lo hi).length≤10000:=by
 have hb:=zqx h;simp only[itL,List.length_map,List.length_range];have:(bT i hi - bF i lo) / bS i≤bT i hi - bF i lo:=Int.ediv_le_self _ oQ;omega
theorem zjm (lo hi:Int) (l:List It):(zeX lo hi l).length≤l.length * 10000:=by
 induction l with
 |nil=>simp [zeX]
 |cons i l ih=>
  simp only[zeX,List.flatMap_cons,waF,waG] at ih ⊢;have:(if zbx i lo hi=true then itL i lo hi else []).length≤10000:=by
   split
   ·exact zqy (by assumption)
   ·simp
  omega
theorem zkO (lo hi:Int) (l:List It) (i:It):zeX lo hi (l++[i])=zeX lo hi l++(if zbx i lo hi then itL i lo hi else []):=by simp[zeX]
def ztK (lo hi:Int) (l:List It):List Int:=Lib.compact ((zeX lo hi l).mergeSort fun x y=>decide (x≤y))
theorem zhy {B n:Nat} {w0 w w':World} {v:Value} {t:TypeId} {k:Nat} {xs:List Value} (h:w.ownsRow B t k v n xs) (hb:Below B w0 w) (hB:B≤w.heap.size) (hg:w.grownBy w' v.ownBlock):Below B w0 w':=by
 refine hb.grown hg hB ?_;intro b hb';rcases zbt h with ⟨h1,_⟩|⟨g,cap,h1,h2,h3⟩
 ·rw[h1] at hb';simp[Value.ownBlock] at hb'
 ·rw[h1] at hb';simp[Value.ownBlock] at hb';subst hb';exact h2
theorem ze9 (l:List Int):(Lib.compact l).length≤l.length:=Lib.compact_length_le l
theorem zfH (l:List Int):(l.mergeSort fun x y=>decide (x≤y)).length=l.length:=List.length_mergeSort ..
theorem zjn {w:World} {B g cap q:Nat} {l:List Int} (h:zbV w B (.slice (some ⟨g,0,none⟩) l.length cap) l):
 zbV (Go.Sort.putRow (Value.int .i64) (Sort.ahead w q) g 0 (Lib.compact l++List.replicate (l.length - (Lib.compact l).length) 0).toArray) B (.slice (some ⟨g,0,none⟩) (Lib.compact l).length cap) (Lib.compact l):=by
 have h1:=Lib.ownsRow_putRow (enc:=Value.int .i64) (q:=q) (k:=(Lib.compact l).length) (ys:=Lib.compact l++List.replicate (l.length - (Lib.compact l).length) 0) h (by have:=ze9 l;simp;omega) (ze9 l)
 rw[List.take_left' rfl] at h1;exact h1
theorem zoe {w:World} {B g cap q:Nat} {os:Array Obj} {l:List Int} (h:zbV w B (.slice (some ⟨g,0,none⟩) l.length cap) l):
 zbV (Go.Sort.grow (Go.Sort.putRow (Value.int .i64) (Sort.ahead w q) g 0 (l.mergeSort fun x y=>decide (x≤y)).toArray) os) B (.slice (some ⟨g,0,none⟩) (l.mergeSort fun x y=>decide (x≤y)).length cap) (l.mergeSort fun x y=>decide (x≤y)):=by
 rcases h.2 with ⟨h0,_⟩|⟨g',cap',cur,hv,hg,hb,hn,hcap,hs,ht⟩
 ·cases h0
 cases hv;have h2:=ownsRow_sortedI (n:=q) (os:=os) (zfH l) hg hb hn hcap hs;rw[←zfH] at h2;exact h2
theorem zof (lo hi:Int) (A:Option Addr) (n c:Nat) (l:List It) (w:World) (hA:zcH w A n l) (hn:n≤100000):
 Calls prog 178 #[.int .i64 lo,.int .i64 hi,.slice A n c] w (zvm (ztK lo hi l) w):=by
 have HL:Hid (l.length=n):=hA.1;obtain⟨i0,hi0,hz0,hz1,hz2⟩:=info_parts zmk;have HA:=waV hA;clear hA;go_enter func178,ntmps178;go_wp2
 go_loopw [7,16] (fun v i wr=>∃(vo:Value) (k:Nat),vo=v∧k≤n∧i=.int .i64 k∧Hid (zbV wr w.heap.size vo (zeX lo hi (l.take k)))∧Below w.heap.size w wr) (fun _ i _=>n - (intOf i).toNat)
 case atStart=>exact⟨_,0,rfl,waK _,rfl,World.ownsRow_nil _ _ _ _,waC _ _⟩
 case round=>
  obtain⟨vo,k,rfl,hk,rfl,HO,hb⟩:=hrel;have hsz:=hb.size
  by_cases hlt:k<n
  ·obtain⟨b,o,it,rfl,hbl,hx,c0,c1,c2,c3⟩:=zcH.at_ (HA.out.below hb (waJ _)) hlt
   have hlt':(k:Int)<(n:Int):=by omega
   have Hx:=waV hx;have hts:l.take (k+1)=l.take k++[it]:=by rw[List.take_add_one,hx];rfl
   have hlk:(l.take k).length=k:=List.length_take_of_le (by have:=HL.out;omega)
   have hrl:=zjm lo hi (l.take k);rw[hlk] at hrl;clear hx;cases hm:zbx it lo hi with
   |false=>
    have HE:Hid (zeX lo hi (l.take (k+1))=zeX lo hi (l.take k)):=by
     show _=_;rw[hts,zkO,hm];simp
    clear hts hrl hlk;have HM:=waV (fun W=>zlY it lo hi W)
    rw[hm] at HM;clear hm;go_wp2_with fail;refine(HM.out _).mono ?_;rintro e w1 ⟨rfl,hb1⟩;have hb2:Below wr.heap.size wr w1:=((waC _ wr).alloc (waJ _) _).trans (hb1.mono (by simp))
    go_wp2;go_roundw
    case rel=>exact⟨_,k+1,rfl,by omega,by go_num,by rw[HE.out];exact zaf HO.out hb2,zai hb hb2 hsz⟩
    case measure=>simp [intOf];omega
   |true=>
    have hbd:=zqx hm;have hil:=zqy hm;have HE:Hid (zeX lo hi (l.take (k+1))=zeX lo hi (l.take k)++itL it lo hi):=by
     show _=_;rw[hts,zkO,hm];simp
    have HM:=waV (fun W=>zlY it lo hi W)
    rw[hm] at HM;have HBd:=waV (fun W=>zlZ it lo hi W)
    unfold itL at HE hil;generalize bF it lo=F at *;generalize bT it hi=T at *;generalize bS it=S at *;obtain⟨hF,hFT,hT,hS,hS9⟩:=hbd;have hq0:0≤(T - F) / S:=Int.ediv_nonneg oQ oQ;obtain⟨m,hmm⟩:∃m:Nat,(m:Int)=(T - F) / S+1:=⟨((T - F) / S+1).toNat,by omega⟩
    rw[←hmm,Int.toNat_natCast] at HE hil;have hmul:((m:Int) - 1) * S≤T - F:=by
     rw[hmm,Int.add_sub_cancel];have:=Int.ediv_mul_le (T - F) (show S≠0 by omega)
     exact this
    simp only[List.length_map,List.length_range] at hil;have hmq:(T - F) / S+1=(m:Int):=hmm.symm;have HMM:=waV hmm;have hq1:(T - F) / S≤9999:=by omega
    clear hts hlk hm hmm;go_wp2_with fail;refine(HM.out _).mono ?_;rintro e w1 ⟨rfl,hb1⟩;obtain⟨hc1,hf1⟩:=zae hb1;have hb2:Below wr.heap.size wr w1:=((waC _ wr).alloc (waJ _) _).trans (hb1.mono (by simp))
    have hsz1:wr.heap.size<w1.heap.size:=by have:=hb1.size;simp at this;omega
    go_wp2_with fail;refine(HBd.out _).mono ?_;rintro e w2 ⟨rfl,hb3⟩;have hb4:=zai hb2 hb3 hb2.size;have hb5:=zai hb hb4 hsz;clear hc1 hf1;obtain⟨wo,rfl⟩:∃wo:World,wo=wr:=⟨_,rfl⟩;go_wp2
    go_loopw [7,39] (fun v i wq=>∃(vo:Value) (j:Nat),vo=v∧j≤m∧i=.int .i64 j∧Hid (zbV wq w.heap.size vo (zeX lo hi (l.take k)++((List.range j).map fun(k:Nat)=>F+(k:Int) * S)))∧Below w.heap.size w wq) (fun _ i _=>m - (intOf i).toNat)
    case atStart=>
     refine⟨_,0,rfl,waK _,rfl,?_,hb5⟩;show zbV _ _ _ _;rw[List.range_zero,List.map_nil,List.append_nil];exact zaf HO.out hb4
    case round=>
     obtain⟨vq,j,rfl,hj,rfl,HQ,hbq⟩:=hrel;have hszq:=hbq.size;clear hb1 hb3 hb4 hb5 hb2 hb hsz1
     by_cases hlj:j<m
     ·have hlj':(j:Int)<(m:Int):=by omega
      have hm1:0≤(j:Int) * S:=Int.mul_nonneg oQ oQ;have hm2:(j:Int) * S≤((m:Int) - 1) * S:=Int.mul_le_mul_of_nonneg_right oQ oQ;have hm3:(j:Int) * S≤9999:=by omega
      clear hm2 hmul;have hnl:(zeX lo hi (l.take k)++((List.range j).map fun(k:Nat)=>F+(k:Int) * S)).length=(zeX lo hi (l.take k)).length+j:=by simp
      have HSN:Hid ((zeX lo hi (l.take k)++((List.range j).map fun(k:Nat)=>F+(k:Int) * S)).map (Value.int .i64)++[.int .i64 (F+(j:Int) * S)]=(zeX lo hi (l.take k)++((List.range (j+1)).map fun(k:Nat)=>F+(k:Int) * S)).map (Value.int .i64)):=by
       simp[Hid,List.range_succ]
      have HQ':Hid (wr.ownsRow w.heap.size 3 1 vq ((zeX lo hi (l.take k)).length+j) ((zeX lo hi (l.take k)++((List.range j).map fun(k:Nat)=>F+(k:Int) * S)).map (Value.int .i64))):=by
       show World.ownsRow _ _ _ _ _ _ _;rw[←hnl];exact HQ.out
      have HNL:Hid ((zeX lo hi (l.take k)++((List.range (j+1)).map fun(k:Nat)=>F+(k:Int) * S)).length=(zeX lo hi (l.take k)).length+j+1):=by simp[Hid];omega
      clear hnl HQ;generalize (zeX lo hi (l.take k)++((List.range j).map fun(k:Nat)=>F+(k:Int) * S)).map (Value.int .i64)=xs at *
      generalize hL2:(zeX lo hi (l.take k)++((List.range (j+1)).map fun(k:Nat)=>F+(k:Int) * S))=L2 at *
      have HL2:=waV hL2;clear hL2;generalize (zeX lo hi (l.take k)).length=q at *
      go_wp2_with (at_builtin;refine wpList_append_own _ rfl _ _ 49 rfl w.heap.size 3 i0 (.int .i64 0) 1 8 underlying49 hi0 hz0 hz1 hz2 rfl dQ _ (q+j) xs rfl (HQ'.out.alloc _) ⟨wr.heap.size,0,none⟩ 1 1 [.int .i64 (F+(j:Int) * S)] rfl rfl ?c1 ?c2 ?c3 ?c4 ?c5 ?c6)
      case c1=>
       intro j' u hu;rcases j' with _|j'
       ·simp at hu;subst hu;exact zaa rfl rfl
       ·simp at hu
      case c2=>intro u hu;simp at hu;subst hu;rfl
      case c3=>simp only[maxLen];omega
      case c4=>omega
      case c5=>simp;omega
      case c6=>
       intro v' w' hown hg _;have HV:Hid (zbV w' w.heap.size v' L2):=by
        show World.ownsRow _ _ _ _ _ _ _;rw[HNL.out,←HSN.out];exact hown
       have hbn:Below w.heap.size w w':=zhy (HQ'.out.alloc _) (hbq.alloc oQ _) (by simp;omega) hg
       clear hown hg;go_wp2;go_roundw
       case rel=>exact⟨_,j+1,rfl,by omega,by go_num,by rw[HL2.out];exact HV.out,hbn⟩
       case measure=>simp [intOf];omega
     ·obtain rfl:j=m:=by omega
      go_wp2;go_roundw
      case rel=>exact⟨_,k+1,rfl,by omega,by go_num,by rw[HE.out];exact HQ.out,hbq⟩
      case measure=>simp [intOf];omega
  ·obtain rfl:k=n:=by omega
   have HE:Hid (zeX lo hi (l.take k)=zeX lo hi l):=by
    show _=_;rw[List.take_of_length_le (by have:=HL.out;omega)]
   have hrl:=zjm lo hi l;have HO2:zbV wr w.heap.size vo (zeX lo hi l):=by rw[←HE.out];exact HO.out
   rw[HL.out] at hrl;clear HO;have hRL:∃R,R=zeX lo hi l:=⟨_,rfl⟩;obtain⟨R,hR⟩:=hRL;have HV:Hid (ztK lo hi l=Lib.compact (R.mergeSort fun x y=>decide (x≤y))):=by rw[hR];rfl
   rw[←hR] at HO2 hrl;clear hR HE;obtain⟨B,hB⟩:∃B,B=w.heap.size:=⟨_,rfl⟩
   by_cases h0:R.length=0
   ·obtain rfl:=List.length_eq_zero_iff.1 h0;obtain⟨A',c',rfl,-,-,-⟩:=zbV.rd HO2;have HO:=waV HO2;clear HO2 h0;have e0:Lib.compact (([]:List Int).mergeSort fun x y=>decide (x≤y))=[]:=by simp[List.mergeSort];rfl
    rw[e0] at HV;clear e0;have H1:=waV (fun W=>Tryz.slices_Sort_int_none A' c' W)
    have H2:=waV (fun W=>Tryz.slices_Compact_int_empty A' c' W)
    go_wp2_with fail;refine(H1.out _).mono ?_;rintro e w1 ⟨rfl,rfl⟩;go_wp2_with fail;refine(H2.out _).mono ?_;rintro e w1 ⟨rfl,rfl⟩;go_wp2;go_ret;exact⟨_,rfl,by rw[HV.out];exact HO.out,hb⟩
   ·obtain⟨g,cap,rfl,hg,hgs,hc1,hc2,-,HH⟩:=Lib.holds_of_ownsRow HO2 (by
     rintro rfl;rcases zbt HO2 with ⟨_,h2⟩|⟨g,cap,h1,_⟩
     ·exact h0 h2
     ·cases h1)
    have HO:=waV HO2;have H1:=Tryz.slices_Sort_int g 0 cap R wr HH hgs oQ;have hsl:=zfH R;have HS1:Hid (∀q os,zbV (Go.Sort.grow (Go.Sort.putRow (Value.int .i64) (Sort.ahead wr q) g 0 (R.mergeSort fun x y=>decide (x≤y)).toArray) os) w.heap.size (.slice (some ⟨g,0,none⟩) (R.mergeSort fun x y=>decide (x≤y)).length cap) (R.mergeSort fun x y=>decide (x≤y))):=fun q os=>zoe HO2
    have HB1:Hid (∀q os,Below w.heap.size w (Go.Sort.grow (Go.Sort.putRow (Value.int .i64) (Sort.ahead wr q) g 0 (R.mergeSort fun x y=>decide (x≤y)).toArray) os)):=fun q os=>hb.grown (grownBy_sortedI _) hsz (fun b hb'=>by simp at hb';omega)
    clear HO2 HH HO;generalize (R.mergeSort fun x y=>decide (x≤y))=T at *
    have H1':=waV H1;clear H1;go_wp2_with fail;refine H1'.out.mono ?_;intro e w1 hp;have hp1:=hp.1;obtain⟨q,os,hw⟩:=hp.2;clear hp;subst hp1;have HT:=HS1.out q os;have HBT:=HB1.out q os;rw[←hw] at HT HBT;clear HS1 HB1 H1' hw;obtain⟨g',cap',hv,_,_,_,_,_,HH⟩:=Lib.holds_of_ownsRow HT (by simp)
    cases hv;have H2:=waV (Tryz.slices_Compact_int g 0 cap T w1 HH oQ oQ);have HF:Hid (∀q,zbV _ _ _ _):=fun q=>zjn (q:=q) HT
    have HFB:Hid (∀q,Below w.heap.size w _):=fun q=>Lib.below_putRow (q:=q) (d:=(Lib.compact T++List.replicate (T.length - (Lib.compact T).length) 0).toArray) (enc:=Value.int .i64) HBT hg
    clear HH HT HBT;rw[hsl] at H2 HF HFB;go_wp2_with fail;refine H2.out.mono ?_;rintro e w2 ⟨rfl,q2,rfl⟩;go_wp2;go_ret;exact⟨_,rfl,by rw[HV.out];exact HF.out q2,HFB.out q2⟩
end Go.Proofs.YtadefhkaejjfmaaGreatDoor
namespace Go.Proofs.YtadefhkaejjfmaaGreatDoor
open Go.Proofs.Tryz
open Go.ChangeShapes Go.WideShapes Go.ChangeAt Go.RowKit Go.Deep
def zsN (x:Int):Prop:=-9223372036854775808≤x∧x≤9223372036854775807
def It.wf (i:It):Prop:=zsN i.k∧zsN i.f∧zsN i.t∧zsN i.s
theorem zjo {x:Int} (h:(Lit.int .i64 x).wf=true):zsN x:=by simpa[Lit.wf,IntKind.min,IntKind.max,IntKind.signed,IntKind.bits,zsN] using h
section
variable {H : Type} {enc : TypeId × Value → H} {w : World} {base : Nat} {spare : Nat → Bool} {held : Bool}
theorem zm7:prog.cellsOf 85=4:=by kernel_rfl
theorem zuN {fuel:Nat} {cs:List Value} {x:DataW H×List MemPlace} (h:DataW.trod enc prog w base spare held fuel 85 cs=some x):
 ∃it:It,cs=zc2 it∧it.wf:=by
 obtain⟨xs,n,_,hx,hlen,hxl,hf⟩:=DataW.trod_struct underlying85 h;rw[zm7] at hlen
 match cs,hlen with
 |[c0,c1,c2,c3],_=>
  have i0:=hf 0 _ rfl;have i1:=hf 1 _ rfl;have i2:=hf 2 _ rfl;have i3:=hf 3 _ rfl;have hl:xs.length=4:=hxl
  match xs,hl with
  |[y0,y1,y2,y3],_=>
   have one:prog.cellsOf 3=1:=by kernel_rfl
   change DataW.trod enc prog w base spare held n 3 (([c0,c1,c2,c3].drop 0).take (prog.cellsOf 3))=_ at i0
   change DataW.trod enc prog w base spare held n 3 (([c0,c1,c2,c3].drop 1).take (prog.cellsOf 3))=_ at i1
   change DataW.trod enc prog w base spare held n 3 (([c0,c1,c2,c3].drop 2).take (prog.cellsOf 3))=_ at i2
   change DataW.trod enc prog w base spare held n 3 (([c0,c1,c2,c3].drop 3).take (prog.cellsOf 3))=_ at i3
   rw[one] at i0 i1 i2 i3;obtain⟨k,e0,_,w0⟩:=DataW.trod_int underlying3 i0;obtain⟨f,e1,_,w1⟩:=DataW.trod_int underlying3 i1;obtain⟨t,e2,_,w2⟩:=DataW.trod_int underlying3 i2;obtain⟨s,e3,_,w3⟩:=DataW.trod_int underlying3 i3;simp at e0 e1 e2 e3;subst e0 e1 e2 e3;exact⟨⟨k,f,t,s⟩,rfl,zjo w0,zjo w1,zjo w2,zjo w3⟩
theorem zsO (b o j:Nat):(⟨b,o,none⟩:Addr).add j=⟨b,o+j,none⟩:=by
 unfold Addr.add;split
 ·subst_vars;rfl
 ·rfl
theorem zdy {fuel:Nat} {v:Value} {x:DataW H×List MemPlace} (h:DataW.trod enc prog w base spare held fuel 24 [v]=some x):
 ∃A n c l,v=.slice A n c∧zcH w A n l∧n≤c∧c≤maxLen∧(A=none→n=0)∧∀it∈l,it.wf:=by
 rcases open_slice underlying24 h with ⟨h0,_⟩|⟨a,len,cap,m,q,D,Pl,hcs,hb,hl,hm,hmm,_,hi⟩
 ·simp at h0;subst h0;exact⟨none,0,0,[],rfl,Rd.nil,waJ _,waK _,fun _=>rfl,fun it hit=>by simp at hit⟩
 ·simp at hcs;subst hcs;have hlm:len≤m:=by rw[hmm];split<;>omega
  have hall:∀i,i<len→∃it:It,it.wf∧(∀(j:Nat) v,(zc2 it)[j]?=some v→w.cell? (a.add (i * 4+j))=some v)∧a.block<w.heap.size:=by
   intro i hil;obtain⟨cs',hc,ht⟩:=hi i oQ;obtain⟨it,rfl,hwf⟩:=zuN ht;rw[zm7] at hc;obtain⟨_,_,hat⟩:=World.cells?_some hc;refine⟨it,hwf,fun j v hj=>?_,?_⟩
   ·have hj4:j<4:=by have:=(waI.1 hj).1;simpa[zc2] using this
    have:=hat j hj4;rw[←Go.Deep.add_add,this,hj]
   ·have:=hat 0 dQ;have h2:=waR w _ this;rw[Go.Deep.add_add] at h2;unfold Addr.add at h2;split at h2<;>exact h2
  let F:Nat→It:=fun i=>if hh:i<len then Classical.choose (hall i hh) else⟨0,0,0,0⟩
  have hF:∀i,i<len→(F i).wf∧(∀(j:Nat) v,(zc2 (F i))[j]?=some v→w.cell? (a.add (i * 4+j))=some v)∧a.block<w.heap.size:=by
   intro i hil;have:=Classical.choose_spec (hall i hil);simpa[F,hil] using this
  refine⟨some a,len,cap,(List.range len).map F,rfl,⟨by simp,fun hn=>?_⟩,hl,hm,(fun h=>by cases h),?_⟩
  ·obtain⟨b,o,s⟩:=a;have h00:=(hF 0 hn).2.1 0 _ rfl;have hs:s=none:=by
    have:=World.cell?_spot h00;simpa[Addr.add] using this
   subst hs;refine⟨b,o,rfl,(hF 0 hn).2.2,fun i x hx j v hj=>?_⟩
   have hil:i<len:=by have:=(waI.1 hx).1;simpa using this
   obtain rfl:F i=x:=by simpa[List.getElem?_map,List.getElem?_range hil] using hx
   have:=(hF i hil).2.1 j v hj;rw[zsO] at this;rw[show o+i * 4+j=o+(i * 4+j) from by omega];exact this
  ·intro it hit;simp only[List.mem_map,wbG] at hit;obtain⟨i,hil,rfl⟩:=hit;exact(hF i hil).1
theorem zog:prog.cellsOf 60=5:=by kernel_rfl
theorem zkP {fuel:Nat} {cs:List Value} {x:DataW H×List MemPlace} (h:DataW.trod enc prog w base spare held fuel 60 cs=some x):
 ∃(A:Nat→Option Addr) (n c:Nat→Nat) (l:Nat→List It),cs=[.slice (A 0) (n 0) (c 0),.slice (A 1) (n 1) (c 1),.slice (A 2) (n 2) (c 2),.slice (A 3) (n 3) (c 3),.slice (A 4) (n 4) (c 4)]∧
  zbp w A n l∧(∀k,n k≤c k)∧(∀k,c k≤maxLen)∧(∀k,A k=none→n k=0)∧∀k,∀it∈l k,it.wf:=by
 obtain⟨xs,q,_,hx,hlen,hxl,hf⟩:=DataW.trod_struct underlying60 h;rw[zog] at hlen
 match cs,hlen with
 |[c0,c1,c2,c3,c4],_=>
  have i0:=hf 0 _ rfl;have i1:=hf 1 _ rfl;have i2:=hf 2 _ rfl;have i3:=hf 3 _ rfl;have i4:=hf 4 _ rfl;have hl:xs.length=5:=hxl
  match xs,hl with
  |[y0,y1,y2,y3,y4],_=>
   have one:prog.cellsOf 24=1:=by kernel_rfl
   change DataW.trod enc prog w base spare held q 24 (([c0,c1,c2,c3,c4].drop 0).take (prog.cellsOf 24))=_ at i0
   change DataW.trod enc prog w base spare held q 24 (([c0,c1,c2,c3,c4].drop 1).take (prog.cellsOf 24))=_ at i1
   change DataW.trod enc prog w base spare held q 24 (([c0,c1,c2,c3,c4].drop 2).take (prog.cellsOf 24))=_ at i2
   change DataW.trod enc prog w base spare held q 24 (([c0,c1,c2,c3,c4].drop 3).take (prog.cellsOf 24))=_ at i3
   change DataW.trod enc prog w base spare held q 24 (([c0,c1,c2,c3,c4].drop 4).take (prog.cellsOf 24))=_ at i4
   rw[one] at i0 i1 i2 i3 i4;obtain⟨A0,n0,k0,l0,e0,r0,p0,q0,z0,w0⟩:=zdy i0;obtain⟨A1,n1,k1,l1,e1,r1,p1,q1,z1,w1⟩:=zdy i1;obtain⟨A2,n2,k2,l2,e2,r2,p2,q2,z2,w2⟩:=zdy i2;obtain⟨A3,n3,k3,l3,e3,r3,p3,q3,z3,w3⟩:=zdy i3;obtain⟨A4,n4,k4,l4,e4,r4,p4,q4,z4,w4⟩:=zdy i4;subst e0 e1 e2 e3 e4;refine⟨fun k=>match k with|0=>A0|1=>A1|2=>A2|3=>A3|_=>A4,fun k=>match k with|0=>n0|1=>n1|2=>n2|3=>n3|_=>n4,fun k=>match k with|0=>k0|1=>k1|2=>k2|3=>k3|_=>k4,
    fun k=>match k with|0=>l0|1=>l1|2=>l2|3=>l3|_=>l4,rfl,?_,?_,?_,?_,?_⟩
   ·intro k hk;obtain rfl|rfl|rfl|rfl|rfl:k=0∨k=1∨k=2∨k=3∨k=4:=by omega
    all_goals assumption
   all_goals
    intro k;rcases k with _|_|_|_|k
    all_goals assumption
end
end Go.Proofs.YtadefhkaejjfmaaGreatDoor
namespace Go.Proofs.YtadefhkaejjfmaaGreatDoor
open Go.Proofs.Tryz
open Go.RowKit
def zqz (i:It) (lo hi n:Int):Bool:=decide (bF i lo≤n∧n≤bT i hi∧(n - bF i lo)%bS i=0)
theorem zqA {i:It} {lo hi n:Int} (h:zbx i lo hi=true):n∈itL i lo hi↔zqz i lo hi n=true:=by
 obtain⟨h1,h2,h3,h4,h5⟩:=zqx h;simp only[itL,zqz,waM,List.mem_map,wbG];generalize bF i lo=F at *;generalize bT i hi=T at *;generalize bS i=S at *;have hd:0≤(T - F) / S:=Int.ediv_nonneg oQ oQ;constructor
 ·rintro ⟨k,hk,rfl⟩;have hk':(k:Int)≤(T - F) / S:=by omega
  have:=Int.ediv_mul_le (T - F) (show S≠0 by omega)
  have h6:(k:Int) * S≤(T - F) / S * S:=Int.mul_le_mul_of_nonneg_right hk' oQ;have h7:0≤(k:Int) * S:=Int.mul_nonneg oQ oQ;refine⟨by omega,by omega,?_⟩
  rw[show F+(k:Int) * S - F=(k:Int) * S by omega]
  exact Int.mul_emod_left _ _
 ·rintro ⟨h6,h7,h8⟩;have h9:(n - F) / S * S=n - F:=by
   have:=Int.mul_ediv_add_emod (n - F) S;rw[h8,Int.mul_comm] at this;omega
  have h10:0≤(n - F) / S:=Int.ediv_nonneg oQ oQ;have h11:(n - F) / S≤(T - F) / S:=Int.ediv_le_ediv oQ oQ;refine⟨((n - F) / S).toNat,by omega,?_⟩
  rw[show ((((n - F) / S).toNat:Nat):Int)=(n - F) / S by omega,h9]
  omega
def zeU (lo hi n:Int) (i:It):Bool:=zbx i lo hi&&zqz i lo hi n
def inB (l:List It) (lo hi n:Int):Bool:=l.any (zeU lo hi n)
def zaG (l:List It) (lo hi:Int):List Int:=((List.range (min hi 9999 - max 0 lo+1).toNat).map fun(k:Nat)=>max 0 lo+(k:Int)).filter (inB l lo hi)
theorem ztL:∀{a b:List Int},a.Pairwise (·< ·)→b.Pairwise (·< ·)→(∀x,x∈a↔x∈b)→a=b
 |[],[],_,_,_=>rfl
 |[],y::b,_,_,h=>by have:=(h y).2 (by simp);simp at this
 |x::a,[],_,_,h=>by have:=(h x).1 (by simp);simp at this
 |x::a,y::b,ha,hb,h=>by
  have ha1:=List.pairwise_cons.1 ha;have hb1:=List.pairwise_cons.1 hb;have hxy:x=y:=by
   have h1:=(h x).1 (by simp)
   have h2:=(h y).2 (by simp)
   rcases List.mem_cons.1 h1 with h1|h1
   ·exact h1
   ·rcases List.mem_cons.1 h2 with h2|h2
    ·exact h2.symm
    ·have:=hb1.1 x h1;have:=ha1.1 y h2;omega
  subst hxy;congr 1;refine ztL ha1.2 hb1.2 fun z=>⟨fun hz=>?_,fun hz=>?_⟩
  ·rcases List.mem_cons.1 ((h z).1 (List.mem_cons_of_mem _ hz)) with rfl|h1
   ·exact absurd (ha1.1 z hz) oQ
   ·exact h1
  ·rcases List.mem_cons.1 ((h z).2 (List.mem_cons_of_mem _ hz)) with rfl|h1
   ·exact absurd (hb1.1 z hz) oQ
   ·exact h1
theorem zdd (d:Array Int) (hd:∀i j,i≤j→j<d.size→d[i]!≤d[j]!):∀m,m≤d.size→
 (Lib.compactUpTo d m).Pairwise (·< ·)∧(∀x,x∈Lib.compactUpTo d m↔∃j,j<m∧d[j]! =x)
 |0,_=>by simp[Lib.compactUpTo]
 |m+1,hm=>by
  obtain⟨h1,h2⟩:=zdd d hd m oQ;rw[Lib.compactUpTo_succ]
  by_cases hk:m=0∨d[m]!≠d[m - 1]!
  ·have hk':Lib.keeps d m=true:=by simp[Lib.keeps,hk]
   rw[if_pos hk'];refine⟨List.pairwise_append.2 ⟨h1,by simp,?_⟩,?_⟩
   ·intro a ha b hb;obtain rfl:b=d[m]!:=by simpa using hb
    obtain⟨j,hj,rfl⟩:=(h2 a).1 ha;have h3:=hd j (m - 1) oQ oQ;have h4:=hd (m - 1) m oQ oQ;rcases hk with hk|hk
    ·omega
    ·omega
   ·intro x;rw[wbB,h2];constructor
    ·rintro (⟨j,hj,rfl⟩|hx)
     ·exact⟨j,by omega,rfl⟩
     ·exact⟨m,by omega,(wbC.1 hx).symm⟩
    ·rintro ⟨j,hj,rfl⟩;rcases Nat.lt_or_eq_of_le (Nat.le_of_lt_succ hj) with h|rfl
     ·exact .inl ⟨j,h,rfl⟩
     ·exact .inr (by simp)
  ·have hk':¬Lib.keeps d m=true:=by simpa[Lib.keeps] using hk
   rw[if_neg hk',List.append_nil];refine⟨h1,fun x=>?_⟩
   rw[h2];constructor
   ·rintro ⟨j,hj,rfl⟩;exact⟨j,by omega,rfl⟩
   ·rintro ⟨j,hj,rfl⟩;rcases Nat.lt_or_eq_of_le (Nat.le_of_lt_succ hj) with h|rfl
    ·exact⟨j,h,rfl⟩
    ·have h5:j≠0:=fun e=>hk (.inl e)
     have h6:d[j]! =d[j - 1]!:=by
      rcases Classical.em (d[j]! =d[j - 1]!) with h|h
      ·exact h
      ·exact absurd (.inr h) hk
     exact⟨j - 1,by omega,h6.symm⟩
theorem zh3 {l:List Int} (h:l.Pairwise (·≤·)):(Lib.compact l).Pairwise (·< ·)∧∀x,x∈Lib.compact l↔x∈l:=by
 have hd:∀i j,i≤j→j<l.toArray.size→l.toArray[i]!≤l.toArray[j]!:=by
  intro i j hij hj;have hj':j<l.length:=by simpa using hj
  rw[getElem!_pos l.toArray i (by simp;omega),getElem!_pos l.toArray j (by simp;omega)]
  simp only[List.getElem_toArray];rcases Nat.lt_or_eq_of_le hij with h1|rfl
  ·exact(List.pairwise_iff_getElem.1 h) i j oQ hj' h1
  ·exact Int.le_refl _
 obtain⟨h1,h2⟩:=zdd l.toArray hd l.length (by simp)
 refine⟨h1,fun x=>(h2 x).trans ?_⟩
 rw[List.mem_iff_getElem];constructor
 ·rintro ⟨j,hj,rfl⟩;exact⟨j,hj,by rw[getElem!_pos l.toArray j (by simpa using hj)];simp⟩
 ·rintro ⟨j,hj,rfl⟩;exact⟨j,hj,by rw[getElem!_pos l.toArray j (by simpa using hj)];simp⟩
theorem zkQ (lo hi:Int) (l:List It):(ztK lo hi l).Pairwise (·< ·)∧∀x,x∈ztK lo hi l↔inB l lo hi x=true:=by
 have hs:((zeX lo hi l).mergeSort fun x y=>decide (x≤y)).Pairwise (·≤·):=by
  have:=List.pairwise_mergeSort (le:=fun x y:Int=>decide (x≤y)) (fun a b c h1 h2=>by simp at *;omega) (fun a b=>by simp;omega) (zeX lo hi l)
  simpa using this
 obtain⟨h1,h2⟩:=zh3 hs;refine⟨h1,fun x=>(h2 x).trans ?_⟩
 rw[List.mem_mergeSort];simp only[zeX,List.mem_flatMap,inB,List.any_eq_true,zeU,waN];constructor
 ·rintro ⟨i,hil,hx⟩
  by_cases hm:zbx i lo hi=true
  ·rw[if_pos hm] at hx;exact⟨i,hil,hm,(zqA hm).1 hx⟩
  ·rw[if_neg hm] at hx;simp at hx
 ·rintro ⟨i,hil,hm,hh⟩;exact⟨i,hil,by rw[if_pos hm];exact(zqA hm).2 hh⟩
theorem zqB {i:It} {lo hi:Int} (h:zbx i lo hi=true):0≤lo∧lo≤bF i lo∧bT i hi≤hi∧hi≤9999:=by
 simp only[zbx,zvb,waM] at h;unfold bF bT;split<;>(try split)<;>(try split)<;>omega
theorem zcC (lo hi:Int) (l:List It):(zaG l lo hi).Pairwise (·< ·)∧∀x,x∈zaG l lo hi↔inB l lo hi x=true:=by
 constructor
 ·unfold zaG;refine List.Pairwise.filter _ ?_;rw[List.pairwise_map];refine List.Pairwise.imp ?_ List.pairwise_lt_range;intro a b h;omega
 ·intro x;unfold zaG;rw[List.mem_filter];constructor
  ·rintro ⟨_,h⟩;exact h
  ·intro h;refine⟨?_,h⟩;simp only[inB,List.any_eq_true,zeU,waN,zqz,waM] at h;obtain⟨i,_,hm,h1,h2,_⟩:=h;obtain⟨h3,h4,h5,h6⟩:=zqB hm;rw[List.mem_map];exact⟨(x - max 0 lo).toNat,wbG.2 oQ,by omega⟩
theorem zv1 (lo hi:Int) (l:List It):ztK lo hi l=zaG l lo hi:=
 ztL (zkQ lo hi l).1 (zcC lo hi l).1 fun x=>((zkQ lo hi l).2 x).trans ((zcC lo hi l).2 x).symm
theorem zhz (l:List Int) (n:Nat) (hn:n<64):zao l / 2^n%2=if(n:Int)∈l then 1 else 0:=by
 have h:=zbn (inL l) 64 n;rw[Nat.testBit_eq_decide_div_mod_eq] at h;have h2:(mkN (inL l) 64 / 2^n)%2=0∨(mkN (inL l) 64 / 2^n)%2=1:=by omega
 have h3:zao l / 2^n%2=(((mkN (inL l) 64 / 2^n)%2:Nat):Int):=by
  unfold zao
  push_cast
  rfl
 rw[h3];simp only[inL,hn,decide_true,Bool.true_and,wbH] at h;split
 ·rename_i hm;rw[h.2 hm];rfl
 ·rename_i hm;rcases h2 with h2|h2
  ·rw[h2];rfl
  ·exact absurd (h.1 h2) hm
end Go.Proofs.YtadefhkaejjfmaaGreatDoor
namespace Go.Proofs.YtadefhkaejjfmaaGreatDoor
open Go.Proofs.Tryz
theorem zfI {p:Option Int} {l:List Int}:zco p l=true↔(∀x∈l,0≤x∧x≤9999)∧l.Pairwise (·< ·)∧∀y,p=some y→∀x∈l,y<x:=by
 induction l generalizing p with
 |nil=>simp [zco]
 |cons a l ih=>
  unfold zco;rw[waN,waM,ih,List.pairwise_cons];constructor
  ·rintro ⟨⟨h0,h1,h2⟩,h3,h4,h5⟩;refine⟨fun x hx=>?_,⟨fun x hx=>h5 a rfl x hx,h4⟩,fun y hy x hx=>?_⟩
   ·rcases List.mem_cons.1 hx with rfl|hx
    ·exact⟨h0,h1⟩
    ·exact h3 x hx
   ·rcases List.mem_cons.1 hx with rfl|hx
    ·exact h2 y hy
    ·exact Int.lt_trans (h2 y hy) (h5 a rfl x hx)
  ·rintro ⟨h1,⟨h2,h3⟩,h4⟩;obtain⟨a0,a1⟩:=h1 a (by simp)
   refine⟨⟨a0,a1,fun y hy=>h4 y hy a (by simp)⟩,fun x hx=>h1 x (by simp[hx]),h3,?_⟩
   rintro y hy x hx;cases hy;exact h2 x hx
theorem ztM {s:Int}:∀(l:List Int) (a:Int) (k:Nat),k≤zjK s a l→(a::l)[k]?=some (a+(k:Int) * s)
 |_,a,0,_=>by simp
 |[],a,k+1,h=>by simp[zjK] at h
 |b::l,a,k+1,h=>by
  unfold zjK at h;split at h
  ·rename_i e;rw[List.getElem?_cons_succ,ztM (s:=s) l b k (by omega)]
   congr 1
   push_cast
   rw[Int.add_mul];omega
  ·omega
def zh4 (p:Pc):List Int:=(List.range (zdX p).toNat).map fun(k:Nat)=>p.f+(k:Int) * p.s
def zoh (p:Pc):Prop:=zrE p∧(p.s=1∨p.s≤p.t - p.f)
theorem zoi {a:Int} {l:List Int} (h:zco none (a::l)=true):zoh (zbe a l).1∧zh4 (zbe a l).1=(a::l).take (zbe a l).2∧1≤(zbe a l).2:=by
 obtain⟨h1,h2,_⟩:=zfI.1 h;obtain⟨a0,a1⟩:=h1 a (by simp)
 unfold zbe;split
 ·have hl:zrE ⟨a,a,1⟩:=⟨a0,Int.le_refl _,a1,Int.le_refl 1,by simp⟩
  refine⟨⟨hl,.inl rfl⟩,?_,waJ 1⟩;unfold zh4 zdX;rw[if_pos hl];simp
 ·rename_i hn;have hm:zfh a l=zjK (zhU a l) a l+1:=rfl;obtain⟨m,hmm⟩:∃m,m=zjK (zhU a l) a l:=⟨_,rfl⟩;have hm1:1≤m:=by omega
  cases l with
  |nil=>simp [zjK] at hmm;omega
  |cons b l=>
   have hs:zhU a (b::l)=b - a:=rfl;have hb:a<b:=(List.pairwise_cons.1 h2).1 b (by simp)
   obtain⟨s,hss⟩:∃s,s=b - a:=⟨_,rfl⟩;rw[hs,←hss] at hmm;have hat:=fun k hk=>ztM (s:=s) (b::l) a k hk
   rw[←hmm] at hat;have hlast:(a::b::l).getD (zfh a (b::l) - 1) 0=a+(m:Int) * s:=by
    rw[hm,hs,←hss,←hmm,Nat.add_sub_cancel,List.getD_eq_getElem?_getD,hat m (waJ _)];rfl
   have hz:=List.mem_of_getElem? (hat m (waJ _));have hzb:=h1 _ hz;have hs1:1≤s:=by omega
   have hpos:s≤(m:Int) * s:=by
    have:=Int.mul_le_mul_of_nonneg_right (show(1:Int)≤(m:Int) by omega) (show 0≤s by omega)
    omega
   have hl:zrE ⟨a,a+(m:Int) * s,s⟩:=⟨a0,by show a≤a+(m:Int) * s;omega,hzb.2,hs1,by
    show(a+(m:Int) * s - a)%s=0;rw[show a+(m:Int) * s - a=(m:Int) * s by omega,Int.mul_emod_left]⟩
   rw[hlast,hs,←hss,hm,hs,←hss,←hmm];refine⟨⟨hl,.inr (by show s≤a+(m:Int) * s - a;omega)⟩,?_,by show 1≤m+1;omega⟩
   unfold zh4 zdX;rw[if_pos hl];dsimp only;rw[show a+(m:Int) * s - a=(m:Int) * s by omega,Int.mul_ediv_cancel _ (show s≠0 by omega)]
   have e:((m:Int)+1).toNat=m+1:=by omega
   rw[e];have hlen:m+1≤(a::b::l).length:=by
    have:=(waI.1 (hat m (waJ _))).1;omega
   apply List.ext_getElem?;intro k
   by_cases hk:k<m+1
   ·rw[List.getElem?_map,List.getElem?_range hk,List.getElem?_take_of_lt hk,hat k (by omega)];rfl
   ·rw[List.getElem?_eq_none (by simp;omega),List.getElem?_eq_none (by rw[List.length_take];omega)]
theorem zqC {l r:List Int} (h:zco none l=true) (hs:r.Sublist l):zco none r=true:=by
 obtain⟨h1,h2,_⟩:=zfI.1 h;exact zfI.2 ⟨fun x hx=>h1 x (hs.subset hx),h2.sublist hs,fun y hy=>by cases hy⟩
theorem zhA:∀(k:Nat) (l:List Int),l.length≤k→zco none l=true→(zcs k l).flatMap zh4=l∧∀p∈zcs k l,zoh p
 |0,l,hk,h=>by
  have:l=[]:=List.length_eq_zero_iff.1 oQ;subst this;simp[zcs]
 |k+1,[],_,_=>by simp[zcs]
 |k+1,a::l,hk,h=>by
  obtain⟨h1,h2,h3⟩:=zoi h;obtain⟨h4,h5⟩:=zhA k ((a::l).drop (zbe a l).2) (by simp only[List.length_drop,waG] at hk ⊢;omega) (zqC h (List.drop_sublist _ _))
  unfold zcs;refine⟨?_,fun p hp=>?_⟩
  ·rw[List.flatMap_cons,h4,h2,List.take_append_drop]
  ·rcases List.mem_cons.1 hp with rfl|hp
   ·exact h1
   ·exact h5 p hp
theorem zdS {l:List Int} (h:zco none l=true):(zb8 l).flatMap zh4=l∧∀p∈zb8 l,zoh p:=by
 unfold zb8;rw[if_pos h];exact zhA _ _ (waJ _) h
theorem zfJ {p:Pc} (h:zrE p) {x:Int}:x∈zh4 p↔p.f≤x∧x≤p.t∧(x - p.f)%p.s=0:=by
 obtain⟨h0,h1,h2,h3,h4⟩:=h;have hd:(p.t - p.f) / p.s * p.s=p.t - p.f:=Int.ediv_mul_cancel (Int.dvd_of_emod_eq_zero h4);have hq:0≤(p.t - p.f) / p.s:=Int.ediv_nonneg oQ oQ;unfold zh4 zdX;rw[if_pos ⟨h0,h1,h2,h3,h4⟩,List.mem_map];constructor
 ·rintro ⟨k,hk,rfl⟩;have hk:=wbG.1 hk;have h5:(k:Int) * p.s≤(p.t - p.f) / p.s * p.s:=Int.mul_le_mul_of_nonneg_right oQ oQ;have h6:0≤(k:Int) * p.s:=Int.mul_nonneg oQ oQ;refine⟨by omega,by omega,?_⟩
  rw[show p.f+(k:Int) * p.s - p.f=(k:Int) * p.s by omega,Int.mul_emod_left]
 ·rintro ⟨h5,h6,h7⟩;have he:(x - p.f) / p.s * p.s=x - p.f:=Int.ediv_mul_cancel (Int.dvd_of_emod_eq_zero h7);have hk0:0≤(x - p.f) / p.s:=Int.ediv_nonneg oQ oQ;have hk1:(x - p.f) / p.s≤(p.t - p.f) / p.s:=Int.ediv_le_ediv oQ oQ;refine⟨((x - p.f) / p.s).toNat,wbG.2 oQ,?_⟩;rw[show ((((x - p.f) / p.s).toNat:Nat):Int)=(x - p.f) / p.s by omega,he]
  omega
theorem zqD {p:Pc} (h:zoh p) {lo hi:Int} (h0:0≤lo) (h1:lo≤p.f) (h2:p.t≤hi) (h3:hi≤9999∧hi - lo≤999):zbx (itP p) lo hi=true:=by
 obtain⟨⟨g0,g1,g2,g3,g4⟩,g5⟩:=h;unfold zbx itP;split
 ·exact waP ⟨h0,by omega,by omega,.inr (.inl ⟨rfl,h1,by show p.f≤hi;omega,rfl,rfl⟩)⟩
 ·exact waP ⟨h0,by omega,by omega,.inr (.inr (.inl ⟨rfl,h1,by show p.f≤hi;omega,by show lo≤p.t;omega,h2,g1,g3,by show p.s≤999;omega⟩))⟩
theorem zqE {p:Pc} (h:zoh p) {lo hi:Int} (h0:0≤lo) (h1:lo≤p.f) (h2:p.t≤hi) (h3:hi≤9999∧hi - lo≤999) (n:Int):zeU lo hi n (itP p)=decide (n∈zh4 p):=by
 unfold zeU;rw[zqD h h0 h1 h2 h3,Bool.true_and];unfold zqz;rw[wbH,zfJ h.1];unfold itP;split
 ·rename_i e;obtain⟨⟨g0,g1,g2,g3,g4⟩,g5⟩:=h;have hft:p.t=p.f:=by
   unfold zdX at e;rw[if_pos ⟨g0,g1,g2,g3,g4⟩] at e;have hd:(p.t - p.f) / p.s * p.s=p.t - p.f:=Int.ediv_mul_cancel (Int.dvd_of_emod_eq_zero g4);rw[show (p.t - p.f) / p.s=0 by omega] at hd
   omega
  show(bF ⟨1,p.f,0,0⟩ lo≤n∧n≤bT ⟨1,p.f,0,0⟩ hi∧(n - bF ⟨1,p.f,0,0⟩ lo)%bS ⟨1,p.f,0,0⟩=0)↔_;simp only[bF,bT,bS];constructor
  ·rintro ⟨a,b,c⟩;have a:p.f≤n:=a;have b:n≤p.f:=b;obtain rfl:n=p.f:=by omega
   exact⟨by omega,by omega,by simp⟩
  ·rintro ⟨a,b,c⟩;obtain rfl:n=p.f:=by omega
   refine⟨?_,?_,?_⟩<;>simp
 ·show(bF ⟨2,p.f,p.t,p.s⟩ lo≤n∧n≤bT ⟨2,p.f,p.t,p.s⟩ hi∧(n - bF ⟨2,p.f,p.t,p.s⟩ lo)%bS ⟨2,p.f,p.t,p.s⟩=0)↔_;simp only[bF,bT,bS];exact Iff.rfl
structure Numb (lo hi:Int) (l:List Int):Prop where
 lo0:0≤lo
 hi9:hi≤9999∧hi - lo≤999
 le:lo≤hi
 bd:∀x∈l,lo≤x∧x≤hi
 up:l.Pairwise (·< ·)
theorem Numb.may {lo hi:Int} {l:List Int} (h:Numb lo hi l):zco none l=true:=zfI.2 ⟨fun x hx=>by
 have:=h.bd x hx;have:=h.lo0;have:=h.hi9;omega,h.up,fun y hy=>by cases hy⟩
theorem Numb.piece {lo hi:Int} {l:List Int} (h:Numb lo hi l) {p:Pc} (hp:p∈zb8 l):zoh p∧lo≤p.f∧p.t≤hi∧∀x∈zh4 p,x∈l:=by
 obtain⟨h1,h2⟩:=zdS h.may;have hg:=h2 p hp;have hsub:∀x∈zh4 p,x∈l:=fun x hx=>by rw[←h1];exact List.mem_flatMap.2 ⟨p,hp,hx⟩
 obtain⟨g0,g1,g2,g3,g4⟩:=hg.1;have hf:=h.bd _ (hsub p.f ((zfJ hg.1).2 ⟨Int.le_refl _,g1,by simp⟩))
 have ht:=h.bd _ (hsub p.t ((zfJ hg.1).2 ⟨g1,Int.le_refl _,g4⟩));exact⟨hg,hf.1,ht.2,hsub⟩
theorem zsP {lo hi:Int} {l:List Int} (h:Numb lo hi l) (hc:zb8 l=[⟨lo,hi,1⟩]) (n:Int):n∈l↔lo≤n∧n≤hi:=by
 obtain⟨h1,h2⟩:=zdS h.may;rw[hc] at h1 h2;have hg:=h2 ⟨lo,hi,1⟩ (by simp)
 rw[←h1,List.flatMap_singleton,zfJ hg.1];simp[Int.emod_one]
theorem zqF {lo hi:Int} {l:List Int} (h:Numb lo hi l) (S:Bool) (n:Int):inB (zab lo hi l S) lo hi n=decide (n∈l):=by
 unfold zab;split
 ·rename_i hc;rw[waQ,waM,zsP h hc.2];unfold inB zeU;have hm:zbx ⟨0,0,0,1⟩ lo hi=true:=waP ⟨h.lo0,h.le,by have:=h.hi9;omega,.inl ⟨rfl,rfl,rfl,by decide,by decide⟩⟩
  simp only[List.any_cons,List.any_nil,Bool.or_false,hm,Bool.true_and,zqz,bF,bT,bS,waM];simp
 ·rw[waQ,waM];unfold inB;rw[List.any_map,List.any_eq_true];obtain⟨h1,h2⟩:=zdS h.may;constructor
  ·rintro ⟨p,hp,hn⟩;obtain⟨hg,hf,ht,hsub⟩:=h.piece hp;have hn:zeU lo hi n (itP p)=true:=hn;rw[zqE hg h.lo0 hf ht h.hi9,waM] at hn;exact hsub n hn
  ·intro hn;rw[←h1] at hn;obtain⟨p,hp,hx⟩:=List.mem_flatMap.1 hn;obtain⟨hg,hf,ht,hsub⟩:=h.piece hp;refine⟨p,hp,?_⟩;show zeU lo hi n (itP p)=true;rw[zqE hg h.lo0 hf ht h.hi9,waM];exact hx
theorem zkR {lo hi:Int} {l:List Int} (h:Numb lo hi l) (S:Bool):((zab lo hi l S).length=0↔l=[])∧(zab lo hi l S).length≤l.length:=by
 obtain⟨h1,h2⟩:=zdS h.may;have hn:zb8 l=[]↔l=[]:=by
  constructor
  ·intro e;rw[←h1,e];rfl
  ·rintro rfl;rfl
 unfold zab;split
 ·rename_i hc;have hne:l≠[]:=fun e=>by rw[hn.2 e] at hc;cases hc.2
  have:0<l.length:=List.length_pos_iff.2 hne;exact⟨⟨(fun e=>by cases e),fun e=>absurd e hne⟩,by simp only[waG,List.length_nil];omega⟩
 ·rw[List.length_map];exact⟨by rw[List.length_eq_zero_iff,hn],zib l⟩
theorem zhB {lo hi:Int} {l:List Int} (h:Numb lo hi l) (S:Bool):∀i∈zab lo hi l S,zbx i lo hi=true∧i.k≠3:=by
 unfold zab;split
 ·intro i hi;rw[wbC] at hi;subst hi;exact⟨waP ⟨h.lo0,h.le,by have:=h.hi9;omega,.inl ⟨rfl,rfl,rfl,by decide,by decide⟩⟩,by decide⟩
 ·intro i hi;obtain⟨p,hp,rfl⟩:=List.mem_map.1 hi;obtain⟨hg,hf,ht,_⟩:=h.piece hp;refine⟨zqD hg h.lo0 hf ht h.hi9,?_⟩;unfold itP;split
  ·show(1:Int)≠3;decide
  ·show(2:Int)≠3;decide
theorem zgr {lo hi:Int} (l:List Int):zbF (zab lo hi l false)=false:=by
 unfold zab;rw[if_neg (by rintro ⟨h,_⟩;cases h)]
 cases zb8 l with
 |nil=>rfl
 |cons p ps=>
  show decide ((itP p).k=0)=false;unfold itP;split<;>rfl
end Go.Proofs.YtadefhkaejjfmaaGreatDoor
