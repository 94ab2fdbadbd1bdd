/- A part of the proof: WRollP RBits RSet RClowA LItem WCron2 WSame24 LCron LCron3 RClow RToc1 -/
import Derived.Test.YtgedndlifiihkaaGreatDoorR08
import Derived.Lib.TrailingZeros
import Derived.Test.YtgedndlifiihkaaGreatDoorR05
import Derived.Test.YtgedndlifiihkaaGreatDoorR03
import Derived.Test.YtgedndlifiihkaaGreatDoorR01
import Derived.Test.YtgedndlifiihkaaGreatDoorR02
import Derived.Test.YtgedndlifiihkaaGreatDoorR00
set_option maxHeartbeats 80000000
set_option maxRecDepth 100000
set_option linter.unusedSimpArgs false
set_option linter.unusedVariables false
namespace Go.Proofs.YtgedndlifiihkaaGreatDoor
open Go.Proofs.Tryz
def zdX (x:LSt):Value:=.agg #[.bool x.act,.int .i64 x.fr,.int .i64 x.un,.int .i64 x.ph]
theorem zrE {x y:LSt} (h:zdX x=zdX y):x=y:=by
 cases x;cases y;simp only[zdX,Value.agg.injEq,Array.mk.injEq,List.cons.injEq,Value.bool.injEq,Value.int.injEq,and_true,true_and] at h;obtain⟨rfl,rfl,rfl,rfl⟩:=h;rfl
def zeM (L:List Cl) (i:Nat):Cl:=L.getD i zu6
def zbK (L:List Cl) (x:Nat→LSt) (s:Nat):Bool:=(List.range L.length).any fun i=>zfR (zeM L i) (x i) (s:Int)
def stN (L:List Cl) (n:Int) (i:Nat):LSt:=if i<L.length then zlf (zeM L i) n else stZ
def zap (L:List Cl) (n:Int) (s:Nat):Bool:=zrB L (n * 86400+(s:Int))
theorem zfn (c:Cl) {x:LSt} (h:x.act=false) (s:Int):zfR c x s=false:=by
 unfold zfR;rw[waO (fun g=>by rw[h] at g;cases g.1)]
 rfl
theorem ziQ {L:List Cl} (h:zeW L=true) {n:Int} (h0:0≤n) (h1:n<146097) {s:Nat} (hs:s<86400):zbK L (stN L n) s=zap L n s:=by
 unfold zbK zap zrB;rw[h,Bool.true_and,waQ,List.any_eq_true,List.any_eq_true];constructor
 ·rintro ⟨i,hi,he⟩;have hi':=wbG.1 hi;rw[stN,if_pos hi',zpt _ h0 h1 (by omega) (by omega)] at he
  refine⟨zeM L i,?_,he⟩;unfold zeM;rw[List.getD_eq_getElem?_getD,waE hi'];exact List.getElem_mem hi'
 ·rintro ⟨c,hc,he⟩;obtain⟨i,hi,rfl⟩:=List.mem_iff_getElem.1 hc;refine⟨i,wbG.2 hi,?_⟩;have e:zeM L i=L[i]:=by unfold zeM;rw[List.getD_eq_getElem?_getD,waE hi];rfl
  rw[stN,if_pos hi,e,zpt _ h0 h1 (by omega) (by omega)]
  exact he
theorem zrF {L:List Cl} {x y:Nat→LSt} (h:∀i,i<L.length→x i=y i) (s:Nat):zbK L x s=zbK L y s:=by
 unfold zbK;rw[waQ,List.any_eq_true,List.any_eq_true];constructor<;>rintro ⟨i,hi,he⟩<;>refine⟨i,hi,?_⟩
 ·rw[←h i (wbG.1 hi)];exact he
 ·rw[h i (wbG.1 hi)];exact he
def ziR:LSt:=⟨true,0,86399,0⟩
def zdY (x:Nat→LSt):Nat→Nat
 |0=>0
 |k+1=>zdY x k+if (x k).act then 2^k else 0
theorem zg3 (x:Nat→LSt):∀k,zdY x k<2^k
 |0=>by simp[zdY]
 |k+1=>by
  have:=zg3 x k;simp only[zdY,Nat.pow_succ];split<;>omega
theorem ziS (x:Nat→LSt):∀k i,i<k→(zdY x k).testBit i=(x i).act
 |0,i,h=>by omega
 |k+1,i,h=>by
  have hl:=zg3 x k;simp only[zdY]
  by_cases hi:i=k
  ·subst hi;cases ha:(x i).act with
   |true=>rw [if_pos rfl,Nat.add_comm,Nat.testBit_two_pow_add_eq,waX hl];rfl
   |false=>rw [if_neg (by decide),Nat.add_zero,waX hl]
  ·rw[←ziS x k i (by omega)]
   cases ha:(x k).act with
   |true=>rw [if_pos rfl,Nat.add_comm,Nat.testBit_two_pow_add_gt (by omega)]
   |false=>rw [if_neg (by decide),Nat.add_zero]
def whS (a:Nat) (i:Nat):LSt:=if a.testBit i then ziR else stZ
theorem zh9 {L:List Cl} {x:Nat→LSt} (h:∀i,i<L.length→(x i).act=true→x i=ziR) (s:Nat):zbK L (whS (zdY x L.length)) s=zbK L x s:=by
 unfold zbK;rw[waQ,List.any_eq_true,List.any_eq_true];constructor<;>rintro ⟨i,hi,he⟩<;>refine⟨i,hi,?_⟩<;>have hi':=wbG.1 hi<;>unfold whS at * <;>rw [ziS x _ i hi'] at * <;>cases ha:(x i).act
 ·rw[ha,if_neg (by decide),zfn _ rfl] at he;cases he
 ·rw[ha,if_pos rfl,←h i hi' ha] at he;exact he
 ·rw[zfn _ ha] at he;cases he
 ·rw[if_pos rfl,←h i hi' ha];exact he
theorem zj2 {L:List Cl} {x:Nat→LSt} (h:zdY x L.length=0) (s:Nat):zbK L x s=false:=by
 unfold zbK;rw[List.any_eq_false];intro i hi;have:=ziS x L.length i (wbG.1 hi);rw[h,Nat.zero_testBit] at this;rw[zfn _ this.symm];decide
def zas (m:Nat):List Nat:=(List.range 64).filter fun i=>m.testBit i
theorem zaT {m i:Nat}:i∈zas m↔i<64∧m.testBit i=true:=by simp[zas]
theorem znu:zas 0=[]:=by simp[zas]
theorem zfo (m:Nat):(zas m).length≤64:=by
 have:=List.length_filter_le (fun i=>m.testBit i) (List.range 64)
 rw[List.length_range] at this;exact this
theorem zbg (m:Nat):(zas m).Pairwise (·< ·):=List.Pairwise.filter _ List.pairwise_lt_range
theorem ztQ {m:Nat} (h0:m≠0) (h:m<18446744073709551616):Go.Lib.ctz 64 m<64∧m.testBit (Go.Lib.ctz 64 m)=true∧∀j,j<Go.Lib.ctz 64 m→m.testBit j=false:=by
 have e:Go.Lib.ctz 64 m=Go.Lib.ctzFrom 64 m:=if_neg h0;obtain⟨q,hq,hk⟩:=Go.Lib.ctzFrom_spec 64 m oQ h;rw[e];generalize Go.Lib.ctzFrom 64 m=k at *;refine⟨hk,?_,fun j hj=>?_⟩
 ·rw[hq,Nat.mul_comm,Nat.testBit_mul_two_pow];simp[Nat.testBit_zero]
 ·rw[hq,Nat.mul_comm,Nat.testBit_mul_two_pow];simp;omega
theorem znv {m:Nat} (h0:m≠0) (h:m<18446744073709551616):∃r,zas m=Go.Lib.ctz 64 m::r:=by
 obtain⟨h1,h2,h3⟩:=ztQ h0 h;have hm:Go.Lib.ctz 64 m∈zas m:=zaT.2 ⟨h1,h2⟩;have hs:=zbg m;cases hb:zas m with
 |nil=>rw [hb] at hm;cases hm
 |cons a r=>
  rw[hb] at hm hs;have ha:a∈zas m:=by rw[hb];simp
  rcases List.mem_cons.1 hm with e|hr
  ·exact⟨r,by rw[e]⟩
  ·have:=(List.pairwise_cons.1 hs).1 _ hr;have:=h3 a this;rw[(zaT.1 ha).2] at this;cases this
theorem znw {m k:Nat} {pre rest:List Nat} (h:zas m=pre++k::rest):zas (m>>>(k+1)<<<(k+1))=rest:=by
 have hs:=zbg m;have e:zas (m>>>(k+1)<<<(k+1))=(zas m).filter fun i=>decide (k<i):=by
  unfold zas;rw[List.filter_filter];apply List.filter_congr;intro i _;rw[Nat.testBit_shiftLeft,Nat.testBit_shiftRight]
  by_cases hi:k<i
  ·rw[show k+1+(i - (k+1))=i by omega]
   have h5:k+1≤i:=hi;simp[hi,h5]
  ·simp[hi];omega
 rw[h] at hs;obtain⟨_,h2,h3⟩:=List.pairwise_append.1 hs;obtain⟨h4,_⟩:=List.pairwise_cons.1 h2;rw[e,h,List.filter_append,List.filter_cons];rw[List.filter_eq_nil_iff.2 (fun a ha=>by simp;exact Nat.le_of_lt (h3 a ha k (by simp)))]
 simp only[Nat.lt_irrefl,decide_false,wbN];exact List.filter_eq_self.2 (fun a ha=>by simpa using h4 a ha)
theorem zmj (m k:Nat) (h:m<18446744073709551616):m>>>k<<<k<18446744073709551616:=by
 have:m>>>k<<<k≤m:=by rw[Nat.shiftRight_eq_div_pow,Nat.shiftLeft_eq];exact Nat.div_mul_le_self m (2^k)
 omega
noncomputable def mOf (Q:Nat→Prop):Nat:=mkN (fun k=>@decide (Q k) (Classical.propDecidable _)) 64
theorem zbN (Q:Nat→Prop):mOf Q<18446744073709551616:=zc0 _ 64
theorem zfS (Q:Nat→Prop) (k:Nat):(mOf Q).testBit k=true↔k<64∧Q k:=by
 unfold mOf;rw[zbl];simp
theorem zj3 {m:Nat} {Q:Nat→Prop} (hm:m<18446744073709551616) (h:∀k,k<64→(m.testBit k=true↔Q k)):m=mOf Q:=by
 apply Nat.eq_of_testBit_eq;intro k;rw[waQ,zfS]
 by_cases hk:k<64
 ·rw[h k hk];simp[hk]
 ·have h64:m<2^k:=waD hm (Nat.pow_le_pow_right (n:=2) (i:=64) (j:=k) dQ oQ);rw[waX h64];simp[hk]
def zde (P:Int→Nat→Bool) (n:Int) (s:Nat):Prop:=0≤n∧n<146097∧s<86400∧P n s=true
def zbL (P:Int→Nat→Bool) (n:Int):Prop:=∃s,zde P n s
def zcL (P Q:Int→Nat→Bool):Prop:=∀n s,0≤n→n<146097→s<86400→P n s=Q n s
theorem zcL.symm {P Q:Int→Nat→Bool} (h:zcL P Q):zcL Q P:=fun n s h0 h1 h2=>(h n s h0 h1 h2).symm
theorem zcL.trans {P Q R:Int→Nat→Bool} (h:zcL P Q) (k:zcL Q R):zcL P R:=fun n s h0 h1 h2=>(h n s h0 h1 h2).trans (k n s h0 h1 h2)
theorem zcL.liveI {P Q:Int→Nat→Bool} (h:zcL P Q) (n:Int) (s:Nat):zde P n s↔zde Q n s:=by
 unfold zde;constructor<;>rintro ⟨a,b,c,d⟩<;>refine⟨a,b,c,?_⟩
 ·rw[←h n s a b c];exact d
 ·rw[h n s a b c];exact d
theorem zcL.liveD {P Q:Int→Nat→Bool} (h:zcL P Q) (n:Int):zbL P n↔zbL Q n:=by
 unfold zbL;simp only[h.liveI]
theorem zbL.win {P:Int→Nat→Bool} {n:Int} (h:zbL P n):0≤n∧n<146097:=by
 obtain⟨s,a,b,_⟩:=h;exact⟨a,b⟩
noncomputable def zcF (P:Int→Nat→Bool):Nat:=mOf fun k=>∃n s,zde P n s∧s / 60%60=k
noncomputable def za5 (P:Int→Nat→Bool):Nat:=mOf fun k=>∃n s,zde P n s∧s / 3600=k
noncomputable def zaY (P:Int→Nat→Bool):Nat:=mOf fun k=>∃n,zbL P n∧mD n=(k:Int)
noncomputable def zbB (P:Int→Nat→Bool):Nat:=mOf fun k=>∃n,zbL P n∧dD n=(k:Int)
noncomputable def wkF (P:Int→Nat→Bool):Nat:=mOf fun k=>∃n,zbL P n∧wdD n=(k:Int)
def zeX (P:Int→Nat→Bool):Prop:=∃n,zbL P n
noncomputable def domW (P:Int→Nat→Bool):Nat:=mOf fun k=>(∃n,0≤n∧n<146097∧(∃n',zbL P n'∧mD n'=mD n)∧dD n=(k:Int))∧∀n,0≤n→n<146097→(∃n',zbL P n'∧mD n'=mD n)→dD n=(k:Int)→zbL P n
noncomputable def wkW (P:Int→Nat→Bool):Nat:=mOf fun k=>(1≤k∧k≤7)∧∀n,0≤n→n<146097→(∃n',zbL P n'∧mD n'=mD n)→wdD n=(k:Int)→zbL P n
end Go.Proofs.YtgedndlifiihkaaGreatDoor
namespace Go.Proofs.YtgedndlifiihkaaGreatDoor
open Go.Proofs.Tryz
open Go.RowKit
theorem zrG (c:Cl) (p:Int→Bool) (n:Int):zuI c p n=(((zb3 (c.m 4) (dD n)&&zb3 (c.m 6) (wdD n))||(c.or&&(zb3 (c.m 4) (dD n)||zb3 (c.m 6) (wdD n))))&&(zb3 (c.m 3) (mD n)&&(zb3 (c.m 5) (zbe (yD n) (mD n) - dD n+1)&&(zpi c.y (yD n - 1970)&&(zhN c n&&p n))))):=rfl
theorem zdn (l:List Int) (n:Int):zb3 (zan l) n=decide (0≤n∧n<64∧n∈l):=by
 unfold zb3;rw[wbH];constructor
 ·rintro ⟨h0,h1,h2⟩;refine⟨h0,h1,?_⟩;rw[zgN l n.toNat (by omega)] at h2
  split at h2
  ·rename_i h;rwa [Int.toNat_of_nonneg h0] at h
  ·cases h2
 ·rintro ⟨h0,h1,h2⟩;refine⟨h0,h1,?_⟩;rw[zgN l n.toNat (by omega),if_pos (by rwa [Int.toNat_of_nonneg h0])]
theorem zfT (a b n:Int) (h0:0≤n) (h1:n<64):zb3 (zaL a b) n=decide (a≤n∧n≤b):=by
 unfold zaL;rw[zdn,wbH,zdG];omega
theorem zpv (p:Nat→Bool):∀k,mkN (fun i=>!p i) k=2^k - 1 - mkN p k
 |0=>rfl
 |k+1=>by
  have h:=zc0 p k;rw[mkN,mkN,zpv p k,Nat.pow_succ];cases p k<;>simp<;>omega
theorem zj4 {l m:List Int} (h:∀x,0≤x→x<64→x∈l→x∈m):zaX (zan l,zan m)=true:=by
 have hl:=zex l;have hm:=zex m;unfold zaX;rw[beq_iff_eq];show bits .andNot .u64 (zan l) (zan m)=0;rw[u64_andNot _ _ hl.1 hl.2 hm.1 hm.2];have e1:(zan l).toNat=mkN (inL l) 64:=by unfold zan;simp
 have e2:(zan m).toNat=mkN (inL m) 64:=by unfold zan;simp
 have e3:(18446744073709551615 - mkN (inL m) 64)=mkN (fun i=>!inL m i) 64:=(zpv _ 64).symm
 rw[e1,e2,e3,zox];have e4:mkN (fun i=>inL l i&&!inL m i) 64=mkN (fun _=>false) 64:=zbO fun i hi=>by
  simp only[inL]
  by_cases hx:(i:Int)∈l
  ·simp[h (i:Int) (by omega) (by omega) hx]
  ·simp[hx]
 rw[e4,zgu];rfl
theorem ztR (l:List Int):M64 (zan l):=zex l
theorem ztS (a b:Int):M64 (zaL a b):=zex _
theorem zcq {l:List Int} {a b:Int} (h:∀x,x∈l→a≤x∧x≤b):zaX (zan l,zaL a b)=true:=
 zj4 fun x _ _ hx=>by have:=h x hx;rw[zdG];omega
theorem zlh (a b:Int):zaX (zaL a b,zaL a b)=true:=zj4 fun _ _ _ h=>h
theorem zj5 {l:List It} {lo hi x:Int} (h:inB l lo hi x=true):lo≤x∧x≤hi:=by
 simp only[inB,List.any_eq_true,zdU,waN,zgp,waM] at h;obtain⟨i,_,hm,h1,h2,_⟩:=h;obtain⟨h3,h4,h5,h6⟩:=zoQ hm;omega
theorem zfU {l:List It} {lo hi x:Int} (h:x∈zao l lo hi):lo≤x∧x≤hi:=zj5 (((zba lo hi l).2 x).1 h)
theorem zgz {l:List It} {lo hi n:Int} (h0:0≤n) (h1:n<64):zb3 (zan (zao l lo hi)) n=inB l lo hi n:=by
 rw[zdn,waQ,waM,(zba lo hi l).2 n];exact⟨fun h=>h.2.2,fun h=>⟨h0,h1,h⟩⟩
theorem zrH {c:Cl} (h0:c.oi=0) (h1:c.ob=false) (h2:∀k,c.od k=0):zjw c=true:=by
 unfold zjw zuH;rw[if_pos h0];simp[h0,h1,h2]
theorem zpw {n:Int} (h0:0≤n) (h1:n<400):zpi zcj n=true:=by
 unfold zpi;rw[waP ⟨h0,h1⟩];unfold zcj;rw[zfT _ _ _ (by omega) (by omega)]
 simp;omega
theorem zj6 (lo hi:Int) (A:Option Addr) (n c:Nat) (l:List It) (w:World) (hA:zcA w A n l) (hn:n≤100000):
 Calls prog 33 #[.int .i64 lo,.int .i64 hi,.slice A n c] w (Ret (.int .u64 (zan (zao l lo hi))) w):=by
 have HV:=waV (zm9 lo hi A n c l w hA hn);have hlen:(zsV lo hi l).length≤1000000000:=by
  have h1:=ziB lo hi l;have h2:=zeU ((zeQ lo hi l).mergeSort fun x y=>decide (x≤y))
  rw[zfc] at h2;have h3:l.length=n:=hA.1;unfold zsV;omega
 rw[←zuR];generalize zsV lo hi l=V at *;clear hA;go_enter func33,ntmps33;go_wp2_with fail;refine HV.out.mono ?_;rintro e w1 ⟨v,rfl,hown,hb⟩;obtain⟨A',c',rfl,_,_,hrd,_⟩:=zbk.rd hown;have HM:=waV (zdk A' V.length c' V w1 hrd oQ);clear hown hrd;go_wp2_with fail;refine HM.out.mono ?_;rintro e w2 ⟨rfl,rfl⟩;go_wp2;go_ret;exact⟨rfl,hb⟩
theorem zpx (k:Nat) (hk:k<5) (A:Nat→Option Addr) (n c:Nat→Nat) (w:World):Calls prog 22 #[crV A n c,.int .i64 k] w (Ret (.slice (A k) (n k) (c k)) w):=by
 obtain rfl|rfl|rfl|rfl|rfl:k=0∨k=1∨k=2∨k=3∨k=4:=by omega
 all_goals
  go_enter func22,ntmps22;go_wp2;go_ret;exact⟨rfl,by exact zaG⟩
theorem znx {l:List It} {it:It} (h:l[0]?=some it):zbJ l=decide (it.k=0):=by
 cases l with
 |nil=>simp at h
 |cons a l=>obtain rfl:a=it:=by simpa using h
            rfl
theorem zpy {l:List It} (h:l.length=0):zbJ l=false:=by
 rw[List.length_eq_zero_iff.1 h];rfl
def zfp (n:Nat→Nat):Bool:=decide (200<n 0∨200<n 1∨200<n 2∨200<n 3∨200<n 4)
theorem zia {n:Nat→Nat} {k:Nat} (hk:k<5) (h:200<n k):zfp n=true:=by
 obtain rfl|rfl|rfl|rfl|rfl:k=0∨k=1∨k=2∨k=3∨k=4:=by omega
 all_goals simp[zfp,h]
theorem zpz {n:Nat→Nat} (H:∀j,j<5→n j≤200):zfp n=false:=by
 have:=H 0;have:=H 1;have:=H 2;have:=H 3;have:=H 4;simp[zfp];omega
theorem zrI {n:Nat→Nat} (h:zfp n=false):∀k,k<5→n k≤200:=by
 intro k hk;rcases Nat.lt_or_ge 200 (n k) with h1|h1
 ·rw[zia hk h1] at h;cases h
 ·exact h1
theorem zpA (A:Nat→Option Addr) (n c:Nat→Nat) (w:World):Calls prog 6 #[crV A n c] w (Ret (.bool (zfp n)) w):=by
 go_enter func6,ntmps6;go_wp2
 go_loopw [3] (fun i wr=>∃k:Nat,k≤5∧i=.int .i64 k∧Hid (∀j,j<k→n j≤200)∧Hid (zbd wr w.heap.size 0 A n c)∧w.heap.size<wr.heap.size∧Below w.heap.size w wr) (fun i _=>5 - (intOf i).toNat)
 case atStart=>exact⟨0,by omega,rfl,fun j h=>absurd h (Nat.not_lt_zero _),⟨by simp[go_sem],by simp[go_sem],by simp[go_sem],by simp[go_sem],by simp[go_sem]⟩,by(first|(simp;done)|(simp;omega)),by exact zaG⟩
 case round=>
  obtain⟨k,hk,rfl,H,HC,hlt,hb⟩:=hrel;have hsz:=hb.size
  by_cases h5:k<5
  ·have h5':(k:Int)<5:=by omega
   have HF:=waV (zpx k h5 A n c wr);obtain⟨l0,l1,l2,l3,l4⟩:=HC.out;simp only[waH] at l1 l2 l3 l4
   by_cases hf:200<n k
   ·have HK:Hid (zfp n=true):=zia h5 hf;have hf':(200:Int)<(n k:Nat):=by omega
    go_wp2_with fail;refine HF.out.mono ?_;rintro e w1 ⟨rfl,hb1⟩;go_wp2;go_ret;exact⟨zak HK.out.symm,zai hb hb1 hsz⟩
   ·have Hf:Hid (n k≤200):=Nat.le_of_not_lt hf;have hf':¬(200:Int)<(n k:Nat):=by omega
    clear hf;go_wp2_with fail;refine HF.out.mono ?_;rintro e w1 ⟨rfl,hb1⟩;go_wp2;go_roundw
    case rel=>exact⟨k+1,by omega,by go_num,zjB H.out Hf.out,zbd.below HC.out (fun o=>hb1.cell (p:=⟨_,o,none⟩) hlt),waD hlt hb1.size,zai hb hb1 hsz⟩
    case measure=>simp [intOf];omega
  ·obtain rfl:k=5:=by omega
   have HK:Hid (zfp n=false):=zpz H.out;go_wp2;go_ret;exact⟨zak HK.out.symm,hb⟩
theorem zib (k:Nat) (hk:k<5) (A:Nat→Option Addr) (n c:Nat→Nat) (l:Nat→List It) (w:World) (hA:zb0 w A n l):
 Calls prog 26 #[crV A n c,.int .i64 k] w (Ret (.bool (zbJ (l k))) w):=by
 have hR:=hA k hk;have HLs:=waV (fun W b (h:zbd W b 0 A n c)=>zk5 k hk b A n c W h)
 clear hA
 by_cases h0:0<n k
 ·obtain⟨b,o,it,e1,hbl,hx,c0,c1,c2,c3⟩:=zcA.at_ hR h0
  rw[Nat.zero_mul,Nat.add_zero] at c0;have HS:Hid (zbJ (l k)=decide (it.k=0)):=znx hx;have h0':(0:Int)<((n k:Nat):Int):=by omega
  have HE:=waV e1;clear hx hR e1;go_enter func26,ntmps26;go_wp2_with fail;refine(HLs.out _ _ ⟨by simp[go_sem],by simp[go_sem],by simp[go_sem],by simp[go_sem],by simp[go_sem]⟩).mono ?_
  rintro e w1 ⟨rfl,q,rfl⟩;rw[HE.out];go_wp2;go_ret;exact⟨zak (by rw[HS.out,waQ];simp),by exact zaG⟩
 ·have h1:n k=0:=by omega
  have HS:Hid (zbJ (l k)=false):=zpy (by rw[hR.1,h1])
  have h1':¬(0:Int)<((n k:Nat):Int):=by omega
  clear h1 h0 hR;go_enter func26,ntmps26;go_wp2_with fail;refine(HLs.out _ _ ⟨by simp[go_sem],by simp[go_sem],by simp[go_sem],by simp[go_sem],by simp[go_sem]⟩).mono ?_
  rintro e w1 ⟨rfl,q,rfl⟩;go_wp2;go_ret;exact⟨zak HS.out.symm,by exact zaG⟩
def zbE (l:Nat→List It):Bool:=!zbJ (l 2)&&!zbJ (l 4)
theorem zfV (A:Nat→Option Addr) (n c:Nat→Nat) (l:Nat→List It) (w:World) (hA:zb0 w A n l):
 Calls prog 9 #[crV A n c] w (Ret (.bool (zbE l)) w):=by
 have H2:=waV (fun W (hb:Below w.heap.size w W)=>zib 2 oQ A n c l W (hA.below hb (waJ _)))
 have H4:=waV (fun W (hb:Below w.heap.size w W)=>zib 4 oQ A n c l W (hA.below hb (waJ _)))
 clear hA;unfold zbE;cases h2:zbJ (l 2) with
 |true=>
  rw[h2] at H2;clear h2;go_enter func9,ntmps9;go_wp2_with fail;refine(H2.out _ (by exact zaG)).mono ?_
  rintro e w1 ⟨rfl,hb1⟩;go_wp2;go_ret;exact⟨rfl,((waC _ w).alloc (waJ _) _).trans (hb1.mono (by simp))⟩
 |false=>
  rw[h2] at H2;clear h2;generalize zbJ (l 4)=q at H4 ⊢;go_enter func9,ntmps9;go_wp2_with fail;refine(H2.out _ (by exact zaG)).mono ?_
  rintro e w1 ⟨rfl,hb1⟩;obtain⟨hc,hf⟩:=zad hb1;have hb2:Below w.heap.size w w1:=((waC _ w).alloc (waJ _) _).trans (hb1.mono (by simp))
  go_wp2_with fail;refine(H4.out _ hb2).mono ?_;rintro e w2 ⟨rfl,hb3⟩;go_wp2;go_ret;exact⟨rfl,zai hb2 hb3 hb2.size⟩
theorem zmk (k:Nat) (hk:k<5) (A:Nat→Option Addr) (n c:Nat→Nat) (l:Nat→List It) (w:World) (hA:zb0 w A n l) (hn:n k≤4294967296) (hnil:A k=none→n k=0):
 Calls prog 63 #[crV A n c,.int .i64 k] w (zsS (n k) (l k) w):=by
 have HLs:=waV (fun W b (h:zbd W b 0 A n c)=>zk5 k hk b A n c W h)
 have HCl:=waV (fun W (hb:Below w.heap.size w W)=>zow (A k) (n k) (c k) (l k) W ((hA k hk).below hb (waJ _)) hn hnil)
 clear hA hn hnil;go_enter func63,ntmps63;go_wp2_with fail;refine(HLs.out _ _ ⟨by simp[go_sem],by simp[go_sem],by simp[go_sem],by simp[go_sem],by simp[go_sem]⟩).mono ?_
 rintro e w1 ⟨rfl,q,rfl⟩;go_wp2_with fail;refine(HCl.out _ (by exact zaG)).mono ?_
 rintro e w1 ⟨A',c',rfl,hr,hb1⟩;go_wp2;go_ret;exact⟨A',c',rfl,hr,(zaI ((waC _ w).alloc (waJ _) _) q).trans (hb1.mono (by simp))⟩
theorem ztT {M:Int} (h0:0≤M) (h1:M<18446744073709551616):bits .and .u64 M 1=M%2:=by
 rw[u64_and M 1 h0 h1 (by decide) (by decide)]
 have:M.toNat&&&(1:Int).toNat=M.toNat%2:=Nat.and_one_is_mod _;rw[this];omega
theorem zrJ (l:List Int) (w:World):Calls prog 34 #[.int .u64 (zan l),.int .i64 0] w (zbU (.bool (decide ((0:Int)∈l))) w):=by
 have hb:=zex l;have hm:=zgN l 0 dQ;have he:=ztT hb.1 hb.2;have HQ:Hid (decide ((0:Int)∈l)=(zan l%2==1)):=by
  show _=_;have e1:zan l / 2^0=zan l:=by simp
  rw[e1] at hm;rw[hm]
  by_cases h:(0:Int)∈l<;>simp [h]
 clear hm;generalize zan l=M at *;obtain⟨h0,h1⟩:=hb;go_enter func34,ntmps34;go_wp2;go_ret;exact⟨zak HQ.out.symm,rfl⟩
theorem zli:mkN (fun i=>decide (i≠0)) 64=18446744073709551614:=by decide+kernel
theorem zml (l:List Int):bits .andNot .u64 (zan l) 1=zan (l.filter fun x=>decide (x≠0)):=by
 have hb:=zex l;rw[u64_andNot _ 1 hb.1 hb.2 (by decide) (by decide)]
 have e1:(18446744073709551615 - (1:Int).toNat)=18446744073709551614:=rfl;have e2:(zan l).toNat=mkN (inL l) 64:=by unfold zan;simp
 rw[e1,e2,←zli,zox];unfold zan;congr 1;apply zbO;intro i hi;simp only[inL,List.mem_filter,waM]
 by_cases h:(i:Int)∈l<;>by_cases h0:i=0<;>simp [h,h0]
theorem zrK (l m:List Int):bits .or .u64 (zan l) (zan m)=zan (l++m):=by
 have h1:=zc0 (inL l) 64;have h2:=zc0 (inL m) 64;unfold zan;rw[u64_or_nat _ _ h1 h2,zl1];congr 1;apply zbO;intro i hi;simp only[inL,wbB]
 by_cases h:(i:Int)∈l<;>by_cases h0:(i:Int)∈m<;>simp [h,h0]
def wkL (V:List Int):List Int:=(if(0:Int)∈V then V++[7] else V).filter fun x=>decide (x≠0)
theorem zlj {V:List Int} {x:Int}:x∈wkL V↔x≠0∧(x∈V∨((0:Int)∈V∧x=7)):=by
 unfold wkL;rw[List.mem_filter];split
 ·rename_i h;simp only[wbB,wbC,waM];constructor
  ·rintro ⟨h1,h2⟩;exact⟨h2,h1.imp id fun e=>⟨h,e⟩⟩
  ·rintro ⟨h1,h2⟩;exact⟨h2.imp id fun e=>e.2,h1⟩
 ·rename_i h;simp only[waM];constructor
  ·rintro ⟨h1,h2⟩;exact⟨h2,.inl h1⟩
  ·rintro ⟨h1,h2⟩;exact⟨h2.elim id fun e=>absurd e.1 h,h1⟩
theorem zea (A:Option Addr) (n c:Nat) (l:List It) (w:World) (hA:zcA w A n l) (hn:n≤100000):
 Calls prog 11 #[.slice A n c] w (Ret (.int .u64 (zan (wkL (zao l 0 7)))) w):=by
 have HA:=waV hA;clear hA;have HB:=waV (zfb 4 dQ);have HM:=waV (fun W (hW:Below w.heap.size w W)=>zj6 0 7 A n c l W (HA.out.below hW (waJ _)) hn)
 have HO:=waV (fun b W h=>zdk (some ⟨b,0,none⟩) 1 1 [7] W h dQ)
 generalize zao l 0 7=V at *;have HH:=waV (fun W=>zrJ V W)
 by_cases h0:(0:Int)∈V
 ·have HE:Hid (zan (wkL V)=bits .andNot .u64 (bits .or .u64 (zan V) (zan [7])) 1):=by
   show _=_;rw[zrK,zml];unfold wkL;rw[if_pos h0]
  have hd:decide ((0:Int)∈V)=true:=waP h0;rw[hd] at HH;clear h0 hd;generalize zan V=M at *;go_enter func11,ntmps11;go_wp2_with fail;refine(HB.out _).mono ?_;rintro e w1 ⟨rfl,hb1⟩;go_wp2_with fail;refine(HM.out _ hb1).mono ?_;rintro e w2 ⟨rfl,hb2⟩;have hb12:=zai hb1 hb2 hb1.size;go_wp2_with fail;refine(HH.out _).mono ?_;rintro e w3 ⟨rfl,rfl⟩;go_wp2_with fail;refine(HO.out _ _ ?_).mono ?_
  ·exact zfO _ _ 7 (by simp) (by simp[go_sem])
  rintro e w4 ⟨rfl,rfl⟩;have hsz:=hb12.size;go_wp2;go_ret;exact⟨by rw[HE.out];rfl,by exact zaG⟩
 ·have HE:Hid (zan (wkL V)=bits .andNot .u64 (zan V) 1):=by
   show _=_;rw[zml];unfold wkL;rw[if_neg h0]
  have hd:decide ((0:Int)∈V)=false:=waO h0;rw[hd] at HH;clear h0 hd;generalize zan V=M at *;go_enter func11,ntmps11;go_wp2_with fail;refine(HB.out _).mono ?_;rintro e w1 ⟨rfl,hb1⟩;go_wp2_with fail;refine(HM.out _ hb1).mono ?_;rintro e w2 ⟨rfl,hb2⟩;have hb12:=zai hb1 hb2 hb1.size;go_wp2_with fail;refine(HH.out _).mono ?_;rintro e w3 ⟨rfl,rfl⟩;go_wp2;go_ret;exact⟨by rw[HE.out];rfl,hb12⟩
def ztU (l:Nat→List It) (i:Nat):Int:=
 if i=0 then 1 else if i=1 then zan (zao (l 0) 0 59) else if i=2 then zan (zao (l 1) 0 23) else if i=3 then zan (zao (l 3) 1 12) else if i=4 then zan (zao (l 2) 1 31) else if i=5 then zaL 1 31 else zan (wkL (zao (l 4) 0 7))
def zaV (l:Nat→List It):Cl:={m:=ztU l,or:=zbE l,oi:=0,ob:=false,od:=fun _=>0,y:=zcj,u:=0,s:=1,a:=0,f:=0,t:=12622780799}
theorem ziT:(1:Int)=zan [0]:=by decide+kernel
theorem zpB:eqW (zoo zcj) zcj=true:=by decide+kernel
theorem zgA (l:Nat→List It):ze7 (zaV l) zbv=true:=by
 have h0:zaX (1,zaL 0 59)=true:=by rw[ziT];exact zcq (by intro x hx;rw[wbC.1 hx];omega)
 have h1:zaX (zan (zao (l 0) 0 59),zaL 0 59)=true:=zcq fun x hx=>zfU hx
 have h2:zaX (zan (zao (l 1) 0 23),zaL 0 23)=true:=zcq fun x hx=>zfU hx
 have h3:zaX (zan (zao (l 3) 1 12),zaL 1 12)=true:=zcq fun x hx=>zfU hx
 have h4:zaX (zan (zao (l 2) 1 31),zaL 1 31)=true:=zcq fun x hx=>zfU hx
 have h5:zaX (zaL 1 31,zaL 1 31)=true:=zlh _ _;have h6:zaX (zan (wkL (zao (l 4) 0 7)),zaL 1 7)=true:=zcq fun x hx=>by
  obtain⟨n0,h|⟨_,rfl⟩⟩:=zlj.1 hx
  ·have:=zfU h;omega
  ·omega
 have hp:(zs5 (zaV l) zbv).all zaX=true:=by
  show [((1:Int),zaL 0 59),(zan (zao (l 0) 0 59),zaL 0 59),(zan (zao (l 1) 0 23),zaL 0 23),(zan (zao (l 3) 1 12),zaL 1 12),(zan (zao (l 2) 1 31),zaL 1 31),(zaL 1 31,zaL 1 31),(zan (wkL (zao (l 4) 0 7)),zaL 1 7)].all zaX=true;simp only[List.all_cons,List.all_nil,h0,h1,h2,h3,h4,h5,h6,Bool.and_true]
 have ho:zjw (zaV l)=true:=zrH rfl rfl fun _=>rfl
 have hy:eqW (zoo (zaV l).y) (zaV l).y=true:=zpB;unfold ze7;rw[hp,ho,hy];show(true&&(true&&(true&&(!(unT 0).isEmpty&&(decide ((1:Int)≤1)&&inC 0)))))=true;decide+kernel
theorem zg4 (l:Nat→List It):zcz (zaV l):=by
 refine⟨fun k hk=>?_,fun k hk=>(⟨by decide,by decide⟩:M64 0),fun k hk=>ztS _ _⟩
 show M64 (ztU l k);unfold ztU
 repeat' split
 ·exact⟨by decide,by decide⟩
 all_goals first|exact ztR _|exact ztS _ _
def zgg (l:Nat→List It) (t:Int):Bool:=
 inC t&&(decide (t%86400%60=0)&&(inB (l 0) 0 59 (t%86400 / 60%60)&&(inB (l 1) 0 23 (t%86400 / 3600)&&(inB (l 3) 1 12 (mD (t / 86400))&&
 (if zbJ (l 2)||zbJ (l 4) then inB (l 2) 1 31 (dD (t / 86400))&&(inB (l 4) 0 7 (wdD (t / 86400))||(decide (wdD (t / 86400)=7)&&inB (l 4) 0 7 0))
  else inB (l 2) 1 31 (dD (t / 86400))||(inB (l 4) 0 7 (wdD (t / 86400))||(decide (wdD (t / 86400)=7)&&inB (l 4) 0 7 0)))))))
theorem zrL {c:Cl} {n:Int} (h:0≤n) (h1:n<146097) (hy:c.y=zcj) (he:c.m 5=zaL 1 31) (ho:c.oi=0) (hu:c.u=0) (hs:c.s=1) (ha:c.a=0):
 zb3 (c.m 5) (zbe (yD n) (mD n) - dD n+1)=true∧zpi c.y (yD n - 1970)=true∧zhN c n=true∧zjv c.u c.s c.a n=true:=by
 obtain⟨_,_,_,_,y0,y1⟩:=zgQ h h1;obtain⟨_,m1,m2,d1,d2⟩:=zc4 h h1;have hl:=zb7 (y:=yD n) m1 m2;refine⟨?_,?_,?_,?_⟩
 ·rw[he,zfT _ _ _ (by omega) (by omega)]
  simp;omega
 ·rw[hy];exact zpw (by omega) (by omega)
 ·unfold zhN;rw[ho];rfl
 ·rw[hu,hs,ha];exact ziO (by decide+kernel) (by decide) (.inr rfl)
theorem zrM (l:Nat→List It) (t:Int):zrA (zaV l) t=zgg l t:=by
 unfold zrA zgg;cases hi:inC t with
 |false=>rfl
 |true=>
  obtain⟨t0,t1⟩:=ztH hi;have h1:decide (zaE (zaV l).f (zaV l).t≤t∧t≤zat (zaV l).f (zaV l).t)=true:=waP ⟨t0,by show t≤12622780799;omega⟩
  have h2:onU (zaV l).u (zaV l).s (zaV l).a t=true:=by
   show onU 0 1 0 t=true;refine waP ⟨by decide+kernel,waP ⟨hi,by decide,by decide⟩,by decide,?_⟩
   omega
  obtain⟨e1,e2,e3,e4⟩:=zrL (c:=zaV l) (n:=t / 86400) oQ oQ rfl rfl rfl rfl rfl rfl;have e5:zcB (t%86400) ((zaV l).m 2) ((zaV l).m 1) ((zaV l).m 0)=(inB (l 1) 0 23 (t%86400 / 3600)&&(inB (l 0) 0 59 (t%86400 / 60%60)&&decide (t%86400%60=0))):=by
   show zcB (t%86400) (zan (zao (l 1) 0 23)) (zan (zao (l 0) 0 59)) 1=_;unfold zcB;rw[zgz (by omega) (by omega),zgz (by omega) (by omega),ziT,zdn]
   congr 2;rw[wbH,wbC];omega
  obtain⟨_,m1,m2,d1,d2⟩:=zc4 (n:=t / 86400) oQ oQ;have hl:=zb7 (y:=yD (t / 86400)) m1 m2;have hw:=zcm (t / 86400);have e6:zb3 ((zaV l).m 4) (dD (t / 86400))=inB (l 2) 1 31 (dD (t / 86400)):=zgz oQ oQ;have e7:zb3 ((zaV l).m 3) (mD (t / 86400))=inB (l 3) 1 12 (mD (t / 86400)):=zgz oQ oQ;have e8:zb3 ((zaV l).m 6) (wdD (t / 86400))=(inB (l 4) 0 7 (wdD (t / 86400))||(decide (wdD (t / 86400)=7)&&inB (l 4) 0 7 0)):=by
   show zb3 (zan (wkL (zao (l 4) 0 7))) (wdD (t / 86400))=_;rw[zdn,waQ,waM,zlj,wbF,waN,waM,(zba 0 7 (l 4)).2,(zba 0 7 (l 4)).2];constructor
   ·rintro ⟨_,_,_,h|⟨h,h7⟩⟩
    ·exact .inl h
    ·exact .inr ⟨h7,h⟩
   ·rintro (h|⟨h7,h⟩)
    ·exact⟨by omega,by omega,by omega,.inl h⟩
    ·exact⟨by omega,by omega,by omega,.inr ⟨h,h7⟩⟩
  have e9:(zaV l).or=(!zbJ (l 2)&&!zbJ (l 4)):=rfl;rw[zgA,h1,h2,e5];unfold zj1;rw[zgA,zrG,e1,e2,e3,e4,e6,e7,e8,e9];generalize inB (l 2) 1 31 (dD (t / 86400))=D;generalize (inB (l 4) 0 7 (wdD (t / 86400))||(decide (wdD (t / 86400)=7)&&inB (l 4) 0 7 0))=K
  generalize inB (l 1) 0 23 (t%86400 / 3600)=a;generalize inB (l 0) 0 59 (t%86400 / 60%60)=b;generalize decide (t%86400%60=0)=s;generalize inB (l 3) 1 12 (mD (t / 86400))=m;cases zbJ (l 2)<;>cases zbJ (l 4)<;>cases D<;>cases K<;>cases a<;>cases b<;>cases s<;>cases m<;>rfl
end Go.Proofs.YtgedndlifiihkaaGreatDoor
namespace Go.Proofs.YtgedndlifiihkaaGreatDoor
open Go.Proofs.Tryz
def zax (m:Nat):List Int:=(zas m).map fun(k:Nat)=>(k:Int)
theorem ziU {m:Nat} {x:Int}:x∈zax m↔∃k:Nat,k<64∧m.testBit k=true∧x=(k:Int):=by
 unfold zax;rw[List.mem_map];constructor
 ·rintro ⟨k,hk,rfl⟩;obtain⟨h1,h2⟩:=zaT.1 hk;exact⟨k,h1,h2,rfl⟩
 ·rintro ⟨k,h1,h2,rfl⟩;exact⟨k,zaT.2 ⟨h1,h2⟩,rfl⟩
theorem ztV (m:Nat):(zax m).Pairwise (·< ·):=by
 unfold zax;rw[List.pairwise_map];exact(zbg m).imp fun h=>by omega
theorem ziV (m:Nat):(zax m).length<65:=by
 unfold zax;rw[List.length_map];exact Nat.lt_succ_of_le (zfo m)
def BdM (lo hi:Nat) (m:Nat):Prop:=∀k,k<64→m.testBit k=true→lo≤k∧k≤hi
theorem BdM.numb {lo hi m:Nat} (h:BdM lo hi m) (hle:lo≤hi) (h9:hi≤999):Numb (lo:Int) (hi:Int) (zax m):=⟨by omega,by omega,by omega,fun x hx=>by
 obtain⟨k,h1,h2,rfl⟩:=ziU.1 hx;have:=h k h1 h2;omega,ztV m⟩
theorem zu7 {lo hi m:Nat} (h:BdM lo hi m) (hle:lo≤hi) (h9:hi≤63) (S:Bool) (k:Nat):inB (zab (lo:Int) (hi:Int) (zax m) S) (lo:Int) (hi:Int) (k:Int)=decide (k<64∧m.testBit k=true):=by
 rw[zoU (h.numb hle (by omega)),wbH,ziU]
 constructor
 ·rintro ⟨j,h1,h2,h3⟩;obtain rfl:k=j:=by omega
  exact⟨h1,h2⟩
 ·rintro ⟨h1,h2⟩;exact⟨k,h1,h2,rfl⟩
theorem zrN {m:Nat} (hm:m<18446744073709551616):zax m=[]↔m=0:=by
 constructor
 ·intro h;apply Nat.eq_of_testBit_eq;intro k;rw[Nat.zero_testBit,Bool.eq_false_iff];intro hb;have hk:k<64:=by
   false_or_by_contra
   have h64:m<2^k:=waD hm (Nat.pow_le_pow_right (n:=2) (i:=64) (j:=k) dQ oQ);rw[waX h64] at hb;cases hb
  have:(k:Int)∈zax m:=ziU.2 ⟨k,hk,hb,rfl⟩;rw[h] at this;cases this
 ·rintro rfl;rfl
theorem zcI (lo hi lo' hi':Int) (l:List Int):zab lo hi l false=zab lo' hi' l false:=by
 unfold zab;rw[if_neg (by rintro ⟨h,_⟩;cases h),if_neg (by rintro ⟨h,_⟩;cases h)]
theorem zcM {k:Nat} {lo hi m:Nat} (hk:k<5) (h:BdM lo hi m) (hle:lo≤hi) (h9:hi≤63) (hlo:(lo:Int)=cLo k) (hhi:(hi:Int)=cHi k) (hm:m<18446744073709551616) (h0:m≠0) (S:Bool):zaD k (zab (lo:Int) (hi:Int) (zax m) S)=0:=by
 have hn:=h.numb hle oQ;obtain⟨h1,h2⟩:=zjJ hn S;have h3:=ziV m;refine zjz (fun e=>h0 ((zrN hm).1 (h1.1 e))) oQ fun j it hj hjt=>?_
 obtain⟨h4,h5⟩:=zgP hn S it (List.mem_of_getElem? hjt);rw[←hlo,←hhi,h4];simp[h5]
theorem zeA {k:Nat} {l:List It} {s:Int} (hk:k<5) (s0:1≤s) (s1:s≤999) (hl:l.length≤63) (h:∀i∈l,zbo i (cLo k) (cHi k)=true∧i.k≠3):zaD k (⟨0,0,0,s⟩::l)=0:=by
 refine zjz (by simp) (by simp only[waG];omega) fun j it hj hjt=>?_
 rcases List.mem_cons.1 (List.mem_of_getElem? hjt) with rfl|hm
 ·have:zbo ⟨0,0,0,s⟩ (cLo k) (cHi k)=true:=by
   refine waP ⟨?_,?_,?_,.inl ⟨rfl,rfl,rfl,s0,s1⟩⟩
   all_goals (obtain rfl|rfl|rfl|rfl|rfl:k=0∨k=1∨k=2∨k=3∨k=4:=by omega)
   all_goals decide
  rw[this];rfl
 ·obtain⟨h4,h5⟩:=h it hm;rw[h4];simp[h5]
theorem ziW (lo hi s:Int) (l:List It) (h0:0≤lo) (h1:lo≤hi) (h2:hi≤9999) (s0:1≤s) (s1:s≤999) (n:Int):inB (⟨0,0,0,s⟩::l) lo hi n=(decide (lo≤n∧n≤hi∧(n - lo)%s=0)||inB l lo hi n):=by
 have hm:zbo ⟨0,0,0,s⟩ lo hi=true:=waP ⟨h0,h1,h2,.inl ⟨rfl,rfl,rfl,s0,s1⟩⟩;unfold inB;rw[List.any_cons];congr 1;unfold zdU;rw[hm,Bool.true_and];rfl
def zca (w:Nat):Nat:=mkN (fun k=>if k=0 then w.testBit 0||w.testBit 7 else decide (k≠7)&&w.testBit k) 64
theorem zfW (w:Nat):zca w<18446744073709551616:=zc0 _ 64
theorem zc6 (w k:Nat) (hk:k<64):(zca w).testBit k=if k=0 then w.testBit 0||w.testBit 7 else decide (k≠7)&&w.testBit k:=by
 unfold zca;rw[zbl];simp[hk]
def zdo (m j:Nat):Nat:=mkN (fun k=>decide (k≠j)&&m.testBit k) 64
theorem zfq (m j:Nat):zdo m j<18446744073709551616:=zc0 _ 64
theorem zeb (m j k:Nat) (hk:k<64):(zdo m j).testBit k=(decide (k≠j)&&m.testBit k):=by
 unfold zdo;rw[zbl];simp[hk]
def zcY (mo:Nat):Int:=(zas mo).foldl (fun(a:Int) (m:Nat)=>max a (zbe 2000 (m:Int))) 0
theorem zrO {mo m:Nat} (h:m∈zas mo):zbe 2000 (m:Int)≤zcY mo:=by
 unfold zcY;have:∀(l:List Nat) (a:Int),a≤l.foldl (fun(a:Int) (m:Nat)=>max a (zbe 2000 (m:Int))) a∧∀m∈l,zbe 2000 (m:Int)≤l.foldl (fun(a:Int) (m:Nat)=>max a (zbe 2000 (m:Int))) a:=by
  intro l;induction l with
  |nil=>intro a;exact⟨Int.le_refl _,fun m hm=>by cases hm⟩
  |cons b l ih=>
   intro a;obtain⟨h1,h2⟩:=ih (max a (zbe 2000 (b:Int)));rw[List.foldl_cons];refine⟨by omega,fun m hm=>?_⟩
   rcases List.mem_cons.1 hm with rfl|hm
   ·omega
   ·exact h2 m hm
 exact(this _ 0).2 m h
theorem zmm {mo:Nat} {d:Int} (h0:1≤d) (h:d≤zcY mo):∃m∈zas mo,d≤zbe 2000 (m:Int):=by
 unfold zcY at h;have:∀(l:List Nat) (a:Int),d≤l.foldl (fun(a:Int) (m:Nat)=>max a (zbe 2000 (m:Int))) a→d≤a∨∃m∈l,d≤zbe 2000 (m:Int):=by
  intro l;induction l with
  |nil=>intro a h;exact .inl h
  |cons b l ih=>
   intro a h;rw[List.foldl_cons] at h;rcases ih _ h with h|⟨m,hm,h⟩
   ·by_cases hb:d≤zbe 2000 (b:Int)
    ·exact .inr ⟨b,by simp,hb⟩
    ·exact .inl oQ
   ·exact .inr ⟨m,by simp[hm],h⟩
 rcases this _ 0 h with h|h
 ·omega
 ·exact h
def zs7 (mo d:Nat):Bool:=(List.range 32).all fun k=>!decide (1≤k∧(k:Int)≤zcY mo)||d.testBit k
def zec (w:Nat):Bool:=(List.range 7).all fun k=>(zca w).testBit k
def zc7 (mi ho mo:Nat) (day week:List It) (k:Nat):List It:=
 if k=0 then zab 0 59 (zax mi) true else if k=1 then zab 0 23 (zax ho) true else if k=2 then day else if k=3 then zab 1 12 (zax mo) true else week
def zbF (mo d w:Nat):List It:=if zs7 mo d then [⟨0,0,0,1⟩] else if zec w then zab 1 31 (zax d) false else if d.testBit 1 then⟨0,0,0,31⟩::zab 1 31 (zax (zdo d 1)) false else zab 1 31 (zax d) false
def za0 (mo d w:Nat):List It:=if zec w then [⟨0,0,0,1⟩] else if zs7 mo d then zab 0 6 (zax (zca w)) false else if d.testBit 1 then zab 0 6 (zax (zca w)) false else⟨0,0,0,8⟩::zab 0 6 (zax (zdo (zca w) 0)) false
def zbh (mo d w:Nat):Bool:=zs7 mo d||(zec w||(d.testBit 1||(zca w).testBit 0))
noncomputable def zbM (P:Int→Nat→Bool):Nat→List It:=zc7 (zcF P) (za5 P) (zaY P) (zbF (zaY P) (zbB P) (wkF P)) (za0 (zaY P) (zbB P) (wkF P))
noncomputable def zbn (P:Int→Nat→Bool):Nat→List It:=zc7 (zcF P) (za5 P) (zaY P) (zab 1 31 (zax (domW P)) false) (zab 0 6 (zax (zca (wkW P))) false)
def ztW (k:Nat):List It:=if k=0 then [⟨1,0,0,0⟩] else if k=1 then [⟨1,0,0,0⟩] else if k=2 then [⟨1,30,0,0⟩] else if k=3 then [⟨1,2,0,0⟩] else [⟨0,0,0,1⟩]
def zeN (x:Nat→List It) (n:Int) (s:Nat):Bool:=zgg x (n * 86400+(s:Int))
def zfr (x:Nat→List It) (P:Int→Nat→Bool):Prop:=chk x=(5,0)∧zcL (zeN x) P
inductive Rais (P:Int→Nat→Bool):Option (Nat→List It)→Prop
 |empty:¬zeX P→Rais P (some ztW)
 |both:zeX P→zbh (zaY P) (zbB P) (wkF P)=true→zfr (zbM P) P→Rais P (some (zbM P))
 |either:zeX P→¬(zbh (zaY P) (zbB P) (wkF P)=true∧zfr (zbM P) P)→domW P≠0→wkW P≠0→zfr (zbn P) P→Rais P (some (zbn P))
 |none:zeX P→¬(zbh (zaY P) (zbB P) (wkF P)=true∧zfr (zbM P) P)→¬(domW P≠0∧wkW P≠0∧zfr (zbn P) P)→Rais P Option.none
theorem Rais.det {P:Int→Nat→Bool} {a b:Option (Nat→List It)} (h:Rais P a) (k:Rais P b):a=b:=by
 cases h<;>cases k<;>first|rfl|(exfalso;simp_all)
theorem zny {P Q:Int→Nat→Bool} (h:zcL P Q):zeX P↔zeX Q:=by unfold zeX;simp only[h.liveD]
theorem zlk {P Q:Int→Nat→Bool} (h:zcL P Q):zcF P=zcF Q∧za5 P=za5 Q∧zaY P=zaY Q∧zbB P=zbB Q∧wkF P=wkF Q∧domW P=domW Q∧wkW P=wkW Q:=by
 unfold zcF za5 zaY zbB wkF domW wkW;simp only[h.liveD,h.liveI,and_self]
theorem Rais.congr {P Q:Int→Nat→Bool} (hs:zcL P Q) {a:Option (Nat→List It)} (h:Rais P a):Rais Q a:=by
 obtain⟨e1,e2,e3,e4,e5,e6,e7⟩:=zlk hs;have eb:zbM P=zbM Q:=by unfold zbM;rw[e1,e2,e3,e4,e5]
 have ee:zbn P=zbn Q:=by unfold zbn;rw[e1,e2,e3,e6,e7]
 have em:∀x,zfr x P↔zfr x Q:=fun x=>by
  unfold zfr;constructor
  ·rintro ⟨a,b⟩;exact⟨a,b.trans hs⟩
  ·rintro ⟨a,b⟩;exact⟨a,b.trans hs.symm⟩
 have ea:=zny hs;cases h with
 |empty h=>exact .empty (fun g=>h (ea.2 g))
 |both h1 h2 h3=>rw [eb];rw[e3,e4,e5] at h2;exact .both (ea.1 h1) h2 (by rw[←eb];exact(em _).1 h3)
 |either h1 h2 h3 h4 h5=>rw [ee];rw[e3,e4,e5,em,eb] at h2;rw[e6] at h3;rw[e7] at h4;exact .either (ea.1 h1) h2 h3 h4 (by rw[←ee];exact(em _).1 h5)
 |none h1 h2 h3=>rw [e3,e4,e5,em,eb] at h2;rw[e6,e7,em,ee] at h3;exact .none (ea.1 h1) h2 h3
end Go.Proofs.YtgedndlifiihkaaGreatDoor
