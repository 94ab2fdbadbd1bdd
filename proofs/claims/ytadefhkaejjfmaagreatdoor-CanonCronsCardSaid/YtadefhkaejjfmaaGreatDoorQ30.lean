/- A part of the proof: RDays RSet RClowA LItem WCron2 WSame24 LCron LCron3 RClow RToc1 -/
import Derived.Test.YtadefhkaejjfmaaGreatDoorQ21
import Derived.Test.YtadefhkaejjfmaaGreatDoorQ09
import Derived.Test.YtadefhkaejjfmaaGreatDoorQ11
import Derived.Test.YtadefhkaejjfmaaGreatDoorQ08
import Derived.Test.YtadefhkaejjfmaaGreatDoorQ29
import Derived.Test.YtadefhkaejjfmaaGreatDoorQ01
import Derived.Test.YtadefhkaejjfmaaGreatDoorQ28
import Derived.Test.YtadefhkaejjfmaaGreatDoorQ00
set_option maxHeartbeats 80000000
set_option maxRecDepth 100000
set_option linter.unusedSimpArgs false
set_option linter.unusedVariables false
namespace Go.Proofs.YtadefhkaejjfmaaGreatDoor
open Go.Proofs.Tryz
theorem ziz {k:Int} (h0:0≤k) (h1:k<7):zdY (1972+4 * k)=true:=by
 obtain rfl|rfl|rfl|rfl|rfl|rfl|rfl:k=0∨k=1∨k=2∨k=3∨k=4∨k=5∨k=6:=by omega
 all_goals decide
theorem zqG {k m:Int} (h0:0≤k) (h1:k<7):zbq (1972+4 * k) m=zbq 2000 m:=by
 unfold zbq;rw[ziz h0 h1,show zdY 2000=true by decide]
theorem zgN {m d w:Int} (m1:1≤m) (m2:m≤12) (d1:1≤d) (d2:d≤zbq 2000 m) (w1:1≤w) (w2:w≤7):∃n,0≤n∧n<146097∧mD n=m∧dD n=d∧wdD n=w:=by
 obtain⟨a,ha⟩:∃a,a=jan 1972+zb9 1972 m+d - 1:=⟨_,rfl⟩;obtain⟨k,hk⟩:∃k,k=(3 * (w+3 - a))%7:=⟨_,rfl⟩;have k0:0≤k:=by omega
 have k1:k<7:=by omega
 have hl:=zqG (m:=m) k0 k1;have hc:zb9 (1972+4 * k) m=zb9 1972 m:=by
  unfold zb9 lpC;rw[ziz k0 k1,show zdY 1972=true by decide]
 have hj:jan (1972+4 * k)=jan 1972+1461 * k:=by
  unfold jan;obtain rfl|rfl|rfl|rfl|rfl|rfl|rfl:k=0∨k=1∨k=2∨k=3∨k=4∨k=5∨k=6:=by omega
  all_goals omega
 have hj0:jan 1972=730:=by decide
 have c0:0≤zb9 1972 m:=by
  have:=zby (y:=1972) (a:=1) (b:=m) oQ m1 oQ;rw[zc5] at this;omega
 have c1:zb9 1972 m≤366:=by
  have:=zby (y:=1972) (a:=m) (b:=13) oQ oQ oQ;have h:=zeC 1972;have:lpC 1972=1:=by decide
  omega
 have dl:d≤31:=by
  have:zbq 2000 m≤31:=by
   unfold zbq ztq
   repeat' split
   all_goals omega
  omega
 obtain⟨e1,e2,e3⟩:=zjj (n:=a+1461 * k) (y:=1972+4 * k) (m:=m) (d:=d) (by omega) (by omega) m1 m2 d1 (by rw[hl];exact d2) (by rw[hj,hc];omega)
 refine⟨a+1461 * k,by omega,by omega,e2,e3,?_⟩
 unfold wdD;omega
noncomputable def mOf (Q:Nat→Prop):Nat:=mkN (fun k=>@decide (Q k) (Classical.propDecidable _)) 64
theorem zbU (Q:Nat→Prop):mOf Q<18446744073709551616:=zc4 _ 64
theorem zf8 (Q:Nat→Prop) (k:Nat):(mOf Q).testBit k=true↔k<64∧Q k:=by
 unfold mOf;rw[zbn];simp
theorem zgs {m:Nat} {Q:Nat→Prop} (hm:m<18446744073709551616) (h:∀k,k<64→(m.testBit k=true↔Q k)):m=mOf Q:=by
 apply Nat.eq_of_testBit_eq;intro k;rw[waQ,zf8]
 by_cases hk:k<64
 ·rw[h k hk];simp[hk]
 ·have h64:m<2^k:=waD hm (Nat.pow_le_pow_right (n:=2) (i:=64) (j:=k) dQ oQ);rw[waX h64];simp[hk]
def zcY (P:Int→Nat→Bool) (n:Int) (s:Nat):Prop:=0≤n∧n<146097∧s<86400∧P n s=true
def zbG (P:Int→Nat→Bool) (n:Int):Prop:=∃s,zcY P n s
def zdj (P Q:Int→Nat→Bool):Prop:=∀n s,0≤n→n<146097→s<86400→P n s=Q n s
theorem zdj.symm {P Q:Int→Nat→Bool} (h:zdj P Q):zdj Q P:=fun n s h0 h1 h2=>(h n s h0 h1 h2).symm
theorem zdj.trans {P Q R:Int→Nat→Bool} (h:zdj P Q) (k:zdj Q R):zdj P R:=fun n s h0 h1 h2=>(h n s h0 h1 h2).trans (k n s h0 h1 h2)
theorem zdj.liveI {P Q:Int→Nat→Bool} (h:zdj P Q) (n:Int) (s:Nat):zcY P n s↔zcY Q n s:=by
 unfold zcY;constructor<;>rintro ⟨a,b,c,d⟩<;>refine⟨a,b,c,?_⟩
 ·rw[←h n s a b c];exact d
 ·rw[h n s a b c];exact d
theorem zdj.liveD {P Q:Int→Nat→Bool} (h:zdj P Q) (n:Int):zbG P n↔zbG Q n:=by
 unfold zbG;simp only[h.liveI]
theorem zbG.win {P:Int→Nat→Bool} {n:Int} (h:zbG P n):0≤n∧n<146097:=by
 obtain⟨s,a,b,_⟩:=h;exact⟨a,b⟩
noncomputable def secF (P:Int→Nat→Bool):Nat:=mOf fun k=>∃n s,zcY P n s∧s%60=k
noncomputable def zcN (P:Int→Nat→Bool):Nat:=mOf fun k=>∃n s,zcY P n s∧s / 60%60=k
noncomputable def zbb (P:Int→Nat→Bool):Nat:=mOf fun k=>∃n s,zcY P n s∧s / 3600=k
noncomputable def zaV (P:Int→Nat→Bool):Nat:=mOf fun k=>∃n,zbG P n∧mD n=(k:Int)
noncomputable def zbw (P:Int→Nat→Bool):Nat:=mOf fun k=>∃n,zbG P n∧dD n=(k:Int)
noncomputable def wkF (P:Int→Nat→Bool):Nat:=mOf fun k=>∃n,zbG P n∧wdD n=(k:Int)
def bkD (n:Int):Int:=zbq (yD n) (mD n) - dD n+1
def yI (n:Int):Nat:=7+((yD n - 1970) / 64).toNat
def yK (n:Int):Nat:=((yD n - 1970)%64).toNat
noncomputable def endF (P:Int→Nat→Bool):Nat:=mOf fun k=>∃n,zbG P n∧bkD n=(k:Int)
noncomputable def yrF (P:Int→Nat→Bool) (i:Nat):Nat:=mOf fun k=>∃n,zbG P n∧yD n=1970+64 * (i:Int)+(k:Int)
def zfa (P:Int→Nat→Bool):Prop:=∃n,zbG P n
noncomputable def domW (P:Int→Nat→Bool):Nat:=mOf fun k=>(∃n,0≤n∧n<146097∧(∃n',zbG P n'∧mD n'=mD n)∧dD n=(k:Int))∧∀n,0≤n→n<146097→(∃n',zbG P n'∧mD n'=mD n)→dD n=(k:Int)→zbG P n
noncomputable def wkW (P:Int→Nat→Bool):Nat:=mOf fun k=>(1≤k∧k≤7)∧∀n,0≤n→n<146097→(∃n',zbG P n'∧mD n'=mD n)→wdD n=(k:Int)→zbG P n
end Go.Proofs.YtadefhkaejjfmaaGreatDoor
namespace Go.Proofs.YtadefhkaejjfmaaGreatDoor
open Go.Proofs.Tryz
open Go.RowKit
theorem zsQ (c:Cl) (p:Int→Bool) (n:Int):zvg c p n=(((zcT (c.m 4) (dD n)&&zcT (c.m 6) (wdD n))||(c.or&&(zcT (c.m 4) (dD n)||zcT (c.m 6) (wdD n))))&&(zcT (c.m 3) (mD n)&&(zcT (c.m 5) (zbq (yD n) (mD n) - dD n+1)&&(zpu c.y (yD n - 1970)&&(zhX c n&&p n))))):=rfl
theorem zeK (l:List Int) (n:Int):zcT (zao l) n=decide (0≤n∧n<64∧n∈l):=by
 unfold zcT;rw[wbH];constructor
 ·rintro ⟨h0,h1,h2⟩;refine⟨h0,h1,?_⟩;rw[zhz l n.toNat (by omega)] at h2
  split at h2
  ·rename_i h;rwa [Int.toNat_of_nonneg h0] at h
  ·cases h2
 ·rintro ⟨h0,h1,h2⟩;refine⟨h0,h1,?_⟩;rw[zhz l n.toNat (by omega),if_pos (by rwa [Int.toNat_of_nonneg h0])]
theorem zf9 (a b n:Int) (h0:0≤n) (h1:n<64):zcT (zaN a b) n=decide (a≤n∧n≤b):=by
 unfold zaN;rw[zeK,wbH,zdJ];omega
theorem zqH (p:Nat→Bool):∀k,mkN (fun i=>!p i) k=2^k - 1 - mkN p k
 |0=>rfl
 |k+1=>by
  have h:=zc4 p k;rw[mkN,mkN,zqH p k,Nat.pow_succ];cases p k<;>simp<;>omega
theorem zkS {l m:List Int} (h:∀x,0≤x→x<64→x∈l→x∈m):za4 (zao l,zao m)=true:=by
 have hl:=zeB l;have hm:=zeB m;unfold za4;rw[beq_iff_eq];show bits .andNot .u64 (zao l) (zao m)=0;rw[u64_andNot _ _ hl.1 hl.2 hm.1 hm.2];have e1:(zao l).toNat=mkN (inL l) 64:=by unfold zao;simp
 have e2:(zao m).toNat=mkN (inL m) 64:=by unfold zao;simp
 have e3:(18446744073709551615 - mkN (inL m) 64)=mkN (fun i=>!inL m i) 64:=(zqH _ 64).symm
 rw[e1,e2,e3,zo0];have e4:mkN (fun i=>inL l i&&!inL m i) 64=mkN (fun _=>false) 64:=zbX fun i hi=>by
  simp only[inL]
  by_cases hx:(i:Int)∈l
  ·simp[h (i:Int) (by omega) (by omega) hx]
  ·simp[hx]
 rw[e4,zgA];rfl
theorem m64_L (l:List Int):M64 (zao l):=zeB l
theorem zuO (a b:Int):M64 (zaN a b):=zeB _
theorem zcD {l:List Int} {a b:Int} (h:∀x,x∈l→a≤x∧x≤b):za4 (zao l,zaN a b)=true:=
 zkS fun x _ _ hx=>by have:=h x hx;rw[zdJ];omega
theorem zl0 (a b:Int):za4 (zaN a b,zaN a b)=true:=zkS fun _ _ _ h=>h
theorem zv2 {l:List It} {lo hi x:Int} (h:inB l lo hi x=true):lo≤x∧x≤hi:=by
 simp only[inB,List.any_eq_true,zeU,waN,zqz,waM] at h;obtain⟨i,_,hm,h1,h2,_⟩:=h;obtain⟨h3,h4,h5,h6⟩:=zqB hm;omega
theorem zhC {l:List It} {lo hi x:Int} (h:x∈zaG l lo hi):lo≤x∧x≤hi:=zv2 (((zcC lo hi l).2 x).1 h)
theorem zgO {l:List It} {lo hi n:Int} (h0:0≤n) (h1:n<64):zcT (zao (zaG l lo hi)) n=inB l lo hi n:=by
 rw[zeK,waQ,waM,(zcC lo hi l).2 n];exact⟨fun h=>h.2.2,fun h=>⟨h0,h1,h⟩⟩
theorem zsR {c:Cl} (h0:c.oi=0) (h1:c.ob=false) (h2:∀k,c.od k=0):zjM c=true:=by
 unfold zjM zvf;rw[if_pos h0];simp[h0,h1,h2]
theorem zqI {n:Int} (h0:0≤n) (h1:n<400):zpu zcp n=true:=by
 unfold zpu;rw[waP ⟨h0,h1⟩];unfold zcp;rw[zf9 _ _ _ (by omega) (by omega)]
 simp;omega
theorem zkT (lo hi:Int) (A:Option Addr) (n c:Nat) (l:List It) (w:World) (hA:zcH w A n l) (hn:n≤100000):
 Calls prog 89 #[.int .i64 lo,.int .i64 hi,.slice A n c] w (Ret (.int .u64 (zao (zaG l lo hi))) w):=by
 have HV:=waV (zof lo hi A n c l w hA hn);have hlen:(ztK lo hi l).length≤1000000000:=by
  have h1:=zjm lo hi l;have h2:=ze9 ((zeX lo hi l).mergeSort fun x y=>decide (x≤y))
  rw[zfH] at h2;have h3:l.length=n:=hA.1;unfold ztK;omega
 rw[←zv1];generalize ztK lo hi l=V at *;clear hA;go_enter func89,ntmps89;go_wp2_with fail;refine HV.out.mono ?_;rintro e w1 ⟨v,rfl,hown,hb⟩;obtain⟨A',c',rfl,_,_,hrd,_⟩:=zbV.rd hown;have HM:=waV (zdn A' V.length c' V w1 hrd oQ);clear hown hrd;go_wp2_with fail;refine HM.out.mono ?_;rintro e w2 ⟨rfl,rfl⟩;go_wp2;go_ret;exact⟨rfl,hb⟩
theorem zqJ (k:Nat) (hk:k<5) (A:Nat→Option Addr) (n c:Nat→Nat) (w:World):Calls prog 64 #[crV A n c,.int .i64 k] w (Ret (.slice (A k) (n k) (c k)) w):=by
 obtain rfl|rfl|rfl|rfl|rfl:k=0∨k=1∨k=2∨k=3∨k=4:=by omega
 all_goals
  go_enter func64,ntmps64;go_wp2;go_ret;exact⟨rfl,by exact zaI⟩
theorem zoj {l:List It} {it:It} (h:l[0]?=some it):zbF l=decide (it.k=0):=by
 cases l with
 |nil=>simp at h
 |cons a l=>obtain rfl:a=it:=by simpa using h
            rfl
theorem zqK {l:List It} (h:l.length=0):zbF l=false:=by
 rw[List.length_eq_zero_iff.1 h];rfl
def zeY (n:Nat→Nat):Bool:=decide (200<n 0∨200<n 1∨200<n 2∨200<n 3∨200<n 4)
theorem ziA {n:Nat→Nat} {k:Nat} (hk:k<5) (h:200<n k):zeY n=true:=by
 obtain rfl|rfl|rfl|rfl|rfl:k=0∨k=1∨k=2∨k=3∨k=4:=by omega
 all_goals simp[zeY,h]
theorem zqL {n:Nat→Nat} (H:∀j,j<5→n j≤200):zeY n=false:=by
 have:=H 0;have:=H 1;have:=H 2;have:=H 3;have:=H 4;simp[zeY];omega
theorem zm8 {n:Nat→Nat} (h:zeY n=false):∀k,k<5→n k≤200:=by
 intro k hk;rcases Nat.lt_or_ge 200 (n k) with h1|h1
 ·rw[ziA hk h1] at h;cases h
 ·exact h1
theorem zkU (A:Nat→Option Addr) (n c:Nat→Nat) (w:World):Calls prog 23 #[crV A n c] w (Ret (.bool (zeY n)) w):=by
 go_enter func23,ntmps23;go_wp2
 go_loopw [3] (fun i wr=>∃k:Nat,k≤5∧i=.int .i64 k∧Hid (∀j,j<k→n j≤200)∧Hid (zbf wr w.heap.size 0 A n c)∧w.heap.size<wr.heap.size∧Below w.heap.size w wr) (fun i _=>5 - (intOf i).toNat)
 case atStart=>exact⟨0,by omega,rfl,fun j h=>absurd h (Nat.not_lt_zero _),⟨by simp[go_sem],by simp[go_sem],by simp[go_sem],by simp[go_sem],by simp[go_sem]⟩,by(first|(simp;done)|(simp;omega)),by exact zaI⟩
 case round=>
  obtain⟨k,hk,rfl,H,HC,hlt,hb⟩:=hrel;have hsz:=hb.size
  by_cases h5:k<5
  ·have h5':(k:Int)<5:=by omega
   have HF:=waV (zqJ k h5 A n c wr);obtain⟨l0,l1,l2,l3,l4⟩:=HC.out;simp only[waH] at l1 l2 l3 l4
   by_cases hf:200<n k
   ·have HK:Hid (zeY n=true):=ziA h5 hf;have hf':(200:Int)<(n k:Nat):=by omega
    go_wp2_with fail;refine HF.out.mono ?_;rintro e w1 ⟨rfl,hb1⟩;go_wp2;go_ret;exact⟨zap HK.out.symm,zai hb hb1 hsz⟩
   ·have Hf:Hid (n k≤200):=Nat.le_of_not_lt hf;have hf':¬(200:Int)<(n k:Nat):=by omega
    clear hf;go_wp2_with fail;refine HF.out.mono ?_;rintro e w1 ⟨rfl,hb1⟩;go_wp2;go_roundw
    case rel=>exact⟨k+1,by omega,by go_num,zgV H.out Hf.out,zbf.below HC.out (fun o=>hb1.cell (p:=⟨_,o,none⟩) hlt),waD hlt hb1.size,zai hb hb1 hsz⟩
    case measure=>simp [intOf];omega
  ·obtain rfl:k=5:=by omega
   have HK:Hid (zeY n=false):=zqL H.out;go_wp2;go_ret;exact⟨zap HK.out.symm,hb⟩
theorem ziB (k:Nat) (hk:k<5) (A:Nat→Option Addr) (n c:Nat→Nat) (l:Nat→List It) (w:World) (hA:zbp w A n l):
 Calls prog 245 #[crV A n c,.int .i64 k] w (Ret (.bool (zbF (l k))) w):=by
 have hR:=hA k hk;have HLs:=waV (fun W b (h:zbf W b 0 A n c)=>zhw k hk b A n c W h)
 clear hA
 by_cases h0:0<n k
 ·obtain⟨b,o,it,e1,hbl,hx,c0,c1,c2,c3⟩:=zcH.at_ hR h0
  rw[Nat.zero_mul,Nat.add_zero] at c0;have HS:Hid (zbF (l k)=decide (it.k=0)):=zoj hx;have h0':(0:Int)<((n k:Nat):Int):=by omega
  have HE:=waV e1;clear hx hR e1;go_enter func245,ntmps245;go_wp2_with fail;refine(HLs.out _ _ ⟨by simp[go_sem],by simp[go_sem],by simp[go_sem],by simp[go_sem],by simp[go_sem]⟩).mono ?_
  rintro e w1 ⟨rfl,q,rfl⟩;rw[HE.out];go_wp2;go_ret;exact⟨zap (by rw[HS.out,waQ];simp),by exact zaI⟩
 ·have h1:n k=0:=by omega
  have HS:Hid (zbF (l k)=false):=zqK (by rw[hR.1,h1])
  have h1':¬(0:Int)<((n k:Nat):Int):=by omega
  clear h1 h0 hR;go_enter func245,ntmps245;go_wp2_with fail;refine(HLs.out _ _ ⟨by simp[go_sem],by simp[go_sem],by simp[go_sem],by simp[go_sem],by simp[go_sem]⟩).mono ?_
  rintro e w1 ⟨rfl,q,rfl⟩;go_wp2;go_ret;exact⟨zap HS.out.symm,by exact zaI⟩
def zga (l:Nat→List It):Bool:=!zbF (l 2)&&!zbF (l 4)
theorem zok (A:Nat→Option Addr) (n c:Nat→Nat) (l:Nat→List It) (w:World) (hA:zbp w A n l):
 Calls prog 150 #[crV A n c] w (Ret (.bool (zga l)) w):=by
 have H2:=waV (fun W (hb:Below w.heap.size w W)=>ziB 2 oQ A n c l W (hA.below hb (waJ _)))
 have H4:=waV (fun W (hb:Below w.heap.size w W)=>ziB 4 oQ A n c l W (hA.below hb (waJ _)))
 clear hA;unfold zga;cases h2:zbF (l 2) with
 |true=>
  rw[h2] at H2;clear h2;go_enter func150,ntmps150;go_wp2_with fail;refine(H2.out _ (by exact zaI)).mono ?_
  rintro e w1 ⟨rfl,hb1⟩;go_wp2;go_ret;exact⟨rfl,((waC _ w).alloc (waJ _) _).trans (hb1.mono (by simp))⟩
 |false=>
  rw[h2] at H2;clear h2;generalize zbF (l 4)=q at H4 ⊢;go_enter func150,ntmps150;go_wp2_with fail;refine(H2.out _ (by exact zaI)).mono ?_
  rintro e w1 ⟨rfl,hb1⟩;obtain⟨hc,hf⟩:=zae hb1;have hb2:Below w.heap.size w w1:=((waC _ w).alloc (waJ _) _).trans (hb1.mono (by simp))
  go_wp2_with fail;refine(H4.out _ hb2).mono ?_;rintro e w2 ⟨rfl,hb3⟩;go_wp2;go_ret;exact⟨rfl,zai hb2 hb3 hb2.size⟩
theorem zm9 (k:Nat) (hk:k<5) (A:Nat→Option Addr) (n c:Nat→Nat) (l:Nat→List It) (w:World) (hA:zbp w A n l) (hn:n k≤4294967296) (hnil:A k=none→n k=0):
 Calls prog 134 #[crV A n c,.int .i64 k] w (zto (n k) (l k) w):=by
 have HLs:=waV (fun W b (h:zbf W b 0 A n c)=>zhw k hk b A n c W h)
 have HCl:=waV (fun W (hb:Below w.heap.size w W)=>zoZ (A k) (n k) (c k) (l k) W ((hA k hk).below hb (waJ _)) hn hnil)
 clear hA hn hnil;go_enter func134,ntmps134;go_wp2_with fail;refine(HLs.out _ _ ⟨by simp[go_sem],by simp[go_sem],by simp[go_sem],by simp[go_sem],by simp[go_sem]⟩).mono ?_
 rintro e w1 ⟨rfl,q,rfl⟩;go_wp2_with fail;refine(HCl.out _ (by exact zaI)).mono ?_
 rintro e w1 ⟨A',c',rfl,hr,hb1⟩;go_wp2;go_ret;exact⟨A',c',rfl,hr,(zas ((waC _ w).alloc (waJ _) _) q).trans (hb1.mono (by simp))⟩
theorem zqM (A B:Option Addr) (n m c d:Nat) (l r:List It) (w:World) (hA:zcH w A n l) (hB:zcH w B m r) (hn:n≤9223372036854775807) (hm:m≤9223372036854775807):
 Calls prog 35 #[.slice A n c,.slice B m d] w (znr (.bool (zbW l r)) w):=by
 by_cases hnm:n=m
 ·have HL:Hid (l.length=n):=hA.1;have HR:Hid (r.length=n):=hnm▸hB.1;subst hnm;go_enter func35,ntmps35;go_wp2
  go_loopw [13] (fun i wr=>∃k j:Nat,k≤n∧i=.int .i64 k∧Hid (l.take k=r.take k)∧wr=w.drewN j) (fun i _=>n - (intOf i).toNat)
  case atStart=>exact⟨0,0,waK _,rfl,by simp[Hid],rfl⟩
  case round=>
   obtain⟨k,j,hk,rfl,htk,rfl⟩:=hrel
   by_cases hlt:k<n
   ·obtain⟨b,o,it,rfl,_,hi,c0,c1,c2,c3⟩:=zcH.at_ hA hlt
    obtain⟨b',o',it',rfl,_,hi',c0',c1',c2',c3'⟩:=zcH.at_ hB hlt
    have Hi:=waV hi;have Hi':=waV hi';have hlt':(k:Int)<(n:Int):=by omega
    have hne:=zvp it it';clear hi hi';go_wp2
    go_quiet (fail)
    go_wp2
    ·go_ret;have h:ztn it it'=true:=by assumption
     exact⟨zap (znu Hi.out Hi'.out (zoV h)).symm,_,World.drewN_drewN ..⟩
    ·have h:ztn it it'=false:=by assumption
     go_roundw
     case rel=>exact⟨k+1,_,by omega,by go_num,zoW htk.out Hi.out Hi'.out (znt h),rfl⟩
     case measure=>simp [intOf];omega
   ·obtain rfl:k=n:=by omega
    go_wp2;go_ret;refine⟨zap ?_,_,rfl⟩;have h1:l=r:=by
     have:=htk.out
     rwa [List.take_of_length_le (by have:=HL.out;omega),List.take_of_length_le (by have:=HR.out;omega)] at this
    simp[zbW,h1]
 ·have hne:((n:Int)==(m:Int))=false:=by simp;omega
  have hne2:((n:Int) !=(m:Int))=true:=by simp;omega
  have HS:Hid (zbW l r=false):=zlk (by rw[hA.1,hB.1];exact hnm)
  go_enter func35,ntmps35;go_wp2;go_ret;exact⟨zap HS.out.symm,0,rfl⟩
def zbR (l r:Nat→List It):Bool:=(List.range 5).all fun k=>zbW (l k) (r k)
theorem zl1 {l r:Nat→List It} {k:Nat} (hk:k<5) (h:zbW (l k) (r k)=false):zbR l r=false:=by
 rw[zbR,List.all_eq_false];exact⟨k,wbG.2 hk,by simp[h]⟩
theorem zeq {l r:Nat→List It} (H:∀k,k<5→zbW (l k) (r k)=true):zbR l r=true:=by
 rw[zbR,List.all_eq_true];exact fun k hk=>H k (wbG.1 hk)
theorem zjp (l:Nat→List It):zbR l l=true:=zeq fun k _=>by simp[zbW]
theorem zjq (A B:Nat→Option Addr) (n c m d:Nat→Nat) (l r:Nat→List It) (w:World) (hA:zbp w A n l) (hB:zbp w B m r) (hn:∀k,n k≤9223372036854775807) (hm:∀k,m k≤9223372036854775807):
 Calls prog 26 #[crV A n c,crV B m d] w (Ret (.bool (zbR l r)) w):=by
 have HA:=waV hA;have HB:=waV hB;have HN:=waV hn;have HM:=waV hm;clear hA hB hn hm;go_enter func26,ntmps26;go_wp2
 go_loopw [6] (fun i wr=>∃k:Nat,k≤5∧i=.int .i64 k∧Hid (∀j,j<k→zbW (l j) (r j)=true)∧Hid (zbf wr w.heap.size 0 A n c)∧Hid (zbf wr (w.heap.size+1) 0 B m d)∧w.heap.size+1<wr.heap.size∧Below w.heap.size w wr) (fun i _=>5 - (intOf i).toNat)
 case atStart=>
  exact⟨0,by omega,rfl,fun j h=>absurd h (Nat.not_lt_zero _),⟨by simp[go_sem],by simp[go_sem],by simp[go_sem],by simp[go_sem],by simp[go_sem]⟩,⟨by simp[go_sem],by simp[go_sem],by simp[go_sem],by simp[go_sem],by simp[go_sem]⟩,by(first|(simp;done)|(simp;omega)),by exact zaI⟩
 case round=>
  obtain⟨k,hk,rfl,H,HC,HD,hlt,hb⟩:=hrel;have hsz:=hb.size
  by_cases h5:k<5
  ·have h5':(k:Int)<5:=by omega
   have HL:=waV (zhw k h5 w.heap.size A n c wr HC.out);have HR:=waV (fun q=>zhw k h5 (w.heap.size+1) B m d (wr.drewN q) HD.out)
   have HE:=waV (fun q=>zqM (A k) (B k) (n k) (m k) (c k) (d k) (l k) (r k) (wr.drewN q) ((HA.out k h5).below (zas hb q) (waJ _)) ((HB.out k h5).below (zas hb q) (waJ _)) (HN.out k) (HM.out k))
   cases hf:zbW (l k) (r k) with
   |true=>
    have Hf:=waV hf;rw[hf] at HE;clear hf;go_wp2_with fail;refine HL.out.mono ?_;rintro e w1 ⟨rfl,q,rfl⟩;go_wp2_with fail;refine(HR.out _).mono ?_;rintro e w1 ⟨rfl,q',rfl⟩;go_wp2_with fail;refine(HE.out _).mono ?_;rintro e w1 ⟨rfl,q2,rfl⟩;go_wp2;go_roundw
    case rel=>exact⟨k+1,by omega,by go_num,zgV H.out Hf.out,HC.out,HD.out,hlt,zas hb _⟩
    case measure=>simp [intOf];omega
   |false=>
    have HK:Hid (zbR l r=false):=zl1 h5 hf;rw[hf] at HE;clear hf;go_wp2_with fail;refine HL.out.mono ?_;rintro e w1 ⟨rfl,q,rfl⟩;go_wp2_with fail;refine(HR.out _).mono ?_;rintro e w1 ⟨rfl,q',rfl⟩;go_wp2_with fail;refine(HE.out _).mono ?_;rintro e w1 ⟨rfl,q2,rfl⟩;go_wp2;go_ret;exact⟨zap HK.out.symm,zas hb _⟩
  ·obtain rfl:k=5:=by omega
   have HK:Hid (zbR l r=true):=zeq H.out;go_wp2;go_ret;exact⟨zap HK.out.symm,hb⟩
theorem zuP {M:Int} (h0:0≤M) (h1:M<18446744073709551616):bits .and .u64 M 1=M%2:=by
 rw[u64_and M 1 h0 h1 (by decide) (by decide)]
 have:M.toNat&&&(1:Int).toNat=M.toNat%2:=Nat.and_one_is_mod _;rw[this];omega
theorem zsS (l:List Int) (w:World):Calls prog 189 #[.int .u64 (zao l),.int .i64 0] w (zb4 (.bool (decide ((0:Int)∈l))) w):=by
 have hb:=zeB l;have hm:=zhz l 0 dQ;have he:=zuP hb.1 hb.2;have HQ:Hid (decide ((0:Int)∈l)=(zao l%2==1)):=by
  show _=_;have e1:zao l / 2^0=zao l:=by simp
  rw[e1] at hm;rw[hm]
  by_cases h:(0:Int)∈l<;>simp [h]
 clear hm;generalize zao l=M at *;obtain⟨h0,h1⟩:=hb;go_enter func189,ntmps189;go_wp2;go_ret;exact⟨zap HQ.out.symm,rfl⟩
theorem zl2:mkN (fun i=>decide (i≠0)) 64=18446744073709551614:=by decide+kernel
theorem zna (l:List Int):bits .andNot .u64 (zao l) 1=zao (l.filter fun x=>decide (x≠0)):=by
 have hb:=zeB l;rw[u64_andNot _ 1 hb.1 hb.2 (by decide) (by decide)]
 have e1:(18446744073709551615 - (1:Int).toNat)=18446744073709551614:=rfl;have e2:(zao l).toNat=mkN (inL l) 64:=by unfold zao;simp
 rw[e1,e2,←zl2,zo0];unfold zao;congr 1;apply zbX;intro i hi;simp only[inL,List.mem_filter,waM]
 by_cases h:(i:Int)∈l<;>by_cases h0:i=0<;>simp [h,h0]
theorem zsT (l m:List Int):bits .or .u64 (zao l) (zao m)=zao (l++m):=by
 have h1:=zc4 (inL l) 64;have h2:=zc4 (inL m) 64;unfold zao;rw[u64_or_nat _ _ h1 h2,zmm];congr 1;apply zbX;intro i hi;simp only[inL,wbB]
 by_cases h:(i:Int)∈l<;>by_cases h0:(i:Int)∈m<;>simp [h,h0]
def wkL (V:List Int):List Int:=(if(0:Int)∈V then V++[7] else V).filter fun x=>decide (x≠0)
theorem zqN {V:List Int} {x:Int}:x∈wkL V↔x≠0∧(x∈V∨((0:Int)∈V∧x=7)):=by
 unfold wkL;rw[List.mem_filter];split
 ·rename_i h;simp only[wbB,wbC,waM];constructor
  ·rintro ⟨h1,h2⟩;exact⟨h2,h1.imp id fun e=>⟨h,e⟩⟩
  ·rintro ⟨h1,h2⟩;exact⟨h2.imp id fun e=>e.2,h1⟩
 ·rename_i h;simp only[waM];constructor
  ·rintro ⟨h1,h2⟩;exact⟨h2,.inl h1⟩
  ·rintro ⟨h1,h2⟩;exact⟨h2.elim id fun e=>absurd e.1 h,h1⟩
theorem zkV (A:Option Addr) (n c:Nat) (l:List It) (w:World) (hA:zcH w A n l) (hn:n≤100000):
 Calls prog 149 #[.slice A n c] w (Ret (.int .u64 (zao (wkL (zaG l 0 7)))) w):=by
 have HA:=waV hA;clear hA;have HB:=waV (zfG 4 dQ);have HM:=waV (fun W (hW:Below w.heap.size w W)=>zkT 0 7 A n c l W (HA.out.below hW (waJ _)) hn)
 have HO:=waV (fun b W h=>zdn (some ⟨b,0,none⟩) 1 1 [7] W h dQ)
 generalize zaG l 0 7=V at *;have HH:=waV (fun W=>zsS V W)
 by_cases h0:(0:Int)∈V
 ·have HE:Hid (zao (wkL V)=bits .andNot .u64 (bits .or .u64 (zao V) (zao [7])) 1):=by
   show _=_;rw[zsT,zna];unfold wkL;rw[if_pos h0]
  have hd:decide ((0:Int)∈V)=true:=waP h0;rw[hd] at HH;clear h0 hd;generalize zao V=M at *;go_enter func149,ntmps149;go_wp2_with fail;refine(HB.out _).mono ?_;rintro e w1 ⟨rfl,hb1⟩;go_wp2_with fail;refine(HM.out _ hb1).mono ?_;rintro e w2 ⟨rfl,hb2⟩;have hb12:=zai hb1 hb2 hb1.size;go_wp2_with fail;refine(HH.out _).mono ?_;rintro e w3 ⟨rfl,rfl⟩;go_wp2_with fail;refine(HO.out _ _ ?_).mono ?_
  ·exact zf7 _ _ 7 (by simp) (by simp[go_sem])
  rintro e w4 ⟨rfl,rfl⟩;have hsz:=hb12.size;go_wp2;go_ret;exact⟨by rw[HE.out];rfl,by exact zaI⟩
 ·have HE:Hid (zao (wkL V)=bits .andNot .u64 (zao V) 1):=by
   show _=_;rw[zna];unfold wkL;rw[if_neg h0]
  have hd:decide ((0:Int)∈V)=false:=waO h0;rw[hd] at HH;clear h0 hd;generalize zao V=M at *;go_enter func149,ntmps149;go_wp2_with fail;refine(HB.out _).mono ?_;rintro e w1 ⟨rfl,hb1⟩;go_wp2_with fail;refine(HM.out _ hb1).mono ?_;rintro e w2 ⟨rfl,hb2⟩;have hb12:=zai hb1 hb2 hb1.size;go_wp2_with fail;refine(HH.out _).mono ?_;rintro e w3 ⟨rfl,rfl⟩;go_wp2;go_ret;exact⟨by rw[HE.out];rfl,hb12⟩
def zuQ (l:Nat→List It) (i:Nat):Int:=
 if i=0 then 1 else if i=1 then zao (zaG (l 0) 0 59) else if i=2 then zao (zaG (l 1) 0 23) else if i=3 then zao (zaG (l 3) 1 12) else if i=4 then zao (zaG (l 2) 1 31) else if i=5 then zaN 1 31 else zao (wkL (zaG (l 4) 0 7))
def zaD (l:Nat→List It):Cl:={m:=zuQ l,or:=zga l,oi:=0,ob:=false,od:=fun _=>0,y:=zcp,u:=0,s:=1,a:=0,f:=0,t:=12622780799}
theorem zjr:(1:Int)=zao [0]:=by decide+kernel
theorem zqO:eqW (zoQ zcp) zcp=true:=by decide+kernel
theorem zgP (l:Nat→List It):zff (zaD l) zbA=true:=by
 have h0:za4 (1,zaN 0 59)=true:=by rw[zjr];exact zcD (by intro x hx;rw[wbC.1 hx];omega)
 have h1:za4 (zao (zaG (l 0) 0 59),zaN 0 59)=true:=zcD fun x hx=>zhC hx
 have h2:za4 (zao (zaG (l 1) 0 23),zaN 0 23)=true:=zcD fun x hx=>zhC hx
 have h3:za4 (zao (zaG (l 3) 1 12),zaN 1 12)=true:=zcD fun x hx=>zhC hx
 have h4:za4 (zao (zaG (l 2) 1 31),zaN 1 31)=true:=zcD fun x hx=>zhC hx
 have h5:za4 (zaN 1 31,zaN 1 31)=true:=zl0 _ _;have h6:za4 (zao (wkL (zaG (l 4) 0 7)),zaN 1 7)=true:=zcD fun x hx=>by
  obtain⟨n0,h|⟨_,rfl⟩⟩:=zqN.1 hx
  ·have:=zhC h;omega
  ·omega
 have hp:(ztA (zaD l) zbA).all za4=true:=by
  show [((1:Int),zaN 0 59),(zao (zaG (l 0) 0 59),zaN 0 59),(zao (zaG (l 1) 0 23),zaN 0 23),(zao (zaG (l 3) 1 12),zaN 1 12),(zao (zaG (l 2) 1 31),zaN 1 31),(zaN 1 31,zaN 1 31),(zao (wkL (zaG (l 4) 0 7)),zaN 1 7)].all za4=true;simp only[List.all_cons,List.all_nil,h0,h1,h2,h3,h4,h5,h6,Bool.and_true]
 have ho:zjM (zaD l)=true:=zsR rfl rfl fun _=>rfl
 have hy:eqW (zoQ (zaD l).y) (zaD l).y=true:=zqO;unfold zff;rw[hp,ho,hy];show(true&&(true&&(true&&(!(unT 0).isEmpty&&(decide ((1:Int)≤1)&&inC 0)))))=true;decide+kernel
theorem zhD (l:Nat→List It):zcx (zaD l):=by
 refine⟨fun k hk=>?_,fun k hk=>(⟨by decide,by decide⟩:M64 0),fun k hk=>zuO _ _⟩
 show M64 (zuQ l k);unfold zuQ
 repeat' split
 ·exact⟨by decide,by decide⟩
 all_goals first|exact m64_L _|exact zuO _ _
def zgt (l:Nat→List It) (t:Int):Bool:=
 inC t&&(decide (t%86400%60=0)&&(inB (l 0) 0 59 (t%86400 / 60%60)&&(inB (l 1) 0 23 (t%86400 / 3600)&&(inB (l 3) 1 12 (mD (t / 86400))&&
 (if zbF (l 2)||zbF (l 4) then inB (l 2) 1 31 (dD (t / 86400))&&(inB (l 4) 0 7 (wdD (t / 86400))||(decide (wdD (t / 86400)=7)&&inB (l 4) 0 7 0))
  else inB (l 2) 1 31 (dD (t / 86400))||(inB (l 4) 0 7 (wdD (t / 86400))||(decide (wdD (t / 86400)=7)&&inB (l 4) 0 7 0)))))))
theorem zsU {c:Cl} {n:Int} (h:0≤n) (h1:n<146097) (hy:c.y=zcp) (he:c.m 5=zaN 1 31) (ho:c.oi=0) (hu:c.u=0) (hs:c.s=1) (ha:c.a=0):
 zcT (c.m 5) (zbq (yD n) (mD n) - dD n+1)=true∧zpu c.y (yD n - 1970)=true∧zhX c n=true∧zjL c.u c.s c.a n=true:=by
 obtain⟨_,_,_,_,y0,y1⟩:=ze0 h h1;obtain⟨_,m1,m2,d1,d2⟩:=zc6 h h1;have hl:=zca (y:=yD n) m1 m2;refine⟨?_,?_,?_,?_⟩
 ·rw[he,zf9 _ _ _ (by omega) (by omega)]
  simp;omega
 ·rw[hy];exact zqI (by omega) (by omega)
 ·unfold zhX;rw[ho];rfl
 ·rw[hu,hs,ha];exact zi1 (by decide+kernel) (by decide) (.inr rfl)
theorem zsV (l:Nat→List It) (t:Int):zr1 (zaD l) t=zgt l t:=by
 unfold zr1 zgt;cases hi:inC t with
 |false=>rfl
 |true=>
  obtain⟨t0,t1⟩:=zud hi;have h1:decide (zaE (zaD l).f (zaD l).t≤t∧t≤zau (zaD l).f (zaD l).t)=true:=waP ⟨t0,by show t≤12622780799;omega⟩
  have h2:onU (zaD l).u (zaD l).s (zaD l).a t=true:=by
   show onU 0 1 0 t=true;refine waP ⟨by decide+kernel,waP ⟨hi,by decide,by decide⟩,by decide,?_⟩
   omega
  obtain⟨e1,e2,e3,e4⟩:=zsU (c:=zaD l) (n:=t / 86400) oQ oQ rfl rfl rfl rfl rfl rfl;have e5:zcK (t%86400) ((zaD l).m 2) ((zaD l).m 1) ((zaD l).m 0)=(inB (l 1) 0 23 (t%86400 / 3600)&&(inB (l 0) 0 59 (t%86400 / 60%60)&&decide (t%86400%60=0))):=by
   show zcK (t%86400) (zao (zaG (l 1) 0 23)) (zao (zaG (l 0) 0 59)) 1=_;unfold zcK;rw[zgO (by omega) (by omega),zgO (by omega) (by omega),zjr,zeK]
   congr 2;rw[wbH,wbC];omega
  obtain⟨_,m1,m2,d1,d2⟩:=zc6 (n:=t / 86400) oQ oQ;have hl:=zca (y:=yD (t / 86400)) m1 m2;have hw:=zct (t / 86400);have e6:zcT ((zaD l).m 4) (dD (t / 86400))=inB (l 2) 1 31 (dD (t / 86400)):=zgO oQ oQ;have e7:zcT ((zaD l).m 3) (mD (t / 86400))=inB (l 3) 1 12 (mD (t / 86400)):=zgO oQ oQ;have e8:zcT ((zaD l).m 6) (wdD (t / 86400))=(inB (l 4) 0 7 (wdD (t / 86400))||(decide (wdD (t / 86400)=7)&&inB (l 4) 0 7 0)):=by
   show zcT (zao (wkL (zaG (l 4) 0 7))) (wdD (t / 86400))=_;rw[zeK,waQ,waM,zqN,wbF,waN,waM,(zcC 0 7 (l 4)).2,(zcC 0 7 (l 4)).2];constructor
   ·rintro ⟨_,_,_,h|⟨h,h7⟩⟩
    ·exact .inl h
    ·exact .inr ⟨h7,h⟩
   ·rintro (h|⟨h7,h⟩)
    ·exact⟨by omega,by omega,by omega,.inl h⟩
    ·exact⟨by omega,by omega,by omega,.inr ⟨h,h7⟩⟩
  have e9:(zaD l).or=(!zbF (l 2)&&!zbF (l 4)):=rfl;rw[zgP,h1,h2,e5];unfold zke;rw[zgP,zsQ,e1,e2,e3,e4,e6,e7,e8,e9];generalize inB (l 2) 1 31 (dD (t / 86400))=D;generalize (inB (l 4) 0 7 (wdD (t / 86400))||(decide (wdD (t / 86400)=7)&&inB (l 4) 0 7 0))=K
  generalize inB (l 1) 0 23 (t%86400 / 3600)=a;generalize inB (l 0) 0 59 (t%86400 / 60%60)=b;generalize decide (t%86400%60=0)=s;generalize inB (l 3) 1 12 (mD (t / 86400))=m;cases zbF (l 2)<;>cases zbF (l 4)<;>cases D<;>cases K<;>cases a<;>cases b<;>cases s<;>cases m<;>rfl
end Go.Proofs.YtadefhkaejjfmaaGreatDoor
namespace Go.Proofs.YtadefhkaejjfmaaGreatDoor
open Go.Proofs.Tryz
def zay (m:Nat):List Int:=(zat m).map fun(k:Nat)=>(k:Int)
theorem zjs {m:Nat} {x:Int}:x∈zay m↔∃k:Nat,k<64∧m.testBit k=true∧x=(k:Int):=by
 unfold zay;rw[List.mem_map];constructor
 ·rintro ⟨k,hk,rfl⟩;obtain⟨h1,h2⟩:=zaR.1 hk;exact⟨k,h1,h2,rfl⟩
 ·rintro ⟨k,h1,h2,rfl⟩;exact⟨k,zaR.2 ⟨h1,h2⟩,rfl⟩
theorem zuR (m:Nat):(zay m).Pairwise (·< ·):=by
 unfold zay;rw[List.pairwise_map];exact(zbk m).imp fun h=>by omega
theorem zjt (m:Nat):(zay m).length<65:=by
 unfold zay;rw[List.length_map];exact Nat.lt_succ_of_le (zfs m)
def BdM (lo hi:Nat) (m:Nat):Prop:=∀k,k<64→m.testBit k=true→lo≤k∧k≤hi
theorem BdM.numb {lo hi m:Nat} (h:BdM lo hi m) (hle:lo≤hi) (h9:hi≤999):Numb (lo:Int) (hi:Int) (zay m):=⟨by omega,by omega,by omega,fun x hx=>by
 obtain⟨k,h1,h2,rfl⟩:=zjs.1 hx;have:=h k h1 h2;omega,zuR m⟩
theorem zv3 {lo hi m:Nat} (h:BdM lo hi m) (hle:lo≤hi) (h9:hi≤63) (S:Bool) (k:Nat):inB (zab (lo:Int) (hi:Int) (zay m) S) (lo:Int) (hi:Int) (k:Int)=decide (k<64∧m.testBit k=true):=by
 rw[zqF (h.numb hle (by omega)),wbH,zjs]
 constructor
 ·rintro ⟨j,h1,h2,h3⟩;obtain rfl:k=j:=by omega
  exact⟨h1,h2⟩
 ·rintro ⟨h1,h2⟩;exact⟨k,h1,h2,rfl⟩
theorem zsW {m:Nat} (hm:m<18446744073709551616):zay m=[]↔m=0:=by
 constructor
 ·intro h;apply Nat.eq_of_testBit_eq;intro k;rw[Nat.zero_testBit,Bool.eq_false_iff];intro hb;have hk:k<64:=by
   false_or_by_contra
   have h64:m<2^k:=waD hm (Nat.pow_le_pow_right (n:=2) (i:=64) (j:=k) dQ oQ);rw[waX h64] at hb;cases hb
  have:(k:Int)∈zay m:=zjs.2 ⟨k,hk,hb,rfl⟩;rw[h] at this;cases this
 ·rintro rfl;rfl
theorem zdz (lo hi lo' hi':Int) (l:List Int):zab lo hi l false=zab lo' hi' l false:=by
 unfold zab;rw[if_neg (by rintro ⟨h,_⟩;cases h),if_neg (by rintro ⟨h,_⟩;cases h)]
theorem zcZ {k:Nat} {lo hi m:Nat} (hk:k<5) (h:BdM lo hi m) (hle:lo≤hi) (h9:hi≤63) (hlo:(lo:Int)=cLo k) (hhi:(hi:Int)=cHi k) (hm:m<18446744073709551616) (h0:m≠0) (S:Bool):zaJ k (zab (lo:Int) (hi:Int) (zay m) S)=0:=by
 have hn:=h.numb hle oQ;obtain⟨h1,h2⟩:=zkR hn S;have h3:=zjt m;refine zjQ (fun e=>h0 ((zsW hm).1 (h1.1 e))) oQ fun j it hj hjt=>?_
 obtain⟨h4,h5⟩:=zhB hn S it (List.mem_of_getElem? hjt);rw[←hlo,←hhi,h4];simp[h5]
theorem zeL {k:Nat} {l:List It} {s:Int} (hk:k<5) (s0:1≤s) (s1:s≤999) (hl:l.length≤63) (h:∀i∈l,zbx i (cLo k) (cHi k)=true∧i.k≠3):zaJ k (⟨0,0,0,s⟩::l)=0:=by
 refine zjQ (by simp) (by simp only[waG];omega) fun j it hj hjt=>?_
 rcases List.mem_cons.1 (List.mem_of_getElem? hjt) with rfl|hm
 ·have:zbx ⟨0,0,0,s⟩ (cLo k) (cHi k)=true:=by
   refine waP ⟨?_,?_,?_,.inl ⟨rfl,rfl,rfl,s0,s1⟩⟩
   all_goals (obtain rfl|rfl|rfl|rfl|rfl:k=0∨k=1∨k=2∨k=3∨k=4:=by omega)
   all_goals decide
  rw[this];rfl
 ·obtain⟨h4,h5⟩:=h it hm;rw[h4];simp[h5]
theorem zju (lo hi s:Int) (l:List It) (h0:0≤lo) (h1:lo≤hi) (h2:hi≤9999) (s0:1≤s) (s1:s≤999) (n:Int):inB (⟨0,0,0,s⟩::l) lo hi n=(decide (lo≤n∧n≤hi∧(n - lo)%s=0)||inB l lo hi n):=by
 have hm:zbx ⟨0,0,0,s⟩ lo hi=true:=waP ⟨h0,h1,h2,.inl ⟨rfl,rfl,rfl,s0,s1⟩⟩;unfold inB;rw[List.any_cons];congr 1;unfold zeU;rw[hm,Bool.true_and];rfl
def zcq (w:Nat):Nat:=mkN (fun k=>if k=0 then w.testBit 0||w.testBit 7 else decide (k≠7)&&w.testBit k) 64
theorem zgb (w:Nat):zcq w<18446744073709551616:=zc4 _ 64
theorem zcP (w k:Nat) (hk:k<64):(zcq w).testBit k=if k=0 then w.testBit 0||w.testBit 7 else decide (k≠7)&&w.testBit k:=by
 unfold zcq;rw[zbn];simp[hk]
def zdA (m j:Nat):Nat:=mkN (fun k=>decide (k≠j)&&m.testBit k) 64
theorem zfK (m j:Nat):zdA m j<18446744073709551616:=zc4 _ 64
theorem zer (m j k:Nat) (hk:k<64):(zdA m j).testBit k=(decide (k≠j)&&m.testBit k):=by
 unfold zdA;rw[zbn];simp[hk]
def zcQ (mo:Nat):Int:=(zat mo).foldl (fun(a:Int) (m:Nat)=>max a (zbq 2000 (m:Int))) 0
theorem zsX {mo m:Nat} (h:m∈zat mo):zbq 2000 (m:Int)≤zcQ mo:=by
 unfold zcQ;have:∀(l:List Nat) (a:Int),a≤l.foldl (fun(a:Int) (m:Nat)=>max a (zbq 2000 (m:Int))) a∧∀m∈l,zbq 2000 (m:Int)≤l.foldl (fun(a:Int) (m:Nat)=>max a (zbq 2000 (m:Int))) a:=by
  intro l;induction l with
  |nil=>intro a;exact⟨Int.le_refl _,fun m hm=>by cases hm⟩
  |cons b l ih=>
   intro a;obtain⟨h1,h2⟩:=ih (max a (zbq 2000 (b:Int)));rw[List.foldl_cons];refine⟨by omega,fun m hm=>?_⟩
   rcases List.mem_cons.1 hm with rfl|hm
   ·omega
   ·exact h2 m hm
 exact(this _ 0).2 m h
theorem zjv {mo:Nat} {d:Int} (h0:1≤d) (h:d≤zcQ mo):∃m∈zat mo,d≤zbq 2000 (m:Int):=by
 unfold zcQ at h;have:∀(l:List Nat) (a:Int),d≤l.foldl (fun(a:Int) (m:Nat)=>max a (zbq 2000 (m:Int))) a→d≤a∨∃m∈l,d≤zbq 2000 (m:Int):=by
  intro l;induction l with
  |nil=>intro a h;exact .inl h
  |cons b l ih=>
   intro a h;rw[List.foldl_cons] at h;rcases ih _ h with h|⟨m,hm,h⟩
   ·by_cases hb:d≤zbq 2000 (b:Int)
    ·exact .inr ⟨b,by simp,hb⟩
    ·exact .inl oQ
   ·exact .inr ⟨m,by simp[hm],h⟩
 rcases this _ 0 h with h|h
 ·omega
 ·exact h
def zsY (mo d:Nat):Bool:=(List.range 32).all fun k=>!decide (1≤k∧(k:Int)≤zcQ mo)||d.testBit k
def zes (w:Nat):Bool:=(List.range 7).all fun k=>(zcq w).testBit k
def zde (mi ho mo:Nat) (day week:List It) (k:Nat):List It:=
 if k=0 then zab 0 59 (zay mi) true else if k=1 then zab 0 23 (zay ho) true else if k=2 then day else if k=3 then zab 1 12 (zay mo) true else week
def zbH (mo d w:Nat):List It:=if zsY mo d then [⟨0,0,0,1⟩] else if zes w then zab 1 31 (zay d) false else if d.testBit 1 then⟨0,0,0,31⟩::zab 1 31 (zay (zdA d 1)) false else zab 1 31 (zay d) false
def zaZ (mo d w:Nat):List It:=if zes w then [⟨0,0,0,1⟩] else if zsY mo d then zab 0 6 (zay (zcq w)) false else if d.testBit 1 then zab 0 6 (zay (zcq w)) false else⟨0,0,0,8⟩::zab 0 6 (zay (zdA (zcq w) 0)) false
def za8 (mo d w:Nat):Bool:=zsY mo d||(zes w||(d.testBit 1||(zcq w).testBit 0))
noncomputable def zbS (P:Int→Nat→Bool):Nat→List It:=zde (zcN P) (zbb P) (zaV P) (zbH (zaV P) (zbw P) (wkF P)) (zaZ (zaV P) (zbw P) (wkF P))
noncomputable def zbN (P:Int→Nat→Bool):Nat→List It:=zde (zcN P) (zbb P) (zaV P) (zab 1 31 (zay (domW P)) false) (zab 0 6 (zay (zcq (wkW P))) false)
def zkW (k:Nat):List It:=if k=0 then [⟨1,0,0,0⟩] else if k=1 then [⟨1,0,0,0⟩] else if k=2 then [⟨1,30,0,0⟩] else if k=3 then [⟨1,2,0,0⟩] else [⟨0,0,0,1⟩]
def zet (x:Nat→List It) (n:Int) (s:Nat):Bool:=zgt x (n * 86400+(s:Int))
def zcr (x:Nat→List It) (P:Int→Nat→Bool):Prop:=chk x=(5,0)∧zdj (zet x) P
inductive Rais (P:Int→Nat→Bool):Option (Nat→List It)→Prop
 |empty:¬zfa P→Rais P (some zkW)
 |both:zfa P→za8 (zaV P) (zbw P) (wkF P)=true→zcr (zbS P) P→Rais P (some (zbS P))
 |either:zfa P→¬(za8 (zaV P) (zbw P) (wkF P)=true∧zcr (zbS P) P)→domW P≠0→wkW P≠0→zcr (zbN P) P→Rais P (some (zbN P))
 |none:zfa P→¬(za8 (zaV P) (zbw P) (wkF P)=true∧zcr (zbS P) P)→¬(domW P≠0∧wkW P≠0∧zcr (zbN P) P)→Rais P Option.none
theorem Rais.det {P:Int→Nat→Bool} {a b:Option (Nat→List It)} (h:Rais P a) (k:Rais P b):a=b:=by
 cases h<;>cases k<;>first|rfl|(exfalso;simp_all)
theorem zol {P Q:Int→Nat→Bool} (h:zdj P Q):zfa P↔zfa Q:=by unfold zfa;simp only[h.liveD]
theorem zl3 {P Q:Int→Nat→Bool} (h:zdj P Q):zcN P=zcN Q∧zbb P=zbb Q∧zaV P=zaV Q∧zbw P=zbw Q∧wkF P=wkF Q∧domW P=domW Q∧wkW P=wkW Q:=by
 unfold zcN zbb zaV zbw wkF domW wkW;simp only[h.liveD,h.liveI,and_self]
theorem Rais.congr {P Q:Int→Nat→Bool} (hs:zdj P Q) {a:Option (Nat→List It)} (h:Rais P a):Rais Q a:=by
 obtain⟨e1,e2,e3,e4,e5,e6,e7⟩:=zl3 hs;have eb:zbS P=zbS Q:=by unfold zbS;rw[e1,e2,e3,e4,e5]
 have ee:zbN P=zbN Q:=by unfold zbN;rw[e1,e2,e3,e6,e7]
 have em:∀x,zcr x P↔zcr x Q:=fun x=>by
  unfold zcr;constructor
  ·rintro ⟨a,b⟩;exact⟨a,b.trans hs⟩
  ·rintro ⟨a,b⟩;exact⟨a,b.trans hs.symm⟩
 have ea:=zol hs;cases h with
 |empty h=>exact .empty (fun g=>h (ea.2 g))
 |both h1 h2 h3=>rw [eb];rw[e3,e4,e5] at h2;exact .both (ea.1 h1) h2 (by rw[←eb];exact(em _).1 h3)
 |either h1 h2 h3 h4 h5=>rw [ee];rw[e3,e4,e5,em,eb] at h2;rw[e6] at h3;rw[e7] at h4;exact .either (ea.1 h1) h2 h3 h4 (by rw[←ee];exact(em _).1 h5)
 |none h1 h2 h3=>rw [e3,e4,e5,em,eb] at h2;rw[e6,e7,em,ee] at h3;exact .none (ea.1 h1) h2 h3
end Go.Proofs.YtadefhkaejjfmaaGreatDoor
