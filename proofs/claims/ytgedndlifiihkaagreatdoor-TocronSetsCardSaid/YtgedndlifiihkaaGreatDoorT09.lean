/- A part of the proof: RBits RSet RClowA LItem WCron2 WSame24 LCron LCron3 RClow RToc1 -/
import Derived.Lib.TrailingZeros
import Derived.Test.YtgedndlifiihkaaGreatDoorT05
import Derived.Test.YtgedndlifiihkaaGreatDoorT08
import Derived.Test.YtgedndlifiihkaaGreatDoorT03
import Derived.Test.YtgedndlifiihkaaGreatDoorT01
import Derived.Test.YtgedndlifiihkaaGreatDoorT02
import Derived.Test.YtgedndlifiihkaaGreatDoorT00
set_option maxHeartbeats 80000000
set_option maxRecDepth 100000
set_option linter.unusedSimpArgs false
set_option linter.unusedVariables false
namespace Go.Proofs.YtgedndlifiihkaaGreatDoor
open Go.Proofs.Tryz
def zar (m:Nat):List Nat:=(List.range 64).filter fun i=>m.testBit i
theorem zaW {m i:Nat}:i∈zar m↔i<64∧m.testBit i=true:=by simp[zar]
theorem znO:zar 0=[]:=by simp[zar]
theorem zfu (m:Nat):(zar m).length≤64:=by
 have:=List.length_filter_le (fun i=>m.testBit i) (List.range 64)
 rw[List.length_range] at this;exact this
theorem zbe (m:Nat):(zar m).Pairwise (·< ·):=List.Pairwise.filter _ List.pairwise_lt_range
theorem zun {m:Nat} (h0:m≠0) (h:m<18446744073709551616):Go.Lib.ctz 64 m<64∧m.testBit (Go.Lib.ctz 64 m)=true∧∀j,j<Go.Lib.ctz 64 m→m.testBit j=false:=by
 have e:Go.Lib.ctz 64 m=Go.Lib.ctzFrom 64 m:=if_neg h0;obtain⟨q,hq,hk⟩:=Go.Lib.ctzFrom_spec 64 m oQ h;rw[e];generalize Go.Lib.ctzFrom 64 m=k at *;refine⟨hk,?_,fun j hj=>?_⟩
 ·rw[hq,Nat.mul_comm,Nat.testBit_mul_two_pow];simp[Nat.testBit_zero]
 ·rw[hq,Nat.mul_comm,Nat.testBit_mul_two_pow];simp;omega
theorem znP {m:Nat} (h0:m≠0) (h:m<18446744073709551616):∃r,zar m=Go.Lib.ctz 64 m::r:=by
 obtain⟨h1,h2,h3⟩:=zun h0 h;have hm:Go.Lib.ctz 64 m∈zar m:=zaW.2 ⟨h1,h2⟩;have hs:=zbe m;cases hb:zar m with
 |nil=>rw [hb] at hm;cases hm
 |cons a r=>
  rw[hb] at hm hs;have ha:a∈zar m:=by rw[hb];simp
  rcases List.mem_cons.1 hm with e|hr
  ·exact⟨r,by rw[e]⟩
  ·have:=(List.pairwise_cons.1 hs).1 _ hr;have:=h3 a this;rw[(zaW.1 ha).2] at this;cases this
theorem znQ {m k:Nat} {pre rest:List Nat} (h:zar m=pre++k::rest):zar (m>>>(k+1)<<<(k+1))=rest:=by
 have hs:=zbe m;have e:zar (m>>>(k+1)<<<(k+1))=(zar m).filter fun i=>decide (k<i):=by
  unfold zar;rw[List.filter_filter];apply List.filter_congr;intro i _;rw[Nat.testBit_shiftLeft,Nat.testBit_shiftRight]
  by_cases hi:k<i
  ·rw[show k+1+(i - (k+1))=i by omega]
   have h5:k+1≤i:=hi;simp[hi,h5]
  ·simp[hi];omega
 rw[h] at hs;obtain⟨_,h2,h3⟩:=List.pairwise_append.1 hs;obtain⟨h4,_⟩:=List.pairwise_cons.1 h2;rw[e,h,List.filter_append,List.filter_cons];rw[List.filter_eq_nil_iff.2 (fun a ha=>by simp;exact Nat.le_of_lt (h3 a ha k (by simp)))]
 simp only[Nat.lt_irrefl,decide_false,wbN];exact List.filter_eq_self.2 (fun a ha=>by simpa using h4 a ha)
theorem zmv (m k:Nat) (h:m<18446744073709551616):m>>>k<<<k<18446744073709551616:=by
 have:m>>>k<<<k≤m:=by rw[Nat.shiftRight_eq_div_pow,Nat.shiftLeft_eq];exact Nat.div_mul_le_self m (2^k)
 omega
noncomputable def mOf (Q:Nat→Prop):Nat:=mkN (fun k=>@decide (Q k) (Classical.propDecidable _)) 64
theorem zb2 (Q:Nat→Prop):mOf Q<18446744073709551616:=zcU _ 64
theorem zfY (Q:Nat→Prop) (k:Nat):(mOf Q).testBit k=true↔k<64∧Q k:=by
 unfold mOf;rw[za8];simp
theorem zkd {m:Nat} {Q:Nat→Prop} (hm:m<18446744073709551616) (h:∀k,k<64→(m.testBit k=true↔Q k)):m=mOf Q:=by
 apply Nat.eq_of_testBit_eq;intro k;rw[waQ,zfY]
 by_cases hk:k<64
 ·rw[h k hk];simp[hk]
 ·have h64:m<2^k:=waD hm (Nat.pow_le_pow_right (n:=2) (i:=64) (j:=k) dQ oQ);rw[waX h64];simp[hk]
def zeP (P:Int→Nat→Bool) (n:Int) (s:Nat):Prop:=0≤n∧n<146097∧s<86400∧P n s=true
def zcs (P:Int→Nat→Bool) (n:Int):Prop:=∃s,zeP P n s
def zvP (P Q:Int→Nat→Bool):Prop:=∀n s,0≤n→n<146097→s<86400→P n s=Q n s
theorem zcs.win {P:Int→Nat→Bool} {n:Int} (h:zcs P n):0≤n∧n<146097:=by
 obtain⟨s,a,b,_⟩:=h;exact⟨a,b⟩
noncomputable def zdq (P:Int→Nat→Bool):Nat:=mOf fun k=>∃n s,zeP P n s∧s / 60%60=k
noncomputable def zbn (P:Int→Nat→Bool):Nat:=mOf fun k=>∃n s,zeP P n s∧s / 3600=k
noncomputable def za5 (P:Int→Nat→Bool):Nat:=mOf fun k=>∃n,zcs P n∧mD n=(k:Int)
noncomputable def zbL (P:Int→Nat→Bool):Nat:=mOf fun k=>∃n,zcs P n∧dD n=(k:Int)
noncomputable def wkF (P:Int→Nat→Bool):Nat:=mOf fun k=>∃n,zcs P n∧wdD n=(k:Int)
def zhP (P:Int→Nat→Bool):Prop:=∃n,zcs P n
noncomputable def zij (P:Int→Nat→Bool):Nat:=mOf fun k=>(∃n,0≤n∧n<146097∧(∃n',zcs P n'∧mD n'=mD n)∧dD n=(k:Int))∧∀n,0≤n→n<146097→(∃n',zcs P n'∧mD n'=mD n)→dD n=(k:Int)→zcs P n
noncomputable def wkW (P:Int→Nat→Bool):Nat:=mOf fun k=>(1≤k∧k≤7)∧∀n,0≤n→n<146097→(∃n',zcs P n'∧mD n'=mD n)→wdD n=(k:Int)→zcs P n
end Go.Proofs.YtgedndlifiihkaaGreatDoor
namespace Go.Proofs.YtgedndlifiihkaaGreatDoor
open Go.Proofs.Tryz
open Go.RowKit
theorem zrZ (c:Cl) (p:Int→Bool) (n:Int):zvo c p n=(((zbP (c.m 4) (dD n)&&zbP (c.m 6) (wdD n))||(c.or&&(zbP (c.m 4) (dD n)||zbP (c.m 6) (wdD n))))&&(zbP (c.m 3) (mD n)&&(zbP (c.m 5) (zbw (yD n) (mD n) - dD n+1)&&(zgz c.y (yD n - 1970)&&(zhX c n&&p n))))):=rfl
theorem zbv (l:List Int) (n:Int):zbP (zal l) n=decide (0≤n∧n<64∧n∈l):=by
 unfold zbP;rw[wbH];constructor
 ·rintro ⟨h0,h1,h2⟩;refine⟨h0,h1,?_⟩;rw[zgR l n.toNat (by omega)] at h2
  split at h2
  ·rename_i h;rwa [Int.toNat_of_nonneg h0] at h
  ·cases h2
 ·rintro ⟨h0,h1,h2⟩;refine⟨h0,h1,?_⟩;rw[zgR l n.toNat (by omega),if_pos (by rwa [Int.toNat_of_nonneg h0])]
theorem zfZ (a b n:Int) (h0:0≤n) (h1:n<64):zbP (zaC a b) n=decide (a≤n∧n≤b):=by
 unfold zaC;rw[zbv,wbH,zcE];omega
theorem zlq (p:Nat→Bool):∀k,mkN (fun i=>!p i) k=2^k - 1 - mkN p k
 |0=>rfl
 |k+1=>by
  have h:=zcU p k;rw[mkN,mkN,zlq p k,Nat.pow_succ];cases p k<;>simp<;>omega
theorem zg9 {l m:List Int} (h:∀x,0≤x→x<64→x∈l→x∈m):zaJ (zal l,zal m)=true:=by
 have hl:=zcC l;have hm:=zcC m;unfold zaJ;rw[beq_iff_eq];show bits .andNot .u64 (zal l) (zal m)=0;rw[u64_andNot _ _ hl.1 hl.2 hm.1 hm.2];have e1:(zal l).toNat=mkN (inL l) 64:=by unfold zal;simp
 have e2:(zal m).toNat=mkN (inL m) 64:=by unfold zal;simp
 have e3:(18446744073709551615 - mkN (inL m) 64)=mkN (fun i=>!inL m i) 64:=(zlq _ 64).symm
 rw[e1,e2,e3,ziN];have e4:mkN (fun i=>inL l i&&!inL m i) 64=mkN (fun _=>false) 64:=zbr fun i hi=>by
  simp only[inL]
  by_cases hx:(i:Int)∈l
  ·simp[h (i:Int) (by omega) (by omega) hx]
  ·simp[hx]
 rw[e4,zfd];rfl
theorem m64_L (l:List Int):M64 (zal l):=zcC l
theorem zuo (a b:Int):M64 (zaC a b):=zcC _
theorem zct {l:List Int} {a b:Int} (h:∀x,x∈l→a≤x∧x≤b):zaJ (zal l,zaC a b)=true:=
 zg9 fun x _ _ hx=>by have:=h x hx;rw[zcE];omega
theorem zlr (a b:Int):zaJ (zaC a b,zaC a b)=true:=zg9 fun _ _ _ h=>h
theorem zvQ {l:List It} {lo hi x:Int} (h:inB l lo hi x=true):lo≤x∧x≤hi:=by
 simp only[inB,List.any_eq_true,zfj,waN,zrv,waM] at h;obtain⟨i,_,hm,h1,h2,_⟩:=h;obtain⟨h3,h4,h5,h6⟩:=zo6 hm;omega
theorem zha {l:List It} {lo hi x:Int} (h:x∈zaD l lo hi):lo≤x∧x≤hi:=zvQ (((zcq lo hi l).2 x).1 h)
theorem zgA {l:List It} {lo hi n:Int} (h0:0≤n) (h1:n<64):zbP (zal (zaD l lo hi)) n=inB l lo hi n:=by
 rw[zbv,waQ,waM,(zcq lo hi l).2 n];exact⟨fun h=>h.2.2,fun h=>⟨h0,h1,h⟩⟩
theorem zr0 {c:Cl} (h0:c.oi=0) (h1:c.ob=false) (h2:∀k,c.od k=0):zih c=true:=by
 unfold zih zug;rw[if_pos h0];simp[h0,h1,h2]
theorem zpJ {n:Int} (h0:0≤n) (h1:n<400):zgz zca n=true:=by
 unfold zgz;rw[waP ⟨h0,h1⟩];unfold zca;rw[zfZ _ _ _ (by omega) (by omega)]
 simp;omega
theorem zke (lo hi:Int) (A:Option Addr) (n c:Nat) (l:List It) (w:World) (hA:zcK w A n l) (hn:n≤100000):
 Calls prog 33 #[.int .i64 lo,.int .i64 hi,.slice A n c] w (Ret (.int .u64 (zal (zaD l lo hi))) w):=by
 have HV:=waV (znu lo hi A n c l w hA hn);have hlen:(ztq lo hi l).length≤1000000000:=by
  have h1:=ziR lo hi l;have h2:=zeY ((zeS lo hi l).mergeSort fun x y=>decide (x≤y))
  rw[zfi] at h2;have h3:l.length=n:=hA.1;unfold ztq;omega
 rw[←zvz];generalize ztq lo hi l=V at *;clear hA;go_enter func33,ntmps33;go_wp2_with fail;refine HV.out.mono ?_;rintro e w1 ⟨v,rfl,hown,hb⟩;obtain⟨A',c',rfl,_,_,hrd,_⟩:=zbl.rd hown;have HM:=waV (zdn A' V.length c' V w1 hrd oQ);clear hown hrd;go_wp2_with fail;refine HM.out.mono ?_;rintro e w2 ⟨rfl,rfl⟩;go_wp2;go_ret;exact⟨rfl,hb⟩
theorem znR {l:List It} {it:It} (h:l[0]?=some it):zcL l=decide (it.k=0):=by
 cases l with
 |nil=>simp at h
 |cons a l=>obtain rfl:a=it:=by simpa using h
            rfl
theorem zpK {l:List It} (h:l.length=0):zcL l=false:=by
 rw[List.length_eq_zero_iff.1 h];rfl
theorem zik (k:Nat) (hk:k<5) (A:Nat→Option Addr) (n c:Nat→Nat) (l:Nat→List It) (w:World) (hA:zcm w A n l):
 Calls prog 26 #[crV A n c,.int .i64 k] w (Ret (.bool (zcL (l k))) w):=by
 have hR:=hA k hk;have HLs:=waV (fun W b (h:zbb W b 0 A n c)=>zgP k hk b A n c W h)
 clear hA
 by_cases h0:0<n k
 ·obtain⟨b,o,it,e1,hbl,hx,c0,c1,c2,c3⟩:=zcK.at_ hR h0
  rw[Nat.zero_mul,Nat.add_zero] at c0;have HS:Hid (zcL (l k)=decide (it.k=0)):=znR hx;have h0':(0:Int)<((n k:Nat):Int):=by omega
  have HE:=waV e1;clear hx hR e1;go_enter func26,ntmps26;go_wp2_with fail;refine(HLs.out _ _ ⟨by simp[go_sem],by simp[go_sem],by simp[go_sem],by simp[go_sem],by simp[go_sem]⟩).mono ?_
  rintro e w1 ⟨rfl,q,rfl⟩;rw[HE.out];go_wp2;go_ret;exact⟨zaf (by rw[HS.out,waQ];simp),by exact zaI⟩
 ·have h1:n k=0:=by omega
  have HS:Hid (zcL (l k)=false):=zpK (by rw[hR.1,h1])
  have h1':¬(0:Int)<((n k:Nat):Int):=by omega
  clear h1 h0 hR;go_enter func26,ntmps26;go_wp2_with fail;refine(HLs.out _ _ ⟨by simp[go_sem],by simp[go_sem],by simp[go_sem],by simp[go_sem],by simp[go_sem]⟩).mono ?_
  rintro e w1 ⟨rfl,q,rfl⟩;go_wp2;go_ret;exact⟨zaf HS.out.symm,by exact zaI⟩
def zf0 (l:Nat→List It):Bool:=!zcL (l 2)&&!zcL (l 4)
theorem znS (A:Nat→Option Addr) (n c:Nat→Nat) (l:Nat→List It) (w:World) (hA:zcm w A n l):
 Calls prog 9 #[crV A n c] w (Ret (.bool (zf0 l)) w):=by
 have H2:=waV (fun W (hb:Below w.heap.size w W)=>zik 2 oQ A n c l W (hA.below hb (waJ _)))
 have H4:=waV (fun W (hb:Below w.heap.size w W)=>zik 4 oQ A n c l W (hA.below hb (waJ _)))
 clear hA;unfold zf0;cases h2:zcL (l 2) with
 |true=>
  rw[h2] at H2;clear h2;go_enter func9,ntmps9;go_wp2_with fail;refine(H2.out _ (by exact zaI)).mono ?_
  rintro e w1 ⟨rfl,hb1⟩;go_wp2;go_ret;exact⟨rfl,((waC _ w).alloc (waJ _) _).trans (hb1.mono (by simp))⟩
 |false=>
  rw[h2] at H2;clear h2;generalize zcL (l 4)=q at H4 ⊢;go_enter func9,ntmps9;go_wp2_with fail;refine(H2.out _ (by exact zaI)).mono ?_
  rintro e w1 ⟨rfl,hb1⟩;obtain⟨hc,hf⟩:=zad hb1;have hb2:Below w.heap.size w w1:=((waC _ w).alloc (waJ _) _).trans (hb1.mono (by simp))
  go_wp2_with fail;refine(H4.out _ hb2).mono ?_;rintro e w2 ⟨rfl,hb3⟩;go_wp2;go_ret;exact⟨rfl,zak hb2 hb3 hb2.size⟩
theorem zmw (k:Nat) (hk:k<5) (A:Nat→Option Addr) (n c:Nat→Nat) (l:Nat→List It) (w:World) (hA:zcm w A n l) (hn:n k≤4294967296) (hnil:A k=none→n k=0):
 Calls prog 63 #[crV A n c,.int .i64 k] w (ztn (n k) (l k) w):=by
 have HLs:=waV (fun W b (h:zbb W b 0 A n c)=>zgP k hk b A n c W h)
 have HCl:=waV (fun W (hb:Below w.heap.size w W)=>zoQ (A k) (n k) (c k) (l k) W ((hA k hk).below hb (waJ _)) hn hnil)
 clear hA hn hnil;go_enter func63,ntmps63;go_wp2_with fail;refine(HLs.out _ _ ⟨by simp[go_sem],by simp[go_sem],by simp[go_sem],by simp[go_sem],by simp[go_sem]⟩).mono ?_
 rintro e w1 ⟨rfl,q,rfl⟩;go_wp2_with fail;refine(HCl.out _ (by exact zaI)).mono ?_
 rintro e w1 ⟨A',c',rfl,hr,hb1⟩;go_wp2;go_ret;exact⟨A',c',rfl,hr,(zax ((waC _ w).alloc (waJ _) _) q).trans (hb1.mono (by simp))⟩
theorem zpL (A B:Option Addr) (n m c d:Nat) (l r:List It) (w:World) (hA:zcK w A n l) (hB:zcK w B m r) (hn:n≤9223372036854775807) (hm:m≤9223372036854775807):
 Calls prog 48 #[.slice A n c,.slice B m d] w (zoI (.bool (zcp l r)) w):=by
 by_cases hnm:n=m
 ·have HL:Hid (l.length=n):=hA.1;have HR:Hid (r.length=n):=hnm▸hB.1;subst hnm;go_enter func48,ntmps48;go_wp2
  go_loopw [13] (fun i wr=>∃k j:Nat,k≤n∧i=.int .i64 k∧Hid (l.take k=r.take k)∧wr=w.drewN j) (fun i _=>n - (intOf i).toNat)
  case atStart=>exact⟨0,0,waK _,rfl,by simp[Hid],rfl⟩
  case round=>
   obtain⟨k,j,hk,rfl,htk,rfl⟩:=hrel
   by_cases hlt:k<n
   ·obtain⟨b,o,it,rfl,_,hi,c0,c1,c2,c3⟩:=zcK.at_ hA hlt
    obtain⟨b',o',it',rfl,_,hi',c0',c1',c2',c3'⟩:=zcK.at_ hB hlt
    have Hi:=waV hi;have Hi':=waV hi';have hlt':(k:Int)<(n:Int):=by omega
    have hne:=zvw it it';clear hi hi';go_wp2
    go_quiet (fail)
    go_wp2
    ·go_ret;have h:ztm it it'=true:=by assumption
     exact⟨zaf (znn Hi.out Hi'.out (zoM h)).symm,_,World.drewN_drewN ..⟩
    ·have h:ztm it it'=false:=by assumption
     go_roundw
     case rel=>exact⟨k+1,_,by omega,by go_num,zoN htk.out Hi.out Hi'.out (znm h),rfl⟩
     case measure=>simp [intOf];omega
   ·obtain rfl:k=n:=by omega
    go_wp2;go_ret;refine⟨zaf ?_,_,rfl⟩;have h1:l=r:=by
     have:=htk.out
     rwa [List.take_of_length_le (by have:=HL.out;omega),List.take_of_length_le (by have:=HR.out;omega)] at this
    simp[zcp,h1]
 ·have hne:((n:Int)==(m:Int))=false:=by simp;omega
  have hne2:((n:Int) !=(m:Int))=true:=by simp;omega
  have HS:Hid (zcp l r=false):=zla (by rw[hA.1,hB.1];exact hnm)
  go_enter func48,ntmps48;go_wp2;go_ret;exact⟨zaf HS.out.symm,0,rfl⟩
def zc9 (l r:Nat→List It):Bool:=(List.range 5).all fun k=>zcp (l k) (r k)
theorem zls {l r:Nat→List It} {k:Nat} (hk:k<5) (h:zcp (l k) (r k)=false):zc9 l r=false:=by
 rw[zc9,List.all_eq_false];exact⟨k,wbG.2 hk,by simp[h]⟩
theorem zgj {l r:Nat→List It} (H:∀k,k<5→zcp (l k) (r k)=true):zc9 l r=true:=by
 rw[zc9,List.all_eq_true];exact fun k hk=>H k (wbG.1 hk)
theorem zi6 (l:Nat→List It):zc9 l l=true:=zgj fun k _=>by simp[zcp]
theorem zr1 (A B:Nat→Option Addr) (n c m d:Nat→Nat) (l r:Nat→List It) (w:World) (hA:zcm w A n l) (hB:zcm w B m r) (hn:∀k,n k≤9223372036854775807) (hm:∀k,m k≤9223372036854775807):
 Calls prog 19 #[crV A n c,crV B m d] w (Ret (.bool (zc9 l r)) w):=by
 have HA:=waV hA;have HB:=waV hB;have HN:=waV hn;have HM:=waV hm;clear hA hB hn hm;go_enter func19,ntmps19;go_wp2
 go_loopw [6] (fun i wr=>∃k:Nat,k≤5∧i=.int .i64 k∧Hid (∀j,j<k→zcp (l j) (r j)=true)∧Hid (zbb wr w.heap.size 0 A n c)∧Hid (zbb wr (w.heap.size+1) 0 B m d)∧w.heap.size+1<wr.heap.size∧Below w.heap.size w wr) (fun i _=>5 - (intOf i).toNat)
 case atStart=>
  exact⟨0,by omega,rfl,fun j h=>absurd h (Nat.not_lt_zero _),⟨by simp[go_sem],by simp[go_sem],by simp[go_sem],by simp[go_sem],by simp[go_sem]⟩,⟨by simp[go_sem],by simp[go_sem],by simp[go_sem],by simp[go_sem],by simp[go_sem]⟩,by(first|(simp;done)|(simp;omega)),by exact zaI⟩
 case round=>
  obtain⟨k,hk,rfl,H,HC,HD,hlt,hb⟩:=hrel;have hsz:=hb.size
  by_cases h5:k<5
  ·have h5':(k:Int)<5:=by omega
   have HL:=waV (zgP k h5 w.heap.size A n c wr HC.out);have HR:=waV (fun q=>zgP k h5 (w.heap.size+1) B m d (wr.drewN q) HD.out)
   have HE:=waV (fun q=>zpL (A k) (B k) (n k) (m k) (c k) (d k) (l k) (r k) (wr.drewN q) ((HA.out k h5).below (zax hb q) (waJ _)) ((HB.out k h5).below (zax hb q) (waJ _)) (HN.out k) (HM.out k))
   cases hf:zcp (l k) (r k) with
   |true=>
    have Hf:=waV hf;rw[hf] at HE;clear hf;go_wp2_with fail;refine HL.out.mono ?_;rintro e w1 ⟨rfl,q,rfl⟩;go_wp2_with fail;refine(HR.out _).mono ?_;rintro e w1 ⟨rfl,q',rfl⟩;go_wp2_with fail;refine(HE.out _).mono ?_;rintro e w1 ⟨rfl,q2,rfl⟩;go_wp2;go_roundw
    case rel=>exact⟨k+1,by omega,by go_num,zjO H.out Hf.out,HC.out,HD.out,hlt,zax hb _⟩
    case measure=>simp [intOf];omega
   |false=>
    have HK:Hid (zc9 l r=false):=zls h5 hf;rw[hf] at HE;clear hf;go_wp2_with fail;refine HL.out.mono ?_;rintro e w1 ⟨rfl,q,rfl⟩;go_wp2_with fail;refine(HR.out _).mono ?_;rintro e w1 ⟨rfl,q',rfl⟩;go_wp2_with fail;refine(HE.out _).mono ?_;rintro e w1 ⟨rfl,q2,rfl⟩;go_wp2;go_ret;exact⟨zaf HK.out.symm,zax hb _⟩
  ·obtain rfl:k=5:=by omega
   have HK:Hid (zc9 l r=true):=zgj H.out;go_wp2;go_ret;exact⟨zaf HK.out.symm,hb⟩
theorem zup {M:Int} (h0:0≤M) (h1:M<18446744073709551616):bits .and .u64 M 1=M%2:=by
 rw[u64_and M 1 h0 h1 (by decide) (by decide)]
 have:M.toNat&&&(1:Int).toNat=M.toNat%2:=Nat.and_one_is_mod _;rw[this];omega
theorem zr2 (l:List Int) (w:World):Calls prog 34 #[.int .u64 (zal l),.int .i64 0] w (zbO (.bool (decide ((0:Int)∈l))) w):=by
 have hb:=zcC l;have hm:=zgR l 0 dQ;have he:=zup hb.1 hb.2;have HQ:Hid (decide ((0:Int)∈l)=(zal l%2==1)):=by
  show _=_;have e1:zal l / 2^0=zal l:=by simp
  rw[e1] at hm;rw[hm]
  by_cases h:(0:Int)∈l<;>simp [h]
 clear hm;generalize zal l=M at *;obtain⟨h0,h1⟩:=hb;go_enter func34,ntmps34;go_wp2;go_ret;exact⟨zaf HQ.out.symm,rfl⟩
theorem zlt:mkN (fun i=>decide (i≠0)) 64=18446744073709551614:=by decide+kernel
theorem zmx (l:List Int):bits .andNot .u64 (zal l) 1=zal (l.filter fun x=>decide (x≠0)):=by
 have hb:=zcC l;rw[u64_andNot _ 1 hb.1 hb.2 (by decide) (by decide)]
 have e1:(18446744073709551615 - (1:Int).toNat)=18446744073709551614:=rfl;have e2:(zal l).toNat=mkN (inL l) 64:=by unfold zal;simp
 rw[e1,e2,←zlt,ziN];unfold zal;congr 1;apply zbr;intro i hi;simp only[inL,List.mem_filter,waM]
 by_cases h:(i:Int)∈l<;>by_cases h0:i=0<;>simp [h,h0]
theorem zr3 (l m:List Int):bits .or .u64 (zal l) (zal m)=zal (l++m):=by
 have h1:=zcU (inL l) 64;have h2:=zcU (inL m) 64;unfold zal;rw[u64_or_nat _ _ h1 h2,zmf];congr 1;apply zbr;intro i hi;simp only[inL,wbB]
 by_cases h:(i:Int)∈l<;>by_cases h0:(i:Int)∈m<;>simp [h,h0]
def wkL (V:List Int):List Int:=(if(0:Int)∈V then V++[7] else V).filter fun x=>decide (x≠0)
theorem zpM {V:List Int} {x:Int}:x∈wkL V↔x≠0∧(x∈V∨((0:Int)∈V∧x=7)):=by
 unfold wkL;rw[List.mem_filter];split
 ·rename_i h;simp only[wbB,wbC,waM];constructor
  ·rintro ⟨h1,h2⟩;exact⟨h2,h1.imp id fun e=>⟨h,e⟩⟩
  ·rintro ⟨h1,h2⟩;exact⟨h2.imp id fun e=>e.2,h1⟩
 ·rename_i h;simp only[waM];constructor
  ·rintro ⟨h1,h2⟩;exact⟨h2,.inl h1⟩
  ·rintro ⟨h1,h2⟩;exact⟨h2.elim id fun e=>absurd e.1 h,h1⟩
theorem zkf (A:Option Addr) (n c:Nat) (l:List It) (w:World) (hA:zcK w A n l) (hn:n≤100000):
 Calls prog 11 #[.slice A n c] w (Ret (.int .u64 (zal (wkL (zaD l 0 7)))) w):=by
 have HA:=waV hA;clear hA;have HB:=waV (zfh 4 dQ);have HM:=waV (fun W (hW:Below w.heap.size w W)=>zke 0 7 A n c l W (HA.out.below hW (waJ _)) hn)
 have HO:=waV (fun b W h=>zdn (some ⟨b,0,none⟩) 1 1 [7] W h dQ)
 generalize zaD l 0 7=V at *;have HH:=waV (fun W=>zr2 V W)
 by_cases h0:(0:Int)∈V
 ·have HE:Hid (zal (wkL V)=bits .andNot .u64 (bits .or .u64 (zal V) (zal [7])) 1):=by
   show _=_;rw[zr3,zmx];unfold wkL;rw[if_pos h0]
  have hd:decide ((0:Int)∈V)=true:=waP h0;rw[hd] at HH;clear h0 hd;generalize zal V=M at *;go_enter func11,ntmps11;go_wp2_with fail;refine(HB.out _).mono ?_;rintro e w1 ⟨rfl,hb1⟩;go_wp2_with fail;refine(HM.out _ hb1).mono ?_;rintro e w2 ⟨rfl,hb2⟩;have hb12:=zak hb1 hb2 hb1.size;go_wp2_with fail;refine(HH.out _).mono ?_;rintro e w3 ⟨rfl,rfl⟩;go_wp2_with fail;refine(HO.out _ _ ?_).mono ?_
  ·exact zfU _ _ 7 (by simp) (by simp[go_sem])
  rintro e w4 ⟨rfl,rfl⟩;have hsz:=hb12.size;go_wp2;go_ret;exact⟨by rw[HE.out];rfl,by exact zaI⟩
 ·have HE:Hid (zal (wkL V)=bits .andNot .u64 (zal V) 1):=by
   show _=_;rw[zmx];unfold wkL;rw[if_neg h0]
  have hd:decide ((0:Int)∈V)=false:=waO h0;rw[hd] at HH;clear h0 hd;generalize zal V=M at *;go_enter func11,ntmps11;go_wp2_with fail;refine(HB.out _).mono ?_;rintro e w1 ⟨rfl,hb1⟩;go_wp2_with fail;refine(HM.out _ hb1).mono ?_;rintro e w2 ⟨rfl,hb2⟩;have hb12:=zak hb1 hb2 hb1.size;go_wp2_with fail;refine(HH.out _).mono ?_;rintro e w3 ⟨rfl,rfl⟩;go_wp2;go_ret;exact⟨by rw[HE.out];rfl,hb12⟩
def zuq (l:Nat→List It) (i:Nat):Int:=
 if i=0 then 1 else if i=1 then zal (zaD (l 0) 0 59) else if i=2 then zal (zaD (l 1) 0 23) else if i=3 then zal (zaD (l 3) 1 12) else if i=4 then zal (zaD (l 2) 1 31) else if i=5 then zaC 1 31 else zal (wkL (zaD (l 4) 0 7))
def zaT (l:Nat→List It):Cl:={m:=zuq l,or:=zf0 l,oi:=0,ob:=false,od:=fun _=>0,y:=zca,u:=0,s:=1,a:=0,f:=0,t:=12622780799}
theorem zi7:(1:Int)=zal [0]:=by decide+kernel
theorem zpN:eqW (zlk zca) zca=true:=by decide+kernel
theorem zgB (l:Nat→List It):zeT (zaT l) zbm=true:=by
 have h0:zaJ (1,zaC 0 59)=true:=by rw[zi7];exact zct (by intro x hx;rw[wbC.1 hx];omega)
 have h1:zaJ (zal (zaD (l 0) 0 59),zaC 0 59)=true:=zct fun x hx=>zha hx
 have h2:zaJ (zal (zaD (l 1) 0 23),zaC 0 23)=true:=zct fun x hx=>zha hx
 have h3:zaJ (zal (zaD (l 3) 1 12),zaC 1 12)=true:=zct fun x hx=>zha hx
 have h4:zaJ (zal (zaD (l 2) 1 31),zaC 1 31)=true:=zct fun x hx=>zha hx
 have h5:zaJ (zaC 1 31,zaC 1 31)=true:=zlr _ _;have h6:zaJ (zal (wkL (zaD (l 4) 0 7)),zaC 1 7)=true:=zct fun x hx=>by
  obtain⟨n0,h|⟨_,rfl⟩⟩:=zpM.1 hx
  ·have:=zha h;omega
  ·omega
 have hp:(zrQ (zaT l) zbm).all zaJ=true:=by
  show [((1:Int),zaC 0 59),(zal (zaD (l 0) 0 59),zaC 0 59),(zal (zaD (l 1) 0 23),zaC 0 23),(zal (zaD (l 3) 1 12),zaC 1 12),(zal (zaD (l 2) 1 31),zaC 1 31),(zaC 1 31,zaC 1 31),(zal (wkL (zaD (l 4) 0 7)),zaC 1 7)].all zaJ=true;simp only[List.all_cons,List.all_nil,h0,h1,h2,h3,h4,h5,h6,Bool.and_true]
 have ho:zih (zaT l)=true:=zr0 rfl rfl fun _=>rfl
 have hy:eqW (zlk (zaT l).y) (zaT l).y=true:=zpN;unfold zeT;rw[hp,ho,hy];show(true&&(true&&(true&&(!(unT 0).isEmpty&&(decide ((1:Int)≤1)&&inC 0)))))=true;decide+kernel
theorem zhb (l:Nat→List It):zbD (zaT l):=by
 refine⟨fun k hk=>?_,fun k hk=>(⟨by decide,by decide⟩:M64 0),fun k hk=>zuo _ _⟩
 show M64 (zuq l k);unfold zuq
 repeat' split
 ·exact⟨by decide,by decide⟩
 all_goals first|exact m64_L _|exact zuo _ _
def zgk (l:Nat→List It) (t:Int):Bool:=
 inC t&&(decide (t%86400%60=0)&&(inB (l 0) 0 59 (t%86400 / 60%60)&&(inB (l 1) 0 23 (t%86400 / 3600)&&(inB (l 3) 1 12 (mD (t / 86400))&&
 (if zcL (l 2)||zcL (l 4) then inB (l 2) 1 31 (dD (t / 86400))&&(inB (l 4) 0 7 (wdD (t / 86400))||(decide (wdD (t / 86400)=7)&&inB (l 4) 0 7 0))
  else inB (l 2) 1 31 (dD (t / 86400))||(inB (l 4) 0 7 (wdD (t / 86400))||(decide (wdD (t / 86400)=7)&&inB (l 4) 0 7 0)))))))
theorem zr4 {c:Cl} {n:Int} (h:0≤n) (h1:n<146097) (hy:c.y=zca) (he:c.m 5=zaC 1 31) (ho:c.oi=0) (hu:c.u=0) (hs:c.s=1) (ha:c.a=0):
 zbP (c.m 5) (zbw (yD n) (mD n) - dD n+1)=true∧zgz c.y (yD n - 1970)=true∧zhX c n=true∧zjJ c.u c.s c.a n=true:=by
 obtain⟨_,_,_,_,y0,y1⟩:=zgU h h1;obtain⟨_,m1,m2,d1,d2⟩:=zc7 h h1;have hl:=zcD (y:=yD n) m1 m2;refine⟨?_,?_,?_,?_⟩
 ·rw[he,zfZ _ _ _ (by omega) (by omega)]
  simp;omega
 ·rw[hy];exact zpJ (by omega) (by omega)
 ·unfold zhX;rw[ho];rfl
 ·rw[hu,hs,ha];exact zi1 (by decide+kernel) (by decide) (.inr rfl)
theorem zr5 (l:Nat→List It) (t:Int):zrT (zaT l) t=zgk l t:=by
 unfold zrT zgk;cases hi:inC t with
 |false=>rfl
 |true=>
  obtain⟨t0,t1⟩:=zue hi;have h1:decide (zaE (zaT l).f (zaT l).t≤t∧t≤zas (zaT l).f (zaT l).t)=true:=waP ⟨t0,by show t≤12622780799;omega⟩
  have h2:onU (zaT l).u (zaT l).s (zaT l).a t=true:=by
   show onU 0 1 0 t=true;refine waP ⟨by decide+kernel,waP ⟨hi,by decide,by decide⟩,by decide,?_⟩
   omega
  obtain⟨e1,e2,e3,e4⟩:=zr4 (c:=zaT l) (n:=t / 86400) oQ oQ rfl rfl rfl rfl rfl rfl;have e5:zcM (t%86400) ((zaT l).m 2) ((zaT l).m 1) ((zaT l).m 0)=(inB (l 1) 0 23 (t%86400 / 3600)&&(inB (l 0) 0 59 (t%86400 / 60%60)&&decide (t%86400%60=0))):=by
   show zcM (t%86400) (zal (zaD (l 1) 0 23)) (zal (zaD (l 0) 0 59)) 1=_;unfold zcM;rw[zgA (by omega) (by omega),zgA (by omega) (by omega),zi7,zbv]
   congr 2;rw[wbH,wbC];omega
  obtain⟨_,m1,m2,d1,d2⟩:=zc7 (n:=t / 86400) oQ oQ;have hl:=zcD (y:=yD (t / 86400)) m1 m2;have hw:=zcP (t / 86400);have e6:zbP ((zaT l).m 4) (dD (t / 86400))=inB (l 2) 1 31 (dD (t / 86400)):=zgA oQ oQ;have e7:zbP ((zaT l).m 3) (mD (t / 86400))=inB (l 3) 1 12 (mD (t / 86400)):=zgA oQ oQ;have e8:zbP ((zaT l).m 6) (wdD (t / 86400))=(inB (l 4) 0 7 (wdD (t / 86400))||(decide (wdD (t / 86400)=7)&&inB (l 4) 0 7 0)):=by
   show zbP (zal (wkL (zaD (l 4) 0 7))) (wdD (t / 86400))=_;rw[zbv,waQ,waM,zpM,wbF,waN,waM,(zcq 0 7 (l 4)).2,(zcq 0 7 (l 4)).2];constructor
   ·rintro ⟨_,_,_,h|⟨h,h7⟩⟩
    ·exact .inl h
    ·exact .inr ⟨h7,h⟩
   ·rintro (h|⟨h7,h⟩)
    ·exact⟨by omega,by omega,by omega,.inl h⟩
    ·exact⟨by omega,by omega,by omega,.inr ⟨h,h7⟩⟩
  have e9:(zaT l).or=(!zcL (l 2)&&!zcL (l 4)):=rfl;rw[zgB,h1,h2,e5];unfold zka;rw[zgB,zrZ,e1,e2,e3,e4,e6,e7,e8,e9];generalize inB (l 2) 1 31 (dD (t / 86400))=D;generalize (inB (l 4) 0 7 (wdD (t / 86400))||(decide (wdD (t / 86400)=7)&&inB (l 4) 0 7 0))=K
  generalize inB (l 1) 0 23 (t%86400 / 3600)=a;generalize inB (l 0) 0 59 (t%86400 / 60%60)=b;generalize decide (t%86400%60=0)=s;generalize inB (l 3) 1 12 (mD (t / 86400))=m;cases zcL (l 2)<;>cases zcL (l 4)<;>cases D<;>cases K<;>cases a<;>cases b<;>cases s<;>cases m<;>rfl
end Go.Proofs.YtgedndlifiihkaaGreatDoor
namespace Go.Proofs.YtgedndlifiihkaaGreatDoor
open Go.Proofs.Tryz
def zaG (m:Nat):List Int:=(zar m).map fun(k:Nat)=>(k:Int)
theorem zi8 {m:Nat} {x:Int}:x∈zaG m↔∃k:Nat,k<64∧m.testBit k=true∧x=(k:Int):=by
 unfold zaG;rw[List.mem_map];constructor
 ·rintro ⟨k,hk,rfl⟩;obtain⟨h1,h2⟩:=zaW.1 hk;exact⟨k,h1,h2,rfl⟩
 ·rintro ⟨k,h1,h2,rfl⟩;exact⟨k,zaW.2 ⟨h1,h2⟩,rfl⟩
theorem zur (m:Nat):(zaG m).Pairwise (·< ·):=by
 unfold zaG;rw[List.pairwise_map];exact(zbe m).imp fun h=>by omega
theorem zi9 (m:Nat):(zaG m).length<65:=by
 unfold zaG;rw[List.length_map];exact Nat.lt_succ_of_le (zfu m)
def BdM (lo hi:Nat) (m:Nat):Prop:=∀k,k<64→m.testBit k=true→lo≤k∧k≤hi
theorem BdM.numb {lo hi m:Nat} (h:BdM lo hi m) (hle:lo≤hi) (h9:hi≤999):Numb (lo:Int) (hi:Int) (zaG m):=⟨by omega,by omega,by omega,fun x hx=>by
 obtain⟨k,h1,h2,rfl⟩:=zi8.1 hx;have:=h k h1 h2;omega,zur m⟩
theorem zvR {lo hi m:Nat} (h:BdM lo hi m) (hle:lo≤hi) (h9:hi≤63) (S:Bool) (k:Nat):inB (zab (lo:Int) (hi:Int) (zaG m) S) (lo:Int) (hi:Int) (k:Int)=decide (k<64∧m.testBit k=true):=by
 rw[zpa (h.numb hle (by omega)),wbH,zi8]
 constructor
 ·rintro ⟨j,h1,h2,h3⟩;obtain rfl:k=j:=by omega
  exact⟨h1,h2⟩
 ·rintro ⟨h1,h2⟩;exact⟨k,h1,h2,rfl⟩
theorem zr6 {m:Nat} (hm:m<18446744073709551616):zaG m=[]↔m=0:=by
 constructor
 ·intro h;apply Nat.eq_of_testBit_eq;intro k;rw[Nat.zero_testBit,Bool.eq_false_iff];intro hb;have hk:k<64:=by
   false_or_by_contra
   have h64:m<2^k:=waD hm (Nat.pow_le_pow_right (n:=2) (i:=64) (j:=k) dQ oQ);rw[waX h64] at hb;cases hb
  have:(k:Int)∈zaG m:=zi8.2 ⟨k,hk,hb,rfl⟩;rw[h] at this;cases this
 ·rintro rfl;rfl
theorem zeB (lo hi lo' hi':Int) (l:List Int):zab lo hi l false=zab lo' hi' l false:=by
 unfold zab;rw[if_neg (by rintro ⟨h,_⟩;cases h),if_neg (by rintro ⟨h,_⟩;cases h)]
theorem zcW {k:Nat} {lo hi m:Nat} (hk:k<5) (h:BdM lo hi m) (hle:lo≤hi) (h9:hi≤63) (hlo:(lo:Int)=cLo k) (hhi:(hi:Int)=cHi k) (hm:m<18446744073709551616) (h0:m≠0) (S:Bool):zaM k (zab (lo:Int) (hi:Int) (zaG m) S)=0:=by
 have hn:=h.numb hle oQ;obtain⟨h1,h2⟩:=zjT hn S;have h3:=zi9 m;refine zjM (fun e=>h0 ((zr6 hm).1 (h1.1 e))) oQ fun j it hj hjt=>?_
 obtain⟨h4,h5⟩:=zgT hn S it (List.mem_of_getElem? hjt);rw[←hlo,←hhi,h4];simp[h5]
theorem zeC {k:Nat} {l:List It} {s:Int} (hk:k<5) (s0:1≤s) (s1:s≤999) (hl:l.length≤63) (h:∀i∈l,zbJ i (cLo k) (cHi k)=true∧i.k≠3):zaM k (⟨0,0,0,s⟩::l)=0:=by
 refine zjM (by simp) (by simp only[waG];omega) fun j it hj hjt=>?_
 rcases List.mem_cons.1 (List.mem_of_getElem? hjt) with rfl|hm
 ·have:zbJ ⟨0,0,0,s⟩ (cLo k) (cHi k)=true:=by
   refine waP ⟨?_,?_,?_,.inl ⟨rfl,rfl,rfl,s0,s1⟩⟩
   all_goals (obtain rfl|rfl|rfl|rfl|rfl:k=0∨k=1∨k=2∨k=3∨k=4:=by omega)
   all_goals decide
  rw[this];rfl
 ·obtain⟨h4,h5⟩:=h it hm;rw[h4];simp[h5]
theorem zja (lo hi s:Int) (l:List It) (h0:0≤lo) (h1:lo≤hi) (h2:hi≤9999) (s0:1≤s) (s1:s≤999) (n:Int):inB (⟨0,0,0,s⟩::l) lo hi n=(decide (lo≤n∧n≤hi∧(n - lo)%s=0)||inB l lo hi n):=by
 have hm:zbJ ⟨0,0,0,s⟩ lo hi=true:=waP ⟨h0,h1,h2,.inl ⟨rfl,rfl,rfl,s0,s1⟩⟩;unfold inB;rw[List.any_cons];congr 1;unfold zfj;rw[hm,Bool.true_and];rfl
def zcQ (w:Nat):Nat:=mkN (fun k=>if k=0 then w.testBit 0||w.testBit 7 else decide (k≠7)&&w.testBit k) 64
theorem zf1 (w:Nat):zcQ w<18446744073709551616:=zcU _ 64
theorem zda (w k:Nat) (hk:k<64):(zcQ w).testBit k=if k=0 then w.testBit 0||w.testBit 7 else decide (k≠7)&&w.testBit k:=by
 unfold zcQ;rw[za8];simp[hk]
def zdr (m j:Nat):Nat:=mkN (fun k=>decide (k≠j)&&m.testBit k) 64
theorem zfv (m j:Nat):zdr m j<18446744073709551616:=zcU _ 64
theorem zed (m j k:Nat) (hk:k<64):(zdr m j).testBit k=(decide (k≠j)&&m.testBit k):=by
 unfold zdr;rw[za8];simp[hk]
def zds (mo:Nat):Int:=(zar mo).foldl (fun(a:Int) (m:Nat)=>max a (zbw 2000 (m:Int))) 0
theorem zr7 {mo m:Nat} (h:m∈zar mo):zbw 2000 (m:Int)≤zds mo:=by
 unfold zds;have:∀(l:List Nat) (a:Int),a≤l.foldl (fun(a:Int) (m:Nat)=>max a (zbw 2000 (m:Int))) a∧∀m∈l,zbw 2000 (m:Int)≤l.foldl (fun(a:Int) (m:Nat)=>max a (zbw 2000 (m:Int))) a:=by
  intro l;induction l with
  |nil=>intro a;exact⟨Int.le_refl _,fun m hm=>by cases hm⟩
  |cons b l ih=>
   intro a;obtain⟨h1,h2⟩:=ih (max a (zbw 2000 (b:Int)));rw[List.foldl_cons];refine⟨by omega,fun m hm=>?_⟩
   rcases List.mem_cons.1 hm with rfl|hm
   ·omega
   ·exact h2 m hm
 exact(this _ 0).2 m h
theorem zr8 {mo:Nat} {d:Int} (h0:1≤d) (h:d≤zds mo):∃m∈zar mo,d≤zbw 2000 (m:Int):=by
 unfold zds at h;have:∀(l:List Nat) (a:Int),d≤l.foldl (fun(a:Int) (m:Nat)=>max a (zbw 2000 (m:Int))) a→d≤a∨∃m∈l,d≤zbw 2000 (m:Int):=by
  intro l;induction l with
  |nil=>intro a h;exact .inl h
  |cons b l ih=>
   intro a h;rw[List.foldl_cons] at h;rcases ih _ h with h|⟨m,hm,h⟩
   ·by_cases hb:d≤zbw 2000 (b:Int)
    ·exact .inr ⟨b,by simp,hb⟩
    ·exact .inl oQ
   ·exact .inr ⟨m,by simp[hm],h⟩
 rcases this _ 0 h with h|h
 ·omega
 ·exact h
def ztC (mo d:Nat):Bool:=(List.range 32).all fun k=>!decide (1≤k∧(k:Int)≤zds mo)||d.testBit k
def zee (w:Nat):Bool:=(List.range 7).all fun k=>(zcQ w).testBit k
def zeV (mi ho mo:Nat) (day week:List It) (k:Nat):List It:=
 if k=0 then zab 0 59 (zaG mi) true else if k=1 then zab 0 23 (zaG ho) true else if k=2 then day else if k=3 then zab 1 12 (zaG mo) true else week
def zbE (mo d w:Nat):List It:=if ztC mo d then [⟨0,0,0,1⟩] else if zee w then zab 1 31 (zaG d) false else if d.testBit 1 then⟨0,0,0,31⟩::zab 1 31 (zaG (zdr d 1)) false else zab 1 31 (zaG d) false
def zaY (mo d w:Nat):List It:=if zee w then [⟨0,0,0,1⟩] else if ztC mo d then zab 0 6 (zaG (zcQ w)) false else if d.testBit 1 then zab 0 6 (zaG (zcQ w)) false else⟨0,0,0,8⟩::zab 0 6 (zaG (zdr (zcQ w) 0)) false
def zbf (mo d w:Nat):Bool:=ztC mo d||(zee w||(d.testBit 1||(zcQ w).testBit 0))
noncomputable def zb0 (P:Int→Nat→Bool):Nat→List It:=zeV (zdq P) (zbn P) (za5 P) (zbE (za5 P) (zbL P) (wkF P)) (zaY (za5 P) (zbL P) (wkF P))
noncomputable def zcN (P:Int→Nat→Bool):Nat→List It:=zeV (zdq P) (zbn P) (za5 P) (zab 1 31 (zaG (zij P)) false) (zab 0 6 (zaG (zcQ (wkW P))) false)
def zkg (k:Nat):List It:=if k=0 then [⟨1,0,0,0⟩] else if k=1 then [⟨1,0,0,0⟩] else if k=2 then [⟨1,30,0,0⟩] else if k=3 then [⟨1,2,0,0⟩] else [⟨0,0,0,1⟩]
def zlu (x:Nat→List It) (n:Int) (s:Nat):Bool:=zgk x (n * 86400+(s:Int))
def zgs (x:Nat→List It) (P:Int→Nat→Bool):Prop:=chk x=(5,0)∧zvP (zlu x) P
inductive Rais (P:Int→Nat→Bool):Option (Nat→List It)→Prop
 |empty:¬zhP P→Rais P (some zkg)
 |both:zhP P→zbf (za5 P) (zbL P) (wkF P)=true→zgs (zb0 P) P→Rais P (some (zb0 P))
 |either:zhP P→¬(zbf (za5 P) (zbL P) (wkF P)=true∧zgs (zb0 P) P)→zij P≠0→wkW P≠0→zgs (zcN P) P→Rais P (some (zcN P))
 |none:zhP P→¬(zbf (za5 P) (zbL P) (wkF P)=true∧zgs (zb0 P) P)→¬(zij P≠0∧wkW P≠0∧zgs (zcN P) P)→Rais P Option.none
theorem Rais.det {P:Int→Nat→Bool} {a b:Option (Nat→List It)} (h:Rais P a) (k:Rais P b):a=b:=by
 cases h<;>cases k<;>first|rfl|(exfalso;simp_all)
end Go.Proofs.YtgedndlifiihkaaGreatDoor
