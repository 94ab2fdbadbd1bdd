/- A part of the proof: RToc2 RToc3 RLives36 RText WShow4 WRfA WClM -/
import Derived.Test.YtgedndlifiihkaaGreatDoorR09
import Derived.Test.YtgedndlifiihkaaGreatDoorR00
import Derived.Lib.ItoaLen
import Derived.Lib.Join
import Derived.Test.YtgedndlifiihkaaGreatDoorR03
import Derived.Test.YtgedndlifiihkaaGreatDoorR02
import Derived.Test.YtgedndlifiihkaaGreatDoorR07
import Derived.Test.YtgedndlifiihkaaGreatDoorR08
set_option maxHeartbeats 80000000
set_option maxRecDepth 100000
set_option linter.unusedSimpArgs false
set_option linter.unusedVariables false
namespace Go.Proofs.YtgedndlifiihkaaGreatDoor
open Go.Proofs.Tryz
def wkB (x:Nat→List It) (w:Int):Bool:=inB (x 4) 0 7 w||(decide (w=7)&&inB (x 4) 0 7 0)
theorem zfs (x:Nat→List It) {n:Int} {s:Nat} (h0:0≤n) (h1:n<146097) (hs:s<86400):
 zeN x n s=(decide (s%60=0)&&(inB (x 0) 0 59 ((s / 60%60:Nat):Int)&&(inB (x 1) 0 23 ((s / 3600:Nat):Int)&&(inB (x 3) 1 12 (mD n)&&
  (if zbJ (x 2)||zbJ (x 4) then inB (x 2) 1 31 (dD n)&&wkB x (wdD n) else inB (x 2) 1 31 (dD n)||wkB x (wdD n)))))):=by
 have e1:(n * 86400+(s:Int))%86400=(s:Int):=by omega
 have e2:(n * 86400+(s:Int)) / 86400=n:=by omega
 have e3:inC (n * 86400+(s:Int))=true:=waP oQ;unfold zeN zgg wkB;rw[e1,e2,e3,Bool.true_and];have e4:decide ((s:Int)%60=0)=decide (s%60=0):=by rw[wbH];omega
 have e5:(s:Int) / 60%60=((s / 60%60:Nat):Int):=by omega
 have e6:(s:Int) / 3600=((s / 3600:Nat):Int):=by omega
 rw[e4,e5,e6]
theorem zcN {Q:Nat→Prop} {k:Nat} (hk:k<64):(mOf Q).testBit k=true↔Q k:=by rw[zfS];simp[hk]
theorem zft {P:Int→Nat→Bool} {m:Nat} (hm:m<64):(zaY P).testBit m=true↔∃n,zbL P n∧mD n=(m:Int):=zcN hm
theorem ziX {P:Int→Nat→Bool} {m:Nat} (hm:m<64):(zbB P).testBit m=true↔∃n,zbL P n∧dD n=(m:Int):=zcN hm
theorem zll {P:Int→Nat→Bool} {m:Nat} (hm:m<64):(wkF P).testBit m=true↔∃n,zbL P n∧wdD n=(m:Int):=zcN hm
theorem zeB {P:Int→Nat→Bool} {m:Nat} (hm:m<64):(zcF P).testBit m=true↔∃n s,zde P n s∧s / 60%60=m:=zcN hm
theorem zdp {P:Int→Nat→Bool} {m:Nat} (hm:m<64):(za5 P).testBit m=true↔∃n s,zde P n s∧s / 3600=m:=zcN hm
theorem zu8 (y m:Int):zbe y m≤zbe 2000 m:=by
 unfold zbe;rw[show zcJ 2000=true by decide]
 by_cases c:m<1∨12<m
 ·rw[if_pos c,if_pos c];exact Int.le_refl _
 ·rw[if_neg c,if_neg c]
  by_cases h2:m=2
  ·subst h2;rw[if_pos (show(2:Int)=2∧true=true from⟨rfl,rfl⟩)]
   split<;>decide
  ·rw[if_neg (fun g=>h2 g.1),if_neg (fun g=>h2 g.1)];exact Int.le_refl _
theorem zcO {n:Int} (h:0≤n) (h1:n<146097):1≤mD n∧mD n≤12∧1≤dD n∧dD n≤zbe 2000 (mD n)∧dD n≤31:=by
 obtain⟨_,m1,m2,d1,d2⟩:=zc4 h h1;have hl:=zb7 (y:=yD n) m1 m2;have:=zu8 (yD n) (mD n);exact⟨m1,m2,d1,by omega,by omega⟩
theorem zmn (P:Int→Nat→Bool):BdM 0 59 (zcF P):=fun k hk hb=>by
 obtain⟨n,s,h,e⟩:=(zeB hk).1 hb;omega
theorem ziY (P:Int→Nat→Bool):BdM 0 23 (za5 P):=fun k hk hb=>by
 obtain⟨n,s,⟨_,_,h,_⟩,e⟩:=(zdp hk).1 hb;omega
theorem zgh (P:Int→Nat→Bool):BdM 1 12 (zaY P):=fun k hk hb=>by
 obtain⟨n,h,e⟩:=(zft hk).1 hb;have:=zcO h.win.1 h.win.2;omega
theorem zj7 (P:Int→Nat→Bool):BdM 1 31 (zbB P):=fun k hk hb=>by
 obtain⟨n,h,e⟩:=(ziX hk).1 hb;have:=zcO h.win.1 h.win.2;omega
theorem znz (P:Int→Nat→Bool):BdM 1 7 (wkF P):=fun k hk hb=>by
 obtain⟨n,h,e⟩:=(zll hk).1 hb;have:=zcm n;omega
theorem zaW {m k:Nat} (h:m.testBit k=true):m≠0:=by
 rintro rfl;rw[Nat.zero_testBit] at h;cases h
theorem zpC {P:Int→Nat→Bool} (h:zeX P):zcF P≠0∧za5 P≠0∧zaY P≠0∧zbB P≠0∧wkF P≠0:=by
 obtain⟨n,s,hs⟩:=h;have hb:=zcO hs.1 hs.2.1;have hw:=zcm n;have hsl:=hs.2.2.1;refine⟨zaW (k:=s / 60%60) ((zeB oQ).2 ⟨n,s,hs,rfl⟩),zaW (k:=s / 3600) ((zdp oQ).2 ⟨n,s,hs,rfl⟩),zaW (k:=(mD n).toNat) ((zft oQ).2 ⟨n,⟨s,hs⟩,by omega⟩),
  zaW (k:=(dD n).toNat) ((ziX oQ).2 ⟨n,⟨s,hs⟩,by omega⟩),zaW (k:=(wdD n).toNat) ((zll oQ).2 ⟨n,⟨s,hs⟩,by omega⟩)⟩
def zdI (m:Nat) (x:Int):Bool:=m.testBit x.toNat
theorem zdS {lo hi m:Nat} (h:BdM lo hi m) (hle:lo≤hi) (h9:hi≤63) (S:Bool) {x:Int} (h0:0≤x) (h1:x<64):inB (zab (lo:Int) (hi:Int) (zax m) S) (lo:Int) (hi:Int) x=zdI m x:=by
 obtain⟨k,rfl⟩:=wbD h0;rw[zu7 h hle h9];unfold zdI;rw[Int.toNat_natCast];have:k<64:=by omega
 cases m.testBit k<;>simp [this]
theorem zdf {lo hi m j:Nat} (h:BdM lo hi m):BdM lo hi (zdo m j):=fun k hk hb=>by
 rw[zeb m j k hk,waN] at hb;exact h k hk hb.2
theorem zfu {w:Nat} (h:BdM 1 7 w):BdM 0 6 (zca w):=fun k hk hb=>by
 rw[zc6 w k hk] at hb;split at hb
 ·omega
 ·rw[waN,waM] at hb;have:=h k hk hb.2;omega
theorem zpD {lo hi hi' m:Nat} (h:BdM lo hi m) (hh:hi≤hi'):BdM lo hi' m:=fun k hk hb=>by
 have:=h k hk hb;omega
theorem zu9 {w:Nat} (h:BdM 1 7 w) (hw:w<18446744073709551616) (h0:w≠0):zca w≠0:=by
 have:∃k,k<64∧w.testBit k=true:=by
  false_or_by_contra
  rename_i hn;refine h0 (Nat.eq_of_testBit_eq fun k=>?_)
  rw[Nat.zero_testBit,Bool.eq_false_iff];intro hb;refine hn ⟨k,?_,hb⟩
  false_or_by_contra
  have h64:w<2^k:=waD hw (Nat.pow_le_pow_right (n:=2) (i:=64) (j:=k) dQ oQ);rw[waX h64] at hb;cases hb
 obtain⟨k,hk,hb⟩:=this;have hk7:=h k hk hb
 by_cases e:k=7
 ·subst e;exact zaW (k:=0) (by rw[zc6 w 0 (by decide),if_pos rfl,hb,Bool.or_true])
 ·exact zaW (k:=k) (by rw[zc6 w k hk,if_neg (by omega),hb,waP e];rfl)
theorem zpE {x:Nat→List It} {w:Nat} (hw:BdM 1 7 w) (hx:∀y:Int,0≤y→y≤7→inB (x 4) 0 7 y=zdI (zca w) y) {y:Int} (h1:1≤y) (h7:y≤7):wkB x y=zdI w y:=by
 have h0:w.testBit 0=false:=by
  cases hb:w.testBit 0 with
  |false=>rfl
  |true=>have:=hw 0 dQ hb;omega
 unfold wkB;rw[hx y (by omega) h7,hx 0 (by decide) (by decide)]
 unfold zdI;obtain⟨k,rfl⟩:=wbD (show 0≤y by omega)
 rw[Int.toNat_natCast,zc6 w k (by omega),show(0:Int).toNat=0 from rfl,zc6 w 0 (by decide),if_pos rfl,if_neg (by omega),h0,Bool.false_or]
 by_cases e:k=7
 ·subst e;simp
 ·have e2:¬(k:Int)=7:=by omega
  simp[e,e2]
theorem zlm {w:Nat} (h:zec w=true):∀k,k<7→(zca w).testBit k=true:=fun k hk=>List.all_eq_true.1 h k (wbG.2 hk)
theorem zpF {mo d:Nat} (hd:BdM 1 12 mo) (h:zs7 mo d=true):∀k:Nat,1≤k→(k:Int)≤zcY mo→k≤31→d.testBit k=true:=fun k h1 h2 h3=>by
 have:=List.all_eq_true.1 h k (wbG.2 oQ);rw[waP (show 1≤k∧(k:Int)≤zcY mo from⟨h1,h2⟩)] at this
 simpa using this
section
variable {P : Int → Nat → Bool}
theorem ziZ {n:Int} (h:∃n',zbL P n'∧mD n'=mD n) (h0:0≤n) (h1:n<146097):dD n≤zcY (zaY P):=by
 obtain⟨n',hl,he⟩:=h;have hb:=zcO h0 h1;have hm:(mD n).toNat∈zas (zaY P):=zaT.2 ⟨by omega,(zft oQ).2 ⟨n',hl,by omega⟩⟩
 have:=zrO hm;rw[show (((mD n).toNat:Nat):Int)=mD n by omega] at this
 omega
theorem zrP (hn:zeX P) (hok:zbh (zaY P) (zbB P) (wkF P)=true) {n:Int} (h0:0≤n) (h1:n<146097) (hm:∃n',zbL P n'∧mD n'=mD n):inB (zbF (zaY P) (zbB P) (wkF P)) 1 31 (dD n)=zdI (zbB P) (dD n):=by
 have hb:=zcO h0 h1;have hd:=zj7 P;unfold zbF;split
 ·rename_i ha;have hlong:=ziZ hm h0 h1;have hbit:=zpF (zgh P) ha (dD n).toNat oQ oQ oQ;rw[ziW 1 31 1 [] (by decide) (by decide) (by decide) (by decide) (by decide)]
  unfold zdI;rw[hbit,waP (by omega)]
  rfl
 ·split
  ·exact zdS hd dQ dQ false oQ oQ
  ·split
   ·rename_i h1';rw[ziW 1 31 31 _ (by decide) (by decide) (by decide) (by decide) (by decide),show inB (zab 1 31 (zax (zdo (zbB P) 1)) false) 1 31 (dD n)=zdI (zdo (zbB P) 1) (dD n) from zdS (zdf hd) (by decide) (by decide) false (by omega) (by omega)]
    unfold zdI;rw[zeb _ _ _ (by omega)]
    by_cases e:dD n=1
    ·rw[e,show(1:Int).toNat=1 from rfl,h1'];rfl
    ·rw[waO (show ¬(1≤dD n∧dD n≤31∧(dD n - 1)%31=0) by omega),waP (show(dD n).toNat≠1 by omega)];simp
   ·exact zdS hd dQ dQ false oQ oQ
theorem zpG (hok:zbh (zaY P) (zbB P) (wkF P)=true) {y:Int} (y1:1≤y) (y7:y≤7):wkB (zbM P) y=zdI (wkF P) y:=by
 have hw:=znz P;have hs:=zpD (zfu hw) (show 6≤7 by decide)
 have hsum:∀z:Int,0≤z→z≤7→inB (zab 0 6 (zax (zca (wkF P))) false) 0 7 z=zdI (zca (wkF P)) z:=fun z z0 z7=>by
  rw[zcI 0 6 0 7];exact zdS (lo:=0) (hi:=7) hs dQ dQ false z0 oQ
 have h4:zbM P 4=za0 (zaY P) (zbB P) (wkF P):=rfl
 by_cases he:zec (wkF P)=true
 ·have hb:=zlm he;have hr:zdI (wkF P) y=true:=by
   unfold zdI
   by_cases e:y=7
   ·have h0:=hb 0 dQ;rw[zc6 _ 0 (by decide),if_pos rfl,wbF] at h0
    rcases h0 with h0|h0
    ·have:=hw 0 dQ h0;omega
    ·rw[e];exact h0
   ·have h0:=hb y.toNat oQ;rw[zc6 _ _ (by omega),if_neg (by omega),waN] at h0
    exact h0.2
  rw[hr];unfold wkB;rw[h4];unfold za0;rw[if_pos he,ziW 0 7 1 [] (by decide) (by decide) (by decide) (by decide) (by decide),waP (show 0≤y∧y≤7∧(y - 0)%1=0 by omega)]
  rfl
 ·refine zpE hw (fun z z0 z7=>?_) y1 y7
  rw[h4];unfold za0;rw[if_neg he];split
  ·exact hsum z z0 z7
  ·rename_i ha;split
   ·exact hsum z z0 z7
   ·rename_i hd1;have h0:(zca (wkF P)).testBit 0=true:=by
     unfold zbh at hok;simp only[wbF] at hok;rcases hok with h|h|h|h
     ·exact absurd h ha
     ·exact absurd h he
     ·exact absurd h hd1
     ·exact h
    rw[ziW 0 7 8 _ (by decide) (by decide) (by decide) (by decide) (by decide),zcI 0 6 0 7,show inB (zab 0 7 (zax (zdo (zca (wkF P)) 0)) false) 0 7 z=zdI (zdo (zca (wkF P)) 0) z from zdS (lo:=0) (hi:=7) (zdf hs) (by decide) (by decide) false z0 (by omega)]
    unfold zdI;rw[zeb _ _ _ (by omega)]
    by_cases e:z=0
    ·rw[e,show(0:Int).toNat=0 from rfl,h0];rfl
    ·rw[waO (show ¬(0≤z∧z≤7∧(z - 0)%8=0) by omega),waP (show z.toNat≠0 by omega)];simp
theorem zpH (hok:zbh (zaY P) (zbB P) (wkF P)=true):(zbJ (zbM P 2)||zbJ (zbM P 4))=true:=by
 show(zbJ (zbF (zaY P) (zbB P) (wkF P))||zbJ (za0 (zaY P) (zbB P) (wkF P)))=true
 unfold zbh at hok;unfold zbF za0
 by_cases ha:zs7 (zaY P) (zbB P)=true
 ·rw[if_pos ha];rfl
 ·by_cases he:zec (wkF P)=true
  ·rw[if_pos (c:=zec (wkF P)=true) he,if_pos (c:=zec (wkF P)=true) he,wbF];exact .inr rfl
  ·by_cases hd:(zbB P).testBit 1=true
   ·rw[if_neg ha,if_neg he,if_pos hd];rfl
   ·rw[wbF];refine .inr ?_;rw[if_neg he,if_neg ha,if_neg hd];rfl
theorem zmo (day week:List It) {n:Int} {s:Nat} (h0:0≤n) (h1:n<146097) (hs:s<86400):
 inB (zc7 (zcF P) (za5 P) (zaY P) day week 0) 0 59 ((s / 60%60:Nat):Int)=(zcF P).testBit (s / 60%60)∧inB (zc7 (zcF P) (za5 P) (zaY P) day week 1) 0 23 ((s / 3600:Nat):Int)=(za5 P).testBit (s / 3600)∧inB (zc7 (zcF P) (za5 P) (zaY P) day week 3) 1 12 (mD n)=zdI (zaY P) (mD n):=by
 have hb:=zcO h0 h1;refine⟨?_,?_,?_⟩
 ·have:=zdS (lo:=0) (hi:=59) (zmn P) dQ dQ true (x:=((s / 60%60:Nat):Int)) oQ oQ;unfold zdI at this
  rwa [Int.toNat_natCast] at this
 ·have:=zdS (lo:=0) (hi:=23) (ziY P) dQ dQ true (x:=((s / 3600:Nat):Int)) oQ oQ;unfold zdI at this
  rwa [Int.toNat_natCast] at this
 ·exact zdS (lo:=1) (hi:=12) (zgh P) dQ dQ true oQ oQ
theorem zi0 {n:Int} (h0:0≤n) (h1:n<146097):zdI (zaY P) (mD n)=true↔∃n',zbL P n'∧mD n'=mD n:=by
 have hb:=zcO h0 h1;unfold zdI;rw[zft (by omega),show(((mD n).toNat:Nat):Int)=mD n by omega]
theorem zpI (hn:zeX P) (hok:zbh (zaY P) (zbB P) (wkF P)=true) {n:Int} {s:Nat} (h0:0≤n) (h1:n<146097) (hs:s<86400):
 zeN (zbM P) n s=(decide (s%60=0)&&((zcF P).testBit (s / 60%60)&&((za5 P).testBit (s / 3600)&&(zdI (zaY P) (mD n)&&(zdI (zbB P) (dD n)&&zdI (wkF P) (wdD n)))))):=by
 rw[zfs _ h0 h1 hs,zpH hok,if_pos rfl];have hw:=zcm n;rw[zpG hok hw.1 hw.2];obtain⟨e1,e2,e3⟩:=zmo (P:=P) (zbF (zaY P) (zbB P) (wkF P)) (za0 (zaY P) (zbB P) (wkF P)) h0 h1 hs;unfold zbM;rw[e1,e2,e3];cases hm:zdI (zaY P) (mD n) with
 |false=>simp
 |true=>
  have:=zrP hn hok h0 h1 ((zi0 h0 h1).1 hm);rw[←this];rfl
theorem zhR (D W:Nat) (hD:BdM 1 31 D) (hW:BdM 1 7 W) {n:Int} {s:Nat} (h0:0≤n) (h1:n<146097) (hs:s<86400):
 zeN (zc7 (zcF P) (za5 P) (zaY P) (zab 1 31 (zax D) false) (zab 0 6 (zax (zca W)) false)) n s=(decide (s%60=0)&&((zcF P).testBit (s / 60%60)&&((za5 P).testBit (s / 3600)&&(zdI (zaY P) (mD n)&&(zdI D (dD n)||zdI W (wdD n)))))):=by
 have hb:=zcO h0 h1;have hw:=zcm n;have hs7:=zpD (zfu hW) (show 6≤7 by decide)
 obtain⟨e1,e2,e3⟩:=zmo (P:=P) (zab 1 31 (zax D) false) (zab 0 6 (zax (zca W)) false) h0 h1 hs;have e4:(zbJ (zc7 (zcF P) (za5 P) (zaY P) (zab 1 31 (zax D) false) (zab 0 6 (zax (zca W)) false) 2)||zbJ (zc7 (zcF P) (za5 P) (zaY P) (zab 1 31 (zax D) false) (zab 0 6 (zax (zca W)) false) 4))=false:=by
  show(zbJ (zab 1 31 (zax D) false)||zbJ (zab 0 6 (zax (zca W)) false))=false
  rw[zc2,zc2];rfl
 have e5:wkB (zc7 (zcF P) (za5 P) (zaY P) (zab 1 31 (zax D) false) (zab 0 6 (zax (zca W)) false)) (wdD n)=zdI W (wdD n):=by
  refine zpE hW (fun z z0 z7=>?_) hw.1 hw.2
  show inB (zab 0 6 (zax (zca W)) false) 0 7 z=_;rw[zcI 0 6 0 7];exact zdS (lo:=0) (hi:=7) hs7 dQ dQ false z0 oQ
 rw[zfs _ h0 h1 hs,e4,if_neg (by decide),e1,e2,e3,e5]
 have e6:inB (zab 1 31 (zax D) false) 1 31 (dD n)=zdI D (dD n):=zdS (lo:=1) (hi:=31) hD dQ dQ false oQ oQ;rw[←e6];rfl
theorem zg5 (hn:zeX P) (day week:List It) (hd:zaD 2 day=0) (hw:zaD 4 week=0):chk (zc7 (zcF P) (za5 P) (zaY P) day week)=(5,0):=by
 obtain⟨f1,f2,f3,f4,f5⟩:=zpC hn;refine zit fun j hj=>?_
 obtain rfl|rfl|rfl|rfl|rfl:j=0∨j=1∨j=2∨j=3∨j=4:=by omega
 ·exact zcM (lo:=0) (hi:=59) dQ (zmn P) dQ dQ rfl rfl (zbN _) f1 true
 ·exact zcM (lo:=0) (hi:=23) dQ (ziY P) dQ dQ rfl rfl (zbN _) f2 true
 ·exact hd
 ·exact zcM (lo:=1) (hi:=12) dQ (zgh P) dQ dQ rfl rfl (zbN _) f3 true
 ·exact hw
theorem zg6 {D:Nat} (hD:BdM 1 31 D) (hl:D<18446744073709551616) (h0:D≠0):zaD 2 (zab 1 31 (zax D) false)=0:=
 zcM (lo:=1) (hi:=31) dQ hD dQ dQ rfl rfl hl h0 false
theorem zfX {W:Nat} (hW:BdM 1 7 W) (hl:W<18446744073709551616) (h0:W≠0):zaD 4 (zab 0 6 (zax (zca W)) false)=0:=by
 rw[zcI 0 6 0 7];exact zcM (lo:=0) (hi:=7) dQ (zpD (zfu hW) dQ) dQ dQ rfl rfl (zfW _) (zu9 hW hl h0) false
theorem zaP {lo hi m:Nat} (h:BdM lo hi m) (hle:lo≤hi) (h9:hi≤62) (S:Bool):(zab (lo:Int) (hi:Int) (zax m) S).length≤63:=by
 have h1:=(zjJ (h.numb hle oQ) S).2;have h2:(zax m).length≤63:=by
  unfold zax;rw[List.length_map];have h63:m.testBit 63=false:=by
   cases hb:m.testBit 63 with
   |false=>rfl
   |true=>have:=h 63 dQ hb;omega
  unfold zas;rw[show (64:Nat)=63+1 from rfl,List.range_succ,List.filter_append]
  have e:([63].filter fun i=>m.testBit i)=[]:=by simp[h63]
  rw[e,List.append_nil];have:=List.length_filter_le (fun i=>m.testBit i) (List.range 63)
  rwa [List.length_range] at this
 omega
theorem zmp (hn:zeX P) (hok:zbh (zaY P) (zbB P) (wkF P)=true):chk (zbM P)=(5,0):=by
 obtain⟨f1,f2,f3,f4,f5⟩:=zpC hn;have hd:=zj7 P;have hw:=znz P;have hs7:=zpD (zfu hw) (show 6≤7 by decide)
 refine zg5 hn _ _ ?_ ?_
 ·unfold zbF;split
  ·exact zeA (k:=2) dQ dQ dQ dQ (fun i hi=>by cases hi)
  ·split
   ·exact zg6 hd (zbN _) f4
   ·split
    ·refine zeA (k:=2) dQ dQ dQ (zaP (lo:=1) (hi:=31) (zdf hd) dQ dQ false) fun i hi=>?_
     exact zgP ((zdf hd).numb dQ dQ) false i hi
    ·exact zg6 hd (zbN _) f4
 ·unfold za0;split
  ·exact zeA (k:=4) dQ dQ dQ dQ (fun i hi=>by cases hi)
  ·split
   ·exact zfX hw (zbN _) f5
   ·split
    ·exact zfX hw (zbN _) f5
    ·rw[zcI 0 6 0 7];refine zeA (k:=4) dQ dQ dQ (zaP (lo:=0) (hi:=7) (zdf hs7) dQ dQ false) fun i hi=>?_
     exact zgP ((zdf hs7).numb dQ dQ) false i hi
structure ProdP (P:Int→Nat→Bool) (M D W:Int→Bool) (Mi Ho:Nat→Bool):Prop where
 eq:∀n s,0≤n→n<146097→s<86400→P n s=(decide (s%60=0)&&(Mi (s / 60%60)&&(Ho (s / 3600)&&(M (mD n)&&(D (dD n)&&W (wdD n))))))
theorem ProdP.live {M D W:Int→Bool} {Mi Ho:Nat→Bool} (h:ProdP P M D W Mi Ho) {n:Int} {s:Nat} (hl:zde P n s):s%60=0∧Mi (s / 60%60)=true∧Ho (s / 3600)=true∧M (mD n)=true∧D (dD n)=true∧W (wdD n)=true:=by
 obtain⟨a,b,c,d⟩:=hl;rw[h.eq n s a b c] at d;simpa only[waN,waM] using d
theorem ztX {n:Int} (h0:0≤n) (h1:n<146097):zdI (zbB P) (dD n)=true↔∃n',zbL P n'∧dD n'=dD n:=by
 have hb:=zcO h0 h1;unfold zdI;rw[ziX (by omega),show(((dD n).toNat:Nat):Int)=dD n by omega]
theorem zva (n:Int):zdI (wkF P) (wdD n)=true↔∃n',zbL P n'∧wdD n'=wdD n:=by
 have hb:=zcm n;unfold zdI;rw[zll (by omega),show(((wdD n).toNat:Nat):Int)=wdD n by omega]
theorem znA {M D W:Int→Bool} {Mi Ho:Nat→Bool} (h:ProdP P M D W Mi Ho) (hn:zeX P) (hok:zbh (zaY P) (zbB P) (wkF P)=true):zfr (zbM P) P:=by
 refine⟨zmp hn hok,fun n s h0 h1 hs=>?_⟩
 rw[zpI hn hok h0 h1 hs,waQ];simp only[waN,waM,zi0 h0 h1,ztX h0 h1,zva];constructor
 ·rintro ⟨e0,e1,e2,⟨n3,⟨s3,l3⟩,e3⟩,⟨n4,⟨s4,l4⟩,e4⟩,⟨n5,⟨s5,l5⟩,e5⟩⟩;obtain⟨n1,s1,l1,e1⟩:=(zeB oQ).1 e1;obtain⟨n2,s2,l2,e2⟩:=(zdp oQ).1 e2;have a1:=(h.live l1).2.1;have a2:=(h.live l2).2.2.1;have a3:=(h.live l3).2.2.2.1;have a4:=(h.live l4).2.2.2.2.1;have a5:=(h.live l5).2.2.2.2.2;rw[e1] at a1;rw[e2] at a2;rw[e3] at a3;rw[e4] at a4;rw[e5] at a5;rw[h.eq n s h0 h1 hs,a1,a2,a3,a4,a5,waP e0];rfl
 ·intro hp;have hl:zde P n s:=⟨h0,h1,hs,hp⟩;exact⟨(h.live hl).1,(zeB oQ).2 ⟨n,s,hl,rfl⟩,(zdp oQ).2 ⟨n,s,hl,rfl⟩,⟨n,⟨s,hl⟩,rfl⟩,⟨n,⟨s,hl⟩,rfl⟩,⟨n,⟨s,hl⟩,rfl⟩⟩
end
section
variable {P : Int → Nat → Bool}
theorem zi1 (P:Int→Nat→Bool):BdM 1 31 (domW P):=fun k hk hb=>by
 obtain⟨⟨n,h0,h1,_,e⟩,_⟩:=(zcN hk).1 hb;have:=zcO h0 h1;omega
theorem zj8 (P:Int→Nat→Bool):BdM 1 7 (wkW P):=fun k hk hb=>by
 obtain⟨h,_⟩:=(zcN hk).1 hb;exact h
structure EithP (P:Int→Nat→Bool) (M D W:Int→Bool) (Mi Ho:Nat→Bool):Prop where
 eq:∀n s,0≤n→n<146097→s<86400→P n s=(decide (s%60=0)&&(Mi (s / 60%60)&&(Ho (s / 3600)&&(M (mD n)&&(D (dD n)||W (wdD n))))))
 wk:∃w,1≤w∧w≤7∧W w=true
theorem EithP.live {M D W:Int→Bool} {Mi Ho:Nat→Bool} (h:EithP P M D W Mi Ho) {n:Int} {s:Nat} (hl:zde P n s):s%60=0∧Mi (s / 60%60)=true∧Ho (s / 3600)=true∧M (mD n)=true∧(D (dD n)=true∨W (wdD n)=true):=by
 obtain⟨a,b,c,d⟩:=hl;rw[h.eq n s a b c] at d;simpa only[waN,wbF,waM] using d
theorem EithP.day {M D W:Int→Bool} {Mi Ho:Nat→Bool} (h:EithP P M D W Mi Ho) (hn:zeX P) {n:Int} (h0:0≤n) (h1:n<146097) (hm:∃n',zbL P n'∧mD n'=mD n) (hd:D (dD n)=true∨W (wdD n)=true):zbL P n:=by
 obtain⟨n',⟨s,hl⟩,e⟩:=hm;obtain⟨a1,a2,a3,a4,_⟩:=h.live hl;rw[e] at a4;refine⟨s,h0,h1,hl.2.2.1,?_⟩;rw[h.eq n s h0 h1 hl.2.2.1,a2,a3,a4,waP a1];simp[hd]
theorem EithP.wkW {M D W:Int→Bool} {Mi Ho:Nat→Bool} (h:EithP P M D W Mi Ho) (hn:zeX P) {w:Int} (w1:1≤w) (w7:w≤7) (hw:W w=true):zdI (wkW P) w=true:=by
 unfold zdI;refine(zcN oQ).2 ⟨by omega,fun n h0 h1 hm e=>h.day hn h0 h1 hm (.inr ?_)⟩
 rw[e,show((w.toNat:Nat):Int)=w by omega];exact hw
theorem EithP.domW {M D W:Int→Bool} {Mi Ho:Nat→Bool} (h:EithP P M D W Mi Ho) (hn:zeX P) {d:Int} (d1:1≤d) (d2:d≤zcY (zaY P)) (hd:D d=true):zdI (domW P) d=true:=by
 obtain⟨m,hm,hl⟩:=zmm d1 d2;obtain⟨hm64,hmb⟩:=zaT.1 hm;have hbm:=zgh P m hm64 hmb;have hle:=(zb7 (y:=2000) (m:=(m:Int)) oQ oQ).2;obtain⟨n,h0,h1,e1,e2,e3⟩:=zmf (m:=(m:Int)) (d:=d) (w:=1) oQ oQ d1 hl dQ dQ;unfold zdI;refine(zcN oQ).2 ⟨⟨n,h0,h1,?_,by omega⟩,fun n h0 h1 hm e=>h.day hn h0 h1 hm (.inl ?_)⟩
 ·obtain⟨n',hl',e'⟩:=(zft hm64).1 hmb;exact⟨n',hl',by rw[e',e1]⟩
 ·rw[e,show((d.toNat:Nat):Int)=d by omega];exact hd
theorem zj9 {M D W:Int→Bool} {Mi Ho:Nat→Bool} (h:EithP P M D W Mi Ho) (hn:zeX P) (hd:domW P≠0):wkW P≠0∧zfr (zbn P) P:=by
 obtain⟨w,w1,w7,hw⟩:=h.wk;have hwne:wkW P≠0:=zaW (h.wkW hn w1 w7 hw);refine⟨hwne,zg5 hn _ _ (zg6 (zi1 P) (zbN _) hd) (zfX (zj8 P) (zbN _) hwne),fun n s h0 h1 hs=>?_⟩
 have hb:=zcO h0 h1;have hwb:=zcm n;unfold zbn;rw[zhR _ _ (zi1 P) (zj8 P) h0 h1 hs,waQ];simp only[waN,wbF,waM,zi0 h0 h1];constructor
 ·rintro ⟨e0,e1,e2,hm,e3⟩;obtain⟨n1,s1,l1,e1⟩:=(zeB oQ).1 e1;obtain⟨n2,s2,l2,e2⟩:=(zdp oQ).1 e2;have a1:=(h.live l1).2.1;have a2:=(h.live l2).2.2.1;rw[e1] at a1;rw[e2] at a2;have hl:zbL P n:=by
   unfold zdI at e3;rcases e3 with e3|e3
   ·exact((zcN oQ).1 e3).2 n h0 h1 hm oQ
   ·exact((zcN oQ).1 e3).2 n h0 h1 hm oQ
  obtain⟨s',hl'⟩:=hl;obtain⟨_,_,_,a4,a5⟩:=h.live hl';rw[h.eq n s h0 h1 hs,a1,a2,a4,waP e0];simp[a5]
 ·intro hp;have hl:zde P n s:=⟨h0,h1,hs,hp⟩;obtain⟨a0,a1,a2,a3,a4⟩:=h.live hl;refine⟨a0,(zeB oQ).2 ⟨n,s,hl,rfl⟩,(zdp oQ).2 ⟨n,s,hl,rfl⟩,⟨n,⟨s,hl⟩,rfl⟩,?_⟩;rcases a4 with a4|a4
  ·exact .inl (h.domW hn hb.2.2.1 (ziZ ⟨n,⟨s,hl⟩,rfl⟩ h0 h1) a4)
  ·exact .inr (h.wkW hn hwb.1 hwb.2 a4)
end
theorem zpJ (l:Nat→List It) (hs:(zbJ (l 2)||zbJ (l 4))=false) (hf:zaD 4 (l 4)=0):EithP (zeN l) (fun m=>inB (l 3) 1 12 m) (fun d=>inB (l 2) 1 31 d) (wkB l) (fun m=>inB (l 0) 0 59 (m:Int)) (fun h=>inB (l 1) 0 23 (h:Int)):=⟨fun n s h0 h1 h2=>by
 rw[zfs l h0 h1 h2,hs,if_neg (by decide)],by
 rw[Bool.or_eq_false_iff] at hs;obtain⟨_,h4⟩:=hs;unfold zaD at hf;split at hf
 ·cases hf
 ·split at hf
  ·cases hf
  ·split at hf
   ·cases hf
   ·rename_i hl _ ha;cases hl4:l 4 with
    |nil=>rw [hl4] at hl;exact absurd rfl hl
    |cons i r=>
     rw[hl4] at ha h4;have hi:=List.any_eq_false.1 (Bool.eq_false_iff.2 ha) i (by simp)
     simp only[wbF,not_or,Bool.not_eq_true,wbE,Bool.not_eq_false',Bool.not_eq_eq_eq_not] at hi;obtain⟨h3,hm⟩:=hi;have hm:zbo i (cLo 4) (cHi 4)=true:=by simpa using hm
     have hm:zbo i 0 7=true:=hm;have hk0:¬i.k=0:=of_decide_eq_false h4;obtain⟨_,_,_,hc⟩:=waA hm;have hf:0≤i.f∧i.f≤7:=by
      rcases hc with h|h|h|h<;>omega
     have hin:inB (l 4) 0 7 i.f=true:=by
      unfold inB;rw[hl4,List.any_cons,wbF];refine .inl ?_;unfold zdU zgp;rw[hm,Bool.true_and,waM];simp only[bF,bT,bS,if_neg hk0];refine⟨Int.le_refl _,?_,by simp⟩
      rcases hc with h|h|h|h
      ·exact absurd h.1 hk0
      ·rw[if_pos h.1];exact Int.le_refl _
      ·rw[if_neg (by omega),if_pos h.1];omega
      ·exact absurd h.1 h3
     by_cases h0:i.f=0
     ·refine⟨7,by decide,by decide,?_⟩
      rw[h0] at hin;unfold wkB;rw[hin];simp
     ·refine⟨i.f,by omega,by omega,?_⟩
      unfold wkB;rw[hin];rfl⟩
theorem znB {k:Nat} {l:List It} (h:zaD k l=0):∀i∈l,zbo i (cLo k) (cHi k)=true:=by
 unfold zaD at h;split at h
 ·cases h
 ·split at h
  ·cases h
  ·split at h
   ·cases h
   ·rename_i ha;intro i hi;have:=List.any_eq_false.1 (Bool.eq_false_iff.2 ha) i hi;simp only[wbF,not_or,Bool.not_eq_true] at this;simpa using this.2
def zcP (P:Int→Nat→Bool):Prop:=∀n s,0≤n→n<146097→s<86400→P n s=decide (s%60=0)
section
variable {P : Int → Nat → Bool}
theorem zka {Q:Nat→Prop} {c:Nat} (hc:c<18446744073709551616) (h:∀k,k<64→(Q k↔c.testBit k=true)):mOf Q=c:=by
 refine Nat.eq_of_testBit_eq fun k=>?_
 rw[waQ,zfS]
 by_cases hk:k<64
 ·rw[←h k hk];exact⟨fun g=>g.2,fun g=>⟨hk,g⟩⟩
 ·rw[waX (waD (show c<2^64 from hc) (Nat.pow_le_pow_right (by decide) (by omega)))]
  exact⟨fun g=>absurd g.1 hk,fun g=>by cases g⟩
theorem zln (h:zcP P) {n:Int} {s:Nat} (h0:0≤n) (h1:n<146097) (hs:s<86400) (hm:s%60=0):zde P n s:=⟨h0,h1,hs,by rw[h n s h0 h1 hs,waP hm]⟩
theorem zkb (h:zcP P) {n:Int} (h0:0≤n) (h1:n<146097):zbL P n:=⟨0,zln h h0 h1 dQ rfl⟩
theorem zvb (h:zcP P):zcF P=1152921504606846975:=zka dQ fun k hk=>by
 rw[show (1152921504606846975:Nat)=2^60 - 1 from rfl,Nat.testBit_two_pow_sub_one,waM]
 constructor
 ·rintro ⟨n,s,_,e⟩;omega
 ·intro g;exact⟨0,60 * k,zln h dQ dQ oQ oQ,by omega⟩
theorem ztY (h:zcP P):za5 P=16777215:=zka dQ fun k hk=>by
 rw[show (16777215:Nat)=2^24 - 1 from rfl,Nat.testBit_two_pow_sub_one,waM]
 constructor
 ·rintro ⟨n,s,g,e⟩;have:=g.2.2.1;omega
 ·intro g;exact⟨0,3600 * k,zln h dQ dQ oQ oQ,by omega⟩
theorem zs8 (h:zcP P):zaY P=8190:=zka dQ fun k hk=>by
 have hb:∀k,k<64→((8190:Nat).testBit k=decide (1≤k∧k≤12)):=by decide
 rw[hb k hk,waM];constructor
 ·rintro ⟨n,⟨s,g⟩,e⟩;have:=za4 g.1 g.2.1;omega
 ·intro g;have hd:∀k:Nat,k<13→1≤k→mD (30 * (k:Int) - 15)=(k:Int):=by decide+kernel
  exact⟨30 * (k:Int) - 15,zkb h oQ oQ,hd k oQ g.1⟩
theorem zs9 (h:zcP P):zbB P=4294967294:=zka dQ fun k hk=>by
 have hb:∀k,k<64→((4294967294:Nat).testBit k=decide (1≤k∧k≤31)):=by decide
 rw[hb k hk,waM];constructor
 ·rintro ⟨n,⟨s,g⟩,e⟩;have:=za4 g.1 g.2.1;omega
 ·intro g;have hd:∀k:Nat,k<32→1≤k→dD ((k:Int) - 1)=(k:Int):=by decide+kernel
  exact⟨(k:Int) - 1,zkb h oQ oQ,hd k oQ g.1⟩
theorem zvc (h:zcP P):wkF P=254:=zka dQ fun k hk=>by
 have hb:∀k,k<64→((254:Nat).testBit k=decide (1≤k∧k≤7)):=by decide
 rw[hb k hk,waM];constructor
 ·rintro ⟨n,⟨s,g⟩,e⟩;have:=zcm n;omega
 ·intro g;have hd:∀k:Nat,k<8→1≤k→∃n:Nat,n<7∧wdD (n:Int)=(k:Int):=by decide+kernel
  obtain⟨n,h7,e⟩:=hd k oQ g.1;exact⟨n,zkb h oQ oQ,e⟩
theorem ztZ (h:zcP P):zbh (zaY P) (zbB P) (wkF P)=true:=by
 rw[zs8 h,zs9 h,zvc h];decide+kernel
theorem zpK (h:zcP P) {r:Option (Nat→List It)} (hr:Rais P r):r=some (zbM P):=by
 have hp:ProdP P (fun _=>true) (fun _=>true) (fun _=>true) (fun _=>true) (fun _=>true):=⟨fun n s h0 h1 hs=>by rw[h n s h0 h1 hs];simp⟩
 have ha:zeX P:=⟨0,zkb h dQ dQ⟩;exact hr.det (.both ha (ztZ h) (znA hp ha (ztZ h)))
theorem zmq (h:zcP P):∀k,k<5→zbM P k=[⟨0,0,0,1⟩]:=by
 unfold zbM;rw[zs8 h,zs9 h,zvc h,zvb h,ztY h];decide+kernel
end
end Go.Proofs.YtgedndlifiihkaaGreatDoor
namespace Go.Proofs.YtgedndlifiihkaaGreatDoor
open Go.Proofs.Tryz
open Go.RowKit
open Go.Proofs.YtgedndlifiihkaaGreatDoor
theorem zt0 {n:Int} (h:-9223372036854775808≤n∧n≤9223372036854775807):(Lib.itoa n).length≤21:=Lib.itoa_length_le n h.1 h.2
def stT (s:Int):List UInt8:=if s=1 then [] else 47::Lib.itoa s
def zg7 (i:It):List UInt8:=if i.k=0 then 42::stT i.s else if i.k=1 then Lib.itoa i.f else if i.k=2 then Lib.itoa i.f++45::(Lib.itoa i.t++stT i.s) else []
def zdq (l:List It):List UInt8:=Lib.join (l.map zg7) [44]
def zkc (r:List (List It)):List UInt8:=Lib.join (r.map zdq) [32]
theorem zmr (l:List (List UInt8)) (sep:List UInt8) (n:Nat) (h:∀x∈l,x.length≤n):(Lib.join l sep).length≤l.length * (n+sep.length):=by
 cases l with
 |nil=>simp [Lib.join,List.intercalate]
 |cons a l=>
  rw[Lib.join_cons];have ha:=h a (by simp)
  have:(Lib.joinTail sep l).length≤l.length * (n+sep.length):=by
   have hl:∀x∈l,x.length≤n:=fun x hx=>h x (List.mem_cons_of_mem _ hx)
   clear h;unfold Lib.joinTail;induction l with
   |nil=>simp
   |cons b l ih=>
    have:=ih (fun x hx=>hl x (List.mem_cons_of_mem _ hx))
    have hb:=hl b (by simp)
    simp only[List.map_cons,List.flatten_cons,waF,waG,Nat.succ_mul];omega
  simp only[waF,waG,Nat.succ_mul];omega
def zed (l:Nat→List It):List (List It):=(List.range 5).map l
end Go.Proofs.YtgedndlifiihkaaGreatDoor
namespace Go.Proofs.YtgedndlifiihkaaGreatDoor
open Go.Proofs.Tryz
open Go.RowKit
abbrev strV (l:List UInt8):Value:=.string ⟨l.toArray⟩
theorem zfY (sep:ByteArray) (bk o c:Nat) (xs:List ByteArray) (w:World) (hcells:∀(j:Nat) x,xs[j]?=some x→w.cell? ⟨bk,o+j,none⟩=some (.string x)) (hbk:bk<w.heap.size) (hN:xs.length≤140737488355328) (hcap:xs.length≤c)
 (hlen:(Lib.join (xs.map (·.data.toList)) sep.data.toList).length≤140737488355328):
 Calls prog 64 #[.string sep,.slice (some ⟨bk,o,none⟩) xs.length c] w (Ret (strV (Lib.join (xs.map (·.data.toList)) sep.data.toList)) w):=by
 have H:=waV (Tryz.strings_Join bk o c xs sep w hcells hbk hN hcap hlen);clear hcells hlen;go_enter func64,ntmps64;go_wp2_with fail;refine H.out.mono ?_;rintro e w1 ⟨rfl,hb1⟩;go_wp2;go_ret;exact⟨rfl,hb1⟩
abbrev Pow (w:World):Prop:=Lib.TabIs prog w "internal/strconv.uint64pow10" .u64 Lib.pow10Tab
theorem zcQ {P:Program} {nm:String} {k:IntKind} {zs:List Int} {w w':World} (h:Lib.TabIs P w nm k zs) (hb:Below w.heap.size w w'):Lib.TabIs P w' nm k zs:=by
 unfold Lib.TabIs World.var? at *;cases hg:P.globalNamed nm with
 |none=>rw [hg] at h;cases h
 |some g=>
  rw[hg] at h;simp only[Option.bind_some] at h ⊢;cases hw:w.heap[g]? with
  |none=>rw [hw] at h;cases h
  |some o=>
   have hlt:g<w.heap.size:=(waL.1 hw).1;rw[hb.block g hlt];exact h
theorem zrQ (n:Int) (h:zoK n) (w:World) (hw:Pow w):Calls prog 167 #[.int .i64 n] w (Ret (strV (Lib.itoa n)) w):=by
 refine(Tryz.strconv_Itoa n h.1 h.2 w hw).mono ?_;rintro e w' ⟨rfl,k,os,rfl⟩;refine⟨rfl,⟨rfl,rfl,rfl,by simp[Go.Sort.grow,World.drewN],fun i hi=>?_⟩⟩
 have:i<(w.drewN k).heap.size:=hi;show((w.drewN k).heap++os)[i]?=_;rw[Array.getElem?_append_left this];rfl
theorem zpL {i:It} (h:i.wf):(zg7 i).length≤100:=by
 obtain⟨_,h1,h2,h3⟩:=h;have l1:=Lib.itoa_length_le i.f h1.1 h1.2;have l2:=Lib.itoa_length_le i.t h2.1 h2.2;have l3:=Lib.itoa_length_le i.s h3.1 h3.2;unfold zg7 stT;split
 ·split<;>simp<;>omega
 ·split
  ·omega
  ·split
   ·split<;>simp<;>omega
   ·simp
theorem zg8 {n:Int} (h:zoK n):(zcZ (Lib.itoa n)).size≤21:=by rw[zot];exact zt0 h
theorem zeY (sep a b:ByteArray) (bk:Nat) (w:World) (h0:w.cell? ⟨bk,0,none⟩=some (.string a)) (h1:w.cell? ⟨bk,1,none⟩=some (.string b)) (hs:sep.size≤1000) (ha:a.size≤1000) (hb:b.size≤1000):
 Calls prog 64 #[.string sep,.slice (some ⟨bk,0,none⟩) 2 2] w (Ret (.string (a++sep++b)) w):=by
 have e:Lib.join ([a,b].map (·.data.toList)) sep.data.toList=a.data.toList++sep.data.toList++b.data.toList:=by simp[Lib.join,List.intercalate]
 have hl:∀x:ByteArray,x.data.toList.length=x.size:=fun x=>Array.length_toList
 have h:=zfY sep bk 0 2 [a,b] w (fun j x hx=>by
  rcases j with _|_|j
  ·simp at hx;subst hx;exact h0
  ·simp at hx;subst hx;exact h1
  ·simp at hx) (waR w _ h0) (show 2≤140737488355328 by omega) (waJ 2) (by rw[e];simp only[waF,hl];omega)
 rw[e] at h;have e2:Ret (.string (a++sep++b)) w=Ret (strV (a.data.toList++sep.data.toList++b.data.toList)) w:=by
  have e3:a++sep++b=⟨(a.data.toList++sep.data.toList++b.data.toList).toArray⟩:=by apply ByteArray.ext;simp
  rw[e3]
 rw[e2];exact h
theorem zg9 (n:Int) (h:zoK n) (w:World) (hw:Pow w):Calls prog 167 #[.int .i64 n] w (Ret (.string (zcZ (Lib.itoa n))) w):=zrQ n h w hw
theorem zpM (i:It) (h:i.wf) (w:World) (hw:Pow w):Calls prog 109 #[.agg #[.int .i64 i.k,.int .i64 i.f,.int .i64 i.t,.int .i64 i.s]] w (Ret (.string (zcZ (zg7 i))) w):=by
 obtain⟨hk,hf,ht,hs⟩:=h;have HF:=waV (fun W (hb:Below w.heap.size w W)=>zg9 i.f hf W (zcQ hw hb))
 have HT:=waV (fun W (hb:Below w.heap.size w W)=>zg9 i.t ht W (zcQ hw hb))
 have HSt:=waV (fun W (hb:Below w.heap.size w W)=>zg9 i.s hs W (zcQ hw hb))
 have zf:=zg8 hf;have zt:=zg8 ht;have zs:=zg8 hs;clear hk hf ht hs hw;have df:=zdj (Lib.itoa i.f);have dt:=zdj (Lib.itoa i.t);have ds:=zdj (Lib.itoa i.s);obtain⟨Sf,hSf⟩:∃S,S=zcZ (Lib.itoa i.f):=⟨_,rfl⟩;obtain⟨St,hSt⟩:∃S,S=zcZ (Lib.itoa i.t):=⟨_,rfl⟩;obtain⟨Ss,hSs⟩:∃S,S=zcZ (Lib.itoa i.s):=⟨_,rfl⟩;rw[←hSf] at HF zf df;rw[←hSt] at HT zt dt;rw[←hSs] at HSt zs ds;have DF:=waV df;have DT:=waV dt;have DS:=waV ds;clear hSf hSt hSs df dt ds;have HE:Hid (∀S:ByteArray,S.data.toList=zg7 i→Ending.returned (.string S)=.returned (.string (zcZ (zg7 i)))):=fun S h=>ziv h
 unfold zg7 stT at HE;have hr1:(0:Int)<1:=by omega
 go_enter func109,ntmps109;go_wp2_with fail
 ·go_ret;exact⟨HE.out _ (by(simp only[beq_iff_eq,wbE,bne_iff_ne,bne_eq_false_iff_eq,ne_eq] at *);(repeat' split)<;>first|(exfalso;omega)|simp[zfM,DF.out,DT.out,DS.out]),by exact zaG⟩
 ·refine(HSt.out _ (by exact zaG)).mono ?_
  rintro e w1 ⟨rfl,hb1⟩;have hb2:Below w.heap.size w w1:=((waC _ w).alloc (waJ _) _).trans (hb1.mono (by simp))
  have hz2:=hb2.size;go_wp2_with fail;refine(zeY _ _ _ _ _ (zaa rfl rfl) (zaa rfl rfl) dQ dQ oQ).mono ?_;rintro e w2 ⟨rfl,hb3⟩;have hb4:Below w.heap.size w w2:=(hb2.alloc hz2 _).trans (hb3.mono (by simp;omega))
  go_wp2;go_ret;exact⟨HE.out _ (by(simp only[beq_iff_eq,wbE,bne_iff_ne,bne_eq_false_iff_eq,ne_eq] at *);(repeat' split)<;>first|(exfalso;omega)|simp[zfM,DF.out,DT.out,DS.out]),hb4⟩
 ·refine(HF.out _ (by exact zaG)).mono ?_
  rintro e w1 ⟨rfl,hb1⟩;have hb2:Below w.heap.size w w1:=((waC _ w).alloc (waJ _) _).trans (hb1.mono (by simp))
  go_wp2;go_ret;exact⟨HE.out _ (by(simp only[beq_iff_eq,wbE,bne_iff_ne,bne_eq_false_iff_eq,ne_eq] at *);(repeat' split)<;>first|(exfalso;omega)|simp[zfM,DF.out,DT.out,DS.out]),hb2⟩
 ·generalize hW:World.alloc w _=W1;have hb0:Below w.heap.size w W1:=by rw[←hW];exact(waC _ w).alloc (waJ _) _
  have hz0:=hb0.size;have c1:W1.cell? ⟨w.heap.size,1,none⟩=some (.int .i64 i.f):=by subst hW;simp[go_sem]
  have c2:W1.cell? ⟨w.heap.size,2,none⟩=some (.int .i64 i.t):=by subst hW;simp[go_sem]
  have c3:W1.cell? ⟨w.heap.size,3,none⟩=some (.int .i64 i.s):=by subst hW;simp[go_sem]
  have HW:Hid (∀w',Below W1.heap.size W1 w'→Below w.heap.size w w'):=fun w' h=>zai hb0 h hz0
  have HS:Hid (∀w',Below W1.heap.size W1 w'→Below W1.heap.size W1 w'∧w'.cell? ⟨w.heap.size,1,none⟩=some (.int .i64 i.f)∧w'.cell? ⟨w.heap.size,2,none⟩=some (.int .i64 i.t)):=fun w' h=>
   ⟨h,(⟨w',h⟩:Ext W1).cell c1,(⟨w',h⟩:Ext W1).cell c2⟩
  have HC3:Hid (∀w',Below W1.heap.size W1 w'→w'.cell? ⟨w.heap.size,3,none⟩=some (.int .i64 i.s)):=fun w' h=>(⟨w',h⟩:Ext W1).cell c3
  clear hW c1 c2 c3
  go_region_held3 (fun w'=>Below W1.heap.size W1 w'∧w'.cell? ⟨w.heap.size,1,none⟩=some (.int .i64 i.f)∧w'.cell? ⟨w.heap.size,2,none⟩=some (.int .i64 i.t))
   (first|(go_split_ands;refine HS.out _ (zai ?_ hb1 ?_);assumption;exact Below.size (by assumption))|(go_split_ands;refine HS.out _ (Below.alloc ?_ ?_ _);assumption;exact Below.size (by assumption))|(refine HS.out _ ?_;exact Below.drew (waC _ _))|(refine HS.out _ ?_;exact zaI (waC _ _) _))
   (first|(go_at_call 167;(with_reducible refine(HF.out _ ?_).mono ?_);(focus (go_split_ands;exact HW.out _ (by assumption)));rintro e w1 ⟨rfl,hb1⟩)|(go_at_call 167;(with_reducible refine(HT.out _ ?_).mono ?_);(focus (go_split_ands;exact HW.out _ (by assumption)));rintro e w1 ⟨rfl,hb1⟩)|(go_at_call 64;(refine(zeY _ _ _ _ _ (zaa rfl rfl) (zaa rfl rfl) (by decide) (by omega) (by omega)).mono ?_);rintro e w1 ⟨rfl,hb1⟩))
  have hbA:Below w.heap.size w w1:=HW.out _ (by go_split_ands;assumption)
  have c3:=HC3.out w1 (by go_split_ands;assumption)
  have hzA:=hbA.size;clear hb1;simp only[Exit.inBlock,Exit.then]
  go_wp2_with fail
  ·go_ret;exact⟨HE.out _ (by(simp only[beq_iff_eq,wbE,bne_iff_ne,bne_eq_false_iff_eq,ne_eq] at *);(repeat' split)<;>first|(exfalso;omega)|simp[zfM,DF.out,DT.out,DS.out]),hbA⟩
  ·refine(HSt.out _ hbA).mono ?_;rintro e w2 ⟨rfl,hb2⟩;have hbB:=zai hbA hb2 hzA;have hzB:=hbB.size;go_wp2_with fail;refine(zeY _ _ _ _ _ (zaa rfl rfl) (zaa rfl rfl) (by decide) (by rw[ByteArray.size_append,ByteArray.size_append];have:(⟨#[45]⟩:ByteArray).size=1:=rfl;omega) (by omega)).mono ?_
   rintro e w3 ⟨rfl,hb3⟩;have hb4:Below w.heap.size w w3:=(hbB.alloc hzB _).trans (hb3.mono (by simp;omega))
   go_wp2;go_ret;exact⟨HE.out _ (by(simp only[beq_iff_eq,wbE,bne_iff_ne,bne_eq_false_iff_eq,ne_eq] at *);(repeat' split)<;>first|(exfalso;omega)|simp[zfM,DF.out,DT.out,DS.out]),hb4⟩
 ·go_ret;exact⟨HE.out _ (by(simp only[beq_iff_eq,wbE,bne_iff_ne,bne_eq_false_iff_eq,ne_eq] at *);(repeat' split)<;>first|(exfalso;omega)|simp[zfM,DF.out,DT.out,DS.out]),by exact zaG⟩
theorem znC (y:Int) (h0:0≤y) (h1:y≤3000000000) (w:World):Calls prog 36 #[.int .i64 y] w (zbU (.bool (zcJ y)) w):=by
 generalize hq:zcJ y=q;have HQ:=waV hq;clear hq;go_enter func36,ntmps36;go_wp2
 all_goals go_ret
 all_goals (refine⟨zak ?_,rfl⟩;rw[←HQ.out];((try simp only[beq_iff_eq,wbE,bne_iff_ne,ne_eq,zcJ,waM,decide_eq_false_iff_not,waN,wbF,Bool.not_eq_true',Bool.not_eq_false',Bool.and_eq_false_iff,Bool.or_eq_false_iff] at *)
                                            rw[waQ]
                                            (try simp only[zcJ,waM,beq_iff_eq,bne_iff_ne,ne_eq,waN,wbF,Bool.not_eq_true',Bool.not_eq_false',wbE,decide_eq_false_iff_not,iff_true,true_iff,Bool.false_eq_true,false_iff,iff_false,reduceCtorEq])
                                            (first|done|omega)))
theorem zkd (y m:Int) (h0:0≤y) (h1:y≤3000000000) (hm1:1≤m) (hm2:m≤12) (w:World):Calls prog 13 #[.int .i64 y,.int .i64 m] w (zbU (.int .i64 (zbe y m)) w):=by
 by_cases hm:m=2
 ·subst hm;have HL:=waV (znC y h0 h1);cases hl:zcJ y with
  |true=>
   have HR:Hid (zbe y 2=29):=by show _=_;unfold zbe;rw[if_neg (by omega),if_pos ⟨rfl,hl⟩]
   rw[hl] at HL;clear hl;go_enter func13,ntmps13;go_wp2_with fail;refine(HL.out _).mono ?_;rintro e w1 ⟨rfl,rfl⟩;go_wp2;go_ret;exact⟨zaN HR.out.symm,rfl⟩
  |false=>
   have HR:Hid (zbe y 2=28):=by show _=_;rw[ziG (by omega) (by omega) (by rw[hl];simp)];rfl
   rw[hl] at HL;clear hl;go_enter func13,ntmps13;go_wp2_with fail;refine(HL.out _).mono ?_;rintro e w1 ⟨rfl,rfl⟩;go_wp2;go_ret;exact⟨zaN HR.out.symm,rfl⟩
 ·have HR:Hid (zbe y m=zre m):=ziG oQ oQ oQ;obtain rfl|rfl|rfl|rfl|rfl|rfl|rfl|rfl|rfl|rfl|rfl:m=1∨m=3∨m=4∨m=5∨m=6∨m=7∨m=8∨m=9∨m=10∨m=11∨m=12:=by omega
  all_goals
   clear hm1 hm2 hm;go_enter func13,ntmps13;go_wp2;go_ret;exact⟨zaN HR.out.symm,rfl⟩
theorem zpN {w:World} {b c o n:Nat} {v:Value} (h:w.there b 0 n) (hne:c≠b):(w.setCell ⟨c,o,none⟩ v).there b 0 n:=fun j hj=>by
 rw[waU _ _ _ _ (by intro e;injection e with e1;exact hne e1),waS]
 exact h j hj
theorem zdr (c:Cl):(clA c).all (·.oneCell')=true:=by kernel_rfl
def zgi:Cl:={m:=fun _=>0,or:=false,oi:=0,ob:=false,od:=fun _=>0,y:=fun _=>0,u:=0,s:=0,a:=0,f:=0,t:=0}
theorem zha:∀(l:List Value) (k:Nat) (Z:Array Value) (j:Nat),((l.zipIdx k).foldl (fun(a:Array Value) (x:Value×Nat)=>a.setIfInBounds x.2 x.1) Z)[j]?=if k≤j∧j<k+l.length then(if j<Z.size then l[j - k]? else none) else Z[j]?
 |[],k,Z,j=>by
  have h:¬(k≤j∧j<k+([]:List Value).length):=by simp only[List.length_nil];omega
  rw[if_neg h];rfl
 |v::l,k,Z,j=>by
  rw[List.zipIdx_cons,List.foldl_cons,zha l (k+1) _ j,Array.size_setIfInBounds]
  by_cases h1:k=j
  ·subst h1;have h2:¬(k+1≤k∧k<k+1+l.length):=by omega
   have h3:k≤k∧k<k+(v::l).length:=by simp only[waG];omega
   rw[if_neg h2,if_pos h3,Array.getElem?_setIfInBounds_self];simp
  ·by_cases h2:k+1≤j∧j<k+1+l.length
   ·have h3:k≤j∧j<k+(v::l).length:=by simp only[waG];omega
    rw[if_pos h2,if_pos h3];have e:j - k=(j - (k+1))+1:=by omega
    rw[e,List.getElem?_cons_succ]
   ·have h3:¬(k≤j∧j<k+(v::l).length):=by simp only[waG];omega
    rw[if_neg h2,if_neg h3,Array.getElem?_setIfInBounds_ne h1]
theorem zms (cs Z:Array Value) (m:Nat) (h:Z.size=m) (hm:cs.size=m):Array.foldl (fun(a:Array Value) (x:Value×Nat)=>a.setIfInBounds x.2 x.1) Z (cs.zipIdx 0) 0 m=cs:=by
 have e1:Array.foldl (fun(a:Array Value) (x:Value×Nat)=>a.setIfInBounds x.2 x.1) Z (cs.zipIdx 0) 0 m=(cs.toList.zipIdx 0).foldl (fun(a:Array Value) (x:Value×Nat)=>a.setIfInBounds x.2 x.1) Z:=by
  rw[←Array.toList_zipIdx,Array.foldl_toList];simp[hm]
 rw[e1];apply Array.ext_getElem?;intro j;rw[zha]
 by_cases hj:j<cs.size
 ·have h1:0≤j∧j<0+cs.toList.length:=by simp[hj]
  rw[if_pos h1,if_pos (by omega)]
  simp
 ·have h1:¬(0≤j∧j<0+cs.toList.length):=by simp;omega
  rw[if_neg h1,Array.getElem?_eq_none (by omega),Array.getElem?_eq_none (by omega)]
theorem zke (w:World) (c:Cl) (t:TypeId):zbx (w.alloc (.cells (clA c) t)) (some ⟨w.heap.size,0,none⟩) 1 [c]:=
 ⟨rfl,fun _=>⟨w.heap.size,0,rfl,by simp,fun i x hx j v hj=>by
  have hi:i<1:=(waI.1 hx).1;obtain rfl:i=0:=by omega
  cases hx;simp only[Nat.zero_mul,waH];exact zmi w (clA c) t j v (by unfold zg0 at hj;simpa using hj)⟩⟩
theorem zgj (l:List It) (lo hi:Int) (h:min hi 9999 - max 0 lo+1≤1000000000):(zao l lo hi).length≤1000000000:=by
 unfold zao;refine waW (List.length_filter_le _ _) ?_;rw[List.length_map,List.length_range];omega
def zrR (c:Cl) (w:World) (x:Ending) (w':World):Prop:=∃b,x=.returned (.tuple #[.slice (some ⟨b,0,none⟩) 1 1,.int .i64 0])∧zbx w' (some ⟨b,0,none⟩) 1 [c]∧Below w.heap.size w w'
end Go.Proofs.YtgedndlifiihkaaGreatDoor
