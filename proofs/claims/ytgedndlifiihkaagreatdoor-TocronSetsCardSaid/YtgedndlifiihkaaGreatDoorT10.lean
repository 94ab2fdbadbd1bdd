/- A part of the proof: RToc2 RToc3 RLives36 RText WShow4 WRfA WClM -/
import Derived.Test.YtgedndlifiihkaaGreatDoorT09
import Derived.Test.YtgedndlifiihkaaGreatDoorT00
import Derived.Lib.ItoaLen
import Derived.Lib.Join
import Derived.Test.YtgedndlifiihkaaGreatDoorT02
import Derived.Test.YtgedndlifiihkaaGreatDoorT03
import Derived.Test.YtgedndlifiihkaaGreatDoorT07
import Derived.Test.YtgedndlifiihkaaGreatDoorT08
set_option maxHeartbeats 80000000
set_option maxRecDepth 100000
set_option linter.unusedSimpArgs false
set_option linter.unusedVariables false
namespace Go.Proofs.YtgedndlifiihkaaGreatDoor
open Go.Proofs.Tryz
def wkB (x:Nat→List It) (w:Int):Bool:=inB (x 4) 0 7 w||(decide (w=7)&&inB (x 4) 0 7 0)
theorem zhc (x:Nat→List It) {n:Int} {s:Nat} (h0:0≤n) (h1:n<146097) (hs:s<86400):
 zlu x n s=(decide (s%60=0)&&(inB (x 0) 0 59 ((s / 60%60:Nat):Int)&&(inB (x 1) 0 23 ((s / 3600:Nat):Int)&&(inB (x 3) 1 12 (mD n)&&
  (if zcL (x 2)||zcL (x 4) then inB (x 2) 1 31 (dD n)&&wkB x (wdD n) else inB (x 2) 1 31 (dD n)||wkB x (wdD n)))))):=by
 have e1:(n * 86400+(s:Int))%86400=(s:Int):=by omega
 have e2:(n * 86400+(s:Int)) / 86400=n:=by omega
 have e3:inC (n * 86400+(s:Int))=true:=waP oQ;unfold zlu zgk wkB;rw[e1,e2,e3,Bool.true_and];have e4:decide ((s:Int)%60=0)=decide (s%60=0):=by rw[wbH];omega
 have e5:(s:Int) / 60%60=((s / 60%60:Nat):Int):=by omega
 have e6:(s:Int) / 3600=((s / 3600:Nat):Int):=by omega
 rw[e4,e5,e6]
theorem ze1 {Q:Nat→Prop} {k:Nat} (hk:k<64):(mOf Q).testBit k=true↔Q k:=by rw[zfY];simp[hk]
theorem zgC {P:Int→Nat→Bool} {m:Nat} (hm:m<64):(za5 P).testBit m=true↔∃n,zcs P n∧mD n=(m:Int):=ze1 hm
theorem zjb {P:Int→Nat→Bool} {m:Nat} (hm:m<64):(zbL P).testBit m=true↔∃n,zcs P n∧dD n=(m:Int):=ze1 hm
theorem zlv {P:Int→Nat→Bool} {m:Nat} (hm:m<64):(wkF P).testBit m=true↔∃n,zcs P n∧wdD n=(m:Int):=ze1 hm
theorem zgD {P:Int→Nat→Bool} {m:Nat} (hm:m<64):(zdq P).testBit m=true↔∃n s,zeP P n s∧s / 60%60=m:=ze1 hm
theorem zfw {P:Int→Nat→Bool} {m:Nat} (hm:m<64):(zbn P).testBit m=true↔∃n s,zeP P n s∧s / 3600=m:=ze1 hm
theorem zvS (y m:Int):zbw y m≤zbw 2000 m:=by
 unfold zbw;rw[show zeZ 2000=true by decide]
 by_cases c:m<1∨12<m
 ·rw[if_pos c,if_pos c];exact Int.le_refl _
 ·rw[if_neg c,if_neg c]
  by_cases h2:m=2
  ·subst h2;rw[if_pos (show(2:Int)=2∧true=true from⟨rfl,rfl⟩)]
   split<;>decide
  ·rw[if_neg (fun g=>h2 g.1),if_neg (fun g=>h2 g.1)];exact Int.le_refl _
theorem zdh {n:Int} (h:0≤n) (h1:n<146097):1≤mD n∧mD n≤12∧1≤dD n∧dD n≤zbw 2000 (mD n)∧dD n≤31:=by
 obtain⟨_,m1,m2,d1,d2⟩:=zc7 h h1;have hl:=zcD (y:=yD n) m1 m2;have:=zvS (yD n) (mD n);exact⟨m1,m2,d1,by omega,by omega⟩
theorem zmy (P:Int→Nat→Bool):BdM 0 59 (zdq P):=fun k hk hb=>by
 obtain⟨n,s,h,e⟩:=(zgD hk).1 hb;omega
theorem zjc (P:Int→Nat→Bool):BdM 0 23 (zbn P):=fun k hk hb=>by
 obtain⟨n,s,⟨_,_,h,_⟩,e⟩:=(zfw hk).1 hb;omega
theorem zhd (P:Int→Nat→Bool):BdM 1 12 (za5 P):=fun k hk hb=>by
 obtain⟨n,h,e⟩:=(zgC hk).1 hb;have:=zdh h.win.1 h.win.2;omega
theorem zkh (P:Int→Nat→Bool):BdM 1 31 (zbL P):=fun k hk hb=>by
 obtain⟨n,h,e⟩:=(zjb hk).1 hb;have:=zdh h.win.1 h.win.2;omega
theorem znT (P:Int→Nat→Bool):BdM 1 7 (wkF P):=fun k hk hb=>by
 obtain⟨n,h,e⟩:=(zlv hk).1 hb;have:=zcP n;omega
theorem zbj {m k:Nat} (h:m.testBit k=true):m≠0:=by
 rintro rfl;rw[Nat.zero_testBit] at h;cases h
theorem zpO {P:Int→Nat→Bool} (h:zhP P):zdq P≠0∧zbn P≠0∧za5 P≠0∧zbL P≠0∧wkF P≠0:=by
 obtain⟨n,s,hs⟩:=h;have hb:=zdh hs.1 hs.2.1;have hw:=zcP n;have hsl:=hs.2.2.1;refine⟨zbj (k:=s / 60%60) ((zgD oQ).2 ⟨n,s,hs,rfl⟩),zbj (k:=s / 3600) ((zfw oQ).2 ⟨n,s,hs,rfl⟩),zbj (k:=(mD n).toNat) ((zgC oQ).2 ⟨n,⟨s,hs⟩,by omega⟩),
  zbj (k:=(dD n).toNat) ((zjb oQ).2 ⟨n,⟨s,hs⟩,by omega⟩),zbj (k:=(wdD n).toNat) ((zlv oQ).2 ⟨n,⟨s,hs⟩,by omega⟩)⟩
def zfR (m:Nat) (x:Int):Bool:=m.testBit x.toNat
theorem zgl {lo hi m:Nat} (h:BdM lo hi m) (hle:lo≤hi) (h9:hi≤63) (S:Bool) {x:Int} (h0:0≤x) (h1:x<64):inB (zab (lo:Int) (hi:Int) (zaG m) S) (lo:Int) (hi:Int) x=zfR m x:=by
 obtain⟨k,rfl⟩:=wbD h0;rw[zvR h hle h9];unfold zfR;rw[Int.toNat_natCast];have:k<64:=by omega
 cases m.testBit k<;>simp [this]
theorem zdi {lo hi m j:Nat} (h:BdM lo hi m):BdM lo hi (zdr m j):=fun k hk hb=>by
 rw[zed m j k hk,waN] at hb;exact h k hk hb.2
theorem zhe {w:Nat} (h:BdM 1 7 w):BdM 0 6 (zcQ w):=fun k hk hb=>by
 rw[zda w k hk] at hb;split at hb
 ·omega
 ·rw[waN,waM] at hb;have:=h k hk hb.2;omega
theorem zus {lo hi hi' m:Nat} (h:BdM lo hi m) (hh:hi≤hi'):BdM lo hi' m:=fun k hk hb=>by
 have:=h k hk hb;omega
theorem zvT {w:Nat} (h:BdM 1 7 w) (hw:w<18446744073709551616) (h0:w≠0):zcQ w≠0:=by
 have:∃k,k<64∧w.testBit k=true:=by
  false_or_by_contra
  rename_i hn;refine h0 (Nat.eq_of_testBit_eq fun k=>?_)
  rw[Nat.zero_testBit,Bool.eq_false_iff];intro hb;refine hn ⟨k,?_,hb⟩
  false_or_by_contra
  have h64:w<2^k:=waD hw (Nat.pow_le_pow_right (n:=2) (i:=64) (j:=k) dQ oQ);rw[waX h64] at hb;cases hb
 obtain⟨k,hk,hb⟩:=this;have hk7:=h k hk hb
 by_cases e:k=7
 ·subst e;exact zbj (k:=0) (by rw[zda w 0 (by decide),if_pos rfl,hb,Bool.or_true])
 ·exact zbj (k:=k) (by rw[zda w k hk,if_neg (by omega),hb,waP e];rfl)
theorem zvU {x:Nat→List It} {w:Nat} (hw:BdM 1 7 w) (hx:∀y:Int,0≤y→y≤7→inB (x 4) 0 7 y=zfR (zcQ w) y) {y:Int} (h1:1≤y) (h7:y≤7):wkB x y=zfR w y:=by
 have h0:w.testBit 0=false:=by
  cases hb:w.testBit 0 with
  |false=>rfl
  |true=>have:=hw 0 dQ hb;omega
 unfold wkB;rw[hx y (by omega) h7,hx 0 (by decide) (by decide)]
 unfold zfR;obtain⟨k,rfl⟩:=wbD (show 0≤y by omega)
 rw[Int.toNat_natCast,zda w k (by omega),show(0:Int).toNat=0 from rfl,zda w 0 (by decide),if_pos rfl,if_neg (by omega),h0,Bool.false_or]
 by_cases e:k=7
 ·subst e;simp
 ·have e2:¬(k:Int)=7:=by omega
  simp[e,e2]
theorem zlw {w:Nat} (h:zee w=true):∀k,k<7→(zcQ w).testBit k=true:=fun k hk=>List.all_eq_true.1 h k (wbG.2 hk)
theorem zpP {mo d:Nat} (hd:BdM 1 12 mo) (h:ztC mo d=true):∀k:Nat,1≤k→(k:Int)≤zds mo→k≤31→d.testBit k=true:=fun k h1 h2 h3=>by
 have:=List.all_eq_true.1 h k (wbG.2 oQ);rw[waP (show 1≤k∧(k:Int)≤zds mo from⟨h1,h2⟩)] at this
 simpa using this
section
variable {P : Int → Nat → Bool}
theorem zr9 {n:Int} (h:∃n',zcs P n'∧mD n'=mD n) (h0:0≤n) (h1:n<146097):dD n≤zds (za5 P):=by
 obtain⟨n',hl,he⟩:=h;have hb:=zdh h0 h1;have hm:(mD n).toNat∈zar (za5 P):=zaW.2 ⟨by omega,(zgC oQ).2 ⟨n',hl,by omega⟩⟩
 have:=zr7 hm;rw[show (((mD n).toNat:Nat):Int)=mD n by omega] at this
 omega
theorem zsa (hn:zhP P) (hok:zbf (za5 P) (zbL P) (wkF P)=true) {n:Int} (h0:0≤n) (h1:n<146097) (hm:∃n',zcs P n'∧mD n'=mD n):inB (zbE (za5 P) (zbL P) (wkF P)) 1 31 (dD n)=zfR (zbL P) (dD n):=by
 have hb:=zdh h0 h1;have hd:=zkh P;unfold zbE;split
 ·rename_i ha;have hlong:=zr9 hm h0 h1;have hbit:=zpP (zhd P) ha (dD n).toNat oQ oQ oQ;rw[zja 1 31 1 [] (by decide) (by decide) (by decide) (by decide) (by decide)]
  unfold zfR;rw[hbit,waP (by omega)]
  rfl
 ·split
  ·exact zgl hd dQ dQ false oQ oQ
  ·split
   ·rename_i h1';rw[zja 1 31 31 _ (by decide) (by decide) (by decide) (by decide) (by decide),show inB (zab 1 31 (zaG (zdr (zbL P) 1)) false) 1 31 (dD n)=zfR (zdr (zbL P) 1) (dD n) from zgl (zdi hd) (by decide) (by decide) false (by omega) (by omega)]
    unfold zfR;rw[zed _ _ _ (by omega)]
    by_cases e:dD n=1
    ·rw[e,show(1:Int).toNat=1 from rfl,h1'];rfl
    ·rw[waO (show ¬(1≤dD n∧dD n≤31∧(dD n - 1)%31=0) by omega),waP (show(dD n).toNat≠1 by omega)];simp
   ·exact zgl hd dQ dQ false oQ oQ
theorem zpQ (hok:zbf (za5 P) (zbL P) (wkF P)=true) {y:Int} (y1:1≤y) (y7:y≤7):wkB (zb0 P) y=zfR (wkF P) y:=by
 have hw:=znT P;have hs:=zus (zhe hw) (show 6≤7 by decide)
 have hsum:∀z:Int,0≤z→z≤7→inB (zab 0 6 (zaG (zcQ (wkF P))) false) 0 7 z=zfR (zcQ (wkF P)) z:=fun z z0 z7=>by
  rw[zeB 0 6 0 7];exact zgl (lo:=0) (hi:=7) hs dQ dQ false z0 oQ
 have h4:zb0 P 4=zaY (za5 P) (zbL P) (wkF P):=rfl
 by_cases he:zee (wkF P)=true
 ·have hb:=zlw he;have hr:zfR (wkF P) y=true:=by
   unfold zfR
   by_cases e:y=7
   ·have h0:=hb 0 dQ;rw[zda _ 0 (by decide),if_pos rfl,wbF] at h0
    rcases h0 with h0|h0
    ·have:=hw 0 dQ h0;omega
    ·rw[e];exact h0
   ·have h0:=hb y.toNat oQ;rw[zda _ _ (by omega),if_neg (by omega),waN] at h0
    exact h0.2
  rw[hr];unfold wkB;rw[h4];unfold zaY;rw[if_pos he,zja 0 7 1 [] (by decide) (by decide) (by decide) (by decide) (by decide),waP (show 0≤y∧y≤7∧(y - 0)%1=0 by omega)]
  rfl
 ·refine zvU hw (fun z z0 z7=>?_) y1 y7
  rw[h4];unfold zaY;rw[if_neg he];split
  ·exact hsum z z0 z7
  ·rename_i ha;split
   ·exact hsum z z0 z7
   ·rename_i hd1;have h0:(zcQ (wkF P)).testBit 0=true:=by
     unfold zbf at hok;simp only[wbF] at hok;rcases hok with h|h|h|h
     ·exact absurd h ha
     ·exact absurd h he
     ·exact absurd h hd1
     ·exact h
    rw[zja 0 7 8 _ (by decide) (by decide) (by decide) (by decide) (by decide),zeB 0 6 0 7,show inB (zab 0 7 (zaG (zdr (zcQ (wkF P)) 0)) false) 0 7 z=zfR (zdr (zcQ (wkF P)) 0) z from zgl (lo:=0) (hi:=7) (zdi hs) (by decide) (by decide) false z0 (by omega)]
    unfold zfR;rw[zed _ _ _ (by omega)]
    by_cases e:z=0
    ·rw[e,show(0:Int).toNat=0 from rfl,h0];rfl
    ·rw[waO (show ¬(0≤z∧z≤7∧(z - 0)%8=0) by omega),waP (show z.toNat≠0 by omega)];simp
theorem zpR (hok:zbf (za5 P) (zbL P) (wkF P)=true):(zcL (zb0 P 2)||zcL (zb0 P 4))=true:=by
 show(zcL (zbE (za5 P) (zbL P) (wkF P))||zcL (zaY (za5 P) (zbL P) (wkF P)))=true
 unfold zbf at hok;unfold zbE zaY
 by_cases ha:ztC (za5 P) (zbL P)=true
 ·rw[if_pos ha];rfl
 ·by_cases he:zee (wkF P)=true
  ·rw[if_pos (c:=zee (wkF P)=true) he,if_pos (c:=zee (wkF P)=true) he,wbF];exact .inr rfl
  ·by_cases hd:(zbL P).testBit 1=true
   ·rw[if_neg ha,if_neg he,if_pos hd];rfl
   ·rw[wbF];refine .inr ?_;rw[if_neg he,if_neg ha,if_neg hd];rfl
theorem zsb (day week:List It) {n:Int} {s:Nat} (h0:0≤n) (h1:n<146097) (hs:s<86400):
 inB (zeV (zdq P) (zbn P) (za5 P) day week 0) 0 59 ((s / 60%60:Nat):Int)=(zdq P).testBit (s / 60%60)∧inB (zeV (zdq P) (zbn P) (za5 P) day week 1) 0 23 ((s / 3600:Nat):Int)=(zbn P).testBit (s / 3600)∧inB (zeV (zdq P) (zbn P) (za5 P) day week 3) 1 12 (mD n)=zfR (za5 P) (mD n):=by
 have hb:=zdh h0 h1;refine⟨?_,?_,?_⟩
 ·have:=zgl (lo:=0) (hi:=59) (zmy P) dQ dQ true (x:=((s / 60%60:Nat):Int)) oQ oQ;unfold zfR at this
  rwa [Int.toNat_natCast] at this
 ·have:=zgl (lo:=0) (hi:=23) (zjc P) dQ dQ true (x:=((s / 3600:Nat):Int)) oQ oQ;unfold zfR at this
  rwa [Int.toNat_natCast] at this
 ·exact zgl (lo:=1) (hi:=12) (zhd P) dQ dQ true oQ oQ
theorem zmz {n:Int} (h0:0≤n) (h1:n<146097):zfR (za5 P) (mD n)=true↔∃n',zcs P n'∧mD n'=mD n:=by
 have hb:=zdh h0 h1;unfold zfR;rw[zgC (by omega),show(((mD n).toNat:Nat):Int)=mD n by omega]
theorem zpS (hn:zhP P) (hok:zbf (za5 P) (zbL P) (wkF P)=true) {n:Int} {s:Nat} (h0:0≤n) (h1:n<146097) (hs:s<86400):
 zlu (zb0 P) n s=(decide (s%60=0)&&((zdq P).testBit (s / 60%60)&&((zbn P).testBit (s / 3600)&&(zfR (za5 P) (mD n)&&(zfR (zbL P) (dD n)&&zfR (wkF P) (wdD n)))))):=by
 rw[zhc _ h0 h1 hs,zpR hok,if_pos rfl];have hw:=zcP n;rw[zpQ hok hw.1 hw.2];obtain⟨e1,e2,e3⟩:=zsb (P:=P) (zbE (za5 P) (zbL P) (wkF P)) (zaY (za5 P) (zbL P) (wkF P)) h0 h1 hs;unfold zb0;rw[e1,e2,e3];cases hm:zfR (za5 P) (mD n) with
 |false=>simp
 |true=>
  have:=zsa hn hok h0 h1 ((zmz h0 h1).1 hm);rw[←this];rfl
theorem zlx (hn:zhP P) (day week:List It) (hd:zaM 2 day=0) (hw:zaM 4 week=0):chk (zeV (zdq P) (zbn P) (za5 P) day week)=(5,0):=by
 obtain⟨f1,f2,f3,f4,f5⟩:=zpO hn;refine ziI fun j hj=>?_
 obtain rfl|rfl|rfl|rfl|rfl:j=0∨j=1∨j=2∨j=3∨j=4:=by omega
 ·exact zcW (lo:=0) (hi:=59) dQ (zmy P) dQ dQ rfl rfl (zb2 _) f1 true
 ·exact zcW (lo:=0) (hi:=23) dQ (zjc P) dQ dQ rfl rfl (zb2 _) f2 true
 ·exact hd
 ·exact zcW (lo:=1) (hi:=12) dQ (zhd P) dQ dQ rfl rfl (zb2 _) f3 true
 ·exact hw
theorem zki {D:Nat} (hD:BdM 1 31 D) (hl:D<18446744073709551616) (h0:D≠0):zaM 2 (zab 1 31 (zaG D) false)=0:=
 zcW (lo:=1) (hi:=31) dQ hD dQ dQ rfl rfl hl h0 false
theorem zil {W:Nat} (hW:BdM 1 7 W) (hl:W<18446744073709551616) (h0:W≠0):zaM 4 (zab 0 6 (zaG (zcQ W)) false)=0:=by
 rw[zeB 0 6 0 7];exact zcW (lo:=0) (hi:=7) dQ (zus (zhe hW) dQ) dQ dQ rfl rfl (zf1 _) (zvT hW hl h0) false
theorem zaO {lo hi m:Nat} (h:BdM lo hi m) (hle:lo≤hi) (h9:hi≤62) (S:Bool):(zab (lo:Int) (hi:Int) (zaG m) S).length≤63:=by
 have h1:=(zjT (h.numb hle oQ) S).2;have h2:(zaG m).length≤63:=by
  unfold zaG;rw[List.length_map];have h63:m.testBit 63=false:=by
   cases hb:m.testBit 63 with
   |false=>rfl
   |true=>have:=h 63 dQ hb;omega
  unfold zar;rw[show (64:Nat)=63+1 from rfl,List.range_succ,List.filter_append]
  have e:([63].filter fun i=>m.testBit i)=[]:=by simp[h63]
  rw[e,List.append_nil];have:=List.length_filter_le (fun i=>m.testBit i) (List.range 63)
  rwa [List.length_range] at this
 omega
theorem zmA (hn:zhP P) (hok:zbf (za5 P) (zbL P) (wkF P)=true):chk (zb0 P)=(5,0):=by
 obtain⟨f1,f2,f3,f4,f5⟩:=zpO hn;have hd:=zkh P;have hw:=znT P;have hs7:=zus (zhe hw) (show 6≤7 by decide)
 refine zlx hn _ _ ?_ ?_
 ·unfold zbE;split
  ·exact zeC (k:=2) dQ dQ dQ dQ (fun i hi=>by cases hi)
  ·split
   ·exact zki hd (zb2 _) f4
   ·split
    ·refine zeC (k:=2) dQ dQ dQ (zaO (lo:=1) (hi:=31) (zdi hd) dQ dQ false) fun i hi=>?_
     exact zgT ((zdi hd).numb dQ dQ) false i hi
    ·exact zki hd (zb2 _) f4
 ·unfold zaY;split
  ·exact zeC (k:=4) dQ dQ dQ dQ (fun i hi=>by cases hi)
  ·split
   ·exact zil hw (zb2 _) f5
   ·split
    ·exact zil hw (zb2 _) f5
    ·rw[zeB 0 6 0 7];refine zeC (k:=4) dQ dQ dQ (zaO (lo:=0) (hi:=7) (zdi hs7) dQ dQ false) fun i hi=>?_
     exact zgT ((zdi hs7).numb dQ dQ) false i hi
structure ProdP (P:Int→Nat→Bool) (M D W:Int→Bool) (Mi Ho:Nat→Bool):Prop where
 eq:∀n s,0≤n→n<146097→s<86400→P n s=(decide (s%60=0)&&(Mi (s / 60%60)&&(Ho (s / 3600)&&(M (mD n)&&(D (dD n)&&W (wdD n))))))
theorem ProdP.live {M D W:Int→Bool} {Mi Ho:Nat→Bool} (h:ProdP P M D W Mi Ho) {n:Int} {s:Nat} (hl:zeP P n s):s%60=0∧Mi (s / 60%60)=true∧Ho (s / 3600)=true∧M (mD n)=true∧D (dD n)=true∧W (wdD n)=true:=by
 obtain⟨a,b,c,d⟩:=hl;rw[h.eq n s a b c] at d;simpa only[waN,waM] using d
theorem zut {n:Int} (h0:0≤n) (h1:n<146097):zfR (zbL P) (dD n)=true↔∃n',zcs P n'∧dD n'=dD n:=by
 have hb:=zdh h0 h1;unfold zfR;rw[zjb (by omega),show(((dD n).toNat:Nat):Int)=dD n by omega]
theorem zvV (n:Int):zfR (wkF P) (wdD n)=true↔∃n',zcs P n'∧wdD n'=wdD n:=by
 have hb:=zcP n;unfold zfR;rw[zlv (by omega),show(((wdD n).toNat:Nat):Int)=wdD n by omega]
theorem znU {M D W:Int→Bool} {Mi Ho:Nat→Bool} (h:ProdP P M D W Mi Ho) (hn:zhP P) (hok:zbf (za5 P) (zbL P) (wkF P)=true):zgs (zb0 P) P:=by
 refine⟨zmA hn hok,fun n s h0 h1 hs=>?_⟩
 rw[zpS hn hok h0 h1 hs,waQ];simp only[waN,waM,zmz h0 h1,zut h0 h1,zvV];constructor
 ·rintro ⟨e0,e1,e2,⟨n3,⟨s3,l3⟩,e3⟩,⟨n4,⟨s4,l4⟩,e4⟩,⟨n5,⟨s5,l5⟩,e5⟩⟩;obtain⟨n1,s1,l1,e1⟩:=(zgD oQ).1 e1;obtain⟨n2,s2,l2,e2⟩:=(zfw oQ).1 e2;have a1:=(h.live l1).2.1;have a2:=(h.live l2).2.2.1;have a3:=(h.live l3).2.2.2.1;have a4:=(h.live l4).2.2.2.2.1;have a5:=(h.live l5).2.2.2.2.2;rw[e1] at a1;rw[e2] at a2;rw[e3] at a3;rw[e4] at a4;rw[e5] at a5;rw[h.eq n s h0 h1 hs,a1,a2,a3,a4,a5,waP e0];rfl
 ·intro hp;have hl:zeP P n s:=⟨h0,h1,hs,hp⟩;exact⟨(h.live hl).1,(zgD oQ).2 ⟨n,s,hl,rfl⟩,(zfw oQ).2 ⟨n,s,hl,rfl⟩,⟨n,⟨s,hl⟩,rfl⟩,⟨n,⟨s,hl⟩,rfl⟩,⟨n,⟨s,hl⟩,rfl⟩⟩
end
section
variable {P : Int → Nat → Bool}
theorem zuu (P:Int→Nat→Bool):BdM 1 31 (zij P):=fun k hk hb=>by
 obtain⟨⟨n,h0,h1,_,e⟩,_⟩:=(ze1 hk).1 hb;have:=zdh h0 h1;omega
theorem zvW (P:Int→Nat→Bool):BdM 1 7 (wkW P):=fun k hk hb=>by
 obtain⟨h,_⟩:=(ze1 hk).1 hb;exact h
end
theorem znV {P:Int→Nat→Bool} (hn:¬zhP P):zgs zkg P:=by
 refine⟨by decide+kernel,fun n s h0 h1 hs=>?_⟩
 have hb:=zdh h0 h1;have hp:P n s=false:=by
  rw[Bool.eq_false_iff];exact fun h=>hn ⟨n,s,h0,h1,hs,h⟩
 rw[hp,zhc _ h0 h1 hs,show(zcL (zkg 2)||zcL (zkg 4))=true from rfl,if_pos rfl]
 have e1:inB (zkg 3) 1 12 (mD n)=decide (mD n=2):=by
  show([(⟨1,2,0,0⟩:It)].any (zfj 1 12 (mD n)))=_;rw[List.any_cons,List.any_nil,Bool.or_false];unfold zfj zrv;rw[show zbJ ⟨1,2,0,0⟩ 1 12=true from by decide+kernel,Bool.true_and,wbH]
  simp only[bF,bT,bS];simp;omega
 have e2:inB (zkg 2) 1 31 (dD n)=decide (dD n=30):=by
  show([(⟨1,30,0,0⟩:It)].any (zfj 1 31 (dD n)))=_;rw[List.any_cons,List.any_nil,Bool.or_false];unfold zfj zrv;rw[show zbJ ⟨1,30,0,0⟩ 1 31=true from by decide+kernel,Bool.true_and,wbH]
  simp only[bF,bT,bS];simp;omega
 rw[e1,e2]
 by_cases hm:mD n=2
 ·rw[hm] at hb;have h29:zbw 2000 2=29:=by decide
  rw[waO (show ¬dD n=30 by omega)]
  simp
 ·rw[waO hm];simp
def zcX (P:Int→Nat→Bool):Prop:=∀n s,0≤n→n<146097→s<86400→P n s=decide (s%60=0)
section
variable {P : Int → Nat → Bool}
theorem zkj {Q:Nat→Prop} {c:Nat} (hc:c<18446744073709551616) (h:∀k,k<64→(Q k↔c.testBit k=true)):mOf Q=c:=by
 refine Nat.eq_of_testBit_eq fun k=>?_
 rw[waQ,zfY]
 by_cases hk:k<64
 ·rw[←h k hk];exact⟨fun g=>g.2,fun g=>⟨hk,g⟩⟩
 ·rw[waX (waD (show c<2^64 from hc) (Nat.pow_le_pow_right (by decide) (by omega)))]
  exact⟨fun g=>absurd g.1 hk,fun g=>by cases g⟩
theorem zly (h:zcX P) {n:Int} {s:Nat} (h0:0≤n) (h1:n<146097) (hs:s<86400) (hm:s%60=0):zeP P n s:=⟨h0,h1,hs,by rw[h n s h0 h1 hs,waP hm]⟩
theorem zkk (h:zcX P) {n:Int} (h0:0≤n) (h1:n<146097):zcs P n:=⟨0,zly h h0 h1 dQ rfl⟩
theorem zvX (h:zcX P):zdq P=1152921504606846975:=zkj dQ fun k hk=>by
 rw[show (1152921504606846975:Nat)=2^60 - 1 from rfl,Nat.testBit_two_pow_sub_one,waM]
 constructor
 ·rintro ⟨n,s,_,e⟩;omega
 ·intro g;exact⟨0,60 * k,zly h dQ dQ oQ oQ,by omega⟩
theorem zuv (h:zcX P):zbn P=16777215:=zkj dQ fun k hk=>by
 rw[show (16777215:Nat)=2^24 - 1 from rfl,Nat.testBit_two_pow_sub_one,waM]
 constructor
 ·rintro ⟨n,s,g,e⟩;have:=g.2.2.1;omega
 ·intro g;exact⟨0,3600 * k,zly h dQ dQ oQ oQ,by omega⟩
theorem ztD (h:zcX P):za5 P=8190:=zkj dQ fun k hk=>by
 have hb:∀k,k<64→((8190:Nat).testBit k=decide (1≤k∧k≤12)):=by decide
 rw[hb k hk,waM];constructor
 ·rintro ⟨n,⟨s,g⟩,e⟩;have:=za2 g.1 g.2.1;omega
 ·intro g;have hd:∀k:Nat,k<13→1≤k→mD (30 * (k:Int) - 15)=(k:Int):=by decide+kernel
  exact⟨30 * (k:Int) - 15,zkk h oQ oQ,hd k oQ g.1⟩
theorem ztE (h:zcX P):zbL P=4294967294:=zkj dQ fun k hk=>by
 have hb:∀k,k<64→((4294967294:Nat).testBit k=decide (1≤k∧k≤31)):=by decide
 rw[hb k hk,waM];constructor
 ·rintro ⟨n,⟨s,g⟩,e⟩;have:=za2 g.1 g.2.1;omega
 ·intro g;have hd:∀k:Nat,k<32→1≤k→dD ((k:Int) - 1)=(k:Int):=by decide+kernel
  exact⟨(k:Int) - 1,zkk h oQ oQ,hd k oQ g.1⟩
theorem zvY (h:zcX P):wkF P=254:=zkj dQ fun k hk=>by
 have hb:∀k,k<64→((254:Nat).testBit k=decide (1≤k∧k≤7)):=by decide
 rw[hb k hk,waM];constructor
 ·rintro ⟨n,⟨s,g⟩,e⟩;have:=zcP n;omega
 ·intro g;have hd:∀k:Nat,k<8→1≤k→∃n:Nat,n<7∧wdD (n:Int)=(k:Int):=by decide+kernel
  obtain⟨n,h7,e⟩:=hd k oQ g.1;exact⟨n,zkk h oQ oQ,e⟩
theorem zuw (h:zcX P):zbf (za5 P) (zbL P) (wkF P)=true:=by
 rw[ztD h,ztE h,zvY h];decide+kernel
theorem zpT (h:zcX P) {r:Option (Nat→List It)} (hr:Rais P r):r=some (zb0 P):=by
 have hp:ProdP P (fun _=>true) (fun _=>true) (fun _=>true) (fun _=>true) (fun _=>true):=⟨fun n s h0 h1 hs=>by rw[h n s h0 h1 hs];simp⟩
 have ha:zhP P:=⟨0,zkk h dQ dQ⟩;exact hr.det (.both ha (zuw h) (znU hp ha (zuw h)))
theorem zmB (h:zcX P):∀k,k<5→zb0 P k=[⟨0,0,0,1⟩]:=by
 unfold zb0;rw[ztD h,ztE h,zvY h,zvX h,zuv h];decide+kernel
end
end Go.Proofs.YtgedndlifiihkaaGreatDoor
namespace Go.Proofs.YtgedndlifiihkaaGreatDoor
open Go.Proofs.Tryz
open Go.RowKit
open Go.Proofs.YtgedndlifiihkaaGreatDoor
theorem zux {n:Int} (h:-9223372036854775808≤n∧n≤9223372036854775807):(Lib.itoa n).length≤21:=Lib.itoa_length_le n h.1 h.2
def stT (s:Int):List UInt8:=if s=1 then [] else 47::Lib.itoa s
def zhf (i:It):List UInt8:=if i.k=0 then 42::stT i.s else if i.k=1 then Lib.itoa i.f else if i.k=2 then Lib.itoa i.f++45::(Lib.itoa i.t++stT i.s) else []
def zdt (l:List It):List UInt8:=Lib.join (l.map zhf) [44]
def zkl (r:List (List It)):List UInt8:=Lib.join (r.map zdt) [32]
theorem zmC (l:List (List UInt8)) (sep:List UInt8) (n:Nat) (h:∀x∈l,x.length≤n):(Lib.join l sep).length≤l.length * (n+sep.length):=by
 cases l with
 |nil=>simp [Lib.join,List.intercalate]
 |cons a l=>
  rw[Lib.join_cons];have ha:=h a (by simp)
  have:(Lib.joinTail sep l).length≤l.length * (n+sep.length):=by
   have hl:∀x∈l,x.length≤n:=fun x hx=>h x (List.mem_cons_of_mem _ hx)
   clear h;unfold Lib.joinTail;induction l with
   |nil=>simp
   |cons b l ih=>
    have:=ih (fun x hx=>hl x (List.mem_cons_of_mem _ hx))
    have hb:=hl b (by simp)
    simp only[List.map_cons,List.flatten_cons,waF,waG,Nat.succ_mul];omega
  simp only[waF,waG,Nat.succ_mul];omega
def zef (l:Nat→List It):List (List It):=(List.range 5).map l
end Go.Proofs.YtgedndlifiihkaaGreatDoor
namespace Go.Proofs.YtgedndlifiihkaaGreatDoor
open Go.Proofs.Tryz
open Go.RowKit
abbrev strV (l:List UInt8):Value:=.string ⟨l.toArray⟩
theorem zf2 (sep:ByteArray) (bk o c:Nat) (xs:List ByteArray) (w:World) (hcells:∀(j:Nat) x,xs[j]?=some x→w.cell? ⟨bk,o+j,none⟩=some (.string x)) (hbk:bk<w.heap.size) (hN:xs.length≤140737488355328) (hcap:xs.length≤c)
 (hlen:(Lib.join (xs.map (·.data.toList)) sep.data.toList).length≤140737488355328):
 Calls prog 64 #[.string sep,.slice (some ⟨bk,o,none⟩) xs.length c] w (Ret (strV (Lib.join (xs.map (·.data.toList)) sep.data.toList)) w):=by
 have H:=waV (Tryz.strings_Join bk o c xs sep w hcells hbk hN hcap hlen);clear hcells hlen;go_enter func64,ntmps64;go_wp2_with fail;refine H.out.mono ?_;rintro e w1 ⟨rfl,hb1⟩;go_wp2;go_ret;exact⟨rfl,hb1⟩
abbrev Pow (w:World):Prop:=Lib.TabIs prog w "internal/strconv.uint64pow10" .u64 Lib.pow10Tab
theorem zcY {P:Program} {nm:String} {k:IntKind} {zs:List Int} {w w':World} (h:Lib.TabIs P w nm k zs) (hb:Below w.heap.size w w'):Lib.TabIs P w' nm k zs:=by
 unfold Lib.TabIs World.var? at *;cases hg:P.globalNamed nm with
 |none=>rw [hg] at h;cases h
 |some g=>
  rw[hg] at h;simp only[Option.bind_some] at h ⊢;cases hw:w.heap[g]? with
  |none=>rw [hw] at h;cases h
  |some o=>
   have hlt:g<w.heap.size:=(waL.1 hw).1;rw[hb.block g hlt];exact h
theorem zsc (n:Int) (h:zrt n) (w:World) (hw:Pow w):Calls prog 167 #[.int .i64 n] w (Ret (strV (Lib.itoa n)) w):=by
 refine(Tryz.strconv_Itoa n h.1 h.2 w hw).mono ?_;rintro e w' ⟨rfl,k,os,rfl⟩;refine⟨rfl,⟨rfl,rfl,rfl,by simp[Go.Sort.grow,World.drewN],fun i hi=>?_⟩⟩
 have:i<(w.drewN k).heap.size:=hi;show((w.drewN k).heap++os)[i]?=_;rw[Array.getElem?_append_left this];rfl
theorem zpU {i:It} (h:i.wf):(zhf i).length≤100:=by
 obtain⟨_,h1,h2,h3⟩:=h;have l1:=Lib.itoa_length_le i.f h1.1 h1.2;have l2:=Lib.itoa_length_le i.t h2.1 h2.2;have l3:=Lib.itoa_length_le i.s h3.1 h3.2;unfold zhf stT;split
 ·split<;>simp<;>omega
 ·split
  ·omega
  ·split
   ·split<;>simp<;>omega
   ·simp
theorem zhg {n:Int} (h:zrt n):(zc5 (Lib.itoa n)).size≤21:=by rw[zoL];exact zux h
theorem ze2 (sep a b:ByteArray) (bk:Nat) (w:World) (h0:w.cell? ⟨bk,0,none⟩=some (.string a)) (h1:w.cell? ⟨bk,1,none⟩=some (.string b)) (hs:sep.size≤1000) (ha:a.size≤1000) (hb:b.size≤1000):
 Calls prog 64 #[.string sep,.slice (some ⟨bk,0,none⟩) 2 2] w (Ret (.string (a++sep++b)) w):=by
 have e:Lib.join ([a,b].map (·.data.toList)) sep.data.toList=a.data.toList++sep.data.toList++b.data.toList:=by simp[Lib.join,List.intercalate]
 have hl:∀x:ByteArray,x.data.toList.length=x.size:=fun x=>Array.length_toList
 have h:=zf2 sep bk 0 2 [a,b] w (fun j x hx=>by
  rcases j with _|_|j
  ·simp at hx;subst hx;exact h0
  ·simp at hx;subst hx;exact h1
  ·simp at hx) (waR w _ h0) (show 2≤140737488355328 by omega) (waJ 2) (by rw[e];simp only[waF,hl];omega)
 rw[e] at h;have e2:Ret (.string (a++sep++b)) w=Ret (strV (a.data.toList++sep.data.toList++b.data.toList)) w:=by
  have e3:a++sep++b=⟨(a.data.toList++sep.data.toList++b.data.toList).toArray⟩:=by apply ByteArray.ext;simp
  rw[e3]
 rw[e2];exact h
theorem zhh (n:Int) (h:zrt n) (w:World) (hw:Pow w):Calls prog 167 #[.int .i64 n] w (Ret (.string (zc5 (Lib.itoa n))) w):=zsc n h w hw
theorem zpV (i:It) (h:i.wf) (w:World) (hw:Pow w):Calls prog 109 #[.agg #[.int .i64 i.k,.int .i64 i.f,.int .i64 i.t,.int .i64 i.s]] w (Ret (.string (zc5 (zhf i))) w):=by
 obtain⟨hk,hf,ht,hs⟩:=h;have HF:=waV (fun W (hb:Below w.heap.size w W)=>zhh i.f hf W (zcY hw hb))
 have HT:=waV (fun W (hb:Below w.heap.size w W)=>zhh i.t ht W (zcY hw hb))
 have HSt:=waV (fun W (hb:Below w.heap.size w W)=>zhh i.s hs W (zcY hw hb))
 have zf:=zhg hf;have zt:=zhg ht;have zs:=zhg hs;clear hk hf ht hs hw;have df:=zdm (Lib.itoa i.f);have dt:=zdm (Lib.itoa i.t);have ds:=zdm (Lib.itoa i.s);obtain⟨Sf,hSf⟩:∃S,S=zc5 (Lib.itoa i.f):=⟨_,rfl⟩;obtain⟨St,hSt⟩:∃S,S=zc5 (Lib.itoa i.t):=⟨_,rfl⟩;obtain⟨Ss,hSs⟩:∃S,S=zc5 (Lib.itoa i.s):=⟨_,rfl⟩;rw[←hSf] at HF zf df;rw[←hSt] at HT zt dt;rw[←hSs] at HSt zs ds;have DF:=waV df;have DT:=waV dt;have DS:=waV ds;clear hSf hSt hSs df dt ds;have HE:Hid (∀S:ByteArray,S.data.toList=zhf i→Ending.returned (.string S)=.returned (.string (zc5 (zhf i)))):=fun S h=>ziK h
 unfold zhf stT at HE;have hr1:(0:Int)<1:=by omega
 go_enter func109,ntmps109;go_wp2_with fail
 ·go_ret;exact⟨HE.out _ (by(simp only[beq_iff_eq,wbE,bne_iff_ne,bne_eq_false_iff_eq,ne_eq] at *);(repeat' split)<;>first|(exfalso;omega)|simp[zfS,DF.out,DT.out,DS.out]),by exact zaI⟩
 ·refine(HSt.out _ (by exact zaI)).mono ?_
  rintro e w1 ⟨rfl,hb1⟩;have hb2:Below w.heap.size w w1:=((waC _ w).alloc (waJ _) _).trans (hb1.mono (by simp))
  have hz2:=hb2.size;go_wp2_with fail;refine(ze2 _ _ _ _ _ (zaa rfl rfl) (zaa rfl rfl) dQ dQ oQ).mono ?_;rintro e w2 ⟨rfl,hb3⟩;have hb4:Below w.heap.size w w2:=(hb2.alloc hz2 _).trans (hb3.mono (by simp;omega))
  go_wp2;go_ret;exact⟨HE.out _ (by(simp only[beq_iff_eq,wbE,bne_iff_ne,bne_eq_false_iff_eq,ne_eq] at *);(repeat' split)<;>first|(exfalso;omega)|simp[zfS,DF.out,DT.out,DS.out]),hb4⟩
 ·refine(HF.out _ (by exact zaI)).mono ?_
  rintro e w1 ⟨rfl,hb1⟩;have hb2:Below w.heap.size w w1:=((waC _ w).alloc (waJ _) _).trans (hb1.mono (by simp))
  go_wp2;go_ret;exact⟨HE.out _ (by(simp only[beq_iff_eq,wbE,bne_iff_ne,bne_eq_false_iff_eq,ne_eq] at *);(repeat' split)<;>first|(exfalso;omega)|simp[zfS,DF.out,DT.out,DS.out]),hb2⟩
 ·generalize hW:World.alloc w _=W1;have hb0:Below w.heap.size w W1:=by rw[←hW];exact(waC _ w).alloc (waJ _) _
  have hz0:=hb0.size;have c1:W1.cell? ⟨w.heap.size,1,none⟩=some (.int .i64 i.f):=by subst hW;simp[go_sem]
  have c2:W1.cell? ⟨w.heap.size,2,none⟩=some (.int .i64 i.t):=by subst hW;simp[go_sem]
  have c3:W1.cell? ⟨w.heap.size,3,none⟩=some (.int .i64 i.s):=by subst hW;simp[go_sem]
  have HW:Hid (∀w',Below W1.heap.size W1 w'→Below w.heap.size w w'):=fun w' h=>zak hb0 h hz0
  have HS:Hid (∀w',Below W1.heap.size W1 w'→Below W1.heap.size W1 w'∧w'.cell? ⟨w.heap.size,1,none⟩=some (.int .i64 i.f)∧w'.cell? ⟨w.heap.size,2,none⟩=some (.int .i64 i.t)):=fun w' h=>
   ⟨h,(⟨w',h⟩:Ext W1).cell c1,(⟨w',h⟩:Ext W1).cell c2⟩
  have HC3:Hid (∀w',Below W1.heap.size W1 w'→w'.cell? ⟨w.heap.size,3,none⟩=some (.int .i64 i.s)):=fun w' h=>(⟨w',h⟩:Ext W1).cell c3
  clear hW c1 c2 c3
  go_region_held3 (fun w'=>Below W1.heap.size W1 w'∧w'.cell? ⟨w.heap.size,1,none⟩=some (.int .i64 i.f)∧w'.cell? ⟨w.heap.size,2,none⟩=some (.int .i64 i.t))
   (first|(go_split_ands;refine HS.out _ (zak ?_ hb1 ?_);assumption;exact Below.size (by assumption))|(go_split_ands;refine HS.out _ (Below.alloc ?_ ?_ _);assumption;exact Below.size (by assumption))|(refine HS.out _ ?_;exact Below.drew (waC _ _))|(refine HS.out _ ?_;exact zax (waC _ _) _))
   (first|(go_at_call 167;(with_reducible refine(HF.out _ ?_).mono ?_);(focus (go_split_ands;exact HW.out _ (by assumption)));rintro e w1 ⟨rfl,hb1⟩)|(go_at_call 167;(with_reducible refine(HT.out _ ?_).mono ?_);(focus (go_split_ands;exact HW.out _ (by assumption)));rintro e w1 ⟨rfl,hb1⟩)|(go_at_call 64;(refine(ze2 _ _ _ _ _ (zaa rfl rfl) (zaa rfl rfl) (by decide) (by omega) (by omega)).mono ?_);rintro e w1 ⟨rfl,hb1⟩))
  have hbA:Below w.heap.size w w1:=HW.out _ (by go_split_ands;assumption)
  have c3:=HC3.out w1 (by go_split_ands;assumption)
  have hzA:=hbA.size;clear hb1;simp only[Exit.inBlock,Exit.then]
  go_wp2_with fail
  ·go_ret;exact⟨HE.out _ (by(simp only[beq_iff_eq,wbE,bne_iff_ne,bne_eq_false_iff_eq,ne_eq] at *);(repeat' split)<;>first|(exfalso;omega)|simp[zfS,DF.out,DT.out,DS.out]),hbA⟩
  ·refine(HSt.out _ hbA).mono ?_;rintro e w2 ⟨rfl,hb2⟩;have hbB:=zak hbA hb2 hzA;have hzB:=hbB.size;go_wp2_with fail;refine(ze2 _ _ _ _ _ (zaa rfl rfl) (zaa rfl rfl) (by decide) (by rw[ByteArray.size_append,ByteArray.size_append];have:(⟨#[45]⟩:ByteArray).size=1:=rfl;omega) (by omega)).mono ?_
   rintro e w3 ⟨rfl,hb3⟩;have hb4:Below w.heap.size w w3:=(hbB.alloc hzB _).trans (hb3.mono (by simp;omega))
   go_wp2;go_ret;exact⟨HE.out _ (by(simp only[beq_iff_eq,wbE,bne_iff_ne,bne_eq_false_iff_eq,ne_eq] at *);(repeat' split)<;>first|(exfalso;omega)|simp[zfS,DF.out,DT.out,DS.out]),hb4⟩
 ·go_ret;exact⟨HE.out _ (by(simp only[beq_iff_eq,wbE,bne_iff_ne,bne_eq_false_iff_eq,ne_eq] at *);(repeat' split)<;>first|(exfalso;omega)|simp[zfS,DF.out,DT.out,DS.out]),by exact zaI⟩
theorem zsd (t:Int) (w:World):Calls prog 98 #[.int .i64 t] w (zbO (.bool (inC t)) w):=by
 generalize hq:inC t=q;have HQ:=waV hq;clear hq;go_enter func98,ntmps98;go_wp2
 all_goals go_ret
 all_goals (refine⟨zaf ?_,rfl⟩;rw[←HQ.out];((try simp only[beq_iff_eq,wbE,bne_iff_ne,ne_eq,inC,waM,decide_eq_false_iff_not,waN,wbF,Bool.not_eq_true',Bool.not_eq_false',Bool.and_eq_false_iff,Bool.or_eq_false_iff] at *)
                                            rw[waQ]
                                            (try simp only[inC,waM,beq_iff_eq,bne_iff_ne,ne_eq,waN,wbF,Bool.not_eq_true',Bool.not_eq_false',wbE,decide_eq_false_iff_not,iff_true,true_iff,Bool.false_eq_true,false_iff,iff_false,reduceCtorEq])
                                            (first|done|omega)))
theorem zpW {w:World} {b c o n:Nat} {v:Value} (h:w.there b 0 n) (hne:c≠b):(w.setCell ⟨c,o,none⟩ v).there b 0 n:=fun j hj=>by
 rw[waU _ _ _ _ (by intro e;injection e with e1;exact hne e1),waS]
 exact h j hj
theorem zdu (c:Cl):(clA c).all (·.oneCell')=true:=by kernel_rfl
def zgm:Cl:={m:=fun _=>0,or:=false,oi:=0,ob:=false,od:=fun _=>0,y:=fun _=>0,u:=0,s:=0,a:=0,f:=0,t:=0}
theorem zhi:∀(l:List Value) (k:Nat) (Z:Array Value) (j:Nat),((l.zipIdx k).foldl (fun(a:Array Value) (x:Value×Nat)=>a.setIfInBounds x.2 x.1) Z)[j]?=if k≤j∧j<k+l.length then(if j<Z.size then l[j - k]? else none) else Z[j]?
 |[],k,Z,j=>by
  have h:¬(k≤j∧j<k+([]:List Value).length):=by simp only[List.length_nil];omega
  rw[if_neg h];rfl
 |v::l,k,Z,j=>by
  rw[List.zipIdx_cons,List.foldl_cons,zhi l (k+1) _ j,Array.size_setIfInBounds]
  by_cases h1:k=j
  ·subst h1;have h2:¬(k+1≤k∧k<k+1+l.length):=by omega
   have h3:k≤k∧k<k+(v::l).length:=by simp only[waG];omega
   rw[if_neg h2,if_pos h3,Array.getElem?_setIfInBounds_self];simp
  ·by_cases h2:k+1≤j∧j<k+1+l.length
   ·have h3:k≤j∧j<k+(v::l).length:=by simp only[waG];omega
    rw[if_pos h2,if_pos h3];have e:j - k=(j - (k+1))+1:=by omega
    rw[e,List.getElem?_cons_succ]
   ·have h3:¬(k≤j∧j<k+(v::l).length):=by simp only[waG];omega
    rw[if_neg h2,if_neg h3,Array.getElem?_setIfInBounds_ne h1]
theorem zmD (cs Z:Array Value) (m:Nat) (h:Z.size=m) (hm:cs.size=m):Array.foldl (fun(a:Array Value) (x:Value×Nat)=>a.setIfInBounds x.2 x.1) Z (cs.zipIdx 0) 0 m=cs:=by
 have e1:Array.foldl (fun(a:Array Value) (x:Value×Nat)=>a.setIfInBounds x.2 x.1) Z (cs.zipIdx 0) 0 m=(cs.toList.zipIdx 0).foldl (fun(a:Array Value) (x:Value×Nat)=>a.setIfInBounds x.2 x.1) Z:=by
  rw[←Array.toList_zipIdx,Array.foldl_toList];simp[hm]
 rw[e1];apply Array.ext_getElem?;intro j;rw[zhi]
 by_cases hj:j<cs.size
 ·have h1:0≤j∧j<0+cs.toList.length:=by simp[hj]
  rw[if_pos h1,if_pos (by omega)]
  simp
 ·have h1:¬(0≤j∧j<0+cs.toList.length):=by simp;omega
  rw[if_neg h1,Array.getElem?_eq_none (by omega),Array.getElem?_eq_none (by omega)]
theorem zkm (w:World) (c:Cl) (t:TypeId):zbd (w.alloc (.cells (clA c) t)) (some ⟨w.heap.size,0,none⟩) 1 [c]:=
 ⟨rfl,fun _=>⟨w.heap.size,0,rfl,by simp,fun i x hx j v hj=>by
  have hi:i<1:=(waI.1 hx).1;obtain rfl:i=0:=by omega
  cases hx;simp only[Nat.zero_mul,waH];exact zmu w (clA c) t j v (by unfold zdp at hj;simpa using hj)⟩⟩
def zmE (c:Cl) (w:World) (x:Ending) (w':World):Prop:=∃b,x=.returned (.tuple #[.slice (some ⟨b,0,none⟩) 1 1,.int .i64 0])∧zbd w' (some ⟨b,0,none⟩) 1 [c]∧Below w.heap.size w w'
end Go.Proofs.YtgedndlifiihkaaGreatDoor
