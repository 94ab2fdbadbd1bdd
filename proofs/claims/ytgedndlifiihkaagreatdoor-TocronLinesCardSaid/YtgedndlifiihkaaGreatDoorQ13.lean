/- A part of the proof: RBack RLives WCronread9 LCread LClow4 WSpn WSpn2 WSpn3 WSpn4 WPhs -/
import Derived.Test.YtgedndlifiihkaaGreatDoorQ05
import Derived.Test.YtgedndlifiihkaaGreatDoorQ11
import Derived.Test.YtgedndlifiihkaaGreatDoorQ12
import Derived.Test.YtgedndlifiihkaaGreatDoorQ10
import Derived.Test.YtgedndlifiihkaaGreatDoorQ09
import Derived.Test.YtgedndlifiihkaaGreatDoorQ06
import Derived.Test.YtgedndlifiihkaaGreatDoorQ07
set_option maxHeartbeats 80000000
set_option maxRecDepth 100000
set_option linter.unusedSimpArgs false
set_option linter.unusedVariables false
namespace Go.Proofs.YtgedndlifiihkaaGreatDoor
open Go.Proofs.Tryz
open Go.RowKit
theorem zhc {f:Nat} {is:List It} (h:zaI f is=0):is≠[]∧is.length≤64∧∀i∈is,i.k≠3∧zuv i (cLo f) (cHi f):=by
 unfold zaI at h;split at h
 ·cases h
 ·split at h
  ·cases h
  ·split at h
   ·cases h
   ·rename_i h1 h2 h3;refine⟨by rintro rfl;exact h1 rfl,by omega,fun i hi=>?_⟩
    rw[Bool.not_eq_true,List.any_eq_false] at h3;have:=h3 i hi;simp only[wbF,Bool.not_eq_true',beq_iff_eq,not_or,Bool.not_eq_false] at this;exact⟨this.1,waA this.2⟩
theorem zeb (l:Nat→List It) (t:Int):zrv [zaL l] t=zgi l t:=by
 unfold zrv zeW;simp[zgz,zrH]
theorem znC {F G:Nat→List It} (h:∀k,k<5→F k=G k) (t:Int):zgi F t=zgi G t:=by
 unfold zgi;rw[h 0 (by decide),h 1 (by decide),h 2 (by decide),h 3 (by decide),h 4 (by decide)]
theorem zmq (l:Nat→List It):chk l=(5,0)∧(∀k,k<5→zaI k (l k)=0)∨(chk l).2≠0:=by
 by_cases h:∀k,k<5→zaI k (l k)=0
 ·exact .inl ⟨ziy h,h⟩
 ·right;have h0:zaI 0 (l 0)≠0∨zaI 1 (l 1)≠0∨zaI 2 (l 2)≠0∨zaI 3 (l 3)≠0∨zaI 4 (l 4)≠0:=by
   refine Classical.byContradiction fun hh=>h fun k hk=>?_
   simp only[not_or,Decidable.not_not] at hh;obtain⟨a0,a1,a2,a3,a4⟩:=hh;obtain rfl|rfl|rfl|rfl|rfl:k=0∨k=1∨k=2∨k=3∨k=4:=by omega
   all_goals assumption
  unfold chk zlV zlV zlV zlV zlV zlV;simp only[Nat.sub_self,Nat.reduceSub];split
  ·split
   ·split
    ·split
     ·split
      ·simp_all
      ·assumption
     ·assumption
    ·assumption
   ·assumption
  ·assumption
theorem zki (w:World):Calls prog 225 #[] w (Ret (.agg #[.int .i64 0,.int .i64 (-1)]) w):=by
 go_enter func225,ntmps225;go_wp2
 (try simp only[Exit.inBlock,Exit.then])
 refine waY (v:=.agg #[.int .i64 0,.int .i64 (-1)]) ?_ rfl ⟨rfl,by exact zaH⟩
 rw[zag rfl]
 go_simp
theorem zlm (a b:Int) (ha:-1000000000000000≤a) (ha1:a≤1000000000000000) (hb:1≤b) (hb1:b≤9223372036854775807) (w:World):Calls prog 185 #[.int .i64 a,.int .i64 b] w (zb0 (.int .i64 (a%b)) w):=by
 have hq:¬b<1:=by omega
 have hb0:(b==0)=false:=by simp;omega
 have hd:a.tmod b=if a.tmod b<0 then a%b - b else a%b:=by
  have h0:=Int.emod_nonneg a (b:=b) oQ;have h2:=Int.emod_lt_of_pos a (b:=b) oQ
  by_cases h:0≤a
  ·rw[Int.tmod_eq_emod_of_nonneg h,if_neg (by omega)]
  ·have e:=Int.tmod_eq_emod (a:=a) (b:=b)
   by_cases hd:0≤a∨b ∣ a
   ·rw[if_pos hd] at e;rw[if_neg (by omega)];omega
   ·rw[if_neg hd] at e;have hna:((b.natAbs:Nat):Int)=b:=by omega
    rw[if_pos (by omega)];omega
 have g0:=Int.emod_nonneg a (b:=b) oQ;have g1:=Int.emod_lt_of_pos a (b:=b) oQ
 by_cases hn:a.tmod b<0
 ·rw[if_pos hn] at hd;generalize a%b=r at *;have e:r=a.tmod b+b:=by omega
  have hl:-1000000000000000≤a.tmod b:=by
   have h1:=Int.natAbs_tmod a b;have h2:=Nat.mod_le a.natAbs b.natAbs;omega
  have hu:a.tmod b+b≤9223372036854775807:=by omega
  rw[e];clear hd e g0 g1;have hne1:(b==-1)=false:=by rw[wbE];omega
  go_enter func185,ntmps185;go_wp2;go_ret;exact⟨rfl,rfl⟩
 ·rw[if_neg hn] at hd;rw[←hd] at g0 g1 ⊢;clear hd;have hne1:(b==-1)=false:=by rw[wbE];omega
  go_enter func185,ntmps185;go_wp2;go_ret;exact⟨rfl,rfl⟩
theorem zmr (d s:Int) (h0:0≤s) (h1:s<86400) (w:World):Calls prog 223 #[.int .i64 d,.int .i64 s] w (zb0 (.tuple #[.int .i64 (if 0≤d∧d<146097 then d * 86400+s else 0),.bool (decide (0≤d∧d<146097))]) w):=by
 have h2:¬s<0:=by omega
 have h3:¬86400≤s:=by omega
 by_cases hd0:d<0
 ·rw[if_neg (by omega),waO (by omega)]
  go_enter func223,ntmps223;go_wp2
  (try simp only[Exit.inBlock,Exit.then])
  refine waY (wbM rfl _ _ _) rfl ?_;exact⟨rfl,rfl⟩
 ·by_cases hd1:d<146097
  ·have hd2:¬146097≤d:=by omega
   rw[if_pos (by omega),waP (by omega)]
   go_enter func223,ntmps223;go_wp2
   (try simp only[Exit.inBlock,Exit.then])
   refine waY (wbM rfl _ _ _) rfl ?_;exact⟨rfl,rfl⟩
  ·have hd2:146097≤d:=by omega
   rw[if_neg (by omega),waO (by omega)]
   go_enter func223,ntmps223;go_wp2
   (try simp only[Exit.inBlock,Exit.then])
   refine waY (wbM rfl _ _ _) rfl ?_;exact⟨rfl,rfl⟩
def zqY (d:Int):Int:=if 0≤d∧d<146097 then d * 86400 else 0
def zqZ (d:Int):Int:=if 0≤d∧d<146097 then d * 86400+86399 else -1
theorem zrR (d:Int) (w:World):Calls prog 221 #[.int .i64 d] w (Ret (.agg #[.int .i64 (zqY d),.int .i64 (zqZ d)]) w):=by
 have HJ:=waV (fun W=>zmr d 0 dQ dQ W)
 have HN:=waV (fun W=>zki W)
 by_cases h:0≤d∧d<146097
 ·rw[if_pos h,waP h] at HJ;have HR:Hid (zqY d=d * 86400∧zqZ d=d * 86400+86399):=⟨if_pos h,if_pos h⟩;rw[HR.out.1,HR.out.2];obtain⟨k0,k1⟩:=h;go_enter func221,ntmps221;go_wp2_with fail;refine(HJ.out _).mono ?_;rintro e w1 ⟨rfl,rfl⟩;go_wp2
  (try simp only[Exit.inBlock,Exit.then])
  refine waY (v:=.agg #[.int .i64 (d * 86400),.int .i64 (d * 86400+86399)]) ?_ rfl ⟨rfl,by exact zaH⟩
  rw[zag rfl]
  go_simp
  all_goals (try omega)
 ·rw[if_neg h,waO h] at HJ;have HR:Hid (zqY d=0∧zqZ d=-1):=⟨if_neg h,if_neg h⟩;rw[HR.out.1,HR.out.2];clear h;go_enter func221,ntmps221;go_wp2_with fail;refine(HJ.out _).mono ?_;rintro e w1 ⟨rfl,rfl⟩;go_wp2_with fail;refine(HN.out _).mono ?_;rintro e w1 ⟨rfl,hb1⟩;obtain⟨hc,hf⟩:=zad hb1;have hz1:w.heap.size<w1.heap.size:=by have:=hb1.size;simp at this;omega
  have hbw:Below w.heap.size w w1:=((waC _ w).alloc (waJ _) _).trans (hb1.mono (by simp))
  have f0:∀j,w1.frozen? ⟨w.heap.size,j,none⟩=false:=fun j=>by rw[hf _ _ (by simp)];go_simp
  have c0:∃v,w1.cell? ⟨w.heap.size,0,none⟩=some v:=⟨_,by rw[hc _ _ (by simp)];exact zaa rfl rfl⟩
  have c1:∃v,w1.cell? ⟨w.heap.size,1,none⟩=some v:=⟨_,by rw[hc _ _ (by simp)];exact zaa rfl rfl⟩
  obtain⟨v0,c0⟩:=c0;obtain⟨v1,c1⟩:=c1;clear hb1 hc hf;go_wp2
  (try simp only[Exit.inBlock,Exit.then])
  refine waY (v:=.agg #[.int .i64 0,.int .i64 (-1)]) ?_ rfl ⟨rfl,by exact zaH⟩
  rw[zag rfl]
  go_simp
theorem zec (f u:Int):(zaE f u=0∧zas f u=-1)∨(0≤zaE f u∧zaE f u≤zas f u∧zas f u≤12622780799):=by
 unfold zaE zas
 (repeat' split)<;>omega
theorem zid (f u:Int) (w:World):Calls prog 182 #[.agg #[.int .i64 f,.int .i64 u]] w (Ret (.bool (decide (zas f u<0))) w):=by
 have HH:=waV (fun W=>zd5 f u W)
 have HN:=waV (fun W=>zki W)
 have hr:=zec f u;generalize zaE f u=F at *;generalize zas f u=U at *;have HR:Hid (decide (U<0)=(F==0&&U==-1)):=by
  show _=_;rw[waQ,waM];simp only[waN,beq_iff_eq];omega
 rw[HR.out];clear hr;go_enter func182,ntmps182;go_wp2_with fail;refine(HH.out _).mono ?_;rintro e w1 ⟨rfl,hb1⟩;go_wp2_with fail;refine(HN.out _).mono ?_;rintro e w2 ⟨rfl,hb2⟩;have hbw:Below w.heap.size w w2:=(((waC _ w).alloc (waJ _) _).trans (hb1.mono (by simp))).trans (hb2.mono (by have:=hb1.size;simp at this;omega))
 clear hb1 hb2;go_wp2
 all_goals go_ret
 all_goals refine⟨zap ?_,by exact zaH⟩
 all_goals (first|rfl|(simp;done)|simp[*])
def zkj (f u:Int):Value:=if zas f u<0 then .tuple #[.int .i64 0,.int .i64 0,.bool false] else .tuple #[.int .i64 (zaE f u / 86400),.int .i64 (zas f u / 86400),.bool true]
theorem zhd (f u:Int) (w:World):Calls prog 173 #[.agg #[.int .i64 f,.int .i64 u]] w (Ret (zkj f u) w):=by
 have HH:=waV (fun W=>zd5 f u W)
 have hr:=zec f u;unfold zkj;generalize zaE f u=F at *;generalize zas f u=U at *;have iF:inC F=true:=waP oQ;have HF:=waV (fun W=>zex F iF W)
 by_cases hn:U<0
 ·have iU:inC U=false:=waO oQ;have HU:=waV (fun W=>zgT U iU W)
  rw[if_pos hn];generalize F / 86400=F1 at *;generalize F%86400=F2 at *;clear hr hn iF iU;go_enter func173,ntmps173;go_wp2_with fail;refine(HH.out _).mono ?_;rintro e w1 ⟨rfl,hb1⟩;obtain⟨hc,hf⟩:=zad hb1;have hz1:w.heap.size<w1.heap.size:=by have:=hb1.size;simp at this;omega
  have hbw:Below w.heap.size w w1:=((waC _ w).alloc (waJ _) _).trans (hb1.mono (by simp))
  have c0:w1.cell? ⟨w.heap.size,0,none⟩=some (.int .i64 f):=by rw[hc _ _ (by simp)];exact zaa rfl rfl
  have c1:w1.cell? ⟨w.heap.size,1,none⟩=some (.int .i64 u):=by rw[hc _ _ (by simp)];exact zaa rfl rfl
  have f0:∀j,w1.frozen? ⟨w.heap.size,j,none⟩=false:=fun j=>by rw[hf _ _ (by simp)];go_simp
  clear hb1 hc hf;go_wp2_with fail;refine(HF.out _).mono ?_;rintro e w2 ⟨rfl,rfl⟩;go_wp2_with fail;refine(HU.out _).mono ?_;rintro e w2 ⟨rfl,rfl⟩;go_wp2
  (try simp only[Exit.inBlock,Exit.then])
  refine waY (results_tmp3 rfl _ _ _) rfl ?_;exact⟨rfl,by exact zaH⟩
 ·have iU:inC U=true:=waP oQ;have HU:=waV (fun W=>zex U iU W)
  rw[if_neg hn];generalize F / 86400=F1 at *;generalize F%86400=F2 at *;generalize U / 86400=U1 at *;generalize U%86400=U2 at *;clear hr hn iF iU;go_enter func173,ntmps173;go_wp2_with fail;refine(HH.out _).mono ?_;rintro e w1 ⟨rfl,hb1⟩;obtain⟨hc,hf⟩:=zad hb1;have hz1:w.heap.size<w1.heap.size:=by have:=hb1.size;simp at this;omega
  have hbw:Below w.heap.size w w1:=((waC _ w).alloc (waJ _) _).trans (hb1.mono (by simp))
  have c0:w1.cell? ⟨w.heap.size,0,none⟩=some (.int .i64 f):=by rw[hc _ _ (by simp)];exact zaa rfl rfl
  have c1:w1.cell? ⟨w.heap.size,1,none⟩=some (.int .i64 u):=by rw[hc _ _ (by simp)];exact zaa rfl rfl
  have f0:∀j,w1.frozen? ⟨w.heap.size,j,none⟩=false:=fun j=>by rw[hf _ _ (by simp)];go_simp
  clear hb1 hc hf;go_wp2_with fail;refine(HF.out _).mono ?_;rintro e w2 ⟨rfl,rfl⟩;go_wp2_with fail;refine(HU.out _).mono ?_;rintro e w2 ⟨rfl,rfl⟩;go_wp2
  (try simp only[Exit.inBlock,Exit.then])
  refine waY (results_tmp3 rfl _ _ _) rfl ?_;exact⟨rfl,by exact zaH⟩
def mxI (a b:Int):Int:=if a<b then b else a
def mnI (a b:Int):Int:=if b<a then b else a
def zed (f1 f2:Int) (k:Nat):Int:=if k=0 then 0 else if k=1 then mxI 0 f1 else mxI (mxI 0 f1) f2
def zee (u1 u2:Int) (k:Nat):Int:=if k=0 then 12622780799 else if k=1 then mnI 12622780799 u1 else mnI (mnI 12622780799 u1) u2
theorem ze0 (a b:Int):mxI a b=max a b:=by unfold mxI;split<;>omega
theorem ze1 (a b:Int):mnI a b=min a b:=by unfold mnI;split<;>omega
theorem zva (f1 f2:Int):zed f1 f2 1=max (zed f1 f2 0) f1:=ze0 _ _
theorem zvb (f1 f2:Int):zed f1 f2 2=max (zed f1 f2 1) f2:=ze0 _ _
theorem zvc (f1 f2:Int):zee f1 f2 1=min (zee f1 f2 0) f1:=ze1 _ _
theorem zvd (f1 f2:Int):zee f1 f2 2=min (zee f1 f2 1) f2:=ze1 _ _
theorem znD {a b c d:Int} (h1:a=max b 0) (h2:c=min d 12622780799):zaE a c=zaE b d∧zas a c=zas b d:=by
 subst h1 h2;unfold zaE zas;constructor<;>((repeat' split)<;>omega)
theorem zpO (f1 u1 f2 u2:Int):zaE (zed f1 f2 2) (zee u1 u2 2)=zaE (mxI f1 f2) (mnI u1 u2)∧zas (zed f1 f2 2) (zee u1 u2 2)=zas (mxI f1 f2) (mnI u1 u2):=by
 refine znD ?_ ?_
 ·show mxI (mxI 0 f1) f2=_;rw[ze0,ze0,ze0];omega
 ·show mnI (mnI _ u1) u2=_;rw[ze1,ze1,ze1];omega
theorem zef {W:World} {b:Nat} {a0 a1 x y:Value} (o:Obj) (h0:W.cell? ⟨b,0,none⟩=some a0) (h1:W.cell? ⟨b,1,none⟩=some a1):
 (((W.setCell ⟨b,0,none⟩ x).setCell ⟨b,1,none⟩ y).alloc o).cell? ⟨b,0,none⟩=some x∧(((W.setCell ⟨b,0,none⟩ x).setCell ⟨b,1,none⟩ y).alloc o).cell? ⟨b,1,none⟩=some y:=by
 have hl:b<((W.setCell ⟨b,0,none⟩ x).setCell ⟨b,1,none⟩ y).heap.size:=by
  simp only[World.size_setCell];exact waR W _ h0
 have hk:=(zad ((waC ((W.setCell ⟨b,0,none⟩ x).setCell ⟨b,1,none⟩ y).heap.size ((W.setCell ⟨b,0,none⟩ x).setCell ⟨b,1,none⟩ y)).alloc (waJ _) o)).1;constructor
 ·rw[hk _ _ hl,waU _ _ _ _ (by simp)]
  exact World.cell?_setCell_same' _ _ _ (by rw[h0];rfl)
 ·rw[hk _ _ hl];refine World.cell?_setCell_same' _ _ _ ?_;rw[waU _ _ _ _ (by simp),h1];rfl
theorem zpP (f1 u1 f2 u2:Int) (B c:Nat) (w:World)
 (c0:w.cell? ⟨B,0,none⟩=some (.int .i64 f1)) (c1:w.cell? ⟨B,1,none⟩=some (.int .i64 u1)) (c2:w.cell? ⟨B,2,none⟩=some (.int .i64 f2)) (c3:w.cell? ⟨B,3,none⟩=some (.int .i64 u2)):
 Calls prog 220 #[.slice (some ⟨B,0,none⟩) 2 c] w (Ret (.agg #[.int .i64 (zaE (mxI f1 f2) (mnI u1 u2)),.int .i64 (zas (mxI f1 f2) (mnI u1 u2))]) w):=by
 have HW:=waV (fun W=>zh0 W)
 have HH:=waV (fun f u W=>zd5 f u W)
 have hB:=waR w _ c0;have HE:Hid (zaE (zed f1 f2 2) (zee u1 u2 2)=zaE (mxI f1 f2) (mnI u1 u2)∧zas (zed f1 f2 2) (zee u1 u2 2)=zas (mxI f1 f2) (mnI u1 u2)):=zpO f1 u1 f2 u2;go_enter func220,ntmps220;go_wp2_with fail;refine(HW.out _).mono ?_;rintro e w1 ⟨rfl,hb1⟩;have hz1:w.heap.size<w1.heap.size:=by have:=hb1.size;simp at this;omega
 have hbw:Below w.heap.size w w1:=((waC _ w).alloc (waJ _) _).trans (hb1.mono (by simp))
 have g0:∀j,w1.frozen? ⟨w.heap.size,j,none⟩=false:=fun j=>by rw[(zad hb1).2 _ _ (by simp)];go_simp
 have k0:∃v,w1.cell? ⟨w.heap.size,0,none⟩=some v:=⟨_,by rw[(zad hb1).1 _ _ (by simp)];exact zaa rfl rfl⟩
 have k1:∃v,w1.cell? ⟨w.heap.size,1,none⟩=some v:=⟨_,by rw[(zad hb1).1 _ _ (by simp)];exact zaa rfl rfl⟩
 clear hb1;go_wp2
 go_loopw [9] (fun i V=>∃k:Nat,k≤2∧i=.int .i64 k∧V.cell? ⟨w1.heap.size,0,none⟩=some (.int .i64 (zed f1 f2 k))∧V.cell? ⟨w1.heap.size,1,none⟩=some (.int .i64 (zee u1 u2 k))∧Hid (∀j,V.frozen? ⟨w1.heap.size,j,none⟩=false)∧Below w1.heap.size w1 V∧w1.heap.size<V.heap.size) (fun i _=>2 - (intOf i).toNat)
 case atStart=>exact⟨0,by omega,rfl,zaa rfl rfl,zaa rfl rfl,fun j=>by go_simp,by exact zaH,by simp⟩
 case round=>
  obtain⟨k,hk,rfl,r0,r1,r2,r3,r4⟩:=hrel;obtain⟨v0,k0⟩:=k0;obtain⟨v1,k1⟩:=k1;have q0:=(zad r3).1 _ 0 hz1;have q1:=(zad r3).1 _ 1 hz1;have qf:=(zad r3).2 _ 0 hz1;rw[k0] at q0;rw[k1] at q1;rw[g0] at qf;have F0:∀j,wr.frozen? ⟨w.heap.size,j,none⟩=false:=fun j=>by rw[(zad r3).2 _ _ hz1,g0]
  have hbV:Below w.heap.size w wr:=hbw.trans (r3.mono oQ)
  by_cases h2:k=2
  ·subst h2;clear HW;have HHx:=waV (fun W=>HH.out (zed f1 f2 2) (zee u1 u2 2) W)
   rw[HE.out.1,HE.out.2] at HHx;have HF0:=r2.out;generalize zed f1 f2 2=A at *;generalize zee u1 u2 2=U at *;generalize zaE (mxI f1 f2) (mnI u1 u2)=RF at *;generalize zas (mxI f1 f2) (mnI u1 u2)=RU at *;go_wp2_with fail;refine(HHx.out _).mono ?_;rintro e w2 ⟨rfl,hb2⟩;have y0:=(zad hb2).1 w.heap.size 0 oQ;have y1:=(zad hb2).1 w.heap.size 1 oQ;have yf:∀j,w2.frozen? ⟨w.heap.size,j,none⟩=false:=fun j=>by rw[(zad hb2).2 _ _ (by omega)];exact F0 j
   rw[q0] at y0;rw[q1] at y1;have hz2:w.heap.size<w2.heap.size:=by have:=hb2.size;omega
   have hbW:Below w.heap.size w w2:=hbV.trans (hb2.mono oQ);clear hb2;go_wp2
   (try simp only[Exit.inBlock,Exit.then])
   refine waY (v:=.agg #[.int .i64 RF,.int .i64 RU]) ?_ rfl ⟨rfl,by exact zaH⟩
   rw[zag rfl]
   go_simp
  ·have hbB:B<w1.heap.size:=by omega
   have b0:wr.cell? ⟨B,0,none⟩=some (.int .i64 f1):=by rw[(zad hbV).1 _ _ hB];exact c0
   have b1:wr.cell? ⟨B,1,none⟩=some (.int .i64 u1):=by rw[(zad hbV).1 _ _ hB];exact c1
   have b2:wr.cell? ⟨B,2,none⟩=some (.int .i64 f2):=by rw[(zad hbV).1 _ _ hB];exact c2
   have b3:wr.cell? ⟨B,3,none⟩=some (.int .i64 u2):=by rw[(zad hbV).1 _ _ hB];exact c3
   have HF0:=r2.out;have n1:w1.heap.size≠B:=by omega
   obtain rfl|rfl:k=0∨k=1:=by omega
   ·clear HW HH HE;go_wp2;go_roundw
    case rel=>exact⟨1,by omega,rfl,(by first|exact(zef _ r0 r1).1|(rw[zva];exact(zef _ r0 r1).1)),(by first|exact(zef _ r0 r1).2|(rw[zvc];exact(zef _ r0 r1).2)),fun j=>by go_simp,by exact zaH,by simp;omega⟩
    case measure=>simp [intOf]
   ·clear HW HH HE;go_wp2;go_roundw
    case rel=>exact⟨2,by omega,rfl,(by first|exact(zef _ r0 r1).1|(rw[zvb];exact(zef _ r0 r1).1)),(by first|exact(zef _ r0 r1).2|(rw[zvd];exact(zef _ r0 r1).2)),fun j=>by go_simp,by exact zaH,by simp;omega⟩
    case measure=>simp [intOf]
def zjA (f d:Int):Int:=mxI f (zqY d)
def zi8 (u d:Int):Int:=mnI u (zqZ d)
theorem zkk {w w1 w2:World} {o:Obj} {x y:Value} (hz1:w.heap.size<w1.heap.size) (hb:Below w.heap.size w w1)
 (s0:w1.cell? ⟨w.heap.size,0,none⟩=some x) (s1:w1.cell? ⟨w.heap.size,1,none⟩=some y) (sf:∀j,w1.frozen? ⟨w.heap.size,j,none⟩=false) (hb2:Below (w1.alloc o).heap.size (w1.alloc o) w2):
 w2.cell? ⟨w.heap.size,0,none⟩=some x∧w2.cell? ⟨w.heap.size,1,none⟩=some y∧(∀j,w2.frozen? ⟨w.heap.size,j,none⟩=false)∧w.heap.size<w2.heap.size∧Below w.heap.size w w2:=by
 have h1:Below w1.heap.size w1 (w1.alloc o):=(waC _ w1).alloc (waJ _) o;have h2:Below w1.heap.size w1 w2:=h1.trans (hb2.mono h1.size);exact⟨by rw[(zad h2).1 _ _ hz1];exact s0,by rw[(zad h2).1 _ _ hz1];exact s1,fun j=>by rw[(zad h2).2 _ _ hz1];exact sf j,waD hz1 h2.size,hb.trans (h2.mono (by omega))⟩
theorem zms (f u d:Int) (w:World):Calls prog 175 #[.agg #[.int .i64 f,.int .i64 u],.int .i64 d] w (Ret (if zas (zjA f d) (zi8 u d)<0 then .tuple #[.int .i64 0,.int .i64 0,.bool false] else .tuple #[.int .i64 (zaE (zjA f d) (zi8 u d)%86400),.int .i64 (zas (zjA f d) (zi8 u d)%86400),.bool true]) w):=by
 have HD:=waV (fun W=>zrR d W)
 have HM:=waV (fun B c W=>zpP f u (zqY d) (zqZ d) B c W)
 have hr:=zec (zjA f d) (zi8 u d);unfold zjA zi8 at *;generalize zaE (mxI f (zqY d)) (mnI u (zqZ d))=F at *;generalize zas (mxI f (zqY d)) (mnI u (zqZ d))=U at *;generalize zqY d=D1 at *;generalize zqZ d=D2 at *;have iF:inC F=true:=waP oQ;have HF:=waV (fun W=>zex F iF W)
 by_cases hn:U<0
 ·have iU:inC U=false:=waO oQ;have HU:=waV (fun W=>zgT U iU W)
  rw[if_pos hn];generalize F / 86400=F1 at *;generalize F%86400=F2 at *;clear hr hn iF iU;go_enter func175,ntmps175;go_wp2_with fail
  go_region_with ((first|(go_at_call 221;refine(HD.out _).mono ?_;rintro e w1 ⟨rfl,hb1⟩;have hz1:w.heap.size<w1.heap.size:=(by have:=hb1.size;(try simp at this);omega);have hbw1:Below w.heap.size w w1:=(by first|exact((waC _ w).alloc (waJ _) _).trans (hb1.mono (by first|omega|simp))|exact(((waC _ w).alloc (waJ _) _).drewN _).trans (hb1.mono (by first|omega|simp))|exact(zax ((waC _ w).alloc (waJ _) _) _).trans (hb1.mono (by first|omega|simp)));have s0:w1.cell? ⟨w.heap.size,0,none⟩=some (.int .i64 f):=(hb1.cell (p:=⟨w.heap.size,0,none⟩) (by simp)).trans (zaa rfl rfl);have s1:w1.cell? ⟨w.heap.size,1,none⟩=some (.int .i64 u):=(hb1.cell (p:=⟨w.heap.size,1,none⟩) (by simp)).trans (zaa rfl rfl);have sf:∀j,w1.frozen? ⟨w.heap.size,j,none⟩=false:=(fun j=>by rw[(zad hb1).2 _ _ (by simp)];go_simp);clear hb1)|(go_at_call 220;go_loud (refine(HM.out _ _ _ (zaa rfl rfl) (zaa rfl rfl) (zaa rfl rfl) (zaa rfl rfl)).mono ?_;rintro e w2 ⟨rfl,hb2⟩;obtain⟨y0,y1,yf,hz2,hbw2⟩:=zkk hz1 hbw1 s0 s1 sf hb2;clear hb2))))
  all_goals (
   go_wp2_with fail;refine(HF.out _).mono ?_;rintro e w3 ⟨rfl,rfl⟩;go_wp2_with fail;refine(HU.out _).mono ?_;rintro e w3 ⟨rfl,rfl⟩;go_wp2
   (try simp only[Exit.inBlock,Exit.then])
   refine waY (results_tmp3 rfl _ _ _) rfl ?_;exact⟨rfl,by exact zaH⟩)
 ·have iU:inC U=true:=waP oQ;have HU:=waV (fun W=>zex U iU W)
  rw[if_neg hn];generalize F / 86400=F1 at *;generalize F%86400=F2 at *;generalize U / 86400=U1 at *;generalize U%86400=U2 at *;clear hr hn iF iU;go_enter func175,ntmps175;go_wp2_with fail
  go_region_with ((first|(go_at_call 221;refine(HD.out _).mono ?_;rintro e w1 ⟨rfl,hb1⟩;have hz1:w.heap.size<w1.heap.size:=(by have:=hb1.size;(try simp at this);omega);have hbw1:Below w.heap.size w w1:=(by first|exact((waC _ w).alloc (waJ _) _).trans (hb1.mono (by first|omega|simp))|exact(((waC _ w).alloc (waJ _) _).drewN _).trans (hb1.mono (by first|omega|simp))|exact(zax ((waC _ w).alloc (waJ _) _) _).trans (hb1.mono (by first|omega|simp)));have s0:w1.cell? ⟨w.heap.size,0,none⟩=some (.int .i64 f):=(hb1.cell (p:=⟨w.heap.size,0,none⟩) (by simp)).trans (zaa rfl rfl);have s1:w1.cell? ⟨w.heap.size,1,none⟩=some (.int .i64 u):=(hb1.cell (p:=⟨w.heap.size,1,none⟩) (by simp)).trans (zaa rfl rfl);have sf:∀j,w1.frozen? ⟨w.heap.size,j,none⟩=false:=(fun j=>by rw[(zad hb1).2 _ _ (by simp)];go_simp);clear hb1)|(go_at_call 220;go_loud (refine(HM.out _ _ _ (zaa rfl rfl) (zaa rfl rfl) (zaa rfl rfl) (zaa rfl rfl)).mono ?_;rintro e w2 ⟨rfl,hb2⟩;obtain⟨y0,y1,yf,hz2,hbw2⟩:=zkk hz1 hbw1 s0 s1 sf hb2;clear hb2))))
  all_goals (
   go_wp2_with fail;refine(HF.out _).mono ?_;rintro e w3 ⟨rfl,rfl⟩;go_wp2_with fail;refine(HU.out _).mono ?_;rintro e w3 ⟨rfl,rfl⟩;go_wp2
   (try simp only[Exit.inBlock,Exit.then])
   refine waY (results_tmp3 rfl _ _ _) rfl ?_;exact⟨rfl,by exact zaH⟩)
def zcD (u s a d:Int):Int:=if okU u a=true∧(0≤d∧d<146097)∧1≤s∧zau u≠0 then(zbm u a - d * 86400 / zau u)%s else 0
theorem zeC {u s a d:Int} (h:¬(okU u a=true∧(0≤d∧d<146097)∧1≤s∧zau u≠0)):zcD u s a d=0:=if_neg h
theorem znE (u:Int):zau u=0∨zau u=1∨zau u=60∨zau u=3600:=by
 unfold zau
 (repeat' split)<;>omega
theorem znF (u s a d:Int) (hs:s≤9223372036854775807) (w:World):Calls prog 177 #[.int .i64 u,.int .i64 s,.int .i64 a,.int .i64 d] w (Ret (.int .i64 (zcD u s a d)) w):=by
 have H2:=waV (fun W=>zmr d 0 dQ dQ W)
 have H3:=waV (fun W=>zd6 u W)
 by_cases ho:okU u a=true
 ·have H1:=waV (fun W=>zjX u a ho W)
  have hw:=zmc ho
  by_cases hd:0≤d∧d<146097
  ·rw[if_pos hd,waP hd] at H2
   by_cases h1:1≤s
   ·by_cases hz:zau u=0
    ·have HR:Hid (zcD u s a d=0):=zeC (fun h=>h.2.2.2 hz)
     rw[hz] at H3;clear ho hd hz;generalize zcD u s a d=R at *;generalize zbm u a=q at *;go_enter func177,ntmps177;go_wp2_with fail;refine(H1.out _).mono ?_;rintro e w1 ⟨rfl,hb1⟩;go_wp2_with fail;refine(H2.out _).mono ?_;rintro e w2 ⟨rfl,rfl⟩;go_wp2_with fail;refine(H3.out _).mono ?_;rintro e w2 ⟨rfl,hb2⟩;go_wp2;go_ret;exact⟨zaS HR.out.symm,zai hb1 hb2 hb1.size⟩
    ·have HR:Hid (zcD u s a d=(zbm u a - d * 86400 / zau u)%s):=if_pos ⟨ho,hd,h1,hz⟩;generalize zcD u s a d=R at *;have hc:=znE u;generalize zbm u a=q at *;generalize zau u=n at *;clear ho;obtain⟨d0,d1⟩:=hd;obtain⟨q0,q1⟩:=hw;have hf0:0≤d * 86400:=by omega
     rcases hc with rfl|rfl|rfl|rfl
     ·exact absurd rfl hz
     ·have HM:=waV (fun W=>zlm (q - d * 86400) s oQ oQ h1 hs W)
      have HR':R=(q - d * 86400)%s:=by rw[HR.out,Int.ediv_one]
      rw[←HR'] at HM;clear HR';clear HR hz;go_enter func177,ntmps177;go_wp2_with fail;refine(H1.out _).mono ?_;rintro e w1 ⟨rfl,hb1⟩;go_wp2_with fail;refine(H2.out _).mono ?_;rintro e w2 ⟨rfl,rfl⟩;go_wp2_with fail;refine(H3.out _).mono ?_;rintro e w2 ⟨rfl,hb2⟩;go_wp2_with fail;refine(HM.out _).mono ?_;rintro e w3 ⟨rfl,rfl⟩;go_wp2;go_ret;exact⟨rfl,zai hb1 hb2 hb1.size⟩
     ·have HM:=waV (fun W=>zlm (q - d * 86400 / 60) s oQ oQ h1 hs W)
      rw[←HR.out] at HM;clear HR hz;go_enter func177,ntmps177;go_wp2_with fail;refine(H1.out _).mono ?_;rintro e w1 ⟨rfl,hb1⟩;go_wp2_with fail;refine(H2.out _).mono ?_;rintro e w2 ⟨rfl,rfl⟩;go_wp2_with fail;refine(H3.out _).mono ?_;rintro e w2 ⟨rfl,hb2⟩;go_wp2_with fail;refine(HM.out _).mono ?_;rintro e w3 ⟨rfl,rfl⟩;go_wp2;go_ret;exact⟨rfl,zai hb1 hb2 hb1.size⟩
     ·have HM:=waV (fun W=>zlm (q - d * 86400 / 3600) s oQ oQ h1 hs W)
      rw[←HR.out] at HM;clear HR hz;go_enter func177,ntmps177;go_wp2_with fail;refine(H1.out _).mono ?_;rintro e w1 ⟨rfl,hb1⟩;go_wp2_with fail;refine(H2.out _).mono ?_;rintro e w2 ⟨rfl,rfl⟩;go_wp2_with fail;refine(H3.out _).mono ?_;rintro e w2 ⟨rfl,hb2⟩;go_wp2_with fail;refine(HM.out _).mono ?_;rintro e w3 ⟨rfl,rfl⟩;go_wp2;go_ret;exact⟨rfl,zai hb1 hb2 hb1.size⟩
   ·have HR:Hid (zcD u s a d=0):=zeC (fun h=>h1 h.2.2.1)
    clear ho hd;generalize zcD u s a d=R at *;generalize zbm u a=q at *;generalize zau u=n at *;go_enter func177,ntmps177;go_wp2_with fail;refine(H1.out _).mono ?_;rintro e w1 ⟨rfl,hb1⟩;go_wp2_with fail;refine(H2.out _).mono ?_;rintro e w2 ⟨rfl,rfl⟩;go_wp2_with fail;refine(H3.out _).mono ?_;rintro e w2 ⟨rfl,hb2⟩;go_wp2;go_ret;exact⟨zaS HR.out.symm,zai hb1 hb2 hb1.size⟩
  ·rw[if_neg hd,waO hd] at H2;have HR:Hid (zcD u s a d=0):=zeC (fun h=>hd h.2.1)
   clear ho hd;generalize zcD u s a d=R at *;generalize zbm u a=q at *;generalize zau u=n at *;go_enter func177,ntmps177;go_wp2_with fail;refine(H1.out _).mono ?_;rintro e w1 ⟨rfl,hb1⟩;go_wp2_with fail;refine(H2.out _).mono ?_;rintro e w2 ⟨rfl,rfl⟩;go_wp2_with fail;refine(H3.out _).mono ?_;rintro e w2 ⟨rfl,hb2⟩;go_wp2;go_ret;exact⟨zaS HR.out.symm,zai hb1 hb2 hb1.size⟩
 ·have H1:=waV (fun W=>zh4 u a (by simpa using ho) W)
  have HR:Hid (zcD u s a d=0):=zeC (fun h=>ho h.1)
  clear ho;generalize zcD u s a d=R at *;generalize zau u=n at *;generalize (if 0≤d∧d<146097 then d * 86400+0 else 0)=fr at *
  generalize decide (0≤d∧d<146097)=is at *;cases is
  ·go_enter func177,ntmps177;go_wp2_with fail;refine(H1.out _).mono ?_;rintro e w1 ⟨rfl,hb1⟩;go_wp2_with fail;refine(H2.out _).mono ?_;rintro e w2 ⟨rfl,rfl⟩;go_wp2_with fail;refine(H3.out _).mono ?_;rintro e w2 ⟨rfl,hb2⟩;go_wp2;go_ret;exact⟨zaS HR.out.symm,zai hb1 hb2 hb1.size⟩
  ·go_enter func177,ntmps177;go_wp2_with fail;refine(H1.out _).mono ?_;rintro e w1 ⟨rfl,hb1⟩;go_wp2_with fail;refine(H2.out _).mono ?_;rintro e w2 ⟨rfl,rfl⟩;go_wp2_with fail;refine(H3.out _).mono ?_;rintro e w2 ⟨rfl,hb2⟩;go_wp2;go_ret;exact⟨zaS HR.out.symm,zai hb1 hb2 hb1.size⟩
end Go.Proofs.YtgedndlifiihkaaGreatDoor
