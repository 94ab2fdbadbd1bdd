/- A part of the proof: RToc1 RToc2 RToc3 RLives36 RText -/
import Derived.Test.YtgedndlifiihkaaGreatDoorQ03
import Derived.Test.YtgedndlifiihkaaGreatDoorQ10
import Derived.Test.YtgedndlifiihkaaGreatDoorQ00
import Derived.Lib.ItoaLen
import Derived.Lib.Join
set_option maxHeartbeats 80000000
set_option maxRecDepth 100000
set_option linter.unusedSimpArgs false
set_option linter.unusedVariables false
namespace Go.Proofs.YtgedndlifiihkaaGreatDoor
open Go.Proofs.Tryz
def zaB (m:Nat):List Int:=(zar m).map fun(k:Nat)=>(k:Int)
theorem ziY {m:Nat} {x:Int}:x∈zaB m↔∃k:Nat,k<64∧m.testBit k=true∧x=(k:Int):=by
 unfold zaB;rw[List.mem_map];constructor
 ·rintro ⟨k,hk,rfl⟩;obtain⟨h1,h2⟩:=zaO.1 hk;exact⟨k,h1,h2,rfl⟩
 ·rintro ⟨k,h1,h2,rfl⟩;exact⟨k,zaO.2 ⟨h1,h2⟩,rfl⟩
theorem ztN (m:Nat):(zaB m).Pairwise (·< ·):=by
 unfold zaB;rw[List.pairwise_map];exact(zbf m).imp fun h=>by omega
theorem ziZ (m:Nat):(zaB m).length<65:=by
 unfold zaB;rw[List.length_map];exact Nat.lt_succ_of_le (zfq m)
def BdM (lo hi:Nat) (m:Nat):Prop:=∀k,k<64→m.testBit k=true→lo≤k∧k≤hi
theorem BdM.numb {lo hi m:Nat} (h:BdM lo hi m) (hle:lo≤hi) (h9:hi≤999):Numb (lo:Int) (hi:Int) (zaB m):=⟨by omega,by omega,by omega,fun x hx=>by
 obtain⟨k,h1,h2,rfl⟩:=ziY.1 hx;have:=h k h1 h2;omega,ztN m⟩
theorem zu3 {lo hi m:Nat} (h:BdM lo hi m) (hle:lo≤hi) (h9:hi≤63) (S:Bool) (k:Nat):inB (zab (lo:Int) (hi:Int) (zaB m) S) (lo:Int) (hi:Int) (k:Int)=decide (k<64∧m.testBit k=true):=by
 rw[zoN (h.numb hle (by omega)),wbH,ziY]
 constructor
 ·rintro ⟨j,h1,h2,h3⟩;obtain rfl:k=j:=by omega
  exact⟨h1,h2⟩
 ·rintro ⟨h1,h2⟩;exact⟨k,h1,h2,rfl⟩
theorem zrI {m:Nat} (hm:m<18446744073709551616):zaB m=[]↔m=0:=by
 constructor
 ·intro h;apply Nat.eq_of_testBit_eq;intro k;rw[Nat.zero_testBit,Bool.eq_false_iff];intro hb;have hk:k<64:=by
   false_or_by_contra
   have h64:m<2^k:=waD hm (Nat.pow_le_pow_right (n:=2) (i:=64) (j:=k) dQ oQ);rw[waX h64] at hb;cases hb
  have:(k:Int)∈zaB m:=ziY.2 ⟨k,hk,hb,rfl⟩;rw[h] at this;cases this
 ·rintro rfl;rfl
theorem zdj (lo hi lo' hi':Int) (l:List Int):zab lo hi l false=zab lo' hi' l false:=by
 unfold zab;rw[if_neg (by rintro ⟨h,_⟩;cases h),if_neg (by rintro ⟨h,_⟩;cases h)]
theorem zcL {k:Nat} {lo hi m:Nat} (hk:k<5) (h:BdM lo hi m) (hle:lo≤hi) (h9:hi≤63) (hlo:(lo:Int)=cLo k) (hhi:(hi:Int)=cHi k) (hm:m<18446744073709551616) (h0:m≠0) (S:Bool):zaI k (zab (lo:Int) (hi:Int) (zaB m) S)=0:=by
 have hn:=h.numb hle oQ;obtain⟨h1,h2⟩:=zjK hn S;have h3:=ziZ m;refine zjC (fun e=>h0 ((zrI hm).1 (h1.1 e))) oQ fun j it hj hjt=>?_
 obtain⟨h4,h5⟩:=zgQ hn S it (List.mem_of_getElem? hjt);rw[←hlo,←hhi,h4];simp[h5]
theorem zez {k:Nat} {l:List It} {s:Int} (hk:k<5) (s0:1≤s) (s1:s≤999) (hl:l.length≤63) (h:∀i∈l,zbq i (cLo k) (cHi k)=true∧i.k≠3):zaI k (⟨0,0,0,s⟩::l)=0:=by
 refine zjC (by simp) (by simp only[waG];omega) fun j it hj hjt=>?_
 rcases List.mem_cons.1 (List.mem_of_getElem? hjt) with rfl|hm
 ·have:zbq ⟨0,0,0,s⟩ (cLo k) (cHi k)=true:=by
   refine waP ⟨?_,?_,?_,.inl ⟨rfl,rfl,rfl,s0,s1⟩⟩
   all_goals (obtain rfl|rfl|rfl|rfl|rfl:k=0∨k=1∨k=2∨k=3∨k=4:=by omega)
   all_goals decide
  rw[this];rfl
 ·obtain⟨h4,h5⟩:=h it hm;rw[h4];simp[h5]
theorem zi0 (lo hi s:Int) (l:List It) (h0:0≤lo) (h1:lo≤hi) (h2:hi≤9999) (s0:1≤s) (s1:s≤999) (n:Int):inB (⟨0,0,0,s⟩::l) lo hi n=(decide (lo≤n∧n≤hi∧(n - lo)%s=0)||inB l lo hi n):=by
 have hm:zbq ⟨0,0,0,s⟩ lo hi=true:=waP ⟨h0,h1,h2,.inl ⟨rfl,rfl,rfl,s0,s1⟩⟩;unfold inB;rw[List.any_cons];congr 1;unfold zeM;rw[hm,Bool.true_and];rfl
def zcj (w:Nat):Nat:=mkN (fun k=>if k=0 then w.testBit 0||w.testBit 7 else decide (k≠7)&&w.testBit k) 64
theorem zfW (w:Nat):zcj w<18446744073709551616:=zcY _ 64
theorem zcF (w k:Nat) (hk:k<64):(zcj w).testBit k=if k=0 then w.testBit 0||w.testBit 7 else decide (k≠7)&&w.testBit k:=by
 unfold zcj;rw[zbi];simp[hk]
def zdk (m j:Nat):Nat:=mkN (fun k=>decide (k≠j)&&m.testBit k) 64
theorem zft (m j:Nat):zdk m j<18446744073709551616:=zcY _ 64
theorem zd7 (m j k:Nat) (hk:k<64):(zdk m j).testBit k=(decide (k≠j)&&m.testBit k):=by
 unfold zdk;rw[zbi];simp[hk]
def zcG (mo:Nat):Int:=(zar mo).foldl (fun(a:Int) (m:Nat)=>max a (zbl 2000 (m:Int))) 0
theorem zrJ {mo m:Nat} (h:m∈zar mo):zbl 2000 (m:Int)≤zcG mo:=by
 unfold zcG;have:∀(l:List Nat) (a:Int),a≤l.foldl (fun(a:Int) (m:Nat)=>max a (zbl 2000 (m:Int))) a∧∀m∈l,zbl 2000 (m:Int)≤l.foldl (fun(a:Int) (m:Nat)=>max a (zbl 2000 (m:Int))) a:=by
  intro l;induction l with
  |nil=>intro a;exact⟨Int.le_refl _,fun m hm=>by cases hm⟩
  |cons b l ih=>
   intro a;obtain⟨h1,h2⟩:=ih (max a (zbl 2000 (b:Int)));rw[List.foldl_cons];refine⟨by omega,fun m hm=>?_⟩
   rcases List.mem_cons.1 hm with rfl|hm
   ·omega
   ·exact h2 m hm
 exact(this _ 0).2 m h
theorem zi1 {mo:Nat} {d:Int} (h0:1≤d) (h:d≤zcG mo):∃m∈zar mo,d≤zbl 2000 (m:Int):=by
 unfold zcG at h;have:∀(l:List Nat) (a:Int),d≤l.foldl (fun(a:Int) (m:Nat)=>max a (zbl 2000 (m:Int))) a→d≤a∨∃m∈l,d≤zbl 2000 (m:Int):=by
  intro l;induction l with
  |nil=>intro a h;exact .inl h
  |cons b l ih=>
   intro a h;rw[List.foldl_cons] at h;rcases ih _ h with h|⟨m,hm,h⟩
   ·by_cases hb:d≤zbl 2000 (b:Int)
    ·exact .inr ⟨b,by simp,hb⟩
    ·exact .inl oQ
   ·exact .inr ⟨m,by simp[hm],h⟩
 rcases this _ 0 h with h|h
 ·omega
 ·exact h
def zrK (mo d:Nat):Bool:=(List.range 32).all fun k=>!decide (1≤k∧(k:Int)≤zcG mo)||d.testBit k
def zd8 (w:Nat):Bool:=(List.range 7).all fun k=>(zcj w).testBit k
def zc4 (mi ho mo:Nat) (day week:List It) (k:Nat):List It:=
 if k=0 then zab 0 59 (zaB mi) true else if k=1 then zab 0 23 (zaB ho) true else if k=2 then day else if k=3 then zab 1 12 (zaB mo) true else week
def zbE (mo d w:Nat):List It:=if zrK mo d then [⟨0,0,0,1⟩] else if zd8 w then zab 1 31 (zaB d) false else if d.testBit 1 then⟨0,0,0,31⟩::zab 1 31 (zaB (zdk d 1)) false else zab 1 31 (zaB d) false
def za0 (mo d w:Nat):List It:=if zd8 w then [⟨0,0,0,1⟩] else if zrK mo d then zab 0 6 (zaB (zcj w)) false else if d.testBit 1 then zab 0 6 (zaB (zcj w)) false else⟨0,0,0,8⟩::zab 0 6 (zaB (zdk (zcj w) 0)) false
def za5 (mo d w:Nat):Bool:=zrK mo d||(zd8 w||(d.testBit 1||(zcj w).testBit 0))
noncomputable def zbK (P:Int→Nat→Bool):Nat→List It:=zc4 (zcE P) (za7 P) (zaU P) (zbE (zaU P) (zbx P) (wkF P)) (za0 (zaU P) (zbx P) (wkF P))
noncomputable def zbF (P:Int→Nat→Bool):Nat→List It:=zc4 (zcE P) (za7 P) (zaU P) (zab 1 31 (zaB (domW P)) false) (zab 0 6 (zaB (zcj (wkW P))) false)
def zj8 (k:Nat):List It:=if k=0 then [⟨1,0,0,0⟩] else if k=1 then [⟨1,0,0,0⟩] else if k=2 then [⟨1,30,0,0⟩] else if k=3 then [⟨1,2,0,0⟩] else [⟨0,0,0,1⟩]
def zeY (x:Nat→List It) (n:Int) (s:Nat):Bool:=zgi x (n * 86400+(s:Int))
def zdS (x:Nat→List It) (P:Int→Nat→Bool):Prop:=chk x=(5,0)∧zdF (zeY x) P
inductive Rais (P:Int→Nat→Bool):Option (Nat→List It)→Prop
 |empty:¬zeX P→Rais P (some zj8)
 |both:zeX P→za5 (zaU P) (zbx P) (wkF P)=true→zdS (zbK P) P→Rais P (some (zbK P))
 |either:zeX P→¬(za5 (zaU P) (zbx P) (wkF P)=true∧zdS (zbK P) P)→domW P≠0→wkW P≠0→zdS (zbF P) P→Rais P (some (zbF P))
 |none:zeX P→¬(za5 (zaU P) (zbx P) (wkF P)=true∧zdS (zbK P) P)→¬(domW P≠0∧wkW P≠0∧zdS (zbF P) P)→Rais P Option.none
theorem Rais.det {P:Int→Nat→Bool} {a b:Option (Nat→List It)} (h:Rais P a) (k:Rais P b):a=b:=by
 cases h<;>cases k<;>first|rfl|(exfalso;simp_all)
theorem znx {P Q:Int→Nat→Bool} (h:zdF P Q):zeX P↔zeX Q:=by unfold zeX;simp only[h.liveD]
theorem zlh {P Q:Int→Nat→Bool} (h:zdF P Q):zcE P=zcE Q∧za7 P=za7 Q∧zaU P=zaU Q∧zbx P=zbx Q∧wkF P=wkF Q∧domW P=domW Q∧wkW P=wkW Q:=by
 unfold zcE za7 zaU zbx wkF domW wkW;simp only[h.liveD,h.liveI,and_self]
theorem Rais.congr {P Q:Int→Nat→Bool} (hs:zdF P Q) {a:Option (Nat→List It)} (h:Rais P a):Rais Q a:=by
 obtain⟨e1,e2,e3,e4,e5,e6,e7⟩:=zlh hs;have eb:zbK P=zbK Q:=by unfold zbK;rw[e1,e2,e3,e4,e5]
 have ee:zbF P=zbF Q:=by unfold zbF;rw[e1,e2,e3,e6,e7]
 have em:∀x,zdS x P↔zdS x Q:=fun x=>by
  unfold zdS;constructor
  ·rintro ⟨a,b⟩;exact⟨a,b.trans hs⟩
  ·rintro ⟨a,b⟩;exact⟨a,b.trans hs.symm⟩
 have ea:=znx hs;cases h with
 |empty h=>exact .empty (fun g=>h (ea.2 g))
 |both h1 h2 h3=>rw [eb];rw[e3,e4,e5] at h2;exact .both (ea.1 h1) h2 (by rw[←eb];exact(em _).1 h3)
 |either h1 h2 h3 h4 h5=>rw [ee];rw[e3,e4,e5,em,eb] at h2;rw[e6] at h3;rw[e7] at h4;exact .either (ea.1 h1) h2 h3 h4 (by rw[←ee];exact(em _).1 h5)
 |none h1 h2 h3=>rw [e3,e4,e5,em,eb] at h2;rw[e6,e7,em,ee] at h3;exact .none (ea.1 h1) h2 h3
def wkB (x:Nat→List It) (w:Int):Bool:=inB (x 4) 0 7 w||(decide (w=7)&&inB (x 4) 0 7 0)
theorem zdl (x:Nat→List It) {n:Int} {s:Nat} (h0:0≤n) (h1:n<146097) (hs:s<86400):
 zeY x n s=(decide (s%60=0)&&(inB (x 0) 0 59 ((s / 60%60:Nat):Int)&&(inB (x 1) 0 23 ((s / 3600:Nat):Int)&&(inB (x 3) 1 12 (mD n)&&
  (if zbv (x 2)||zbv (x 4) then inB (x 2) 1 31 (dD n)&&wkB x (wdD n) else inB (x 2) 1 31 (dD n)||wkB x (wdD n)))))):=by
 have e1:(n * 86400+(s:Int))%86400=(s:Int):=by omega
 have e2:(n * 86400+(s:Int)) / 86400=n:=by omega
 have e3:inC (n * 86400+(s:Int))=true:=waP oQ;unfold zeY zgi wkB;rw[e1,e2,e3,Bool.true_and];have e4:decide ((s:Int)%60=0)=decide (s%60=0):=by rw[wbH];omega
 have e5:(s:Int) / 60%60=((s / 60%60:Nat):Int):=by omega
 have e6:(s:Int) / 3600=((s / 3600:Nat):Int):=by omega
 rw[e4,e5,e6]
theorem zcM {Q:Nat→Prop} {k:Nat} (hk:k<64):(mOf Q).testBit k=true↔Q k:=by rw[zfT];simp[hk]
theorem zeA {P:Int→Nat→Bool} {m:Nat} (hm:m<64):(zaU P).testBit m=true↔∃n,zbD P n∧mD n=(m:Int):=zcM hm
theorem zfu {P:Int→Nat→Bool} {m:Nat} (hm:m<64):(zbx P).testBit m=true↔∃n,zbD P n∧dD n=(m:Int):=zcM hm
theorem zi2 {P:Int→Nat→Bool} {m:Nat} (hm:m<64):(wkF P).testBit m=true↔∃n,zbD P n∧wdD n=(m:Int):=zcM hm
theorem zeB {P:Int→Nat→Bool} {m:Nat} (hm:m<64):(zcE P).testBit m=true↔∃n s,zcW P n s∧s / 60%60=m:=zcM hm
theorem zdm {P:Int→Nat→Bool} {m:Nat} (hm:m<64):(za7 P).testBit m=true↔∃n s,zcW P n s∧s / 3600=m:=zcM hm
theorem zu4 (y m:Int):zbl y m≤zbl 2000 m:=by
 unfold zbl;rw[show zdR 2000=true by decide]
 by_cases c:m<1∨12<m
 ·rw[if_pos c,if_pos c];exact Int.le_refl _
 ·rw[if_neg c,if_neg c]
  by_cases h2:m=2
  ·subst h2;rw[if_pos (show(2:Int)=2∧true=true from⟨rfl,rfl⟩)]
   split<;>decide
  ·rw[if_neg (fun g=>h2 g.1),if_neg (fun g=>h2 g.1)];exact Int.le_refl _
theorem zb9 {n:Int} (h:0≤n) (h1:n<146097):1≤mD n∧mD n≤12∧1≤dD n∧dD n≤zbl 2000 (mD n)∧dD n≤31:=by
 obtain⟨_,m1,m2,d1,d2⟩:=zc1 h h1;have hl:=zb5 (y:=yD n) m1 m2;have:=zu4 (yD n) (mD n);exact⟨m1,m2,d1,by omega,by omega⟩
theorem zmi (P:Int→Nat→Bool):BdM 0 59 (zcE P):=fun k hk hb=>by
 obtain⟨n,s,h,e⟩:=(zeB hk).1 hb;omega
theorem zi3 (P:Int→Nat→Bool):BdM 0 23 (za7 P):=fun k hk hb=>by
 obtain⟨n,s,⟨_,_,h,_⟩,e⟩:=(zdm hk).1 hb;omega
theorem zfv (P:Int→Nat→Bool):BdM 1 12 (zaU P):=fun k hk hb=>by
 obtain⟨n,h,e⟩:=(zeA hk).1 hb;have:=zb9 h.win.1 h.win.2;omega
theorem zj9 (P:Int→Nat→Bool):BdM 1 31 (zbx P):=fun k hk hb=>by
 obtain⟨n,h,e⟩:=(zfu hk).1 hb;have:=zb9 h.win.1 h.win.2;omega
theorem zny (P:Int→Nat→Bool):BdM 1 7 (wkF P):=fun k hk hb=>by
 obtain⟨n,h,e⟩:=(zi2 hk).1 hb;have:=zb8 n;omega
theorem zaX {m k:Nat} (h:m.testBit k=true):m≠0:=by
 rintro rfl;rw[Nat.zero_testBit] at h;cases h
theorem zpy {P:Int→Nat→Bool} (h:zeX P):zcE P≠0∧za7 P≠0∧zaU P≠0∧zbx P≠0∧wkF P≠0:=by
 obtain⟨n,s,hs⟩:=h;have hb:=zb9 hs.1 hs.2.1;have hw:=zb8 n;have hsl:=hs.2.2.1;refine⟨zaX (k:=s / 60%60) ((zeB oQ).2 ⟨n,s,hs,rfl⟩),zaX (k:=s / 3600) ((zdm oQ).2 ⟨n,s,hs,rfl⟩),zaX (k:=(mD n).toNat) ((zeA oQ).2 ⟨n,⟨s,hs⟩,by omega⟩),
  zaX (k:=(dD n).toNat) ((zfu oQ).2 ⟨n,⟨s,hs⟩,by omega⟩),zaX (k:=(wdD n).toNat) ((zi2 oQ).2 ⟨n,⟨s,hs⟩,by omega⟩)⟩
def zdP (m:Nat) (x:Int):Bool:=m.testBit x.toNat
theorem zeS {lo hi m:Nat} (h:BdM lo hi m) (hle:lo≤hi) (h9:hi≤63) (S:Bool) {x:Int} (h0:0≤x) (h1:x<64):inB (zab (lo:Int) (hi:Int) (zaB m) S) (lo:Int) (hi:Int) x=zdP m x:=by
 obtain⟨k,rfl⟩:=wbD h0;rw[zu3 h hle h9];unfold zdP;rw[Int.toNat_natCast];have:k<64:=by omega
 cases m.testBit k<;>simp [this]
theorem zdb {lo hi m j:Nat} (h:BdM lo hi m):BdM lo hi (zdk m j):=fun k hk hb=>by
 rw[zd7 m j k hk,waN] at hb;exact h k hk hb.2
theorem zgj {w:Nat} (h:BdM 1 7 w):BdM 0 6 (zcj w):=fun k hk hb=>by
 rw[zcF w k hk] at hb;split at hb
 ·omega
 ·rw[waN,waM] at hb;have:=h k hk hb.2;omega
theorem zrL {lo hi hi' m:Nat} (h:BdM lo hi m) (hh:hi≤hi'):BdM lo hi' m:=fun k hk hb=>by
 have:=h k hk hb;omega
theorem zu5 {w:Nat} (h:BdM 1 7 w) (hw:w<18446744073709551616) (h0:w≠0):zcj w≠0:=by
 have:∃k,k<64∧w.testBit k=true:=by
  false_or_by_contra
  rename_i hn;refine h0 (Nat.eq_of_testBit_eq fun k=>?_)
  rw[Nat.zero_testBit,Bool.eq_false_iff];intro hb;refine hn ⟨k,?_,hb⟩
  false_or_by_contra
  have h64:w<2^k:=waD hw (Nat.pow_le_pow_right (n:=2) (i:=64) (j:=k) dQ oQ);rw[waX h64] at hb;cases hb
 obtain⟨k,hk,hb⟩:=this;have hk7:=h k hk hb
 by_cases e:k=7
 ·subst e;exact zaX (k:=0) (by rw[zcF w 0 (by decide),if_pos rfl,hb,Bool.or_true])
 ·exact zaX (k:=k) (by rw[zcF w k hk,if_neg (by omega),hb,waP e];rfl)
theorem zs1 {x:Nat→List It} {w:Nat} (hw:BdM 1 7 w) (hx:∀y:Int,0≤y→y≤7→inB (x 4) 0 7 y=zdP (zcj w) y) {y:Int} (h1:1≤y) (h7:y≤7):wkB x y=zdP w y:=by
 have h0:w.testBit 0=false:=by
  cases hb:w.testBit 0 with
  |false=>rfl
  |true=>have:=hw 0 dQ hb;omega
 unfold wkB;rw[hx y (by omega) h7,hx 0 (by decide) (by decide)]
 unfold zdP;obtain⟨k,rfl⟩:=wbD (show 0≤y by omega)
 rw[Int.toNat_natCast,zcF w k (by omega),show(0:Int).toNat=0 from rfl,zcF w 0 (by decide),if_pos rfl,if_neg (by omega),h0,Bool.false_or]
 by_cases e:k=7
 ·subst e;simp
 ·have e2:¬(k:Int)=7:=by omega
  simp[e,e2]
theorem zli {w:Nat} (h:zd8 w=true):∀k,k<7→(zcj w).testBit k=true:=fun k hk=>List.all_eq_true.1 h k (wbG.2 hk)
theorem zpz {mo d:Nat} (hd:BdM 1 12 mo) (h:zrK mo d=true):∀k:Nat,1≤k→(k:Int)≤zcG mo→k≤31→d.testBit k=true:=fun k h1 h2 h3=>by
 have:=List.all_eq_true.1 h k (wbG.2 oQ);rw[waP (show 1≤k∧(k:Int)≤zcG mo from⟨h1,h2⟩)] at this
 simpa using this
section
variable {P : Int → Nat → Bool}
theorem zi4 {n:Int} (h:∃n',zbD P n'∧mD n'=mD n) (h0:0≤n) (h1:n<146097):dD n≤zcG (zaU P):=by
 obtain⟨n',hl,he⟩:=h;have hb:=zb9 h0 h1;have hm:(mD n).toNat∈zar (zaU P):=zaO.2 ⟨by omega,(zeA oQ).2 ⟨n',hl,by omega⟩⟩
 have:=zrJ hm;rw[show (((mD n).toNat:Nat):Int)=mD n by omega] at this
 omega
theorem zrM (hn:zeX P) (hok:za5 (zaU P) (zbx P) (wkF P)=true) {n:Int} (h0:0≤n) (h1:n<146097) (hm:∃n',zbD P n'∧mD n'=mD n):inB (zbE (zaU P) (zbx P) (wkF P)) 1 31 (dD n)=zdP (zbx P) (dD n):=by
 have hb:=zb9 h0 h1;have hd:=zj9 P;unfold zbE;split
 ·rename_i ha;have hlong:=zi4 hm h0 h1;have hbit:=zpz (zfv P) ha (dD n).toNat oQ oQ oQ;rw[zi0 1 31 1 [] (by decide) (by decide) (by decide) (by decide) (by decide)]
  unfold zdP;rw[hbit,waP (by omega)]
  rfl
 ·split
  ·exact zeS hd dQ dQ false oQ oQ
  ·split
   ·rename_i h1';rw[zi0 1 31 31 _ (by decide) (by decide) (by decide) (by decide) (by decide),show inB (zab 1 31 (zaB (zdk (zbx P) 1)) false) 1 31 (dD n)=zdP (zdk (zbx P) 1) (dD n) from zeS (zdb hd) (by decide) (by decide) false (by omega) (by omega)]
    unfold zdP;rw[zd7 _ _ _ (by omega)]
    by_cases e:dD n=1
    ·rw[e,show(1:Int).toNat=1 from rfl,h1'];rfl
    ·rw[waO (show ¬(1≤dD n∧dD n≤31∧(dD n - 1)%31=0) by omega),waP (show(dD n).toNat≠1 by omega)];simp
   ·exact zeS hd dQ dQ false oQ oQ
theorem zpA (hok:za5 (zaU P) (zbx P) (wkF P)=true) {y:Int} (y1:1≤y) (y7:y≤7):wkB (zbK P) y=zdP (wkF P) y:=by
 have hw:=zny P;have hs:=zrL (zgj hw) (show 6≤7 by decide)
 have hsum:∀z:Int,0≤z→z≤7→inB (zab 0 6 (zaB (zcj (wkF P))) false) 0 7 z=zdP (zcj (wkF P)) z:=fun z z0 z7=>by
  rw[zdj 0 6 0 7];exact zeS (lo:=0) (hi:=7) hs dQ dQ false z0 oQ
 have h4:zbK P 4=za0 (zaU P) (zbx P) (wkF P):=rfl
 by_cases he:zd8 (wkF P)=true
 ·have hb:=zli he;have hr:zdP (wkF P) y=true:=by
   unfold zdP
   by_cases e:y=7
   ·have h0:=hb 0 dQ;rw[zcF _ 0 (by decide),if_pos rfl,wbF] at h0
    rcases h0 with h0|h0
    ·have:=hw 0 dQ h0;omega
    ·rw[e];exact h0
   ·have h0:=hb y.toNat oQ;rw[zcF _ _ (by omega),if_neg (by omega),waN] at h0
    exact h0.2
  rw[hr];unfold wkB;rw[h4];unfold za0;rw[if_pos he,zi0 0 7 1 [] (by decide) (by decide) (by decide) (by decide) (by decide),waP (show 0≤y∧y≤7∧(y - 0)%1=0 by omega)]
  rfl
 ·refine zs1 hw (fun z z0 z7=>?_) y1 y7
  rw[h4];unfold za0;rw[if_neg he];split
  ·exact hsum z z0 z7
  ·rename_i ha;split
   ·exact hsum z z0 z7
   ·rename_i hd1;have h0:(zcj (wkF P)).testBit 0=true:=by
     unfold za5 at hok;simp only[wbF] at hok;rcases hok with h|h|h|h
     ·exact absurd h ha
     ·exact absurd h he
     ·exact absurd h hd1
     ·exact h
    rw[zi0 0 7 8 _ (by decide) (by decide) (by decide) (by decide) (by decide),zdj 0 6 0 7,show inB (zab 0 7 (zaB (zdk (zcj (wkF P)) 0)) false) 0 7 z=zdP (zdk (zcj (wkF P)) 0) z from zeS (lo:=0) (hi:=7) (zdb hs) (by decide) (by decide) false z0 (by omega)]
    unfold zdP;rw[zd7 _ _ _ (by omega)]
    by_cases e:z=0
    ·rw[e,show(0:Int).toNat=0 from rfl,h0];rfl
    ·rw[waO (show ¬(0≤z∧z≤7∧(z - 0)%8=0) by omega),waP (show z.toNat≠0 by omega)];simp
theorem zpB (hok:za5 (zaU P) (zbx P) (wkF P)=true):(zbv (zbK P 2)||zbv (zbK P 4))=true:=by
 show(zbv (zbE (zaU P) (zbx P) (wkF P))||zbv (za0 (zaU P) (zbx P) (wkF P)))=true
 unfold za5 at hok;unfold zbE za0
 by_cases ha:zrK (zaU P) (zbx P)=true
 ·rw[if_pos ha];rfl
 ·by_cases he:zd8 (wkF P)=true
  ·rw[if_pos (c:=zd8 (wkF P)=true) he,if_pos (c:=zd8 (wkF P)=true) he,wbF];exact .inr rfl
  ·by_cases hd:(zbx P).testBit 1=true
   ·rw[if_neg ha,if_neg he,if_pos hd];rfl
   ·rw[wbF];refine .inr ?_;rw[if_neg he,if_neg ha,if_neg hd];rfl
theorem zmj (day week:List It) {n:Int} {s:Nat} (h0:0≤n) (h1:n<146097) (hs:s<86400):
 inB (zc4 (zcE P) (za7 P) (zaU P) day week 0) 0 59 ((s / 60%60:Nat):Int)=(zcE P).testBit (s / 60%60)∧inB (zc4 (zcE P) (za7 P) (zaU P) day week 1) 0 23 ((s / 3600:Nat):Int)=(za7 P).testBit (s / 3600)∧inB (zc4 (zcE P) (za7 P) (zaU P) day week 3) 1 12 (mD n)=zdP (zaU P) (mD n):=by
 have hb:=zb9 h0 h1;refine⟨?_,?_,?_⟩
 ·have:=zeS (lo:=0) (hi:=59) (zmi P) dQ dQ true (x:=((s / 60%60:Nat):Int)) oQ oQ;unfold zdP at this
  rwa [Int.toNat_natCast] at this
 ·have:=zeS (lo:=0) (hi:=23) (zi3 P) dQ dQ true (x:=((s / 3600:Nat):Int)) oQ oQ;unfold zdP at this
  rwa [Int.toNat_natCast] at this
 ·exact zeS (lo:=1) (hi:=12) (zfv P) dQ dQ true oQ oQ
theorem zi5 {n:Int} (h0:0≤n) (h1:n<146097):zdP (zaU P) (mD n)=true↔∃n',zbD P n'∧mD n'=mD n:=by
 have hb:=zb9 h0 h1;unfold zdP;rw[zeA (by omega),show(((mD n).toNat:Nat):Int)=mD n by omega]
theorem zpC (hn:zeX P) (hok:za5 (zaU P) (zbx P) (wkF P)=true) {n:Int} {s:Nat} (h0:0≤n) (h1:n<146097) (hs:s<86400):
 zeY (zbK P) n s=(decide (s%60=0)&&((zcE P).testBit (s / 60%60)&&((za7 P).testBit (s / 3600)&&(zdP (zaU P) (mD n)&&(zdP (zbx P) (dD n)&&zdP (wkF P) (wdD n)))))):=by
 rw[zdl _ h0 h1 hs,zpB hok,if_pos rfl];have hw:=zb8 n;rw[zpA hok hw.1 hw.2];obtain⟨e1,e2,e3⟩:=zmj (P:=P) (zbE (zaU P) (zbx P) (wkF P)) (za0 (zaU P) (zbx P) (wkF P)) h0 h1 hs;unfold zbK;rw[e1,e2,e3];cases hm:zdP (zaU P) (mD n) with
 |false=>simp
 |true=>
  have:=zrM hn hok h0 h1 ((zi5 h0 h1).1 hm);rw[←this];rfl
theorem zhQ (D W:Nat) (hD:BdM 1 31 D) (hW:BdM 1 7 W) {n:Int} {s:Nat} (h0:0≤n) (h1:n<146097) (hs:s<86400):
 zeY (zc4 (zcE P) (za7 P) (zaU P) (zab 1 31 (zaB D) false) (zab 0 6 (zaB (zcj W)) false)) n s=(decide (s%60=0)&&((zcE P).testBit (s / 60%60)&&((za7 P).testBit (s / 3600)&&(zdP (zaU P) (mD n)&&(zdP D (dD n)||zdP W (wdD n)))))):=by
 have hb:=zb9 h0 h1;have hw:=zb8 n;have hs7:=zrL (zgj hW) (show 6≤7 by decide)
 obtain⟨e1,e2,e3⟩:=zmj (P:=P) (zab 1 31 (zaB D) false) (zab 0 6 (zaB (zcj W)) false) h0 h1 hs;have e4:(zbv (zc4 (zcE P) (za7 P) (zaU P) (zab 1 31 (zaB D) false) (zab 0 6 (zaB (zcj W)) false) 2)||zbv (zc4 (zcE P) (za7 P) (zaU P) (zab 1 31 (zaB D) false) (zab 0 6 (zaB (zcj W)) false) 4))=false:=by
  show(zbv (zab 1 31 (zaB D) false)||zbv (zab 0 6 (zaB (zcj W)) false))=false
  rw[zge,zge];rfl
 have e5:wkB (zc4 (zcE P) (za7 P) (zaU P) (zab 1 31 (zaB D) false) (zab 0 6 (zaB (zcj W)) false)) (wdD n)=zdP W (wdD n):=by
  refine zs1 hW (fun z z0 z7=>?_) hw.1 hw.2
  show inB (zab 0 6 (zaB (zcj W)) false) 0 7 z=_;rw[zdj 0 6 0 7];exact zeS (lo:=0) (hi:=7) hs7 dQ dQ false z0 oQ
 rw[zdl _ h0 h1 hs,e4,if_neg (by decide),e1,e2,e3,e5]
 have e6:inB (zab 1 31 (zaB D) false) 1 31 (dD n)=zdP D (dD n):=zeS (lo:=1) (hi:=31) hD dQ dQ false oQ oQ;rw[←e6];rfl
theorem zg6 (hn:zeX P) (day week:List It) (hd:zaI 2 day=0) (hw:zaI 4 week=0):chk (zc4 (zcE P) (za7 P) (zaU P) day week)=(5,0):=by
 obtain⟨f1,f2,f3,f4,f5⟩:=zpy hn;refine ziy fun j hj=>?_
 obtain rfl|rfl|rfl|rfl|rfl:j=0∨j=1∨j=2∨j=3∨j=4:=by omega
 ·exact zcL (lo:=0) (hi:=59) dQ (zmi P) dQ dQ rfl rfl (zbL _) f1 true
 ·exact zcL (lo:=0) (hi:=23) dQ (zi3 P) dQ dQ rfl rfl (zbL _) f2 true
 ·exact hd
 ·exact zcL (lo:=1) (hi:=12) dQ (zfv P) dQ dQ rfl rfl (zbL _) f3 true
 ·exact hw
theorem zg7 {D:Nat} (hD:BdM 1 31 D) (hl:D<18446744073709551616) (h0:D≠0):zaI 2 (zab 1 31 (zaB D) false)=0:=
 zcL (lo:=1) (hi:=31) dQ hD dQ dQ rfl rfl hl h0 false
theorem zfX {W:Nat} (hW:BdM 1 7 W) (hl:W<18446744073709551616) (h0:W≠0):zaI 4 (zab 0 6 (zaB (zcj W)) false)=0:=by
 rw[zdj 0 6 0 7];exact zcL (lo:=0) (hi:=7) dQ (zrL (zgj hW) dQ) dQ dQ rfl rfl (zfW _) (zu5 hW hl h0) false
theorem zaP {lo hi m:Nat} (h:BdM lo hi m) (hle:lo≤hi) (h9:hi≤62) (S:Bool):(zab (lo:Int) (hi:Int) (zaB m) S).length≤63:=by
 have h1:=(zjK (h.numb hle oQ) S).2;have h2:(zaB m).length≤63:=by
  unfold zaB;rw[List.length_map];have h63:m.testBit 63=false:=by
   cases hb:m.testBit 63 with
   |false=>rfl
   |true=>have:=h 63 dQ hb;omega
  unfold zar;rw[show (64:Nat)=63+1 from rfl,List.range_succ,List.filter_append]
  have e:([63].filter fun i=>m.testBit i)=[]:=by simp[h63]
  rw[e,List.append_nil];have:=List.length_filter_le (fun i=>m.testBit i) (List.range 63)
  rwa [List.length_range] at this
 omega
theorem zmk (hn:zeX P) (hok:za5 (zaU P) (zbx P) (wkF P)=true):chk (zbK P)=(5,0):=by
 obtain⟨f1,f2,f3,f4,f5⟩:=zpy hn;have hd:=zj9 P;have hw:=zny P;have hs7:=zrL (zgj hw) (show 6≤7 by decide)
 refine zg6 hn _ _ ?_ ?_
 ·unfold zbE;split
  ·exact zez (k:=2) dQ dQ dQ dQ (fun i hi=>by cases hi)
  ·split
   ·exact zg7 hd (zbL _) f4
   ·split
    ·refine zez (k:=2) dQ dQ dQ (zaP (lo:=1) (hi:=31) (zdb hd) dQ dQ false) fun i hi=>?_
     exact zgQ ((zdb hd).numb dQ dQ) false i hi
    ·exact zg7 hd (zbL _) f4
 ·unfold za0;split
  ·exact zez (k:=4) dQ dQ dQ dQ (fun i hi=>by cases hi)
  ·split
   ·exact zfX hw (zbL _) f5
   ·split
    ·exact zfX hw (zbL _) f5
    ·rw[zdj 0 6 0 7];refine zez (k:=4) dQ dQ dQ (zaP (lo:=0) (hi:=7) (zdb hs7) dQ dQ false) fun i hi=>?_
     exact zgQ ((zdb hs7).numb dQ dQ) false i hi
structure ProdP (P:Int→Nat→Bool) (M D W:Int→Bool) (Mi Ho:Nat→Bool):Prop where
 eq:∀n s,0≤n→n<146097→s<86400→P n s=(decide (s%60=0)&&(Mi (s / 60%60)&&(Ho (s / 3600)&&(M (mD n)&&(D (dD n)&&W (wdD n))))))
theorem ProdP.live {M D W:Int→Bool} {Mi Ho:Nat→Bool} (h:ProdP P M D W Mi Ho) {n:Int} {s:Nat} (hl:zcW P n s):s%60=0∧Mi (s / 60%60)=true∧Ho (s / 3600)=true∧M (mD n)=true∧D (dD n)=true∧W (wdD n)=true:=by
 obtain⟨a,b,c,d⟩:=hl;rw[h.eq n s a b c] at d;simpa only[waN,waM] using d
theorem ztO {n:Int} (h0:0≤n) (h1:n<146097):zdP (zbx P) (dD n)=true↔∃n',zbD P n'∧dD n'=dD n:=by
 have hb:=zb9 h0 h1;unfold zdP;rw[zfu (by omega),show(((dD n).toNat:Nat):Int)=dD n by omega]
theorem zu6 (n:Int):zdP (wkF P) (wdD n)=true↔∃n',zbD P n'∧wdD n'=wdD n:=by
 have hb:=zb8 n;unfold zdP;rw[zi2 (by omega),show(((wdD n).toNat:Nat):Int)=wdD n by omega]
theorem zfY {M D W:Int→Bool} {Mi Ho:Nat→Bool} (h:ProdP P M D W Mi Ho) (hn:zeX P) (hok:za5 (zaU P) (zbx P) (wkF P)=true):zdS (zbK P) P:=by
 refine⟨zmk hn hok,fun n s h0 h1 hs=>?_⟩
 rw[zpC hn hok h0 h1 hs,waQ];simp only[waN,waM,zi5 h0 h1,ztO h0 h1,zu6];constructor
 ·rintro ⟨e0,e1,e2,⟨n3,⟨s3,l3⟩,e3⟩,⟨n4,⟨s4,l4⟩,e4⟩,⟨n5,⟨s5,l5⟩,e5⟩⟩;obtain⟨n1,s1,l1,e1⟩:=(zeB oQ).1 e1;obtain⟨n2,s2,l2,e2⟩:=(zdm oQ).1 e2;have a1:=(h.live l1).2.1;have a2:=(h.live l2).2.2.1;have a3:=(h.live l3).2.2.2.1;have a4:=(h.live l4).2.2.2.2.1;have a5:=(h.live l5).2.2.2.2.2;rw[e1] at a1;rw[e2] at a2;rw[e3] at a3;rw[e4] at a4;rw[e5] at a5;rw[h.eq n s h0 h1 hs,a1,a2,a3,a4,a5,waP e0];rfl
 ·intro hp;have hl:zcW P n s:=⟨h0,h1,hs,hp⟩;exact⟨(h.live hl).1,(zeB oQ).2 ⟨n,s,hl,rfl⟩,(zdm oQ).2 ⟨n,s,hl,rfl⟩,⟨n,⟨s,hl⟩,rfl⟩,⟨n,⟨s,hl⟩,rfl⟩,⟨n,⟨s,hl⟩,rfl⟩⟩
end
section
variable {P : Int → Nat → Bool}
theorem zlj (P:Int→Nat→Bool):BdM 1 31 (domW P):=fun k hk hb=>by
 obtain⟨⟨n,h0,h1,_,e⟩,_⟩:=(zcM hk).1 hb;have:=zb9 h0 h1;omega
theorem zpD (P:Int→Nat→Bool):BdM 1 7 (wkW P):=fun k hk hb=>by
 obtain⟨h,_⟩:=(zcM hk).1 hb;exact h
structure EithP (P:Int→Nat→Bool) (M D W:Int→Bool) (Mi Ho:Nat→Bool):Prop where
 eq:∀n s,0≤n→n<146097→s<86400→P n s=(decide (s%60=0)&&(Mi (s / 60%60)&&(Ho (s / 3600)&&(M (mD n)&&(D (dD n)||W (wdD n))))))
 wk:∃w,1≤w∧w≤7∧W w=true
theorem EithP.live {M D W:Int→Bool} {Mi Ho:Nat→Bool} (h:EithP P M D W Mi Ho) {n:Int} {s:Nat} (hl:zcW P n s):s%60=0∧Mi (s / 60%60)=true∧Ho (s / 3600)=true∧M (mD n)=true∧(D (dD n)=true∨W (wdD n)=true):=by
 obtain⟨a,b,c,d⟩:=hl;rw[h.eq n s a b c] at d;simpa only[waN,wbF,waM] using d
theorem EithP.day {M D W:Int→Bool} {Mi Ho:Nat→Bool} (h:EithP P M D W Mi Ho) (hn:zeX P) {n:Int} (h0:0≤n) (h1:n<146097) (hm:∃n',zbD P n'∧mD n'=mD n) (hd:D (dD n)=true∨W (wdD n)=true):zbD P n:=by
 obtain⟨n',⟨s,hl⟩,e⟩:=hm;obtain⟨a1,a2,a3,a4,_⟩:=h.live hl;rw[e] at a4;refine⟨s,h0,h1,hl.2.2.1,?_⟩;rw[h.eq n s h0 h1 hl.2.2.1,a2,a3,a4,waP a1];simp[hd]
theorem EithP.wkW {M D W:Int→Bool} {Mi Ho:Nat→Bool} (h:EithP P M D W Mi Ho) (hn:zeX P) {w:Int} (w1:1≤w) (w7:w≤7) (hw:W w=true):zdP (wkW P) w=true:=by
 unfold zdP;refine(zcM oQ).2 ⟨by omega,fun n h0 h1 hm e=>h.day hn h0 h1 hm (.inr ?_)⟩
 rw[e,show((w.toNat:Nat):Int)=w by omega];exact hw
theorem EithP.domW {M D W:Int→Bool} {Mi Ho:Nat→Bool} (h:EithP P M D W Mi Ho) (hn:zeX P) {d:Int} (d1:1≤d) (d2:d≤zcG (zaU P)) (hd:D d=true):zdP (domW P) d=true:=by
 obtain⟨m,hm,hl⟩:=zi1 d1 d2;obtain⟨hm64,hmb⟩:=zaO.1 hm;have hbm:=zfv P m hm64 hmb;have hle:=(zb5 (y:=2000) (m:=(m:Int)) oQ oQ).2;obtain⟨n,h0,h1,e1,e2,e3⟩:=zgw (m:=(m:Int)) (d:=d) (w:=1) oQ oQ d1 hl dQ dQ;unfold zdP;refine(zcM oQ).2 ⟨⟨n,h0,h1,?_,by omega⟩,fun n h0 h1 hm e=>h.day hn h0 h1 hm (.inl ?_)⟩
 ·obtain⟨n',hl',e'⟩:=(zeA hm64).1 hmb;exact⟨n',hl',by rw[e',e1]⟩
 ·rw[e,show((d.toNat:Nat):Int)=d by omega];exact hd
theorem zka {M D W:Int→Bool} {Mi Ho:Nat→Bool} (h:EithP P M D W Mi Ho) (hn:zeX P) (hd:domW P≠0):wkW P≠0∧zdS (zbF P) P:=by
 obtain⟨w,w1,w7,hw⟩:=h.wk;have hwne:wkW P≠0:=zaX (h.wkW hn w1 w7 hw);refine⟨hwne,zg6 hn _ _ (zg7 (zlj P) (zbL _) hd) (zfX (zpD P) (zbL _) hwne),fun n s h0 h1 hs=>?_⟩
 have hb:=zb9 h0 h1;have hwb:=zb8 n;unfold zbF;rw[zhQ _ _ (zlj P) (zpD P) h0 h1 hs,waQ];simp only[waN,wbF,waM,zi5 h0 h1];constructor
 ·rintro ⟨e0,e1,e2,hm,e3⟩;obtain⟨n1,s1,l1,e1⟩:=(zeB oQ).1 e1;obtain⟨n2,s2,l2,e2⟩:=(zdm oQ).1 e2;have a1:=(h.live l1).2.1;have a2:=(h.live l2).2.2.1;rw[e1] at a1;rw[e2] at a2;have hl:zbD P n:=by
   unfold zdP at e3;rcases e3 with e3|e3
   ·exact((zcM oQ).1 e3).2 n h0 h1 hm oQ
   ·exact((zcM oQ).1 e3).2 n h0 h1 hm oQ
  obtain⟨s',hl'⟩:=hl;obtain⟨_,_,_,a4,a5⟩:=h.live hl';rw[h.eq n s h0 h1 hs,a1,a2,a4,waP e0];simp[a5]
 ·intro hp;have hl:zcW P n s:=⟨h0,h1,hs,hp⟩;obtain⟨a0,a1,a2,a3,a4⟩:=h.live hl;refine⟨a0,(zeB oQ).2 ⟨n,s,hl,rfl⟩,(zdm oQ).2 ⟨n,s,hl,rfl⟩,⟨n,⟨s,hl⟩,rfl⟩,?_⟩;rcases a4 with a4|a4
  ·exact .inl (h.domW hn hb.2.2.1 (zi4 ⟨n,⟨s,hl⟩,rfl⟩ h0 h1) a4)
  ·exact .inr (h.wkW hn hwb.1 hwb.2 a4)
theorem zpE {M D W:Int→Bool} {Mi Ho:Nat→Bool} (h:EithP P M D W Mi Ho) (hn:zeX P) (hd:∀d,1≤d→d≤zcG (zaU P)→D d=false):ProdP P M (fun _=>true) W Mi Ho∧za5 (zaU P) (zbx P) (wkF P)=true:=by
 refine⟨⟨fun n s h0 h1 hs=>?_⟩,?_⟩
 ·have hb:=zb9 h0 h1;rw[h.eq n s h0 h1 hs];cases hD:D (dD n) with
  |false=>rfl
  |true=>
   cases hx:(decide (s%60=0)&&(Mi (s / 60%60)&&(Ho (s / 3600)&&M (mD n)))) with
   |false=>
    have e:∀b:Bool,(decide (s%60=0)&&(Mi (s / 60%60)&&(Ho (s / 3600)&&(M (mD n)&&b))))=((decide (s%60=0)&&(Mi (s / 60%60)&&(Ho (s / 3600)&&M (mD n))))&&b):=fun b=>by simp only[Bool.and_assoc]
    rw[e,e,hx];rfl
   |true=>
    have hl:zcW P n s:=⟨h0,h1,hs,by
     rw[h.eq n s h0 h1 hs,hD];simpa only[Bool.true_or,Bool.and_true] using hx⟩
    have:=hd (dD n) hb.2.2.1 (zi4 ⟨n,⟨s,hl⟩,rfl⟩ h0 h1);rw[hD] at this;cases this
 ·have ha:zrK (zaU P) (zbx P)=true:=by
   refine List.all_eq_true.2 fun k hk=>?_
   have hk:=wbG.1 hk
   by_cases hc:1≤k∧(k:Int)≤zcG (zaU P)
   ·rw[waP hc];obtain⟨m,hm,hl⟩:=zi1 (d:=(k:Int)) oQ hc.2;obtain⟨hm64,hmb⟩:=zaO.1 hm;have hbm:=zfv P m hm64 hmb;obtain⟨w,w1,w7,hw⟩:=h.wk;obtain⟨n,h0,h1,e1,e2,e3⟩:=zgw (m:=(m:Int)) (d:=(k:Int)) (w:=w) oQ oQ oQ hl w1 w7;obtain⟨n',hl',e'⟩:=(zeA hm64).1 hmb;have:=(zfu (P:=P) (show k<64 by omega)).2 ⟨n,h.day hn h0 h1 ⟨n',hl',by rw[e',e1]⟩ (.inr (by rw[e3];exact hw)),e2⟩
    rw[this];rfl
   ·rw[waO hc];rfl
  unfold za5;rw[ha];rfl
theorem ztP {M D W:Int→Bool} {Mi Ho:Nat→Bool} (h:ProdP P M D W Mi Ho) (hn:zeX P) (hd:D 1=true∨W 7=true):za5 (zaU P) (zbx P) (wkF P)=true:=by
 obtain⟨n,s,hl⟩:=hn;obtain⟨a0,a1,a2,a3,a4,a5⟩:=h.live hl;have hb:=zb9 hl.1 hl.2.1;have hw:=zb8 n;unfold za5;rcases hd with hd|hd
 ·obtain⟨n',h0,h1,e1,e2,e3⟩:=zgw (m:=mD n) (d:=1) (w:=wdD n) oQ oQ dQ oQ hw.1 hw.2;have:zbD P n':=⟨s,h0,h1,hl.2.2.1,by rw[h.eq n' s h0 h1 hl.2.2.1,e1,e2,e3,a1,a2,a3,a5,hd,waP a0];rfl⟩
  rw[(zfu (P:=P) (m:=1) (by decide)).2 ⟨n',this,e2⟩]
  simp
 ·obtain⟨n',h0,h1,e1,e2,e3⟩:=zgw (m:=mD n) (d:=dD n) (w:=7) oQ oQ oQ oQ dQ dQ;have:zbD P n':=⟨s,h0,h1,hl.2.2.1,by rw[h.eq n' s h0 h1 hl.2.2.1,e1,e2,e3,a1,a2,a3,a4,hd,waP a0];rfl⟩
  have h7:=(zi2 (P:=P) (m:=7) dQ).2 ⟨n',this,e3⟩;rw[zcF _ 0 (by decide),if_pos rfl,h7]
  simp
end
theorem znz {P:Int→Nat→Bool} (hn:¬zeX P):zdS zj8 P:=by
 refine⟨by decide+kernel,fun n s h0 h1 hs=>?_⟩
 have hb:=zb9 h0 h1;have hp:P n s=false:=by
  rw[Bool.eq_false_iff];exact fun h=>hn ⟨n,s,h0,h1,hs,h⟩
 rw[hp,zdl _ h0 h1 hs,show(zbv (zj8 2)||zbv (zj8 4))=true from rfl,if_pos rfl]
 have e1:inB (zj8 3) 1 12 (mD n)=decide (mD n=2):=by
  show([(⟨1,2,0,0⟩:It)].any (zeM 1 12 (mD n)))=_;rw[List.any_cons,List.any_nil,Bool.or_false];unfold zeM zoH;rw[show zbq ⟨1,2,0,0⟩ 1 12=true from by decide+kernel,Bool.true_and,wbH]
  simp only[bF,bT,bS];simp;omega
 have e2:inB (zj8 2) 1 31 (dD n)=decide (dD n=30):=by
  show([(⟨1,30,0,0⟩:It)].any (zeM 1 31 (dD n)))=_;rw[List.any_cons,List.any_nil,Bool.or_false];unfold zeM zoH;rw[show zbq ⟨1,30,0,0⟩ 1 31=true from by decide+kernel,Bool.true_and,wbH]
  simp only[bF,bT,bS];simp;omega
 rw[e1,e2]
 by_cases hm:mD n=2
 ·rw[hm] at hb;have h29:zbl 2000 2=29:=by decide
  rw[waO (show ¬dD n=30 by omega)]
  simp
 ·rw[waO hm];simp
theorem zpF (l:Nat→List It) (hs:(zbv (l 2)||zbv (l 4))=true):ProdP (zeY l) (fun m=>inB (l 3) 1 12 m) (fun d=>inB (l 2) 1 31 d) (wkB l) (fun m=>inB (l 0) 0 59 (m:Int)) (fun h=>inB (l 1) 0 23 (h:Int)):=⟨fun n s h0 h1 h2=>by
 rw[zdl l h0 h1 h2,hs,if_pos rfl]⟩
theorem zpG (l:Nat→List It) (hs:(zbv (l 2)||zbv (l 4))=false) (hf:zaI 4 (l 4)=0):EithP (zeY l) (fun m=>inB (l 3) 1 12 m) (fun d=>inB (l 2) 1 31 d) (wkB l) (fun m=>inB (l 0) 0 59 (m:Int)) (fun h=>inB (l 1) 0 23 (h:Int)):=⟨fun n s h0 h1 h2=>by
 rw[zdl l h0 h1 h2,hs,if_neg (by decide)],by
 rw[Bool.or_eq_false_iff] at hs;obtain⟨_,h4⟩:=hs;unfold zaI at hf;split at hf
 ·cases hf
 ·split at hf
  ·cases hf
  ·split at hf
   ·cases hf
   ·rename_i hl _ ha;cases hl4:l 4 with
    |nil=>rw [hl4] at hl;exact absurd rfl hl
    |cons i r=>
     rw[hl4] at ha h4;have hi:=List.any_eq_false.1 (Bool.eq_false_iff.2 ha) i (by simp)
     simp only[wbF,not_or,Bool.not_eq_true,wbE,Bool.not_eq_false',Bool.not_eq_eq_eq_not] at hi;obtain⟨h3,hm⟩:=hi;have hm:zbq i (cLo 4) (cHi 4)=true:=by simpa using hm
     have hm:zbq i 0 7=true:=hm;have hk0:¬i.k=0:=of_decide_eq_false h4;obtain⟨_,_,_,hc⟩:=waA hm;have hf:0≤i.f∧i.f≤7:=by
      rcases hc with h|h|h|h<;>omega
     have hin:inB (l 4) 0 7 i.f=true:=by
      unfold inB;rw[hl4,List.any_cons,wbF];refine .inl ?_;unfold zeM zoH;rw[hm,Bool.true_and,waM];simp only[bF,bT,bS,if_neg hk0];refine⟨Int.le_refl _,?_,by simp⟩
      rcases hc with h|h|h|h
      ·exact absurd h.1 hk0
      ·rw[if_pos h.1];exact Int.le_refl _
      ·rw[if_neg (by omega),if_pos h.1];omega
      ·exact absurd h.1 h3
     by_cases h0:i.f=0
     ·refine⟨7,by decide,by decide,?_⟩
      rw[h0] at hin;unfold wkB;rw[hin];simp
     ·refine⟨i.f,by omega,by omega,?_⟩
      unfold wkB;rw[hin];rfl⟩
theorem zib {l:List It} {lo hi:Int} (h:zbv l=true) (hf:∀i∈l,zbq i lo hi=true):inB l lo hi lo=true:=by
 cases l with
 |nil=>cases h
 |cons i r=>
  have hk:i.k=0:=waA h;have hm:=hf i (by simp)
  obtain⟨a,b,c,hc⟩:=waA hm;unfold inB;rw[List.any_cons,wbF];refine .inl ?_;unfold zeM zoH;rw[hm,Bool.true_and,waM];simp only[bF,bT,bS,if_pos hk];refine⟨Int.le_refl _,?_,by simp⟩
  rw[if_neg (by omega),if_neg (by omega)]
  exact b
theorem zic {k:Nat} {l:List It} (h:zaI k l=0):∀i∈l,zbq i (cLo k) (cHi k)=true:=by
 unfold zaI at h;split at h
 ·cases h
 ·split at h
  ·cases h
  ·split at h
   ·cases h
   ·rename_i ha;intro i hi;have:=List.any_eq_false.1 (Bool.eq_false_iff.2 ha) i hi;simp only[wbF,not_or,Bool.not_eq_true] at this;simpa using this.2
theorem zpH {l:Nat→List It} (hf:∀k,k<5→zaI k (l k)=0) {P:Int→Nat→Bool} (hP:zdF (zeY l) P) {r:Option (Nat→List It)} (hr:Rais P r):∃x,r=some x∧zdS x P:=by
 have hr':=hr.congr hP.symm
 suffices h:∃x,r=some x∧zdS x (zeY l) by
  obtain⟨x,e,hc,hm⟩:=h;exact⟨x,e,hc,hm.trans hP⟩
 cases hr' with
 |empty h=>exact⟨_,rfl,znz h⟩
 |both h1 h2 h3=>exact⟨_,rfl,h3⟩
 |either h1 h2 h3 h4 h5=>exact⟨_,rfl,h5⟩
 |none hn h2 h3=>
  exfalso;cases hs:(zbv (l 2)||zbv (l 4)) with
  |true=>
   have hp:=zpF l hs;have hok:=ztP hp hn (by
    rw[wbF] at hs;rcases hs with hs|hs
    ·exact .inl (zib hs (zic (hf 2 (by decide))))
    ·refine .inr ?_;have h0:inB (l 4) 0 7 0=true:=zib hs (zic (hf 4 (by decide)))
     unfold wkB;rw[h0];simp)
   exact h2 ⟨hok,zfY hp hn hok⟩
  |false=>
   have he:=zpG l hs (hf 4 dQ)
   by_cases hd:∃d,1≤d∧d≤zcG (zaU (zeY l))∧inB (l 2) 1 31 d=true
   ·obtain⟨d,d1,d2,hd⟩:=hd;have hD:domW (zeY l)≠0:=zaX (he.domW hn d1 d2 hd);obtain⟨hw,hm⟩:=zka he hn hD;exact h3 ⟨hD,hw,hm⟩
   ·obtain⟨hp,hok⟩:=zpE he hn (fun d d1 d2=>by
     rw[Bool.eq_false_iff];exact fun h=>hd ⟨d,d1,d2,h⟩)
    exact h2 ⟨hok,zfY hp hn hok⟩
def zcN (P:Int→Nat→Bool):Prop:=∀n s,0≤n→n<146097→s<86400→P n s=decide (s%60=0)
section
variable {P : Int → Nat → Bool}
theorem zkb {Q:Nat→Prop} {c:Nat} (hc:c<18446744073709551616) (h:∀k,k<64→(Q k↔c.testBit k=true)):mOf Q=c:=by
 refine Nat.eq_of_testBit_eq fun k=>?_
 rw[waQ,zfT]
 by_cases hk:k<64
 ·rw[←h k hk];exact⟨fun g=>g.2,fun g=>⟨hk,g⟩⟩
 ·rw[waX (waD (show c<2^64 from hc) (Nat.pow_le_pow_right (by decide) (by omega)))]
  exact⟨fun g=>absurd g.1 hk,fun g=>by cases g⟩
theorem zlk (h:zcN P) {n:Int} {s:Nat} (h0:0≤n) (h1:n<146097) (hs:s<86400) (hm:s%60=0):zcW P n s:=⟨h0,h1,hs,by rw[h n s h0 h1 hs,waP hm]⟩
theorem zkc (h:zcN P) {n:Int} (h0:0≤n) (h1:n<146097):zbD P n:=⟨0,zlk h h0 h1 dQ rfl⟩
theorem zu7 (h:zcN P):zcE P=1152921504606846975:=zkb dQ fun k hk=>by
 rw[show (1152921504606846975:Nat)=2^60 - 1 from rfl,Nat.testBit_two_pow_sub_one,waM]
 constructor
 ·rintro ⟨n,s,_,e⟩;omega
 ·intro g;exact⟨0,60 * k,zlk h dQ dQ oQ oQ,by omega⟩
theorem ztQ (h:zcN P):za7 P=16777215:=zkb dQ fun k hk=>by
 rw[show (16777215:Nat)=2^24 - 1 from rfl,Nat.testBit_two_pow_sub_one,waM]
 constructor
 ·rintro ⟨n,s,g,e⟩;have:=g.2.2.1;omega
 ·intro g;exact⟨0,3600 * k,zlk h dQ dQ oQ oQ,by omega⟩
theorem zs2 (h:zcN P):zaU P=8190:=zkb dQ fun k hk=>by
 have hb:∀k,k<64→((8190:Nat).testBit k=decide (1≤k∧k≤12)):=by decide
 rw[hb k hk,waM];constructor
 ·rintro ⟨n,⟨s,g⟩,e⟩;have:=za6 g.1 g.2.1;omega
 ·intro g;have hd:∀k:Nat,k<13→1≤k→mD (30 * (k:Int) - 15)=(k:Int):=by decide+kernel
  exact⟨30 * (k:Int) - 15,zkc h oQ oQ,hd k oQ g.1⟩
theorem zs3 (h:zcN P):zbx P=4294967294:=zkb dQ fun k hk=>by
 have hb:∀k,k<64→((4294967294:Nat).testBit k=decide (1≤k∧k≤31)):=by decide
 rw[hb k hk,waM];constructor
 ·rintro ⟨n,⟨s,g⟩,e⟩;have:=za6 g.1 g.2.1;omega
 ·intro g;have hd:∀k:Nat,k<32→1≤k→dD ((k:Int) - 1)=(k:Int):=by decide+kernel
  exact⟨(k:Int) - 1,zkc h oQ oQ,hd k oQ g.1⟩
theorem zu8 (h:zcN P):wkF P=254:=zkb dQ fun k hk=>by
 have hb:∀k,k<64→((254:Nat).testBit k=decide (1≤k∧k≤7)):=by decide
 rw[hb k hk,waM];constructor
 ·rintro ⟨n,⟨s,g⟩,e⟩;have:=zb8 n;omega
 ·intro g;have hd:∀k:Nat,k<8→1≤k→∃n:Nat,n<7∧wdD (n:Int)=(k:Int):=by decide+kernel
  obtain⟨n,h7,e⟩:=hd k oQ g.1;exact⟨n,zkc h oQ oQ,e⟩
theorem ztR (h:zcN P):za5 (zaU P) (zbx P) (wkF P)=true:=by
 rw[zs2 h,zs3 h,zu8 h];decide+kernel
theorem zpI (h:zcN P) {r:Option (Nat→List It)} (hr:Rais P r):r=some (zbK P):=by
 have hp:ProdP P (fun _=>true) (fun _=>true) (fun _=>true) (fun _=>true) (fun _=>true):=⟨fun n s h0 h1 hs=>by rw[h n s h0 h1 hs];simp⟩
 have ha:zeX P:=⟨0,zkc h dQ dQ⟩;exact hr.det (.both ha (ztR h) (zfY hp ha (ztR h)))
theorem zml (h:zcN P):∀k,k<5→zbK P k=[⟨0,0,0,1⟩]:=by
 unfold zbK;rw[zs2 h,zs3 h,zu8 h,zu7 h,ztQ h];decide+kernel
end
end Go.Proofs.YtgedndlifiihkaaGreatDoor
namespace Go.Proofs.YtgedndlifiihkaaGreatDoor
open Go.Proofs.Tryz
open Go.RowKit
open Go.Proofs.YtgedndlifiihkaaGreatDoor
theorem ztS {n:Int} (h:-9223372036854775808≤n∧n≤9223372036854775807):(Lib.itoa n).length≤21:=Lib.itoa_length_le n h.1 h.2
def stT (s:Int):List UInt8:=if s=1 then [] else 47::Lib.itoa s
def zg8 (i:It):List UInt8:=if i.k=0 then 42::stT i.s else if i.k=1 then Lib.itoa i.f else if i.k=2 then Lib.itoa i.f++45::(Lib.itoa i.t++stT i.s) else []
def zdn (l:List It):List UInt8:=Lib.join (l.map zg8) [44]
def zkd (r:List (List It)):List UInt8:=Lib.join (r.map zdn) [32]
theorem zmm (l:List (List UInt8)) (sep:List UInt8) (n:Nat) (h:∀x∈l,x.length≤n):(Lib.join l sep).length≤l.length * (n+sep.length):=by
 cases l with
 |nil=>simp [Lib.join,List.intercalate]
 |cons a l=>
  rw[Lib.join_cons];have ha:=h a (by simp)
  have:(Lib.joinTail sep l).length≤l.length * (n+sep.length):=by
   have hl:∀x∈l,x.length≤n:=fun x hx=>h x (List.mem_cons_of_mem _ hx)
   clear h;unfold Lib.joinTail;induction l with
   |nil=>simp
   |cons b l ih=>
    have:=ih (fun x hx=>hl x (List.mem_cons_of_mem _ hx))
    have hb:=hl b (by simp)
    simp only[List.map_cons,List.flatten_cons,waF,waG,Nat.succ_mul];omega
  simp only[waF,waG,Nat.succ_mul];omega
def zd9 (l:Nat→List It):List (List It):=(List.range 5).map l
end Go.Proofs.YtgedndlifiihkaaGreatDoor
