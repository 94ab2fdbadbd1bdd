/- A part of the proof: RLap WCloC WRollP RBits RSet RClowA LItem WCron2 WSame24 LCron LCron3 RClow -/
import Derived.Test.YtgedndlifiihkaaGreatDoorQ09
import Derived.Test.YtgedndlifiihkaaGreatDoorQ00
import Derived.Lib.TrailingZeros
import Derived.Test.YtgedndlifiihkaaGreatDoorQ07
import Derived.Test.YtgedndlifiihkaaGreatDoorQ03
import Derived.Test.YtgedndlifiihkaaGreatDoorQ01
import Derived.Test.YtgedndlifiihkaaGreatDoorQ02
set_option maxHeartbeats 80000000
set_option maxRecDepth 100000
set_option linter.unusedSimpArgs false
set_option linter.unusedVariables false
namespace Go.Proofs.YtgedndlifiihkaaGreatDoor
open Go.Proofs.Tryz
open Go.RowKit
def spF (c:Cl):Int:=zaE c.f c.t
def spU (c:Cl):Int:=zas c.f c.t
def zoh (c:Cl) (n:Int):Bool:=decide (spF c≤spU c∧spF c / 86400≤n∧n≤spU c / 86400)&&zj2 c n
def zhP (c:Cl) (n:Int):Int:=if n=spF c / 86400 then spF c%86400 else 0
def zeR (c:Cl) (n:Int):Int:=if n=spU c / 86400 then spU c%86400 else 86399
def zbQ (c:Cl) (n:Int):Int:=if 1<c.s∧0<zau c.u then(c.a / zau c.u - n * 86400 / zau c.u)%c.s else 0
structure LSt where
 act:Bool
 fr:Int
 un:Int
 ph:Int
def stZ:LSt:=⟨false,0,0,0⟩
def zlc (c:Cl) (n:Int):LSt:=if zoh c n then⟨true,zhP c n,zeR c n,zbQ c n⟩ else stZ
def zfS (c:Cl) (x:LSt) (s:Int):Bool:=
 decide (x.act=true∧0≤x.ph∧ze8 c zbs=true)&&(decide (x.fr≤s∧s≤x.un)&&(zcB s (c.m 2) (c.m 1) (c.m 0)&&
  (!decide (0<zau c.u∧(1<c.s∨0<x.ph))||decide (x.ph≤s / zau c.u∧(s / zau c.u - x.ph)%c.s=0))))
theorem zg2 (u:Int):zau u=1∨zau u=60∨zau u=3600∨zau u=0:=by
 unfold zau;split
 ·exact .inl rfl
 ·split
  ·exact .inr (.inl rfl)
  ·split
   ·exact .inr (.inr (.inl rfl))
   ·exact .inr (.inr (.inr rfl))
theorem zg3 {c:Cl} (h:ze8 c zbs=true):1≤c.s∧inC c.a=true∧0≤c.u∧c.u<7:=by
 unfold ze8 at h;simp only[waN,waM,Bool.not_eq_true'] at h;obtain⟨_,_,_,hu,hs,ha⟩:=h;refine⟨hs,ha,?_⟩;have h1:unT c.u≠[]:=by intro e;rw[e] at hu;cases hu
 rw[ne_eq,zsY,Decidable.not_not] at h1;exact h1
theorem zrw {x b p s:Int} (hs:1≤s) (hx:0≤x) (hp:p=b%s):(p≤x∧(x - p)%s=0)↔(x - b)%s=0:=by
 have e:(x - p)%s=(x - b)%s:=by rw[hp,Int.sub_emod,Int.emod_emod_of_dvd _ (Int.dvd_refl s),←Int.sub_emod]
 constructor
 ·rintro ⟨_,h⟩;rw[←e];exact h
 ·intro h;rw[←e] at h;refine⟨?_,h⟩;have h1:p<s:=by rw[hp];exact Int.emod_lt_of_pos _ (by omega)
  obtain⟨k,hk⟩:=Int.dvd_of_emod_eq_zero h;have hk0:0≤k:=by
   false_or_by_contra
   have:s * k≤s * (-1):=Int.mul_le_mul_of_nonneg_left oQ oQ;omega
  have:=Int.mul_nonneg (show 0≤s by omega) hk0
  omega
theorem zrx {c:Cl} {n:Int} (h:zj2 c n=true):zjy c.u c.s c.a n=true:=by
 unfold zj2 zuA at h;simp only[waN] at h;exact h.2.2.2.2.2.2
theorem ztH {n s z:Int} (hz:z=1∨z=60∨z=3600) (hs:0≤s):(n * 86400+s) / z=n * 86400 / z+s / z:=by
 rcases hz with rfl|rfl|rfl<;>omega
theorem zpn (c:Cl) {n s:Int} (h0:0≤n) (h1:n<146097) (s0:0≤s) (s1:s<86400):zfS c (zlc c n) s=zru c (n * 86400+s):=by
 have ht:(n * 86400+s) / 86400=n:=by omega
 have hm:(n * 86400+s)%86400=s:=by omega
 have hi:inC (n * 86400+s)=true:=waP oQ;unfold zru;rw[ht,hm,hi,Bool.true_and];unfold zlc;cases hmay:ze8 c zbs with
 |false=>
  rw[Bool.false_and];have:zoh c n=false:=by unfold zoh zj2;rw[hmay];simp
  rw[this];rfl
 |true=>
  rw[Bool.true_and];obtain⟨hs,ha,hu0,hu1⟩:=zg3 hmay;cases hd:zj2 c n with
  |false=>
   have:zoh c n=false:=by unfold zoh;rw[hd];simp
   rw[this];simp only[Bool.and_false];rfl
  |true=>
   have hst:=zrx hd;have hact:zoh c n=decide (spF c≤spU c∧spF c / 86400≤n∧n≤spU c / 86400):=by unfold zoh;rw[hd,Bool.and_true]
   rw[hact];have hon:onU c.u c.s c.a (n * 86400+s)=decide (0<zau c.u∧1<c.s→(s / zau c.u - zbQ c n)%c.s=0∧zbQ c n≤s / zau c.u):=by
    unfold onU;rw[wbH];have hoa:okU c.u c.a=true:=waP ⟨ha,hu0,hu1⟩;have hot:okU c.u (n * 86400+s)=true:=waP ⟨hi,hu0,hu1⟩
    by_cases hz:0<zau c.u
    ·have hw:∀t,zbm c.u t=t / zau c.u:=fun t=>if_pos hz
     have hz3:zau c.u=1∨zau c.u=60∨zau c.u=3600:=by
      rcases zg2 c.u with h|h|h|h
      ·exact .inl h
      ·exact .inr (.inl h)
      ·exact .inr (.inr h)
      ·omega
     rw[hw,hw,ztH hz3 s0];have hx:0≤s / zau c.u:=Int.ediv_nonneg s0 oQ
     by_cases h1s:1<c.s
     ·have hp:zbQ c n=(c.a / zau c.u - n * 86400 / zau c.u)%c.s:=if_pos ⟨h1s,hz⟩;have:=zrw hs hx hp;have e:n * 86400 / zau c.u+s / zau c.u - c.a / zau c.u=s / zau c.u - (c.a / zau c.u - n * 86400 / zau c.u):=by omega
      rw[e];constructor
      ·rintro ⟨_,_,_,h⟩ _;exact(this.2 h).symm
      ·intro h;exact⟨hoa,hot,hs,this.1 (h ⟨hz,h1s⟩).symm⟩
     ·have e1:c.s=1:=by omega
      constructor
      ·rintro _ ⟨_,h⟩;exact absurd h h1s
      ·intro _;rw[e1];exact⟨hoa,hot,by omega,Int.emod_one _⟩
    ·have hw:∀t,zbm c.u t=zb7 c.u (t / 86400):=fun t=>if_neg hz
     constructor
     ·rintro _ ⟨h,_⟩;exact absurd h hz
     ·intro _;refine⟨hoa,hot,hs,?_⟩;unfold zjy at hst;obtain⟨_,_,h⟩:=waA hst;rcases h with h|h|h
      ·exact absurd h hz
      ·rw[h];exact Int.emod_one _
      ·rw[hw (n * 86400+s),ht];exact h
   rw[hon,Bool.and_true];have hph0:0≤zbQ c n:=by
    unfold zbQ;split
    ·exact Int.emod_nonneg _ oQ
    ·exact Int.le_refl _
   have hphz:¬(1<c.s∧0<zau c.u)→zbQ c n=0:=fun h=>if_neg h
   have hsp:(decide (zaE c.f c.t≤n * 86400+s∧n * 86400+s≤zas c.f c.t))=(decide (spF c≤spU c∧spF c / 86400≤n∧n≤spU c / 86400)&&decide (zhP c n≤s∧s≤zeR c n)):=by
    show decide (spF c≤n * 86400+s∧n * 86400+s≤spU c)=_;rw[waQ,waN,waM,waM,waM];unfold zhP zeR;generalize spF c=F;generalize spU c=U;constructor
    ·intro h;refine⟨by omega,?_,?_⟩
     ·split<;>omega
     ·split<;>omega
    ·rintro ⟨⟨h2,h3,h4⟩,h5,h6⟩;constructor
     ·split at h5<;>omega
     ·split at h6<;>omega
   rw[hsp];cases hA:decide (spF c≤spU c∧spF c / 86400≤n∧n≤spU c / 86400) with
   |false=>
    rw[if_neg (by decide)]
    simp only[Bool.false_and];rfl
   |true=>
    rw[if_pos rfl,Bool.true_and];unfold zfS;dsimp only;have e1:decide (True∧0≤zbQ c n∧ze8 c zbs=true)=true:=waP ⟨trivial,hph0,hmay⟩;have e2:decide ((true:Bool)=true∧0≤zbQ c n∧ze8 c zbs=true)=true:=waP ⟨rfl,hph0,hmay⟩;rw[e2,Bool.true_and];congr 1;congr 1
    by_cases hz:0<zau c.u∧1<c.s
    ·have d1:decide (0<zau c.u∧(1<c.s∨0<zbQ c n))=true:=waP ⟨hz.1,.inl hz.2⟩;rw[d1,Bool.not_true,Bool.false_or,wbH];exact⟨fun h _=>⟨h.2,h.1⟩,fun h=>⟨(h hz).2,(h hz).1⟩⟩
    ·have hp0:=hphz (fun h=>hz ⟨h.2,h.1⟩)
     have d1:decide (0<zau c.u∧(1<c.s∨0<zbQ c n))=false:=waO (by
      rintro ⟨h2,h3|h3⟩
      ·exact hz ⟨h2,h3⟩
      ·omega)
     rw[d1,Bool.not_false,Bool.true_or];exact(waP (fun h=>absurd h hz)).symm
def zu1:Cl:={m:=fun _=>0,or:=false,oi:=0,ob:=false,od:=fun _=>0,y:=fun _=>0,u:=0,s:=0,a:=0,f:=0,t:=0}
theorem ztI:(prog.info? 61).map (fun i=>(i.zero,i.size,i.bytes))=some (some (.agg (clA zu1)),30,240):=by kernel_rfl
theorem zfo (c:Cl):(zg1 c).length=30:=rfl
theorem zpo (c:Cl):(zg1 c).all (·.oneCell')=true:=by kernel_rfl
theorem zld (l:List Cl):∀u∈l.flatMap zg1,u.oneCell'=true:=by
 intro u hu;obtain⟨x,_,h⟩:=List.mem_flatMap.1 hu;exact List.all_eq_true.1 (zpo x) u h
end Go.Proofs.YtgedndlifiihkaaGreatDoor
namespace Go.Proofs.YtgedndlifiihkaaGreatDoor
open Go.Proofs.Tryz
def zdV (x:LSt):Value:=.agg #[.bool x.act,.int .i64 x.fr,.int .i64 x.un,.int .i64 x.ph]
theorem zry {x y:LSt} (h:zdV x=zdV y):x=y:=by
 cases x;cases y;simp only[zdV,Value.agg.injEq,Array.mk.injEq,List.cons.injEq,Value.bool.injEq,Value.int.injEq,and_true,true_and] at h;obtain⟨rfl,rfl,rfl,rfl⟩:=h;rfl
def zeN (L:List Cl) (i:Nat):Cl:=L.getD i zu1
def zbJ (L:List Cl) (x:Nat→LSt) (s:Nat):Bool:=(List.range L.length).any fun i=>zfS (zeN L i) (x i) (s:Int)
def stN (L:List Cl) (n:Int) (i:Nat):LSt:=if i<L.length then zlc (zeN L i) n else stZ
def zal (L:List Cl) (n:Int) (s:Nat):Bool:=zrv L (n * 86400+(s:Int))
theorem zfp (c:Cl) {x:LSt} (h:x.act=false) (s:Int):zfS c x s=false:=by
 unfold zfS;rw[waO (fun g=>by rw[h] at g;cases g.1)]
 rfl
theorem ziT {L:List Cl} (h:zeW L=true) {n:Int} (h0:0≤n) (h1:n<146097) {s:Nat} (hs:s<86400):zbJ L (stN L n) s=zal L n s:=by
 unfold zbJ zal zrv;rw[h,Bool.true_and,waQ,List.any_eq_true,List.any_eq_true];constructor
 ·rintro ⟨i,hi,he⟩;have hi':=wbG.1 hi;rw[stN,if_pos hi',zpn _ h0 h1 (by omega) (by omega)] at he
  refine⟨zeN L i,?_,he⟩;unfold zeN;rw[List.getD_eq_getElem?_getD,waE hi'];exact List.getElem_mem hi'
 ·rintro ⟨c,hc,he⟩;obtain⟨i,hi,rfl⟩:=List.mem_iff_getElem.1 hc;refine⟨i,wbG.2 hi,?_⟩;have e:zeN L i=L[i]:=by unfold zeN;rw[List.getD_eq_getElem?_getD,waE hi];rfl
  rw[stN,if_pos hi,e,zpn _ h0 h1 (by omega) (by omega)]
  exact he
theorem zrz {L:List Cl} {x y:Nat→LSt} (h:∀i,i<L.length→x i=y i) (s:Nat):zbJ L x s=zbJ L y s:=by
 unfold zbJ;rw[waQ,List.any_eq_true,List.any_eq_true];constructor<;>rintro ⟨i,hi,he⟩<;>refine⟨i,hi,?_⟩
 ·rw[←h i (wbG.1 hi)];exact he
 ·rw[h i (wbG.1 hi)];exact he
def ziU:LSt:=⟨true,0,86399,0⟩
def zdW (x:Nat→LSt):Nat→Nat
 |0=>0
 |k+1=>zdW x k+if (x k).act then 2^k else 0
theorem zg4 (x:Nat→LSt):∀k,zdW x k<2^k
 |0=>by simp[zdW]
 |k+1=>by
  have:=zg4 x k;simp only[zdW,Nat.pow_succ];split<;>omega
theorem ziV (x:Nat→LSt):∀k i,i<k→(zdW x k).testBit i=(x i).act
 |0,i,h=>by omega
 |k+1,i,h=>by
  have hl:=zg4 x k;simp only[zdW]
  by_cases hi:i=k
  ·subst hi;cases ha:(x i).act with
   |true=>rw [if_pos rfl,Nat.add_comm,Nat.testBit_two_pow_add_eq,waX hl];rfl
   |false=>rw [if_neg (by decide),Nat.add_zero,waX hl]
  ·rw[←ziV x k i (by omega)]
   cases ha:(x k).act with
   |true=>rw [if_pos rfl,Nat.add_comm,Nat.testBit_two_pow_add_gt (by omega)]
   |false=>rw [if_neg (by decide),Nat.add_zero]
def whS (a:Nat) (i:Nat):LSt:=if a.testBit i then ziU else stZ
theorem zh8 {L:List Cl} {x:Nat→LSt} (h:∀i,i<L.length→(x i).act=true→x i=ziU) (s:Nat):zbJ L (whS (zdW x L.length)) s=zbJ L x s:=by
 unfold zbJ;rw[waQ,List.any_eq_true,List.any_eq_true];constructor<;>rintro ⟨i,hi,he⟩<;>refine⟨i,hi,?_⟩<;>have hi':=wbG.1 hi<;>unfold whS at * <;>rw [ziV x _ i hi'] at * <;>cases ha:(x i).act
 ·rw[ha,if_neg (by decide),zfp _ rfl] at he;cases he
 ·rw[ha,if_pos rfl,←h i hi' ha] at he;exact he
 ·rw[zfp _ ha] at he;cases he
 ·rw[if_pos rfl,←h i hi' ha];exact he
theorem zj3 {L:List Cl} {x:Nat→LSt} (h:zdW x L.length=0) (s:Nat):zbJ L x s=false:=by
 unfold zbJ;rw[List.any_eq_false];intro i hi;have:=ziV x L.length i (wbG.1 hi);rw[h,Nat.zero_testBit] at this;rw[zfp _ this.symm];decide
def zar (m:Nat):List Nat:=(List.range 64).filter fun i=>m.testBit i
theorem zaO {m i:Nat}:i∈zar m↔i<64∧m.testBit i=true:=by simp[zar]
theorem zns:zar 0=[]:=by simp[zar]
theorem zfq (m:Nat):(zar m).length≤64:=by
 have:=List.length_filter_le (fun i=>m.testBit i) (List.range 64)
 rw[List.length_range] at this;exact this
theorem zbf (m:Nat):(zar m).Pairwise (·< ·):=List.Pairwise.filter _ List.pairwise_lt_range
theorem ztJ {m:Nat} (h0:m≠0) (h:m<18446744073709551616):Go.Lib.ctz 64 m<64∧m.testBit (Go.Lib.ctz 64 m)=true∧∀j,j<Go.Lib.ctz 64 m→m.testBit j=false:=by
 have e:Go.Lib.ctz 64 m=Go.Lib.ctzFrom 64 m:=if_neg h0;obtain⟨q,hq,hk⟩:=Go.Lib.ctzFrom_spec 64 m oQ h;rw[e];generalize Go.Lib.ctzFrom 64 m=k at *;refine⟨hk,?_,fun j hj=>?_⟩
 ·rw[hq,Nat.mul_comm,Nat.testBit_mul_two_pow];simp[Nat.testBit_zero]
 ·rw[hq,Nat.mul_comm,Nat.testBit_mul_two_pow];simp;omega
theorem znt {m:Nat} (h0:m≠0) (h:m<18446744073709551616):∃r,zar m=Go.Lib.ctz 64 m::r:=by
 obtain⟨h1,h2,h3⟩:=ztJ h0 h;have hm:Go.Lib.ctz 64 m∈zar m:=zaO.2 ⟨h1,h2⟩;have hs:=zbf m;cases hb:zar m with
 |nil=>rw [hb] at hm;cases hm
 |cons a r=>
  rw[hb] at hm hs;have ha:a∈zar m:=by rw[hb];simp
  rcases List.mem_cons.1 hm with e|hr
  ·exact⟨r,by rw[e]⟩
  ·have:=(List.pairwise_cons.1 hs).1 _ hr;have:=h3 a this;rw[(zaO.1 ha).2] at this;cases this
theorem znu {m k:Nat} {pre rest:List Nat} (h:zar m=pre++k::rest):zar (m>>>(k+1)<<<(k+1))=rest:=by
 have hs:=zbf m;have e:zar (m>>>(k+1)<<<(k+1))=(zar m).filter fun i=>decide (k<i):=by
  unfold zar;rw[List.filter_filter];apply List.filter_congr;intro i _;rw[Nat.testBit_shiftLeft,Nat.testBit_shiftRight]
  by_cases hi:k<i
  ·rw[show k+1+(i - (k+1))=i by omega]
   have h5:k+1≤i:=hi;simp[hi,h5]
  ·simp[hi];omega
 rw[h] at hs;obtain⟨_,h2,h3⟩:=List.pairwise_append.1 hs;obtain⟨h4,_⟩:=List.pairwise_cons.1 h2;rw[e,h,List.filter_append,List.filter_cons];rw[List.filter_eq_nil_iff.2 (fun a ha=>by simp;exact Nat.le_of_lt (h3 a ha k (by simp)))]
 simp only[Nat.lt_irrefl,decide_false,wbN];exact List.filter_eq_self.2 (fun a ha=>by simpa using h4 a ha)
theorem zmf (m k:Nat) (h:m<18446744073709551616):m>>>k<<<k<18446744073709551616:=by
 have:m>>>k<<<k≤m:=by rw[Nat.shiftRight_eq_div_pow,Nat.shiftLeft_eq];exact Nat.div_mul_le_self m (2^k)
 omega
noncomputable def mOf (Q:Nat→Prop):Nat:=mkN (fun k=>@decide (Q k) (Classical.propDecidable _)) 64
theorem zbL (Q:Nat→Prop):mOf Q<18446744073709551616:=zcY _ 64
theorem zfT (Q:Nat→Prop) (k:Nat):(mOf Q).testBit k=true↔k<64∧Q k:=by
 unfold mOf;rw[zbi];simp
theorem zj4 {m:Nat} {Q:Nat→Prop} (hm:m<18446744073709551616) (h:∀k,k<64→(m.testBit k=true↔Q k)):m=mOf Q:=by
 apply Nat.eq_of_testBit_eq;intro k;rw[waQ,zfT]
 by_cases hk:k<64
 ·rw[h k hk];simp[hk]
 ·have h64:m<2^k:=waD hm (Nat.pow_le_pow_right (n:=2) (i:=64) (j:=k) dQ oQ);rw[waX h64];simp[hk]
def zcW (P:Int→Nat→Bool) (n:Int) (s:Nat):Prop:=0≤n∧n<146097∧s<86400∧P n s=true
def zbD (P:Int→Nat→Bool) (n:Int):Prop:=∃s,zcW P n s
def zdF (P Q:Int→Nat→Bool):Prop:=∀n s,0≤n→n<146097→s<86400→P n s=Q n s
theorem zdF.symm {P Q:Int→Nat→Bool} (h:zdF P Q):zdF Q P:=fun n s h0 h1 h2=>(h n s h0 h1 h2).symm
theorem zdF.trans {P Q R:Int→Nat→Bool} (h:zdF P Q) (k:zdF Q R):zdF P R:=fun n s h0 h1 h2=>(h n s h0 h1 h2).trans (k n s h0 h1 h2)
theorem zdF.liveI {P Q:Int→Nat→Bool} (h:zdF P Q) (n:Int) (s:Nat):zcW P n s↔zcW Q n s:=by
 unfold zcW;constructor<;>rintro ⟨a,b,c,d⟩<;>refine⟨a,b,c,?_⟩
 ·rw[←h n s a b c];exact d
 ·rw[h n s a b c];exact d
theorem zdF.liveD {P Q:Int→Nat→Bool} (h:zdF P Q) (n:Int):zbD P n↔zbD Q n:=by
 unfold zbD;simp only[h.liveI]
theorem zbD.win {P:Int→Nat→Bool} {n:Int} (h:zbD P n):0≤n∧n<146097:=by
 obtain⟨s,a,b,_⟩:=h;exact⟨a,b⟩
noncomputable def zcE (P:Int→Nat→Bool):Nat:=mOf fun k=>∃n s,zcW P n s∧s / 60%60=k
noncomputable def za7 (P:Int→Nat→Bool):Nat:=mOf fun k=>∃n s,zcW P n s∧s / 3600=k
noncomputable def zaU (P:Int→Nat→Bool):Nat:=mOf fun k=>∃n,zbD P n∧mD n=(k:Int)
noncomputable def zbx (P:Int→Nat→Bool):Nat:=mOf fun k=>∃n,zbD P n∧dD n=(k:Int)
noncomputable def wkF (P:Int→Nat→Bool):Nat:=mOf fun k=>∃n,zbD P n∧wdD n=(k:Int)
def zeX (P:Int→Nat→Bool):Prop:=∃n,zbD P n
noncomputable def domW (P:Int→Nat→Bool):Nat:=mOf fun k=>(∃n,0≤n∧n<146097∧(∃n',zbD P n'∧mD n'=mD n)∧dD n=(k:Int))∧∀n,0≤n→n<146097→(∃n',zbD P n'∧mD n'=mD n)→dD n=(k:Int)→zbD P n
noncomputable def wkW (P:Int→Nat→Bool):Nat:=mOf fun k=>(1≤k∧k≤7)∧∀n,0≤n→n<146097→(∃n',zbD P n'∧mD n'=mD n)→wdD n=(k:Int)→zbD P n
end Go.Proofs.YtgedndlifiihkaaGreatDoor
namespace Go.Proofs.YtgedndlifiihkaaGreatDoor
open Go.Proofs.Tryz
open Go.RowKit
theorem zrA (c:Cl) (p:Int→Bool) (n:Int):zuA c p n=(((zcK (c.m 4) (dD n)&&zcK (c.m 6) (wdD n))||(c.or&&(zcK (c.m 4) (dD n)||zcK (c.m 6) (wdD n))))&&(zcK (c.m 3) (mD n)&&(zcK (c.m 5) (zbl (yD n) (mD n) - dD n+1)&&(zpc c.y (yD n - 1970)&&(zhM c n&&p n))))):=rfl
theorem zey (l:List Int) (n:Int):zcK (zan l) n=decide (0≤n∧n<64∧n∈l):=by
 unfold zcK;rw[wbH];constructor
 ·rintro ⟨h0,h1,h2⟩;refine⟨h0,h1,?_⟩;rw[zgO l n.toNat (by omega)] at h2
  split at h2
  ·rename_i h;rwa [Int.toNat_of_nonneg h0] at h
  ·cases h2
 ·rintro ⟨h0,h1,h2⟩;refine⟨h0,h1,?_⟩;rw[zgO l n.toNat (by omega),if_pos (by rwa [Int.toNat_of_nonneg h0])]
theorem zfU (a b n:Int) (h0:0≤n) (h1:n<64):zcK (zaM a b) n=decide (a≤n∧n≤b):=by
 unfold zaM;rw[zey,wbH,zdD];omega
theorem zpp (p:Nat→Bool):∀k,mkN (fun i=>!p i) k=2^k - 1 - mkN p k
 |0=>rfl
 |k+1=>by
  have h:=zcY p k;rw[mkN,mkN,zpp p k,Nat.pow_succ];cases p k<;>simp<;>omega
theorem zj5 {l m:List Int} (h:∀x,0≤x→x<64→x∈l→x∈m):zaY (zan l,zan m)=true:=by
 have hl:=zev l;have hm:=zev m;unfold zaY;rw[beq_iff_eq];show bits .andNot .u64 (zan l) (zan m)=0;rw[u64_andNot _ _ hl.1 hl.2 hm.1 hm.2];have e1:(zan l).toNat=mkN (inL l) 64:=by unfold zan;simp
 have e2:(zan m).toNat=mkN (inL m) 64:=by unfold zan;simp
 have e3:(18446744073709551615 - mkN (inL m) 64)=mkN (fun i=>!inL m i) 64:=(zpp _ 64).symm
 rw[e1,e2,e3,zos];have e4:mkN (fun i=>inL l i&&!inL m i) 64=mkN (fun _=>false) 64:=zbN fun i hi=>by
  simp only[inL]
  by_cases hx:(i:Int)∈l
  ·simp[h (i:Int) (by omega) (by omega) hx]
  ·simp[hx]
 rw[e4,zgs];rfl
theorem m64_L (l:List Int):M64 (zan l):=zev l
theorem ztK (a b:Int):M64 (zaM a b):=zev _
theorem zcs {l:List Int} {a b:Int} (h:∀x,x∈l→a≤x∧x≤b):zaY (zan l,zaM a b)=true:=
 zj5 fun x _ _ hx=>by have:=h x hx;rw[zdD];omega
theorem zle (a b:Int):zaY (zaM a b,zaM a b)=true:=zj5 fun _ _ _ h=>h
theorem zu2 {l:List It} {lo hi x:Int} (h:inB l lo hi x=true):lo≤x∧x≤hi:=by
 simp only[inB,List.any_eq_true,zeM,waN,zoH,waM] at h;obtain⟨i,_,hm,h1,h2,_⟩:=h;obtain⟨h3,h4,h5,h6⟩:=zoJ hm;omega
theorem zg5 {l:List It} {lo hi x:Int} (h:x∈zaD l lo hi):lo≤x∧x≤hi:=zu2 (((zco lo hi l).2 x).1 h)
theorem zgy {l:List It} {lo hi n:Int} (h0:0≤n) (h1:n<64):zcK (zan (zaD l lo hi)) n=inB l lo hi n:=by
 rw[zey,waQ,waM,(zco lo hi l).2 n];exact⟨fun h=>h.2.2,fun h=>⟨h0,h1,h⟩⟩
theorem zrB {c:Cl} (h0:c.oi=0) (h1:c.ob=false) (h2:∀k,c.od k=0):zjz c=true:=by
 unfold zjz zuz;rw[if_pos h0];simp[h0,h1,h2]
theorem zpq {n:Int} (h0:0≤n) (h1:n<400):zpc zci n=true:=by
 unfold zpc;rw[waP ⟨h0,h1⟩];unfold zci;rw[zfU _ _ _ (by omega) (by omega)]
 simp;omega
theorem zj6 (lo hi:Int) (A:Option Addr) (n c:Nat) (l:List It) (w:World) (hA:zcz w A n l) (hn:n≤100000):
 Calls prog 33 #[.int .i64 lo,.int .i64 hi,.slice A n c] w (Ret (.int .u64 (zan (zaD l lo hi))) w):=by
 have HV:=waV (zm8 lo hi A n c l w hA hn);have hlen:(zsO lo hi l).length≤1000000000:=by
  have h1:=ziF lo hi l;have h2:=zeU ((zeQ lo hi l).mergeSort fun x y=>decide (x≤y))
  rw[zfe] at h2;have h3:l.length=n:=hA.1;unfold zsO;omega
 rw[←zuM];generalize zsO lo hi l=V at *;clear hA;go_enter func33,ntmps33;go_wp2_with fail;refine HV.out.mono ?_;rintro e w1 ⟨v,rfl,hown,hb⟩;obtain⟨A',c',rfl,_,_,hrd,_⟩:=zbM.rd hown;have HM:=waV (zdg A' V.length c' V w1 hrd oQ);clear hown hrd;go_wp2_with fail;refine HM.out.mono ?_;rintro e w2 ⟨rfl,rfl⟩;go_wp2;go_ret;exact⟨rfl,hb⟩
theorem zpr (k:Nat) (hk:k<5) (A:Nat→Option Addr) (n c:Nat→Nat) (w:World):Calls prog 22 #[crV A n c,.int .i64 k] w (Ret (.slice (A k) (n k) (c k)) w):=by
 obtain rfl|rfl|rfl|rfl|rfl:k=0∨k=1∨k=2∨k=3∨k=4:=by omega
 all_goals
  go_enter func22,ntmps22;go_wp2;go_ret;exact⟨rfl,by exact zaH⟩
theorem znv {l:List It} {it:It} (h:l[0]?=some it):zbv l=decide (it.k=0):=by
 cases l with
 |nil=>simp at h
 |cons a l=>obtain rfl:a=it:=by simpa using h
            rfl
theorem zps {l:List It} (h:l.length=0):zbv l=false:=by
 rw[List.length_eq_zero_iff.1 h];rfl
def zfr (n:Nat→Nat):Bool:=decide (200<n 0∨200<n 1∨200<n 2∨200<n 3∨200<n 4)
theorem zh9 {n:Nat→Nat} {k:Nat} (hk:k<5) (h:200<n k):zfr n=true:=by
 obtain rfl|rfl|rfl|rfl|rfl:k=0∨k=1∨k=2∨k=3∨k=4:=by omega
 all_goals simp[zfr,h]
theorem zpt {n:Nat→Nat} (H:∀j,j<5→n j≤200):zfr n=false:=by
 have:=H 0;have:=H 1;have:=H 2;have:=H 3;have:=H 4;simp[zfr];omega
theorem zrC {n:Nat→Nat} (h:zfr n=false):∀k,k<5→n k≤200:=by
 intro k hk;rcases Nat.lt_or_ge 200 (n k) with h1|h1
 ·rw[zh9 hk h1] at h;cases h
 ·exact h1
theorem zpu (A:Nat→Option Addr) (n c:Nat→Nat) (w:World):Calls prog 6 #[crV A n c] w (Ret (.bool (zfr n)) w):=by
 go_enter func6,ntmps6;go_wp2
 go_loopw [3] (fun i wr=>∃k:Nat,k≤5∧i=.int .i64 k∧Hid (∀j,j<k→n j≤200)∧Hid (zaV wr w.heap.size 0 A n c)∧w.heap.size<wr.heap.size∧Below w.heap.size w wr) (fun i _=>5 - (intOf i).toNat)
 case atStart=>exact⟨0,by omega,rfl,fun j h=>absurd h (Nat.not_lt_zero _),⟨by simp[go_sem],by simp[go_sem],by simp[go_sem],by simp[go_sem],by simp[go_sem]⟩,by(first|(simp;done)|(simp;omega)),by exact zaH⟩
 case round=>
  obtain⟨k,hk,rfl,H,HC,hlt,hb⟩:=hrel;have hsz:=hb.size
  by_cases h5:k<5
  ·have h5':(k:Int)<5:=by omega
   have HF:=waV (zpr k h5 A n c wr);obtain⟨l0,l1,l2,l3,l4⟩:=HC.out;simp only[waH] at l1 l2 l3 l4
   by_cases hf:200<n k
   ·have HK:Hid (zfr n=true):=zh9 h5 hf;have hf':(200:Int)<(n k:Nat):=by omega
    go_wp2_with fail;refine HF.out.mono ?_;rintro e w1 ⟨rfl,hb1⟩;go_wp2;go_ret;exact⟨zap HK.out.symm,zai hb hb1 hsz⟩
   ·have Hf:Hid (n k≤200):=Nat.le_of_not_lt hf;have hf':¬(200:Int)<(n k:Nat):=by omega
    clear hf;go_wp2_with fail;refine HF.out.mono ?_;rintro e w1 ⟨rfl,hb1⟩;go_wp2;go_roundw
    case rel=>exact⟨k+1,by omega,by go_num,zgK H.out Hf.out,zaV.below HC.out (fun o=>hb1.cell (p:=⟨_,o,none⟩) hlt),waD hlt hb1.size,zai hb hb1 hsz⟩
    case measure=>simp [intOf];omega
  ·obtain rfl:k=5:=by omega
   have HK:Hid (zfr n=false):=zpt H.out;go_wp2;go_ret;exact⟨zap HK.out.symm,hb⟩
theorem zia (k:Nat) (hk:k<5) (A:Nat→Option Addr) (n c:Nat→Nat) (l:Nat→List It) (w:World) (hA:zbX w A n l):
 Calls prog 26 #[crV A n c,.int .i64 k] w (Ret (.bool (zbv (l k))) w):=by
 have hR:=hA k hk;have HLs:=waV (fun W b (h:zaV W b 0 A n c)=>zgM k hk b A n c W h)
 clear hA
 by_cases h0:0<n k
 ·obtain⟨b,o,it,e1,hbl,hx,c0,c1,c2,c3⟩:=zcz.at_ hR h0
  rw[Nat.zero_mul,Nat.add_zero] at c0;have HS:Hid (zbv (l k)=decide (it.k=0)):=znv hx;have h0':(0:Int)<((n k:Nat):Int):=by omega
  have HE:=waV e1;clear hx hR e1;go_enter func26,ntmps26;go_wp2_with fail;refine(HLs.out _ _ ⟨by simp[go_sem],by simp[go_sem],by simp[go_sem],by simp[go_sem],by simp[go_sem]⟩).mono ?_
  rintro e w1 ⟨rfl,q,rfl⟩;rw[HE.out];go_wp2;go_ret;exact⟨zap (by rw[HS.out,waQ];simp),by exact zaH⟩
 ·have h1:n k=0:=by omega
  have HS:Hid (zbv (l k)=false):=zps (by rw[hR.1,h1])
  have h1':¬(0:Int)<((n k:Nat):Int):=by omega
  clear h1 h0 hR;go_enter func26,ntmps26;go_wp2_with fail;refine(HLs.out _ _ ⟨by simp[go_sem],by simp[go_sem],by simp[go_sem],by simp[go_sem],by simp[go_sem]⟩).mono ?_
  rintro e w1 ⟨rfl,q,rfl⟩;go_wp2;go_ret;exact⟨zap HS.out.symm,by exact zaH⟩
def zfV (l:Nat→List It):Bool:=!zbv (l 2)&&!zbv (l 4)
theorem znw (A:Nat→Option Addr) (n c:Nat→Nat) (l:Nat→List It) (w:World) (hA:zbX w A n l):
 Calls prog 9 #[crV A n c] w (Ret (.bool (zfV l)) w):=by
 have H2:=waV (fun W (hb:Below w.heap.size w W)=>zia 2 oQ A n c l W (hA.below hb (waJ _)))
 have H4:=waV (fun W (hb:Below w.heap.size w W)=>zia 4 oQ A n c l W (hA.below hb (waJ _)))
 clear hA;unfold zfV;cases h2:zbv (l 2) with
 |true=>
  rw[h2] at H2;clear h2;go_enter func9,ntmps9;go_wp2_with fail;refine(H2.out _ (by exact zaH)).mono ?_
  rintro e w1 ⟨rfl,hb1⟩;go_wp2;go_ret;exact⟨rfl,((waC _ w).alloc (waJ _) _).trans (hb1.mono (by simp))⟩
 |false=>
  rw[h2] at H2;clear h2;generalize zbv (l 4)=q at H4 ⊢;go_enter func9,ntmps9;go_wp2_with fail;refine(H2.out _ (by exact zaH)).mono ?_
  rintro e w1 ⟨rfl,hb1⟩;obtain⟨hc,hf⟩:=zad hb1;have hb2:Below w.heap.size w w1:=((waC _ w).alloc (waJ _) _).trans (hb1.mono (by simp))
  go_wp2_with fail;refine(H4.out _ hb2).mono ?_;rintro e w2 ⟨rfl,hb3⟩;go_wp2;go_ret;exact⟨rfl,zai hb2 hb3 hb2.size⟩
theorem zmg (k:Nat) (hk:k<5) (A:Nat→Option Addr) (n c:Nat→Nat) (l:Nat→List It) (w:World) (hA:zbX w A n l) (hn:n k≤4294967296) (hnil:A k=none→n k=0):
 Calls prog 63 #[crV A n c,.int .i64 k] w (zsL (n k) (l k) w):=by
 have HLs:=waV (fun W b (h:zaV W b 0 A n c)=>zgM k hk b A n c W h)
 have HCl:=waV (fun W (hb:Below w.heap.size w W)=>zor (A k) (n k) (c k) (l k) W ((hA k hk).below hb (waJ _)) hn hnil)
 clear hA hn hnil;go_enter func63,ntmps63;go_wp2_with fail;refine(HLs.out _ _ ⟨by simp[go_sem],by simp[go_sem],by simp[go_sem],by simp[go_sem],by simp[go_sem]⟩).mono ?_
 rintro e w1 ⟨rfl,q,rfl⟩;go_wp2_with fail;refine(HCl.out _ (by exact zaH)).mono ?_
 rintro e w1 ⟨A',c',rfl,hr,hb1⟩;go_wp2;go_ret;exact⟨A',c',rfl,hr,(zax ((waC _ w).alloc (waJ _) _) q).trans (hb1.mono (by simp))⟩
theorem zpv (A B:Option Addr) (n m c d:Nat) (l r:List It) (w:World) (hA:zcz w A n l) (hB:zcz w B m r) (hn:n≤9223372036854775807) (hm:m≤9223372036854775807):
 Calls prog 48 #[.slice A n c,.slice B m d] w (zoj (.bool (zcn l r)) w):=by
 by_cases hnm:n=m
 ·have HL:Hid (l.length=n):=hA.1;have HR:Hid (r.length=n):=hnm▸hB.1;subst hnm;go_enter func48,ntmps48;go_wp2
  go_loopw [13] (fun i wr=>∃k j:Nat,k≤n∧i=.int .i64 k∧Hid (l.take k=r.take k)∧wr=w.drewN j) (fun i _=>n - (intOf i).toNat)
  case atStart=>exact⟨0,0,waK _,rfl,by simp[Hid],rfl⟩
  case round=>
   obtain⟨k,j,hk,rfl,htk,rfl⟩:=hrel
   by_cases hlt:k<n
   ·obtain⟨b,o,it,rfl,_,hi,c0,c1,c2,c3⟩:=zcz.at_ hA hlt
    obtain⟨b',o',it',rfl,_,hi',c0',c1',c2',c3'⟩:=zcz.at_ hB hlt
    have Hi:=waV hi;have Hi':=waV hi';have hlt':(k:Int)<(n:Int):=by omega
    have hne:=zuJ it it';clear hi hi';go_wp2
    go_quiet (fail)
    go_wp2
    ·go_ret;have h:zsK it it'=true:=by assumption
     exact⟨zap (zm1 Hi.out Hi'.out (zon h)).symm,_,World.drewN_drewN ..⟩
    ·have h:zsK it it'=false:=by assumption
     go_roundw
     case rel=>exact⟨k+1,_,by omega,by go_num,zoo htk.out Hi.out Hi'.out (zm0 h),rfl⟩
     case measure=>simp [intOf];omega
   ·obtain rfl:k=n:=by omega
    go_wp2;go_ret;refine⟨zap ?_,_,rfl⟩;have h1:l=r:=by
     have:=htk.out
     rwa [List.take_of_length_le (by have:=HL.out;omega),List.take_of_length_le (by have:=HR.out;omega)] at this
    simp[zcn,h1]
 ·have hne:((n:Int)==(m:Int))=false:=by simp;omega
  have hne2:((n:Int) !=(m:Int))=true:=by simp;omega
  have HS:Hid (zcn l r=false):=zkZ (by rw[hA.1,hB.1];exact hnm)
  go_enter func48,ntmps48;go_wp2;go_ret;exact⟨zap HS.out.symm,0,rfl⟩
def zc3 (l r:Nat→List It):Bool:=(List.range 5).all fun k=>zcn (l k) (r k)
theorem zlf {l r:Nat→List It} {k:Nat} (hk:k<5) (h:zcn (l k) (r k)=false):zc3 l r=false:=by
 rw[zc3,List.all_eq_false];exact⟨k,wbG.2 hk,by simp[h]⟩
theorem zgh {l r:Nat→List It} (H:∀k,k<5→zcn (l k) (r k)=true):zc3 l r=true:=by
 rw[zc3,List.all_eq_true];exact fun k hk=>H k (wbG.1 hk)
theorem ziW (l:Nat→List It):zc3 l l=true:=zgh fun k _=>by simp[zcn]
theorem zrD (A B:Nat→Option Addr) (n c m d:Nat→Nat) (l r:Nat→List It) (w:World) (hA:zbX w A n l) (hB:zbX w B m r) (hn:∀k,n k≤9223372036854775807) (hm:∀k,m k≤9223372036854775807):
 Calls prog 19 #[crV A n c,crV B m d] w (Ret (.bool (zc3 l r)) w):=by
 have HA:=waV hA;have HB:=waV hB;have HN:=waV hn;have HM:=waV hm;clear hA hB hn hm;go_enter func19,ntmps19;go_wp2
 go_loopw [6] (fun i wr=>∃k:Nat,k≤5∧i=.int .i64 k∧Hid (∀j,j<k→zcn (l j) (r j)=true)∧Hid (zaV wr w.heap.size 0 A n c)∧Hid (zaV wr (w.heap.size+1) 0 B m d)∧w.heap.size+1<wr.heap.size∧Below w.heap.size w wr) (fun i _=>5 - (intOf i).toNat)
 case atStart=>
  exact⟨0,by omega,rfl,fun j h=>absurd h (Nat.not_lt_zero _),⟨by simp[go_sem],by simp[go_sem],by simp[go_sem],by simp[go_sem],by simp[go_sem]⟩,⟨by simp[go_sem],by simp[go_sem],by simp[go_sem],by simp[go_sem],by simp[go_sem]⟩,by(first|(simp;done)|(simp;omega)),by exact zaH⟩
 case round=>
  obtain⟨k,hk,rfl,H,HC,HD,hlt,hb⟩:=hrel;have hsz:=hb.size
  by_cases h5:k<5
  ·have h5':(k:Int)<5:=by omega
   have HL:=waV (zgM k h5 w.heap.size A n c wr HC.out);have HR:=waV (fun q=>zgM k h5 (w.heap.size+1) B m d (wr.drewN q) HD.out)
   have HE:=waV (fun q=>zpv (A k) (B k) (n k) (m k) (c k) (d k) (l k) (r k) (wr.drewN q) ((HA.out k h5).below (zax hb q) (waJ _)) ((HB.out k h5).below (zax hb q) (waJ _)) (HN.out k) (HM.out k))
   cases hf:zcn (l k) (r k) with
   |true=>
    have Hf:=waV hf;rw[hf] at HE;clear hf;go_wp2_with fail;refine HL.out.mono ?_;rintro e w1 ⟨rfl,q,rfl⟩;go_wp2_with fail;refine(HR.out _).mono ?_;rintro e w1 ⟨rfl,q',rfl⟩;go_wp2_with fail;refine(HE.out _).mono ?_;rintro e w1 ⟨rfl,q2,rfl⟩;go_wp2;go_roundw
    case rel=>exact⟨k+1,by omega,by go_num,zgK H.out Hf.out,HC.out,HD.out,hlt,zax hb _⟩
    case measure=>simp [intOf];omega
   |false=>
    have HK:Hid (zc3 l r=false):=zlf h5 hf;rw[hf] at HE;clear hf;go_wp2_with fail;refine HL.out.mono ?_;rintro e w1 ⟨rfl,q,rfl⟩;go_wp2_with fail;refine(HR.out _).mono ?_;rintro e w1 ⟨rfl,q',rfl⟩;go_wp2_with fail;refine(HE.out _).mono ?_;rintro e w1 ⟨rfl,q2,rfl⟩;go_wp2;go_ret;exact⟨zap HK.out.symm,zax hb _⟩
  ·obtain rfl:k=5:=by omega
   have HK:Hid (zc3 l r=true):=zgh H.out;go_wp2;go_ret;exact⟨zap HK.out.symm,hb⟩
theorem ztL {M:Int} (h0:0≤M) (h1:M<18446744073709551616):bits .and .u64 M 1=M%2:=by
 rw[u64_and M 1 h0 h1 (by decide) (by decide)]
 have:M.toNat&&&(1:Int).toNat=M.toNat%2:=Nat.and_one_is_mod _;rw[this];omega
theorem zrE (l:List Int) (w:World):Calls prog 34 #[.int .u64 (zan l),.int .i64 0] w (zb0 (.bool (decide ((0:Int)∈l))) w):=by
 have hb:=zev l;have hm:=zgO l 0 dQ;have he:=ztL hb.1 hb.2;have HQ:Hid (decide ((0:Int)∈l)=(zan l%2==1)):=by
  show _=_;have e1:zan l / 2^0=zan l:=by simp
  rw[e1] at hm;rw[hm]
  by_cases h:(0:Int)∈l<;>simp [h]
 clear hm;generalize zan l=M at *;obtain⟨h0,h1⟩:=hb;go_enter func34,ntmps34;go_wp2;go_ret;exact⟨zap HQ.out.symm,rfl⟩
theorem zlg:mkN (fun i=>decide (i≠0)) 64=18446744073709551614:=by decide+kernel
theorem zmh (l:List Int):bits .andNot .u64 (zan l) 1=zan (l.filter fun x=>decide (x≠0)):=by
 have hb:=zev l;rw[u64_andNot _ 1 hb.1 hb.2 (by decide) (by decide)]
 have e1:(18446744073709551615 - (1:Int).toNat)=18446744073709551614:=rfl;have e2:(zan l).toNat=mkN (inL l) 64:=by unfold zan;simp
 rw[e1,e2,←zlg,zos];unfold zan;congr 1;apply zbN;intro i hi;simp only[inL,List.mem_filter,waM]
 by_cases h:(i:Int)∈l<;>by_cases h0:i=0<;>simp [h,h0]
theorem zrF (l m:List Int):bits .or .u64 (zan l) (zan m)=zan (l++m):=by
 have h1:=zcY (inL l) 64;have h2:=zcY (inL m) 64;unfold zan;rw[u64_or_nat _ _ h1 h2,zlY];congr 1;apply zbN;intro i hi;simp only[inL,wbB]
 by_cases h:(i:Int)∈l<;>by_cases h0:(i:Int)∈m<;>simp [h,h0]
def wkL (V:List Int):List Int:=(if(0:Int)∈V then V++[7] else V).filter fun x=>decide (x≠0)
theorem zpw {V:List Int} {x:Int}:x∈wkL V↔x≠0∧(x∈V∨((0:Int)∈V∧x=7)):=by
 unfold wkL;rw[List.mem_filter];split
 ·rename_i h;simp only[wbB,wbC,waM];constructor
  ·rintro ⟨h1,h2⟩;exact⟨h2,h1.imp id fun e=>⟨h,e⟩⟩
  ·rintro ⟨h1,h2⟩;exact⟨h2.imp id fun e=>e.2,h1⟩
 ·rename_i h;simp only[waM];constructor
  ·rintro ⟨h1,h2⟩;exact⟨h2,.inl h1⟩
  ·rintro ⟨h1,h2⟩;exact⟨h2.elim id fun e=>absurd e.1 h,h1⟩
theorem zj7 (A:Option Addr) (n c:Nat) (l:List It) (w:World) (hA:zcz w A n l) (hn:n≤100000):
 Calls prog 11 #[.slice A n c] w (Ret (.int .u64 (zan (wkL (zaD l 0 7)))) w):=by
 have HA:=waV hA;clear hA;have HB:=waV (zfc 4 dQ);have HM:=waV (fun W (hW:Below w.heap.size w W)=>zj6 0 7 A n c l W (HA.out.below hW (waJ _)) hn)
 have HO:=waV (fun b W h=>zdg (some ⟨b,0,none⟩) 1 1 [7] W h dQ)
 generalize zaD l 0 7=V at *;have HH:=waV (fun W=>zrE V W)
 by_cases h0:(0:Int)∈V
 ·have HE:Hid (zan (wkL V)=bits .andNot .u64 (bits .or .u64 (zan V) (zan [7])) 1):=by
   show _=_;rw[zrF,zmh];unfold wkL;rw[if_pos h0]
  have hd:decide ((0:Int)∈V)=true:=waP h0;rw[hd] at HH;clear h0 hd;generalize zan V=M at *;go_enter func11,ntmps11;go_wp2_with fail;refine(HB.out _).mono ?_;rintro e w1 ⟨rfl,hb1⟩;go_wp2_with fail;refine(HM.out _ hb1).mono ?_;rintro e w2 ⟨rfl,hb2⟩;have hb12:=zai hb1 hb2 hb1.size;go_wp2_with fail;refine(HH.out _).mono ?_;rintro e w3 ⟨rfl,rfl⟩;go_wp2_with fail;refine(HO.out _ _ ?_).mono ?_
  ·exact zfP _ _ 7 (by simp) (by simp[go_sem])
  rintro e w4 ⟨rfl,rfl⟩;have hsz:=hb12.size;go_wp2;go_ret;exact⟨by rw[HE.out];rfl,by exact zaH⟩
 ·have HE:Hid (zan (wkL V)=bits .andNot .u64 (zan V) 1):=by
   show _=_;rw[zmh];unfold wkL;rw[if_neg h0]
  have hd:decide ((0:Int)∈V)=false:=waO h0;rw[hd] at HH;clear h0 hd;generalize zan V=M at *;go_enter func11,ntmps11;go_wp2_with fail;refine(HB.out _).mono ?_;rintro e w1 ⟨rfl,hb1⟩;go_wp2_with fail;refine(HM.out _ hb1).mono ?_;rintro e w2 ⟨rfl,hb2⟩;have hb12:=zai hb1 hb2 hb1.size;go_wp2_with fail;refine(HH.out _).mono ?_;rintro e w3 ⟨rfl,rfl⟩;go_wp2;go_ret;exact⟨by rw[HE.out];rfl,hb12⟩
def ztM (l:Nat→List It) (i:Nat):Int:=
 if i=0 then 1 else if i=1 then zan (zaD (l 0) 0 59) else if i=2 then zan (zaD (l 1) 0 23) else if i=3 then zan (zaD (l 3) 1 12) else if i=4 then zan (zaD (l 2) 1 31) else if i=5 then zaM 1 31 else zan (wkL (zaD (l 4) 0 7))
def zaL (l:Nat→List It):Cl:={m:=ztM l,or:=zfV l,oi:=0,ob:=false,od:=fun _=>0,y:=zci,u:=0,s:=1,a:=0,f:=0,t:=12622780799}
theorem ziX:(1:Int)=zan [0]:=by decide+kernel
theorem zpx:eqW (zog zci) zci=true:=by decide+kernel
theorem zgz (l:Nat→List It):ze8 (zaL l) zbs=true:=by
 have h0:zaY (1,zaM 0 59)=true:=by rw[ziX];exact zcs (by intro x hx;rw[wbC.1 hx];omega)
 have h1:zaY (zan (zaD (l 0) 0 59),zaM 0 59)=true:=zcs fun x hx=>zg5 hx
 have h2:zaY (zan (zaD (l 1) 0 23),zaM 0 23)=true:=zcs fun x hx=>zg5 hx
 have h3:zaY (zan (zaD (l 3) 1 12),zaM 1 12)=true:=zcs fun x hx=>zg5 hx
 have h4:zaY (zan (zaD (l 2) 1 31),zaM 1 31)=true:=zcs fun x hx=>zg5 hx
 have h5:zaY (zaM 1 31,zaM 1 31)=true:=zle _ _;have h6:zaY (zan (wkL (zaD (l 4) 0 7)),zaM 1 7)=true:=zcs fun x hx=>by
  obtain⟨n0,h|⟨_,rfl⟩⟩:=zpw.1 hx
  ·have:=zg5 h;omega
  ·omega
 have hp:(zsZ (zaL l) zbs).all zaY=true:=by
  show [((1:Int),zaM 0 59),(zan (zaD (l 0) 0 59),zaM 0 59),(zan (zaD (l 1) 0 23),zaM 0 23),(zan (zaD (l 3) 1 12),zaM 1 12),(zan (zaD (l 2) 1 31),zaM 1 31),(zaM 1 31,zaM 1 31),(zan (wkL (zaD (l 4) 0 7)),zaM 1 7)].all zaY=true;simp only[List.all_cons,List.all_nil,h0,h1,h2,h3,h4,h5,h6,Bool.and_true]
 have ho:zjz (zaL l)=true:=zrB rfl rfl fun _=>rfl
 have hy:eqW (zog (zaL l).y) (zaL l).y=true:=zpx;unfold ze8;rw[hp,ho,hy];show(true&&(true&&(true&&(!(unT 0).isEmpty&&(decide ((1:Int)≤1)&&inC 0)))))=true;decide+kernel
theorem zfs (l:Nat→List It):zcr (zaL l):=by
 refine⟨fun k hk=>?_,fun k hk=>(⟨by decide,by decide⟩:M64 0),fun k hk=>ztK _ _⟩
 show M64 (ztM l k);unfold ztM
 repeat' split
 ·exact⟨by decide,by decide⟩
 all_goals first|exact m64_L _|exact ztK _ _
def zgi (l:Nat→List It) (t:Int):Bool:=
 inC t&&(decide (t%86400%60=0)&&(inB (l 0) 0 59 (t%86400 / 60%60)&&(inB (l 1) 0 23 (t%86400 / 3600)&&(inB (l 3) 1 12 (mD (t / 86400))&&
 (if zbv (l 2)||zbv (l 4) then inB (l 2) 1 31 (dD (t / 86400))&&(inB (l 4) 0 7 (wdD (t / 86400))||(decide (wdD (t / 86400)=7)&&inB (l 4) 0 7 0))
  else inB (l 2) 1 31 (dD (t / 86400))||(inB (l 4) 0 7 (wdD (t / 86400))||(decide (wdD (t / 86400)=7)&&inB (l 4) 0 7 0)))))))
theorem zrG {c:Cl} {n:Int} (h:0≤n) (h1:n<146097) (hy:c.y=zci) (he:c.m 5=zaM 1 31) (ho:c.oi=0) (hu:c.u=0) (hs:c.s=1) (ha:c.a=0):
 zcK (c.m 5) (zbl (yD n) (mD n) - dD n+1)=true∧zpc c.y (yD n - 1970)=true∧zhM c n=true∧zjy c.u c.s c.a n=true:=by
 obtain⟨_,_,_,_,y0,y1⟩:=zgR h h1;obtain⟨_,m1,m2,d1,d2⟩:=zc1 h h1;have hl:=zb5 (y:=yD n) m1 m2;refine⟨?_,?_,?_,?_⟩
 ·rw[he,zfU _ _ _ (by omega) (by omega)]
  simp;omega
 ·rw[hy];exact zpq (by omega) (by omega)
 ·unfold zhM;rw[ho];rfl
 ·rw[hu,hs,ha];exact ziR (by decide+kernel) (by decide) (.inr rfl)
theorem zrH (l:Nat→List It) (t:Int):zru (zaL l) t=zgi l t:=by
 unfold zru zgi;cases hi:inC t with
 |false=>rfl
 |true=>
  obtain⟨t0,t1⟩:=ztA hi;have h1:decide (zaE (zaL l).f (zaL l).t≤t∧t≤zas (zaL l).f (zaL l).t)=true:=waP ⟨t0,by show t≤12622780799;omega⟩
  have h2:onU (zaL l).u (zaL l).s (zaL l).a t=true:=by
   show onU 0 1 0 t=true;refine waP ⟨by decide+kernel,waP ⟨hi,by decide,by decide⟩,by decide,?_⟩
   omega
  obtain⟨e1,e2,e3,e4⟩:=zrG (c:=zaL l) (n:=t / 86400) oQ oQ rfl rfl rfl rfl rfl rfl;have e5:zcB (t%86400) ((zaL l).m 2) ((zaL l).m 1) ((zaL l).m 0)=(inB (l 1) 0 23 (t%86400 / 3600)&&(inB (l 0) 0 59 (t%86400 / 60%60)&&decide (t%86400%60=0))):=by
   show zcB (t%86400) (zan (zaD (l 1) 0 23)) (zan (zaD (l 0) 0 59)) 1=_;unfold zcB;rw[zgy (by omega) (by omega),zgy (by omega) (by omega),ziX,zey]
   congr 2;rw[wbH,wbC];omega
  obtain⟨_,m1,m2,d1,d2⟩:=zc1 (n:=t / 86400) oQ oQ;have hl:=zb5 (y:=yD (t / 86400)) m1 m2;have hw:=zb8 (t / 86400);have e6:zcK ((zaL l).m 4) (dD (t / 86400))=inB (l 2) 1 31 (dD (t / 86400)):=zgy oQ oQ;have e7:zcK ((zaL l).m 3) (mD (t / 86400))=inB (l 3) 1 12 (mD (t / 86400)):=zgy oQ oQ;have e8:zcK ((zaL l).m 6) (wdD (t / 86400))=(inB (l 4) 0 7 (wdD (t / 86400))||(decide (wdD (t / 86400)=7)&&inB (l 4) 0 7 0)):=by
   show zcK (zan (wkL (zaD (l 4) 0 7))) (wdD (t / 86400))=_;rw[zey,waQ,waM,zpw,wbF,waN,waM,(zco 0 7 (l 4)).2,(zco 0 7 (l 4)).2];constructor
   ·rintro ⟨_,_,_,h|⟨h,h7⟩⟩
    ·exact .inl h
    ·exact .inr ⟨h7,h⟩
   ·rintro (h|⟨h7,h⟩)
    ·exact⟨by omega,by omega,by omega,.inl h⟩
    ·exact⟨by omega,by omega,by omega,.inr ⟨h,h7⟩⟩
  have e9:(zaL l).or=(!zbv (l 2)&&!zbv (l 4)):=rfl;rw[zgz,h1,h2,e5];unfold zj2;rw[zgz,zrA,e1,e2,e3,e4,e6,e7,e8,e9];generalize inB (l 2) 1 31 (dD (t / 86400))=D;generalize (inB (l 4) 0 7 (wdD (t / 86400))||(decide (wdD (t / 86400)=7)&&inB (l 4) 0 7 0))=K
  generalize inB (l 1) 0 23 (t%86400 / 3600)=a;generalize inB (l 0) 0 59 (t%86400 / 60%60)=b;generalize decide (t%86400%60=0)=s;generalize inB (l 3) 1 12 (mD (t / 86400))=m;cases zbv (l 2)<;>cases zbv (l 4)<;>cases D<;>cases K<;>cases a<;>cases b<;>cases s<;>cases m<;>rfl
end Go.Proofs.YtgedndlifiihkaaGreatDoor
