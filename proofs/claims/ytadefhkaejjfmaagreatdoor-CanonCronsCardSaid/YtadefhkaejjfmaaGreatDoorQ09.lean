/- A part of the proof: RLap WCloC WRollP WSpn WSpn2 WSpn3 WSpn4 WPhs -/
import Derived.Test.YtadefhkaejjfmaaGreatDoorQ08
import Derived.Test.YtadefhkaejjfmaaGreatDoorQ00
import Derived.Test.YtadefhkaejjfmaaGreatDoorQ05
import Derived.Test.YtadefhkaejjfmaaGreatDoorQ06
set_option maxHeartbeats 80000000
set_option maxRecDepth 100000
set_option linter.unusedSimpArgs false
set_option linter.unusedVariables false
namespace Go.Proofs.YtadefhkaejjfmaaGreatDoor
open Go.Proofs.Tryz
open Go.RowKit
def spF (c:Cl):Int:=zaE c.f c.t
def spU (c:Cl):Int:=zau c.f c.t
def zoR (c:Cl) (n:Int):Bool:=decide (spF c≤spU c∧spF c / 86400≤n∧n≤spU c / 86400)&&zke c n
def zh0 (c:Cl) (n:Int):Int:=if n=spF c / 86400 then spF c%86400 else 0
def zeV (c:Cl) (n:Int):Int:=if n=spU c / 86400 then spU c%86400 else 86399
def zbZ (c:Cl) (n:Int):Int:=if 1<c.s∧0<zaw c.u then(c.a / zaw c.u - n * 86400 / zaw c.u)%c.s else 0
structure LSt where
 act:Bool
 fr:Int
 un:Int
 ph:Int
def stZ:LSt:=⟨false,0,0,0⟩
def zlz (c:Cl) (n:Int):LSt:=if zoR c n then⟨true,zh0 c n,zeV c n,zbZ c n⟩ else stZ
def zfY (c:Cl) (x:LSt) (s:Int):Bool:=
 decide (x.act=true∧0≤x.ph∧zff c zbA=true)&&(decide (x.fr≤s∧s≤x.un)&&(zcK s (c.m 2) (c.m 1) (c.m 0)&&
  (!decide (0<zaw c.u∧(1<c.s∨0<x.ph))||decide (x.ph≤s / zaw c.u∧(s / zaw c.u - x.ph)%c.s=0))))
theorem zg5 (u:Int):zaw u=1∨zaw u=60∨zaw u=3600∨zaw u=0:=by
 unfold zaw;split
 ·exact .inl rfl
 ·split
  ·exact .inr (.inl rfl)
  ·split
   ·exact .inr (.inr (.inl rfl))
   ·exact .inr (.inr (.inr rfl))
theorem zg6 {c:Cl} (h:zff c zbA=true):1≤c.s∧inC c.a=true∧0≤c.u∧c.u<7:=by
 unfold zff at h;simp only[waN,waM,Bool.not_eq_true'] at h;obtain⟨_,_,_,hu,hs,ha⟩:=h;refine⟨hs,ha,?_⟩;have h1:unT c.u≠[]:=by intro e;rw[e] at hu;cases hu
 rw[ne_eq,ztz,Decidable.not_not] at h1;exact h1
theorem zr3 {x b p s:Int} (hs:1≤s) (hx:0≤x) (hp:p=b%s):(p≤x∧(x - p)%s=0)↔(x - b)%s=0:=by
 have e:(x - p)%s=(x - b)%s:=by rw[hp,Int.sub_emod,Int.emod_emod_of_dvd _ (Int.dvd_refl s),←Int.sub_emod]
 constructor
 ·rintro ⟨_,h⟩;rw[←e];exact h
 ·intro h;rw[←e] at h;refine⟨?_,h⟩;have h1:p<s:=by rw[hp];exact Int.emod_lt_of_pos _ (by omega)
  obtain⟨k,hk⟩:=Int.dvd_of_emod_eq_zero h;have hk0:0≤k:=by
   false_or_by_contra
   have:s * k≤s * (-1):=Int.mul_le_mul_of_nonneg_left oQ oQ;omega
  have:=Int.mul_nonneg (show 0≤s by omega) hk0
  omega
theorem zr4 {c:Cl} {n:Int} (h:zke c n=true):zjL c.u c.s c.a n=true:=by
 unfold zke zvg at h;simp only[waN] at h;exact h.2.2.2.2.2.2
theorem zuk {n s z:Int} (hz:z=1∨z=60∨z=3600) (hs:0≤s):(n * 86400+s) / z=n * 86400 / z+s / z:=by
 rcases hz with rfl|rfl|rfl<;>omega
theorem zpF (c:Cl) {n s:Int} (h0:0≤n) (h1:n<146097) (s0:0≤s) (s1:s<86400):zfY c (zlz c n) s=zr1 c (n * 86400+s):=by
 have ht:(n * 86400+s) / 86400=n:=by omega
 have hm:(n * 86400+s)%86400=s:=by omega
 have hi:inC (n * 86400+s)=true:=waP oQ;unfold zr1;rw[ht,hm,hi,Bool.true_and];unfold zlz;cases hmay:zff c zbA with
 |false=>
  rw[Bool.false_and];have:zoR c n=false:=by unfold zoR zke;rw[hmay];simp
  rw[this];rfl
 |true=>
  rw[Bool.true_and];obtain⟨hs,ha,hu0,hu1⟩:=zg6 hmay;cases hd:zke c n with
  |false=>
   have:zoR c n=false:=by unfold zoR;rw[hd];simp
   rw[this];simp only[Bool.and_false];rfl
  |true=>
   have hst:=zr4 hd;have hact:zoR c n=decide (spF c≤spU c∧spF c / 86400≤n∧n≤spU c / 86400):=by unfold zoR;rw[hd,Bool.and_true]
   rw[hact];have hon:onU c.u c.s c.a (n * 86400+s)=decide (0<zaw c.u∧1<c.s→(s / zaw c.u - zbZ c n)%c.s=0∧zbZ c n≤s / zaw c.u):=by
    unfold onU;rw[wbH];have hoa:okU c.u c.a=true:=waP ⟨ha,hu0,hu1⟩;have hot:okU c.u (n * 86400+s)=true:=waP ⟨hi,hu0,hu1⟩
    by_cases hz:0<zaw c.u
    ·have hw:∀t,zbs c.u t=t / zaw c.u:=fun t=>if_pos hz
     have hz3:zaw c.u=1∨zaw c.u=60∨zaw c.u=3600:=by
      rcases zg5 c.u with h|h|h|h
      ·exact .inl h
      ·exact .inr (.inl h)
      ·exact .inr (.inr h)
      ·omega
     rw[hw,hw,zuk hz3 s0];have hx:0≤s / zaw c.u:=Int.ediv_nonneg s0 oQ
     by_cases h1s:1<c.s
     ·have hp:zbZ c n=(c.a / zaw c.u - n * 86400 / zaw c.u)%c.s:=if_pos ⟨h1s,hz⟩;have:=zr3 hs hx hp;have e:n * 86400 / zaw c.u+s / zaw c.u - c.a / zaw c.u=s / zaw c.u - (c.a / zaw c.u - n * 86400 / zaw c.u):=by omega
      rw[e];constructor
      ·rintro ⟨_,_,_,h⟩ _;exact(this.2 h).symm
      ·intro h;exact⟨hoa,hot,hs,this.1 (h ⟨hz,h1s⟩).symm⟩
     ·have e1:c.s=1:=by omega
      constructor
      ·rintro _ ⟨_,h⟩;exact absurd h h1s
      ·intro _;rw[e1];exact⟨hoa,hot,by omega,Int.emod_one _⟩
    ·have hw:∀t,zbs c.u t=zcc c.u (t / 86400):=fun t=>if_neg hz
     constructor
     ·rintro _ ⟨h,_⟩;exact absurd h hz
     ·intro _;refine⟨hoa,hot,hs,?_⟩;unfold zjL at hst;obtain⟨_,_,h⟩:=waA hst;rcases h with h|h|h
      ·exact absurd h hz
      ·rw[h];exact Int.emod_one _
      ·rw[hw (n * 86400+s),ht];exact h
   rw[hon,Bool.and_true];have hph0:0≤zbZ c n:=by
    unfold zbZ;split
    ·exact Int.emod_nonneg _ oQ
    ·exact Int.le_refl _
   have hphz:¬(1<c.s∧0<zaw c.u)→zbZ c n=0:=fun h=>if_neg h
   have hsp:(decide (zaE c.f c.t≤n * 86400+s∧n * 86400+s≤zau c.f c.t))=(decide (spF c≤spU c∧spF c / 86400≤n∧n≤spU c / 86400)&&decide (zh0 c n≤s∧s≤zeV c n)):=by
    show decide (spF c≤n * 86400+s∧n * 86400+s≤spU c)=_;rw[waQ,waN,waM,waM,waM];unfold zh0 zeV;generalize spF c=F;generalize spU c=U;constructor
    ·intro h;refine⟨by omega,?_,?_⟩
     ·split<;>omega
     ·split<;>omega
    ·rintro ⟨⟨h2,h3,h4⟩,h5,h6⟩;constructor
     ·split at h5<;>omega
     ·split at h6<;>omega
   rw[hsp];cases hA:decide (spF c≤spU c∧spF c / 86400≤n∧n≤spU c / 86400) with
   |false=>
    rw[if_neg (by decide)]
    simp only[Bool.false_and];rfl
   |true=>
    rw[if_pos rfl,Bool.true_and];unfold zfY;dsimp only;have e1:decide (True∧0≤zbZ c n∧zff c zbA=true)=true:=waP ⟨trivial,hph0,hmay⟩;have e2:decide ((true:Bool)=true∧0≤zbZ c n∧zff c zbA=true)=true:=waP ⟨rfl,hph0,hmay⟩;rw[e2,Bool.true_and];congr 1;congr 1
    by_cases hz:0<zaw c.u∧1<c.s
    ·have d1:decide (0<zaw c.u∧(1<c.s∨0<zbZ c n))=true:=waP ⟨hz.1,.inl hz.2⟩;rw[d1,Bool.not_true,Bool.false_or,wbH];exact⟨fun h _=>⟨h.2,h.1⟩,fun h=>⟨(h hz).2,(h hz).1⟩⟩
    ·have hp0:=hphz (fun h=>hz ⟨h.2,h.1⟩)
     have d1:decide (0<zaw c.u∧(1<c.s∨0<zbZ c n))=false:=waO (by
      rintro ⟨h2,h3|h3⟩
      ·exact hz ⟨h2,h3⟩
      ·omega)
     rw[d1,Bool.not_false,Bool.true_or];exact(waP (fun h=>absurd h hz)).symm
def zvG:Cl:={m:=fun _=>0,or:=false,oi:=0,ob:=false,od:=fun _=>0,y:=fun _=>0,u:=0,s:=0,a:=0,f:=0,t:=0}
theorem zul:(prog.info? 81).map (fun i=>(i.zero,i.size,i.bytes))=some (some (.agg (clA zvG)),30,240):=by kernel_rfl
theorem zfp (c:Cl):(zg4 c).length=30:=rfl
theorem zpG (c:Cl):(zg4 c).all (·.oneCell')=true:=by kernel_rfl
theorem zlA (l:List Cl):∀u∈l.flatMap zg4,u.oneCell'=true:=by
 intro u hu;obtain⟨x,_,h⟩:=List.mem_flatMap.1 hu;exact List.all_eq_true.1 (zpG x) u h
end Go.Proofs.YtadefhkaejjfmaaGreatDoor
namespace Go.Proofs.YtadefhkaejjfmaaGreatDoor
open Go.Proofs.Tryz
def zd0 (x:LSt):Value:=.agg #[.bool x.act,.int .i64 x.fr,.int .i64 x.un,.int .i64 x.ph]
theorem zr5 {x y:LSt} (h:zd0 x=zd0 y):x=y:=by
 cases x;cases y;simp only[zd0,Value.agg.injEq,Array.mk.injEq,List.cons.injEq,Value.bool.injEq,Value.int.injEq,and_true,true_and] at h;obtain⟨rfl,rfl,rfl,rfl⟩:=h;rfl
def zeS (L:List Cl) (i:Nat):Cl:=L.getD i zvG
def zbQ (L:List Cl) (x:Nat→LSt) (s:Nat):Bool:=(List.range L.length).any fun i=>zfY (zeS L i) (x i) (s:Int)
def stN (L:List Cl) (n:Int) (i:Nat):LSt:=if i<L.length then zlz (zeS L i) n else stZ
def zak (L:List Cl) (n:Int) (s:Nat):Bool:=zr2 L (n * 86400+(s:Int))
theorem zfq (c:Cl) {x:LSt} (h:x.act=false) (s:Int):zfY c x s=false:=by
 unfold zfY;rw[waO (fun g=>by rw[h] at g;cases g.1)]
 rfl
theorem zi3 {L:List Cl} (h:ze2 L=true) {n:Int} (h0:0≤n) (h1:n<146097) {s:Nat} (hs:s<86400):zbQ L (stN L n) s=zak L n s:=by
 unfold zbQ zak zr2;rw[h,Bool.true_and,waQ,List.any_eq_true,List.any_eq_true];constructor
 ·rintro ⟨i,hi,he⟩;have hi':=wbG.1 hi;rw[stN,if_pos hi',zpF _ h0 h1 (by omega) (by omega)] at he
  refine⟨zeS L i,?_,he⟩;unfold zeS;rw[List.getD_eq_getElem?_getD,waE hi'];exact List.getElem_mem hi'
 ·rintro ⟨c,hc,he⟩;obtain⟨i,hi,rfl⟩:=List.mem_iff_getElem.1 hc;refine⟨i,wbG.2 hi,?_⟩;have e:zeS L i=L[i]:=by unfold zeS;rw[List.getD_eq_getElem?_getD,waE hi];rfl
  rw[stN,if_pos hi,e,zpF _ h0 h1 (by omega) (by omega)]
  exact he
theorem zr6 {L:List Cl} {x y:Nat→LSt} (h:∀i,i<L.length→x i=y i) (s:Nat):zbQ L x s=zbQ L y s:=by
 unfold zbQ;rw[waQ,List.any_eq_true,List.any_eq_true];constructor<;>rintro ⟨i,hi,he⟩<;>refine⟨i,hi,?_⟩
 ·rw[←h i (wbG.1 hi)];exact he
 ·rw[h i (wbG.1 hi)];exact he
def zi4:LSt:=⟨true,0,86399,0⟩
def zd3 (x:Nat→LSt):Nat→Nat
 |0=>0
 |k+1=>zd3 x k+if (x k).act then 2^k else 0
theorem zg7 (x:Nat→LSt):∀k,zd3 x k<2^k
 |0=>by simp[zd3]
 |k+1=>by
  have:=zg7 x k;simp only[zd3,Nat.pow_succ];split<;>omega
theorem zi5 (x:Nat→LSt):∀k i,i<k→(zd3 x k).testBit i=(x i).act
 |0,i,h=>by omega
 |k+1,i,h=>by
  have hl:=zg7 x k;simp only[zd3]
  by_cases hi:i=k
  ·subst hi;cases ha:(x i).act with
   |true=>rw [if_pos rfl,Nat.add_comm,Nat.testBit_two_pow_add_eq,waX hl];rfl
   |false=>rw [if_neg (by decide),Nat.add_zero,waX hl]
  ·rw[←zi5 x k i (by omega)]
   cases ha:(x k).act with
   |true=>rw [if_pos rfl,Nat.add_comm,Nat.testBit_two_pow_add_gt (by omega)]
   |false=>rw [if_neg (by decide),Nat.add_zero]
def whS (a:Nat) (i:Nat):LSt:=if a.testBit i then zi4 else stZ
theorem zil {L:List Cl} {x:Nat→LSt} (h:∀i,i<L.length→(x i).act=true→x i=zi4) (s:Nat):zbQ L (whS (zd3 x L.length)) s=zbQ L x s:=by
 unfold zbQ;rw[waQ,List.any_eq_true,List.any_eq_true];constructor<;>rintro ⟨i,hi,he⟩<;>refine⟨i,hi,?_⟩<;>have hi':=wbG.1 hi<;>unfold whS at * <;>rw [zi5 x _ i hi'] at * <;>cases ha:(x i).act
 ·rw[ha,if_neg (by decide),zfq _ rfl] at he;cases he
 ·rw[ha,if_pos rfl,←h i hi' ha] at he;exact he
 ·rw[zfq _ ha] at he;cases he
 ·rw[if_pos rfl,←h i hi' ha];exact he
theorem zkf {L:List Cl} {x:Nat→LSt} (h:zd3 x L.length=0) (s:Nat):zbQ L x s=false:=by
 unfold zbQ;rw[List.any_eq_false];intro i hi;have:=zi5 x L.length i (wbG.1 hi);rw[h,Nat.zero_testBit] at this;rw[zfq _ this.symm];decide
end Go.Proofs.YtadefhkaejjfmaaGreatDoor
namespace Go.Proofs.YtadefhkaejjfmaaGreatDoor
open Go.Proofs.Tryz
open Go.RowKit
theorem zkg (w:World):Calls prog 289 #[] w (Ret (.agg #[.int .i64 0,.int .i64 (-1)]) w):=by
 go_enter func289,ntmps289;go_wp2
 (try simp only[Exit.inBlock,Exit.then])
 refine waY (v:=.agg #[.int .i64 0,.int .i64 (-1)]) ?_ rfl ⟨rfl,by exact zaI⟩
 rw[zah rfl]
 go_simp
theorem zlB (a b:Int) (ha:-1000000000000000≤a) (ha1:a≤1000000000000000) (hb:1≤b) (hb1:b≤9223372036854775807) (w:World):Calls prog 287 #[.int .i64 a,.int .i64 b] w (zb4 (.int .i64 (a%b)) w):=by
 have hq:¬b<1:=by omega
 have hb0:(b==0)=false:=by simp;omega
 have hd:a.tmod b=if a.tmod b<0 then a%b - b else a%b:=by
  have h0:=Int.emod_nonneg a (b:=b) oQ;have h2:=Int.emod_lt_of_pos a (b:=b) oQ
  by_cases h:0≤a
  ·rw[Int.tmod_eq_emod_of_nonneg h,if_neg (by omega)]
  ·have e:=Int.tmod_eq_emod (a:=a) (b:=b)
   by_cases hd:0≤a∨b ∣ a
   ·rw[if_pos hd] at e;rw[if_neg (by omega)];omega
   ·rw[if_neg hd] at e;have hna:((b.natAbs:Nat):Int)=b:=by omega
    rw[if_pos (by omega)];omega
 have g0:=Int.emod_nonneg a (b:=b) oQ;have g1:=Int.emod_lt_of_pos a (b:=b) oQ
 by_cases hn:a.tmod b<0
 ·rw[if_pos hn] at hd;generalize a%b=r at *;have e:r=a.tmod b+b:=by omega
  have hl:-1000000000000000≤a.tmod b:=by
   have h1:=Int.natAbs_tmod a b;have h2:=Nat.mod_le a.natAbs b.natAbs;omega
  have hu:a.tmod b+b≤9223372036854775807:=by omega
  rw[e];clear hd e g0 g1;have hne1:(b==-1)=false:=by rw[wbE];omega
  go_enter func287,ntmps287;go_wp2;go_ret;exact⟨rfl,rfl⟩
 ·rw[if_neg hn] at hd;rw[←hd] at g0 g1 ⊢;clear hd;have hne1:(b==-1)=false:=by rw[wbE];omega
  go_enter func287,ntmps287;go_wp2;go_ret;exact⟨rfl,rfl⟩
theorem zmB (d s:Int) (h0:0≤s) (h1:s<86400) (w:World):Calls prog 286 #[.int .i64 d,.int .i64 s] w (zb4 (.tuple #[.int .i64 (if 0≤d∧d<146097 then d * 86400+s else 0),.bool (decide (0≤d∧d<146097))]) w):=by
 have h2:¬s<0:=by omega
 have h3:¬86400≤s:=by omega
 by_cases hd0:d<0
 ·rw[if_neg (by omega),waO (by omega)]
  go_enter func286,ntmps286;go_wp2
  (try simp only[Exit.inBlock,Exit.then])
  refine waY (wbM rfl _ _ _) rfl ?_;exact⟨rfl,rfl⟩
 ·by_cases hd1:d<146097
  ·have hd2:¬146097≤d:=by omega
   rw[if_pos (by omega),waP (by omega)]
   go_enter func286,ntmps286;go_wp2
   (try simp only[Exit.inBlock,Exit.then])
   refine waY (wbM rfl _ _ _) rfl ?_;exact⟨rfl,rfl⟩
  ·have hd2:146097≤d:=by omega
   rw[if_neg (by omega),waO (by omega)]
   go_enter func286,ntmps286;go_wp2
   (try simp only[Exit.inBlock,Exit.then])
   refine waY (wbM rfl _ _ _) rfl ?_;exact⟨rfl,rfl⟩
def zrz (d:Int):Int:=if 0≤d∧d<146097 then d * 86400 else 0
def zrA (d:Int):Int:=if 0≤d∧d<146097 then d * 86400+86399 else -1
theorem zr7 (d:Int) (w:World):Calls prog 284 #[.int .i64 d] w (Ret (.agg #[.int .i64 (zrz d),.int .i64 (zrA d)]) w):=by
 have HJ:=waV (fun W=>zmB d 0 dQ dQ W)
 have HN:=waV (fun W=>zkg W)
 by_cases h:0≤d∧d<146097
 ·rw[if_pos h,waP h] at HJ;have HR:Hid (zrz d=d * 86400∧zrA d=d * 86400+86399):=⟨if_pos h,if_pos h⟩;rw[HR.out.1,HR.out.2];obtain⟨k0,k1⟩:=h;go_enter func284,ntmps284;go_wp2_with fail;refine(HJ.out _).mono ?_;rintro e w1 ⟨rfl,rfl⟩;go_wp2
  (try simp only[Exit.inBlock,Exit.then])
  refine waY (v:=.agg #[.int .i64 (d * 86400),.int .i64 (d * 86400+86399)]) ?_ rfl ⟨rfl,by exact zaI⟩
  rw[zah rfl]
  go_simp
  all_goals (try omega)
 ·rw[if_neg h,waO h] at HJ;have HR:Hid (zrz d=0∧zrA d=-1):=⟨if_neg h,if_neg h⟩;rw[HR.out.1,HR.out.2];clear h;go_enter func284,ntmps284;go_wp2_with fail;refine(HJ.out _).mono ?_;rintro e w1 ⟨rfl,rfl⟩;go_wp2_with fail;refine(HN.out _).mono ?_;rintro e w1 ⟨rfl,hb1⟩;obtain⟨hc,hf⟩:=zae hb1;have hz1:w.heap.size<w1.heap.size:=by have:=hb1.size;simp at this;omega
  have hbw:Below w.heap.size w w1:=((waC _ w).alloc (waJ _) _).trans (hb1.mono (by simp))
  have f0:∀j,w1.frozen? ⟨w.heap.size,j,none⟩=false:=fun j=>by rw[hf _ _ (by simp)];go_simp
  have c0:∃v,w1.cell? ⟨w.heap.size,0,none⟩=some v:=⟨_,by rw[hc _ _ (by simp)];exact zaa rfl rfl⟩
  have c1:∃v,w1.cell? ⟨w.heap.size,1,none⟩=some v:=⟨_,by rw[hc _ _ (by simp)];exact zaa rfl rfl⟩
  obtain⟨v0,c0⟩:=c0;obtain⟨v1,c1⟩:=c1;clear hb1 hc hf;go_wp2
  (try simp only[Exit.inBlock,Exit.then])
  refine waY (v:=.agg #[.int .i64 0,.int .i64 (-1)]) ?_ rfl ⟨rfl,by exact zaI⟩
  rw[zah rfl]
  go_simp
theorem zed (f u:Int):(zaE f u=0∧zau f u=-1)∨(0≤zaE f u∧zaE f u≤zau f u∧zau f u≤12622780799):=by
 unfold zaE zau
 (repeat' split)<;>omega
theorem zim (f u:Int) (w:World):Calls prog 202 #[.agg #[.int .i64 f,.int .i64 u]] w (Ret (.bool (decide (zau f u<0))) w):=by
 have HH:=waV (fun W=>zeb f u W)
 have HN:=waV (fun W=>zkg W)
 have hr:=zed f u;generalize zaE f u=F at *;generalize zau f u=U at *;have HR:Hid (decide (U<0)=(F==0&&U==-1)):=by
  show _=_;rw[waQ,waM];simp only[waN,beq_iff_eq];omega
 rw[HR.out];clear hr;go_enter func202,ntmps202;go_wp2_with fail;refine(HH.out _).mono ?_;rintro e w1 ⟨rfl,hb1⟩;go_wp2_with fail;refine(HN.out _).mono ?_;rintro e w2 ⟨rfl,hb2⟩;have hbw:Below w.heap.size w w2:=(((waC _ w).alloc (waJ _) _).trans (hb1.mono (by simp))).trans (hb2.mono (by have:=hb1.size;simp at this;omega))
 clear hb1 hb2;go_wp2
 all_goals go_ret
 all_goals refine⟨zap ?_,by exact zaI⟩
 all_goals (first|rfl|(simp;done)|simp[*])
def zkh (f u:Int):Value:=if zau f u<0 then .tuple #[.int .i64 0,.int .i64 0,.bool false] else .tuple #[.int .i64 (zaE f u / 86400),.int .i64 (zau f u / 86400),.bool true]
theorem zg8 (f u:Int) (w:World):Calls prog 193 #[.agg #[.int .i64 f,.int .i64 u]] w (Ret (zkh f u) w):=by
 have HH:=waV (fun W=>zeb f u W)
 have hr:=zed f u;unfold zkh;generalize zaE f u=F at *;generalize zau f u=U at *;have iF:inC F=true:=waP oQ;have HF:=waV (fun W=>zeD F iF W)
 by_cases hn:U<0
 ·have iU:inC U=false:=waO oQ;have HU:=waV (fun W=>zgY U iU W)
  rw[if_pos hn];generalize F / 86400=F1 at *;generalize F%86400=F2 at *;clear hr hn iF iU;go_enter func193,ntmps193;go_wp2_with fail;refine(HH.out _).mono ?_;rintro e w1 ⟨rfl,hb1⟩;obtain⟨hc,hf⟩:=zae hb1;have hz1:w.heap.size<w1.heap.size:=by have:=hb1.size;simp at this;omega
  have hbw:Below w.heap.size w w1:=((waC _ w).alloc (waJ _) _).trans (hb1.mono (by simp))
  have c0:w1.cell? ⟨w.heap.size,0,none⟩=some (.int .i64 f):=by rw[hc _ _ (by simp)];exact zaa rfl rfl
  have c1:w1.cell? ⟨w.heap.size,1,none⟩=some (.int .i64 u):=by rw[hc _ _ (by simp)];exact zaa rfl rfl
  have f0:∀j,w1.frozen? ⟨w.heap.size,j,none⟩=false:=fun j=>by rw[hf _ _ (by simp)];go_simp
  clear hb1 hc hf;go_wp2_with fail;refine(HF.out _).mono ?_;rintro e w2 ⟨rfl,rfl⟩;go_wp2_with fail;refine(HU.out _).mono ?_;rintro e w2 ⟨rfl,rfl⟩;go_wp2
  (try simp only[Exit.inBlock,Exit.then])
  refine waY (results_tmp3 rfl _ _ _) rfl ?_;exact⟨rfl,by exact zaI⟩
 ·have iU:inC U=true:=waP oQ;have HU:=waV (fun W=>zeD U iU W)
  rw[if_neg hn];generalize F / 86400=F1 at *;generalize F%86400=F2 at *;generalize U / 86400=U1 at *;generalize U%86400=U2 at *;clear hr hn iF iU;go_enter func193,ntmps193;go_wp2_with fail;refine(HH.out _).mono ?_;rintro e w1 ⟨rfl,hb1⟩;obtain⟨hc,hf⟩:=zae hb1;have hz1:w.heap.size<w1.heap.size:=by have:=hb1.size;simp at this;omega
  have hbw:Below w.heap.size w w1:=((waC _ w).alloc (waJ _) _).trans (hb1.mono (by simp))
  have c0:w1.cell? ⟨w.heap.size,0,none⟩=some (.int .i64 f):=by rw[hc _ _ (by simp)];exact zaa rfl rfl
  have c1:w1.cell? ⟨w.heap.size,1,none⟩=some (.int .i64 u):=by rw[hc _ _ (by simp)];exact zaa rfl rfl
  have f0:∀j,w1.frozen? ⟨w.heap.size,j,none⟩=false:=fun j=>by rw[hf _ _ (by simp)];go_simp
  clear hb1 hc hf;go_wp2_with fail;refine(HF.out _).mono ?_;rintro e w2 ⟨rfl,rfl⟩;go_wp2_with fail;refine(HU.out _).mono ?_;rintro e w2 ⟨rfl,rfl⟩;go_wp2
  (try simp only[Exit.inBlock,Exit.then])
  refine waY (results_tmp3 rfl _ _ _) rfl ?_;exact⟨rfl,by exact zaI⟩
def mxI (a b:Int):Int:=if a<b then b else a
def mnI (a b:Int):Int:=if b<a then b else a
def zee (f1 f2:Int) (k:Nat):Int:=if k=0 then 0 else if k=1 then mxI 0 f1 else mxI (mxI 0 f1) f2
def zef (u1 u2:Int) (k:Nat):Int:=if k=0 then 12622780799 else if k=1 then mnI 12622780799 u1 else mnI (mnI 12622780799 u1) u2
theorem ze3 (a b:Int):mxI a b=max a b:=by unfold mxI;split<;>omega
theorem ze4 (a b:Int):mnI a b=min a b:=by unfold mnI;split<;>omega
theorem zvH (f1 f2:Int):zee f1 f2 1=max (zee f1 f2 0) f1:=ze3 _ _
theorem zvI (f1 f2:Int):zee f1 f2 2=max (zee f1 f2 1) f2:=ze3 _ _
theorem zvJ (f1 f2:Int):zef f1 f2 1=min (zef f1 f2 0) f1:=ze4 _ _
theorem zvK (f1 f2:Int):zef f1 f2 2=min (zef f1 f2 1) f2:=ze4 _ _
theorem znN {a b c d:Int} (h1:a=max b 0) (h2:c=min d 12622780799):zaE a c=zaE b d∧zau a c=zau b d:=by
 subst h1 h2;unfold zaE zau;constructor<;>((repeat' split)<;>omega)
theorem zpH (f1 u1 f2 u2:Int):zaE (zee f1 f2 2) (zef u1 u2 2)=zaE (mxI f1 f2) (mnI u1 u2)∧zau (zee f1 f2 2) (zef u1 u2 2)=zau (mxI f1 f2) (mnI u1 u2):=by
 refine znN ?_ ?_
 ·show mxI (mxI 0 f1) f2=_;rw[ze3,ze3,ze3];omega
 ·show mnI (mnI _ u1) u2=_;rw[ze4,ze4,ze4];omega
theorem zeg {W:World} {b:Nat} {a0 a1 x y:Value} (o:Obj) (h0:W.cell? ⟨b,0,none⟩=some a0) (h1:W.cell? ⟨b,1,none⟩=some a1):
 (((W.setCell ⟨b,0,none⟩ x).setCell ⟨b,1,none⟩ y).alloc o).cell? ⟨b,0,none⟩=some x∧(((W.setCell ⟨b,0,none⟩ x).setCell ⟨b,1,none⟩ y).alloc o).cell? ⟨b,1,none⟩=some y:=by
 have hl:b<((W.setCell ⟨b,0,none⟩ x).setCell ⟨b,1,none⟩ y).heap.size:=by
  simp only[World.size_setCell];exact waR W _ h0
 have hk:=(zae ((waC ((W.setCell ⟨b,0,none⟩ x).setCell ⟨b,1,none⟩ y).heap.size ((W.setCell ⟨b,0,none⟩ x).setCell ⟨b,1,none⟩ y)).alloc (waJ _) o)).1;constructor
 ·rw[hk _ _ hl,waU _ _ _ _ (by simp)]
  exact World.cell?_setCell_same' _ _ _ (by rw[h0];rfl)
 ·rw[hk _ _ hl];refine World.cell?_setCell_same' _ _ _ ?_;rw[waU _ _ _ _ (by simp),h1];rfl
theorem zpI (f1 u1 f2 u2:Int) (B c:Nat) (w:World)
 (c0:w.cell? ⟨B,0,none⟩=some (.int .i64 f1)) (c1:w.cell? ⟨B,1,none⟩=some (.int .i64 u1)) (c2:w.cell? ⟨B,2,none⟩=some (.int .i64 f2)) (c3:w.cell? ⟨B,3,none⟩=some (.int .i64 u2)):
 Calls prog 283 #[.slice (some ⟨B,0,none⟩) 2 c] w (Ret (.agg #[.int .i64 (zaE (mxI f1 f2) (mnI u1 u2)),.int .i64 (zau (mxI f1 f2) (mnI u1 u2))]) w):=by
 have HW:=waV (fun W=>zie W)
 have HH:=waV (fun f u W=>zeb f u W)
 have hB:=waR w _ c0;have HE:Hid (zaE (zee f1 f2 2) (zef u1 u2 2)=zaE (mxI f1 f2) (mnI u1 u2)∧zau (zee f1 f2 2) (zef u1 u2 2)=zau (mxI f1 f2) (mnI u1 u2)):=zpH f1 u1 f2 u2;go_enter func283,ntmps283;go_wp2_with fail;refine(HW.out _).mono ?_;rintro e w1 ⟨rfl,hb1⟩;have hz1:w.heap.size<w1.heap.size:=by have:=hb1.size;simp at this;omega
 have hbw:Below w.heap.size w w1:=((waC _ w).alloc (waJ _) _).trans (hb1.mono (by simp))
 have g0:∀j,w1.frozen? ⟨w.heap.size,j,none⟩=false:=fun j=>by rw[(zae hb1).2 _ _ (by simp)];go_simp
 have k0:∃v,w1.cell? ⟨w.heap.size,0,none⟩=some v:=⟨_,by rw[(zae hb1).1 _ _ (by simp)];exact zaa rfl rfl⟩
 have k1:∃v,w1.cell? ⟨w.heap.size,1,none⟩=some v:=⟨_,by rw[(zae hb1).1 _ _ (by simp)];exact zaa rfl rfl⟩
 clear hb1;go_wp2
 go_loopw [9] (fun i V=>∃k:Nat,k≤2∧i=.int .i64 k∧V.cell? ⟨w1.heap.size,0,none⟩=some (.int .i64 (zee f1 f2 k))∧V.cell? ⟨w1.heap.size,1,none⟩=some (.int .i64 (zef u1 u2 k))∧Hid (∀j,V.frozen? ⟨w1.heap.size,j,none⟩=false)∧Below w1.heap.size w1 V∧w1.heap.size<V.heap.size) (fun i _=>2 - (intOf i).toNat)
 case atStart=>exact⟨0,by omega,rfl,zaa rfl rfl,zaa rfl rfl,fun j=>by go_simp,by exact zaI,by simp⟩
 case round=>
  obtain⟨k,hk,rfl,r0,r1,r2,r3,r4⟩:=hrel;obtain⟨v0,k0⟩:=k0;obtain⟨v1,k1⟩:=k1;have q0:=(zae r3).1 _ 0 hz1;have q1:=(zae r3).1 _ 1 hz1;have qf:=(zae r3).2 _ 0 hz1;rw[k0] at q0;rw[k1] at q1;rw[g0] at qf;have F0:∀j,wr.frozen? ⟨w.heap.size,j,none⟩=false:=fun j=>by rw[(zae r3).2 _ _ hz1,g0]
  have hbV:Below w.heap.size w wr:=hbw.trans (r3.mono oQ)
  by_cases h2:k=2
  ·subst h2;clear HW;have HHx:=waV (fun W=>HH.out (zee f1 f2 2) (zef u1 u2 2) W)
   rw[HE.out.1,HE.out.2] at HHx;have HF0:=r2.out;generalize zee f1 f2 2=A at *;generalize zef u1 u2 2=U at *;generalize zaE (mxI f1 f2) (mnI u1 u2)=RF at *;generalize zau (mxI f1 f2) (mnI u1 u2)=RU at *;go_wp2_with fail;refine(HHx.out _).mono ?_;rintro e w2 ⟨rfl,hb2⟩;have y0:=(zae hb2).1 w.heap.size 0 oQ;have y1:=(zae hb2).1 w.heap.size 1 oQ;have yf:∀j,w2.frozen? ⟨w.heap.size,j,none⟩=false:=fun j=>by rw[(zae hb2).2 _ _ (by omega)];exact F0 j
   rw[q0] at y0;rw[q1] at y1;have hz2:w.heap.size<w2.heap.size:=by have:=hb2.size;omega
   have hbW:Below w.heap.size w w2:=hbV.trans (hb2.mono oQ);clear hb2;go_wp2
   (try simp only[Exit.inBlock,Exit.then])
   refine waY (v:=.agg #[.int .i64 RF,.int .i64 RU]) ?_ rfl ⟨rfl,by exact zaI⟩
   rw[zah rfl]
   go_simp
  ·have hbB:B<w1.heap.size:=by omega
   have b0:wr.cell? ⟨B,0,none⟩=some (.int .i64 f1):=by rw[(zae hbV).1 _ _ hB];exact c0
   have b1:wr.cell? ⟨B,1,none⟩=some (.int .i64 u1):=by rw[(zae hbV).1 _ _ hB];exact c1
   have b2:wr.cell? ⟨B,2,none⟩=some (.int .i64 f2):=by rw[(zae hbV).1 _ _ hB];exact c2
   have b3:wr.cell? ⟨B,3,none⟩=some (.int .i64 u2):=by rw[(zae hbV).1 _ _ hB];exact c3
   have HF0:=r2.out;have n1:w1.heap.size≠B:=by omega
   obtain rfl|rfl:k=0∨k=1:=by omega
   ·clear HW HH HE;go_wp2;go_roundw
    case rel=>exact⟨1,by omega,rfl,(by first|exact(zeg _ r0 r1).1|(rw[zvH];exact(zeg _ r0 r1).1)),(by first|exact(zeg _ r0 r1).2|(rw[zvJ];exact(zeg _ r0 r1).2)),fun j=>by go_simp,by exact zaI,by simp;omega⟩
    case measure=>simp [intOf]
   ·clear HW HH HE;go_wp2;go_roundw
    case rel=>exact⟨2,by omega,rfl,(by first|exact(zeg _ r0 r1).1|(rw[zvI];exact(zeg _ r0 r1).1)),(by first|exact(zeg _ r0 r1).2|(rw[zvK];exact(zeg _ r0 r1).2)),fun j=>by go_simp,by exact zaI,by simp;omega⟩
    case measure=>simp [intOf]
def zjN (f d:Int):Int:=mxI f (zrz d)
def zi6 (u d:Int):Int:=mnI u (zrA d)
theorem zki {w w1 w2:World} {o:Obj} {x y:Value} (hz1:w.heap.size<w1.heap.size) (hb:Below w.heap.size w w1)
 (s0:w1.cell? ⟨w.heap.size,0,none⟩=some x) (s1:w1.cell? ⟨w.heap.size,1,none⟩=some y) (sf:∀j,w1.frozen? ⟨w.heap.size,j,none⟩=false) (hb2:Below (w1.alloc o).heap.size (w1.alloc o) w2):
 w2.cell? ⟨w.heap.size,0,none⟩=some x∧w2.cell? ⟨w.heap.size,1,none⟩=some y∧(∀j,w2.frozen? ⟨w.heap.size,j,none⟩=false)∧w.heap.size<w2.heap.size∧Below w.heap.size w w2:=by
 have h1:Below w1.heap.size w1 (w1.alloc o):=(waC _ w1).alloc (waJ _) o;have h2:Below w1.heap.size w1 w2:=h1.trans (hb2.mono h1.size);exact⟨by rw[(zae h2).1 _ _ hz1];exact s0,by rw[(zae h2).1 _ _ hz1];exact s1,fun j=>by rw[(zae h2).2 _ _ hz1];exact sf j,waD hz1 h2.size,hb.trans (h2.mono (by omega))⟩
theorem zmC (f u d:Int) (w:World):Calls prog 195 #[.agg #[.int .i64 f,.int .i64 u],.int .i64 d] w (Ret (if zau (zjN f d) (zi6 u d)<0 then .tuple #[.int .i64 0,.int .i64 0,.bool false] else .tuple #[.int .i64 (zaE (zjN f d) (zi6 u d)%86400),.int .i64 (zau (zjN f d) (zi6 u d)%86400),.bool true]) w):=by
 have HD:=waV (fun W=>zr7 d W)
 have HM:=waV (fun B c W=>zpI f u (zrz d) (zrA d) B c W)
 have hr:=zed (zjN f d) (zi6 u d);unfold zjN zi6 at *;generalize zaE (mxI f (zrz d)) (mnI u (zrA d))=F at *;generalize zau (mxI f (zrz d)) (mnI u (zrA d))=U at *;generalize zrz d=D1 at *;generalize zrA d=D2 at *;have iF:inC F=true:=waP oQ;have HF:=waV (fun W=>zeD F iF W)
 by_cases hn:U<0
 ·have iU:inC U=false:=waO oQ;have HU:=waV (fun W=>zgY U iU W)
  rw[if_pos hn];generalize F / 86400=F1 at *;generalize F%86400=F2 at *;clear hr hn iF iU;go_enter func195,ntmps195;go_wp2_with fail
  go_region_with ((first|(go_at_call 284;refine(HD.out _).mono ?_;rintro e w1 ⟨rfl,hb1⟩;have hz1:w.heap.size<w1.heap.size:=(by have:=hb1.size;(try simp at this);omega);have hbw1:Below w.heap.size w w1:=(by first|exact((waC _ w).alloc (waJ _) _).trans (hb1.mono (by first|omega|simp))|exact(((waC _ w).alloc (waJ _) _).drewN _).trans (hb1.mono (by first|omega|simp))|exact(zas ((waC _ w).alloc (waJ _) _) _).trans (hb1.mono (by first|omega|simp)));have s0:w1.cell? ⟨w.heap.size,0,none⟩=some (.int .i64 f):=(hb1.cell (p:=⟨w.heap.size,0,none⟩) (by simp)).trans (zaa rfl rfl);have s1:w1.cell? ⟨w.heap.size,1,none⟩=some (.int .i64 u):=(hb1.cell (p:=⟨w.heap.size,1,none⟩) (by simp)).trans (zaa rfl rfl);have sf:∀j,w1.frozen? ⟨w.heap.size,j,none⟩=false:=(fun j=>by rw[(zae hb1).2 _ _ (by simp)];go_simp);clear hb1)|(go_at_call 283;go_loud (refine(HM.out _ _ _ (zaa rfl rfl) (zaa rfl rfl) (zaa rfl rfl) (zaa rfl rfl)).mono ?_;rintro e w2 ⟨rfl,hb2⟩;obtain⟨y0,y1,yf,hz2,hbw2⟩:=zki hz1 hbw1 s0 s1 sf hb2;clear hb2))))
  all_goals (
   go_wp2_with fail;refine(HF.out _).mono ?_;rintro e w3 ⟨rfl,rfl⟩;go_wp2_with fail;refine(HU.out _).mono ?_;rintro e w3 ⟨rfl,rfl⟩;go_wp2
   (try simp only[Exit.inBlock,Exit.then])
   refine waY (results_tmp3 rfl _ _ _) rfl ?_;exact⟨rfl,by exact zaI⟩)
 ·have iU:inC U=true:=waP oQ;have HU:=waV (fun W=>zeD U iU W)
  rw[if_neg hn];generalize F / 86400=F1 at *;generalize F%86400=F2 at *;generalize U / 86400=U1 at *;generalize U%86400=U2 at *;clear hr hn iF iU;go_enter func195,ntmps195;go_wp2_with fail
  go_region_with ((first|(go_at_call 284;refine(HD.out _).mono ?_;rintro e w1 ⟨rfl,hb1⟩;have hz1:w.heap.size<w1.heap.size:=(by have:=hb1.size;(try simp at this);omega);have hbw1:Below w.heap.size w w1:=(by first|exact((waC _ w).alloc (waJ _) _).trans (hb1.mono (by first|omega|simp))|exact(((waC _ w).alloc (waJ _) _).drewN _).trans (hb1.mono (by first|omega|simp))|exact(zas ((waC _ w).alloc (waJ _) _) _).trans (hb1.mono (by first|omega|simp)));have s0:w1.cell? ⟨w.heap.size,0,none⟩=some (.int .i64 f):=(hb1.cell (p:=⟨w.heap.size,0,none⟩) (by simp)).trans (zaa rfl rfl);have s1:w1.cell? ⟨w.heap.size,1,none⟩=some (.int .i64 u):=(hb1.cell (p:=⟨w.heap.size,1,none⟩) (by simp)).trans (zaa rfl rfl);have sf:∀j,w1.frozen? ⟨w.heap.size,j,none⟩=false:=(fun j=>by rw[(zae hb1).2 _ _ (by simp)];go_simp);clear hb1)|(go_at_call 283;go_loud (refine(HM.out _ _ _ (zaa rfl rfl) (zaa rfl rfl) (zaa rfl rfl) (zaa rfl rfl)).mono ?_;rintro e w2 ⟨rfl,hb2⟩;obtain⟨y0,y1,yf,hz2,hbw2⟩:=zki hz1 hbw1 s0 s1 sf hb2;clear hb2))))
  all_goals (
   go_wp2_with fail;refine(HF.out _).mono ?_;rintro e w3 ⟨rfl,rfl⟩;go_wp2_with fail;refine(HU.out _).mono ?_;rintro e w3 ⟨rfl,rfl⟩;go_wp2
   (try simp only[Exit.inBlock,Exit.then])
   refine waY (results_tmp3 rfl _ _ _) rfl ?_;exact⟨rfl,by exact zaI⟩)
def zcM (u s a d:Int):Int:=if okU u a=true∧(0≤d∧d<146097)∧1≤s∧zaw u≠0 then(zbs u a - d * 86400 / zaw u)%s else 0
theorem zeE {u s a d:Int} (h:¬(okU u a=true∧(0≤d∧d<146097)∧1≤s∧zaw u≠0)):zcM u s a d=0:=if_neg h
theorem znO (u:Int):zaw u=0∨zaw u=1∨zaw u=60∨zaw u=3600:=by
 unfold zaw
 (repeat' split)<;>omega
theorem znP (u s a d:Int) (hs:s≤9223372036854775807) (w:World):Calls prog 197 #[.int .i64 u,.int .i64 s,.int .i64 a,.int .i64 d] w (Ret (.int .i64 (zcM u s a d)) w):=by
 have H2:=waV (fun W=>zmB d 0 dQ dQ W)
 have H3:=waV (fun W=>zec u W)
 by_cases ho:okU u a=true
 ·have H1:=waV (fun W=>zj9 u a ho W)
  have hw:=zmy ho
  by_cases hd:0≤d∧d<146097
  ·rw[if_pos hd,waP hd] at H2
   by_cases h1:1≤s
   ·by_cases hz:zaw u=0
    ·have HR:Hid (zcM u s a d=0):=zeE (fun h=>h.2.2.2 hz)
     rw[hz] at H3;clear ho hd hz;generalize zcM u s a d=R at *;generalize zbs u a=q at *;go_enter func197,ntmps197;go_wp2_with fail;refine(H1.out _).mono ?_;rintro e w1 ⟨rfl,hb1⟩;go_wp2_with fail;refine(H2.out _).mono ?_;rintro e w2 ⟨rfl,rfl⟩;go_wp2_with fail;refine(H3.out _).mono ?_;rintro e w2 ⟨rfl,hb2⟩;go_wp2;go_ret;exact⟨zaW HR.out.symm,zai hb1 hb2 hb1.size⟩
    ·have HR:Hid (zcM u s a d=(zbs u a - d * 86400 / zaw u)%s):=if_pos ⟨ho,hd,h1,hz⟩;generalize zcM u s a d=R at *;have hc:=znO u;generalize zbs u a=q at *;generalize zaw u=n at *;clear ho;obtain⟨d0,d1⟩:=hd;obtain⟨q0,q1⟩:=hw;have hf0:0≤d * 86400:=by omega
     rcases hc with rfl|rfl|rfl|rfl
     ·exact absurd rfl hz
     ·have HM:=waV (fun W=>zlB (q - d * 86400) s oQ oQ h1 hs W)
      have HR':R=(q - d * 86400)%s:=by rw[HR.out,Int.ediv_one]
      rw[←HR'] at HM;clear HR';clear HR hz;go_enter func197,ntmps197;go_wp2_with fail;refine(H1.out _).mono ?_;rintro e w1 ⟨rfl,hb1⟩;go_wp2_with fail;refine(H2.out _).mono ?_;rintro e w2 ⟨rfl,rfl⟩;go_wp2_with fail;refine(H3.out _).mono ?_;rintro e w2 ⟨rfl,hb2⟩;go_wp2_with fail;refine(HM.out _).mono ?_;rintro e w3 ⟨rfl,rfl⟩;go_wp2;go_ret;exact⟨rfl,zai hb1 hb2 hb1.size⟩
     ·have HM:=waV (fun W=>zlB (q - d * 86400 / 60) s oQ oQ h1 hs W)
      rw[←HR.out] at HM;clear HR hz;go_enter func197,ntmps197;go_wp2_with fail;refine(H1.out _).mono ?_;rintro e w1 ⟨rfl,hb1⟩;go_wp2_with fail;refine(H2.out _).mono ?_;rintro e w2 ⟨rfl,rfl⟩;go_wp2_with fail;refine(H3.out _).mono ?_;rintro e w2 ⟨rfl,hb2⟩;go_wp2_with fail;refine(HM.out _).mono ?_;rintro e w3 ⟨rfl,rfl⟩;go_wp2;go_ret;exact⟨rfl,zai hb1 hb2 hb1.size⟩
     ·have HM:=waV (fun W=>zlB (q - d * 86400 / 3600) s oQ oQ h1 hs W)
      rw[←HR.out] at HM;clear HR hz;go_enter func197,ntmps197;go_wp2_with fail;refine(H1.out _).mono ?_;rintro e w1 ⟨rfl,hb1⟩;go_wp2_with fail;refine(H2.out _).mono ?_;rintro e w2 ⟨rfl,rfl⟩;go_wp2_with fail;refine(H3.out _).mono ?_;rintro e w2 ⟨rfl,hb2⟩;go_wp2_with fail;refine(HM.out _).mono ?_;rintro e w3 ⟨rfl,rfl⟩;go_wp2;go_ret;exact⟨rfl,zai hb1 hb2 hb1.size⟩
   ·have HR:Hid (zcM u s a d=0):=zeE (fun h=>h1 h.2.2.1)
    clear ho hd;generalize zcM u s a d=R at *;generalize zbs u a=q at *;generalize zaw u=n at *;go_enter func197,ntmps197;go_wp2_with fail;refine(H1.out _).mono ?_;rintro e w1 ⟨rfl,hb1⟩;go_wp2_with fail;refine(H2.out _).mono ?_;rintro e w2 ⟨rfl,rfl⟩;go_wp2_with fail;refine(H3.out _).mono ?_;rintro e w2 ⟨rfl,hb2⟩;go_wp2;go_ret;exact⟨zaW HR.out.symm,zai hb1 hb2 hb1.size⟩
  ·rw[if_neg hd,waO hd] at H2;have HR:Hid (zcM u s a d=0):=zeE (fun h=>hd h.2.1)
   clear ho hd;generalize zcM u s a d=R at *;generalize zbs u a=q at *;generalize zaw u=n at *;go_enter func197,ntmps197;go_wp2_with fail;refine(H1.out _).mono ?_;rintro e w1 ⟨rfl,hb1⟩;go_wp2_with fail;refine(H2.out _).mono ?_;rintro e w2 ⟨rfl,rfl⟩;go_wp2_with fail;refine(H3.out _).mono ?_;rintro e w2 ⟨rfl,hb2⟩;go_wp2;go_ret;exact⟨zaW HR.out.symm,zai hb1 hb2 hb1.size⟩
 ·have H1:=waV (fun W=>zih u a (by simpa using ho) W)
  have HR:Hid (zcM u s a d=0):=zeE (fun h=>ho h.1)
  clear ho;generalize zcM u s a d=R at *;generalize zaw u=n at *;generalize (if 0≤d∧d<146097 then d * 86400+0 else 0)=fr at *
  generalize decide (0≤d∧d<146097)=is at *;cases is
  ·go_enter func197,ntmps197;go_wp2_with fail;refine(H1.out _).mono ?_;rintro e w1 ⟨rfl,hb1⟩;go_wp2_with fail;refine(H2.out _).mono ?_;rintro e w2 ⟨rfl,rfl⟩;go_wp2_with fail;refine(H3.out _).mono ?_;rintro e w2 ⟨rfl,hb2⟩;go_wp2;go_ret;exact⟨zaW HR.out.symm,zai hb1 hb2 hb1.size⟩
  ·go_enter func197,ntmps197;go_wp2_with fail;refine(H1.out _).mono ?_;rintro e w1 ⟨rfl,hb1⟩;go_wp2_with fail;refine(H2.out _).mono ?_;rintro e w2 ⟨rfl,rfl⟩;go_wp2_with fail;refine(H3.out _).mono ?_;rintro e w2 ⟨rfl,hb2⟩;go_wp2;go_ret;exact⟨zaW HR.out.symm,zai hb1 hb2 hb1.size⟩
end Go.Proofs.YtadefhkaejjfmaaGreatDoor
