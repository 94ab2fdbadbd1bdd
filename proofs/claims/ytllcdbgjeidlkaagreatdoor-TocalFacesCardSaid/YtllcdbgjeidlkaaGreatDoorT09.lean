/- A part of the proof: RLap -/
import Derived.Test.YtllcdbgjeidlkaaGreatDoorT08
import Derived.Test.YtllcdbgjeidlkaaGreatDoorT00
import Derived.Test.YtllcdbgjeidlkaaGreatDoorT05
import Derived.Test.YtllcdbgjeidlkaaGreatDoorT06
set_option maxHeartbeats 80000000
set_option maxRecDepth 100000
set_option linter.unusedSimpArgs false
set_option linter.unusedVariables false
namespace Go.Proofs.YtllcdbgjeidlkaaGreatDoor
open Go.Proofs.Tryz
open Go.RowKit
def spF (c:Cl):Int:=zaw c.f c.t
def spU (c:Cl):Int:=zao c.f c.t
def zoZ (c:Cl) (n:Int):Bool:=decide (spF c<=spU c/\spF c / 86400<=n/\n<=spU c / 86400)&&zjY c n
def zhD (c:Cl) (n:Int):Int:=if n=spF c / 86400 then spF c%86400 else 0
def zeK (c:Cl) (n:Int):Int:=if n=spU c / 86400 then spU c%86400 else 86399
def zbN (c:Cl) (n:Int):Int:=if 1<c.s/\0<zap c.u then(c.a / zap c.u - n * 86400 / zap c.u)%c.s else 0
structure LSt where
 act:Bool
 fr:Int
 un:Int
 ph:Int
def stZ:LSt:=⟨false,0,0,0⟩
def zlh (c:Cl) (n:Int):LSt:=if zoZ c n then⟨true,zhD c n,zeK c n,zbN c n⟩ else stZ
def zfK (c:Cl) (x:LSt) (s:Int):Bool:=
 decide (x.act=true/\0<=x.ph/\zeI c zbn=true)&&(decide (x.fr<=s/\s<=x.un)&&(zdh s (c.m 2) (c.m 1) (c.m 0)&&
  (!decide (0<zap c.u/\(1<c.s\/0<x.ph))||decide (x.ph<=s / zap c.u/\(s / zap c.u - x.ph)%c.s=0))))
theorem zgJ (u:Int):zap u=1\/zap u=60\/zap u=3600\/zap u=0:=by
 unfold zap;split
 ·exact .inl rfl
 ·split
  ·exact .inr (.inl rfl)
  ·split
   ·exact .inr (.inr (.inl rfl))
   ·exact .inr (.inr (.inr rfl))
theorem zgK {c:Cl} (h:zeI c zbn=true):1<=c.s/\inC c.a=true/\0<=c.u/\c.u<7:=by
 unfold zeI at h;simp only[waN,waM,Bool.not_eq_true'] at h;obtain⟨_,_,_,hu,hs,ha⟩:=h;refine⟨hs,ha,?_⟩;have h1:unT c.u≠[]:=by intro e;rw[e] at hu;cases hu
 rw[ne_eq,zuJ,Decidable.not_not] at h1;exact h1
theorem zsA {x b p s:Int} (hs:1<=s) (hx:0<=x) (hp:p=b%s):(p<=x/\(x - p)%s=0)↔(x - b)%s=0:=by
 have e:(x - p)%s=(x - b)%s:=by rw[hp,Int.sub_emod,Int.emod_emod_of_dvd _ (Int.dvd_refl s),<-Int.sub_emod]
 constructor
 ·rintro ⟨_,h⟩;rw[<-e];exact h
 ·intro h;rw[<-e] at h;refine⟨?_,h⟩;have h1:p<s:=by rw[hp];exact Int.emod_lt_of_pos _ (by omega)
  obtain⟨k,hk⟩:=Int.dvd_of_emod_eq_zero h;have hk0:0<=k:=by
   false_or_by_contra
   have:s * k<=s * (-1):=Int.mul_le_mul_of_nonneg_left oQ oQ;omega
  have:=Int.mul_nonneg (show 0<=s by omega) hk0
  omega
theorem zsB {c:Cl} {n:Int} (h:zjY c n=true):ziV c.u c.s c.a n=true:=by
 unfold zjY zwL at h;simp only[waN] at h;exact h.2.2.2.2.2.2
theorem zvw {n s z:Int} (hz:z=1\/z=60\/z=3600) (hs:0<=s):(n * 86400+s) / z=n * 86400 / z+s / z:=by
 rcases hz with rfl|rfl|rfl<;>omega
theorem zpR (c:Cl) {n s:Int} (h0:0<=n) (h1:n<146097) (s0:0<=s) (s1:s<86400):zfK c (zlh c n) s=zsz c (n * 86400+s):=by
 have ht:(n * 86400+s) / 86400=n:=by omega
 have hm:(n * 86400+s)%86400=s:=by omega
 have hi:inC (n * 86400+s)=true:=waP oQ;unfold zsz;rw[ht,hm,hi,Bool.true_and];unfold zlh;cases hmay:zeI c zbn with
 |false=>
  rw[Bool.false_and];have:zoZ c n=false:=by unfold zoZ zjY;rw[hmay];simp
  rw[this];rfl
 |true=>
  rw[Bool.true_and];obtain⟨hs,ha,hu0,hu1⟩:=zgK hmay;cases hd:zjY c n with
  |false=>
   have:zoZ c n=false:=by unfold zoZ;rw[hd];simp
   rw[this];simp only[Bool.and_false];rfl
  |true=>
   have hst:=zsB hd;have hact:zoZ c n=decide (spF c<=spU c/\spF c / 86400<=n/\n<=spU c / 86400):=by unfold zoZ;rw[hd,Bool.and_true]
   rw[hact];have hon:onU c.u c.s c.a (n * 86400+s)=decide (0<zap c.u/\1<c.s->(s / zap c.u - zbN c n)%c.s=0/\zbN c n<=s / zap c.u):=by
    unfold onU;rw[wbH];have hoa:okU c.u c.a=true:=waP ⟨ha,hu0,hu1⟩;have hot:okU c.u (n * 86400+s)=true:=waP ⟨hi,hu0,hu1⟩
    by_cases hz:0<zap c.u
    ·have hw:∀t,zbi c.u t=t / zap c.u:=fun t=>if_pos hz
     have hz3:zap c.u=1\/zap c.u=60\/zap c.u=3600:=by
      rcases zgJ c.u with h|h|h|h
      ·exact .inl h
      ·exact .inr (.inl h)
      ·exact .inr (.inr h)
      ·omega
     rw[hw,hw,zvw hz3 s0];have hx:0<=s / zap c.u:=Int.ediv_nonneg s0 oQ
     by_cases h1s:1<c.s
     ·have hp:zbN c n=(c.a / zap c.u - n * 86400 / zap c.u)%c.s:=if_pos ⟨h1s,hz⟩;have:=zsA hs hx hp;have e:n * 86400 / zap c.u+s / zap c.u - c.a / zap c.u=s / zap c.u - (c.a / zap c.u - n * 86400 / zap c.u):=by omega
      rw[e];constructor
      ·rintro ⟨_,_,_,h⟩ _;exact(this.2 h).symm
      ·intro h;exact⟨hoa,hot,hs,this.1 (h ⟨hz,h1s⟩).symm⟩
     ·have e1:c.s=1:=by omega
      constructor
      ·rintro _ ⟨_,h⟩;exact absurd h h1s
      ·intro _;rw[e1];exact⟨hoa,hot,by omega,Int.emod_one _⟩
    ·have hw:∀t,zbi c.u t=zb1 c.u (t / 86400):=fun t=>if_neg hz
     constructor
     ·rintro _ ⟨h,_⟩;exact absurd h hz
     ·intro _;refine⟨hoa,hot,hs,?_⟩;unfold ziV at hst;obtain⟨_,_,h⟩:=waA hst;rcases h with h|h|h
      ·exact absurd h hz
      ·rw[h];exact Int.emod_one _
      ·rw[hw (n * 86400+s),ht];exact h
   rw[hon,Bool.and_true];have hph0:0<=zbN c n:=by
    unfold zbN;split
    ·exact Int.emod_nonneg _ oQ
    ·exact Int.le_refl _
   have hphz:¬(1<c.s/\0<zap c.u)->zbN c n=0:=fun h=>if_neg h
   have hsp:(decide (zaw c.f c.t<=n * 86400+s/\n * 86400+s<=zao c.f c.t))=(decide (spF c<=spU c/\spF c / 86400<=n/\n<=spU c / 86400)&&decide (zhD c n<=s/\s<=zeK c n)):=by
    show decide (spF c<=n * 86400+s/\n * 86400+s<=spU c)=_;rw[waQ,waN,waM,waM,waM];unfold zhD zeK;generalize spF c=F;generalize spU c=U;constructor
    ·intro h;refine⟨by omega,?_,?_⟩
     ·split<;>omega
     ·split<;>omega
    ·rintro ⟨⟨h2,h3,h4⟩,h5,h6⟩;constructor
     ·split at h5<;>omega
     ·split at h6<;>omega
   rw[hsp];cases hA:decide (spF c<=spU c/\spF c / 86400<=n/\n<=spU c / 86400) with
   |false=>
    rw[if_neg (by decide)]
    simp only[Bool.false_and];rfl
   |true=>
    rw[if_pos rfl,Bool.true_and];unfold zfK;dsimp only;have e1:decide (True/\0<=zbN c n/\zeI c zbn=true)=true:=waP ⟨trivial,hph0,hmay⟩;have e2:decide ((true:Bool)=true/\0<=zbN c n/\zeI c zbn=true)=true:=waP ⟨rfl,hph0,hmay⟩;rw[e2,Bool.true_and];congr 1;congr 1
    by_cases hz:0<zap c.u/\1<c.s
    ·have d1:decide (0<zap c.u/\(1<c.s\/0<zbN c n))=true:=waP ⟨hz.1,.inl hz.2⟩;rw[d1,Bool.not_true,Bool.false_or,wbH];exact⟨fun h _=>⟨h.2,h.1⟩,fun h=>⟨(h hz).2,(h hz).1⟩⟩
    ·have hp0:=hphz (fun h=>hz ⟨h.2,h.1⟩)
     have d1:decide (0<zap c.u/\(1<c.s\/0<zbN c n))=false:=waO (by
      rintro ⟨h2,h3|h3⟩
      ·exact hz ⟨h2,h3⟩
      ·omega)
     rw[d1,Bool.not_false,Bool.true_or];exact(waP (fun h=>absurd h hz)).symm
def zxd:Cl:={m:=fun _=>0,or:=false,oi:=0,ob:=false,od:=fun _=>0,y:=fun _=>0,u:=0,s:=0,a:=0,f:=0,t:=0}
theorem zvx:(prog.info? 60).map (fun i=>(i.zero,i.size,i.bytes))=some (some (.agg (clA zxd)),30,240):=by kernel_rfl
theorem zfa (c:Cl):(zeN c).length=30:=rfl
theorem zpS (c:Cl):(zeN c).all (·.oneCell')=true:=by kernel_rfl
theorem zli (l:List Cl):∀u∈l.flatMap zeN,u.oneCell'=true:=by
 intro u hu;obtain⟨x,_,h⟩:=List.mem_flatMap.1 hu;exact List.all_eq_true.1 (zpS x) u h
end Go.Proofs.YtllcdbgjeidlkaaGreatDoor
namespace Go.Proofs.YtllcdbgjeidlkaaGreatDoor
open Go.Proofs.Tryz
def zdQ (x:LSt):Value:=.agg #[.bool x.act,.int .i64 x.fr,.int .i64 x.un,.int .i64 x.ph]
theorem zsC {x y:LSt} (h:zdQ x=zdQ y):x=y:=by
 cases x;cases y;simp only[zdQ,Value.agg.injEq,Array.mk.injEq,List.cons.injEq,Value.bool.injEq,Value.int.injEq,and_true,true_and] at h;obtain⟨rfl,rfl,rfl,rfl⟩:=h;rfl
def zeE (L:List Cl) (i:Nat):Cl:=L.getD i zxd
def zbF (L:List Cl) (x:Nat->LSt) (s:Nat):Bool:=(List.range L.length).any fun i=>zfK (zeE L i) (x i) (s:Int)
def stN (L:List Cl) (n:Int) (i:Nat):LSt:=if i<L.length then zlh (zeE L i) n else stZ
def zay (L:List Cl) (n:Int) (s:Nat):Bool:=zuL L (n * 86400+(s:Int))
theorem zfb (c:Cl) {x:LSt} (h:x.act=false) (s:Int):zfK c x s=false:=by
 unfold zfK;rw[waO (fun g=>by rw[h] at g;cases g.1)]
 rfl
theorem ziZ {L:List Cl} (h:zeJ L=true) {n:Int} (h0:0<=n) (h1:n<146097) {s:Nat} (hs:s<86400):zbF L (stN L n) s=zay L n s:=by
 unfold zbF zay zuL;rw[h,Bool.true_and,waQ,List.any_eq_true,List.any_eq_true];constructor
 ·rintro ⟨i,hi,he⟩;have hi':=wbG.1 hi;rw[stN,if_pos hi',zpR _ h0 h1 (by omega) (by omega)] at he
  refine⟨zeE L i,?_,he⟩;unfold zeE;rw[List.getD_eq_getElem?_getD,waE hi'];exact List.getElem_mem hi'
 ·rintro ⟨c,hc,he⟩;obtain⟨i,hi,rfl⟩:=List.mem_iff_getElem.1 hc;refine⟨i,wbG.2 hi,?_⟩;have e:zeE L i=L[i]:=by unfold zeE;rw[List.getD_eq_getElem?_getD,waE hi];rfl
  rw[stN,if_pos hi,e,zpR _ h0 h1 (by omega) (by omega)]
  exact he
theorem zsD {L:List Cl} {x y:Nat->LSt} (h:∀i,i<L.length->x i=y i) (s:Nat):zbF L x s=zbF L y s:=by
 unfold zbF;rw[waQ,List.any_eq_true,List.any_eq_true];constructor<;>rintro ⟨i,hi,he⟩<;>refine⟨i,hi,?_⟩
 ·rw[<-h i (wbG.1 hi)];exact he
 ·rw[h i (wbG.1 hi)];exact he
def zi0:LSt:=⟨true,0,86399,0⟩
def zdR (x:Nat->LSt):Nat->Nat
 |0=>0
 |k+1=>zdR x k+if (x k).act then 2^k else 0
theorem zgL (x:Nat->LSt):∀k,zdR x k<2^k
 |0=>by simp[zdR]
 |k+1=>by
  have:=zgL x k;simp only[zdR,Nat.pow_succ];split<;>omega
theorem zi1 (x:Nat->LSt):∀k i,i<k->(zdR x k).testBit i=(x i).act
 |0,i,h=>by omega
 |k+1,i,h=>by
  have hl:=zgL x k;simp only[zdR]
  by_cases hi:i=k
  ·subst hi;cases ha:(x i).act with
   |true=>rw [if_pos rfl,Nat.add_comm,Nat.testBit_two_pow_add_eq,waX hl];rfl
   |false=>rw [if_neg (by decide),Nat.add_zero,waX hl]
  ·rw[<-zi1 x k i (by omega)]
   cases ha:(x k).act with
   |true=>rw [if_pos rfl,Nat.add_comm,Nat.testBit_two_pow_add_gt (by omega)]
   |false=>rw [if_neg (by decide),Nat.add_zero]
def whS (a:Nat) (i:Nat):LSt:=if a.testBit i then zi0 else stZ
theorem zh1 {L:List Cl} {x:Nat->LSt} (h:∀i,i<L.length->(x i).act=true->x i=zi0) (s:Nat):zbF L (whS (zdR x L.length)) s=zbF L x s:=by
 unfold zbF;rw[waQ,List.any_eq_true,List.any_eq_true];constructor<;>rintro ⟨i,hi,he⟩<;>refine⟨i,hi,?_⟩<;>have hi':=wbG.1 hi<;>unfold whS at * <;>rw [zi1 x _ i hi'] at * <;>cases ha:(x i).act
 ·rw[ha,if_neg (by decide),zfb _ rfl] at he;cases he
 ·rw[ha,if_pos rfl,<-h i hi' ha] at he;exact he
 ·rw[zfb _ ha] at he;cases he
 ·rw[if_pos rfl,<-h i hi' ha];exact he
theorem zjZ {L:List Cl} {x:Nat->LSt} (h:zdR x L.length=0) (s:Nat):zbF L x s=false:=by
 unfold zbF;rw[List.any_eq_false];intro i hi;have:=zi1 x L.length i (wbG.1 hi);rw[h,Nat.zero_testBit] at this;rw[zfb _ this.symm];decide
end Go.Proofs.YtllcdbgjeidlkaaGreatDoor
namespace Go.Proofs.YtllcdbgjeidlkaaGreatDoor
open Go.Proofs.Tryz
open Go.RowKit
theorem zj0 (w:World):Calls prog 199 #[] w (Ret (.agg #[.int .i64 0,.int .i64 (-1)]) w):=by
 go_enter func199,ntmps199;go_wp2
 (try simp only[Exit.inBlock,Exit.then])
 refine waY (v:=.agg #[.int .i64 0,.int .i64 (-1)]) ?_ rfl ⟨rfl,by exact zaE⟩
 rw[zah rfl]
 go_simp
theorem zlj (a b:Int) (ha:-1000000000000000<=a) (ha1:a<=1000000000000000) (hb:1<=b) (hb1:b<=9223372036854775807) (w:World):Calls prog 197 #[.int .i64 a,.int .i64 b] w (zbE (.int .i64 (a%b)) w):=by
 have hq:¬b<1:=by omega
 have hb0:(b==0)=false:=by simp;omega
 have hd:a.tmod b=if a.tmod b<0 then a%b - b else a%b:=by
  have h0:=Int.emod_nonneg a (b:=b) oQ;have h2:=Int.emod_lt_of_pos a (b:=b) oQ
  by_cases h:0<=a
  ·rw[Int.tmod_eq_emod_of_nonneg h,if_neg (by omega)]
  ·have e:=Int.tmod_eq_emod (a:=a) (b:=b)
   by_cases hd:0<=a\/b ∣ a
   ·rw[if_pos hd] at e;rw[if_neg (by omega)];omega
   ·rw[if_neg hd] at e;have hna:((b.natAbs:Nat):Int)=b:=by omega
    rw[if_pos (by omega)];omega
 have g0:=Int.emod_nonneg a (b:=b) oQ;have g1:=Int.emod_lt_of_pos a (b:=b) oQ
 by_cases hn:a.tmod b<0
 ·rw[if_pos hn] at hd;generalize a%b=r at *;have e:r=a.tmod b+b:=by omega
  have hl:-1000000000000000<=a.tmod b:=by
   have h1:=Int.natAbs_tmod a b;have h2:=Nat.mod_le a.natAbs b.natAbs;omega
  have hu:a.tmod b+b<=9223372036854775807:=by omega
  rw[e];clear hd e g0 g1;have hne1:(b==-1)=false:=by rw[wbE];omega
  go_enter func197,ntmps197;go_wp2;go_ret;exact⟨rfl,rfl⟩
 ·rw[if_neg hn] at hd;rw[<-hd] at g0 g1 ⊢;clear hd;have hne1:(b==-1)=false:=by rw[wbE];omega
  go_enter func197,ntmps197;go_wp2;go_ret;exact⟨rfl,rfl⟩
theorem zmC (d s:Int) (h0:0<=s) (h1:s<86400) (w:World):Calls prog 196 #[.int .i64 d,.int .i64 s] w (zbE (.tuple #[.int .i64 (if 0<=d/\d<146097 then d * 86400+s else 0),.bool (decide (0<=d/\d<146097))]) w):=by
 have h2:¬s<0:=by omega
 have h3:¬86400<=s:=by omega
 by_cases hd0:d<0
 ·rw[if_neg (by omega),waO (by omega)]
  go_enter func196,ntmps196;go_wp2
  (try simp only[Exit.inBlock,Exit.then])
  refine waY (wbM rfl _ _ _) rfl ?_;exact⟨rfl,rfl⟩
 ·by_cases hd1:d<146097
  ·have hd2:¬146097<=d:=by omega
   rw[if_pos (by omega),waP (by omega)]
   go_enter func196,ntmps196;go_wp2
   (try simp only[Exit.inBlock,Exit.then])
   refine waY (wbM rfl _ _ _) rfl ?_;exact⟨rfl,rfl⟩
  ·have hd2:146097<=d:=by omega
   rw[if_neg (by omega),waO (by omega)]
   go_enter func196,ntmps196;go_wp2
   (try simp only[Exit.inBlock,Exit.then])
   refine waY (wbM rfl _ _ _) rfl ?_;exact⟨rfl,rfl⟩
def zr2 (d:Int):Int:=if 0<=d/\d<146097 then d * 86400 else 0
def zr3 (d:Int):Int:=if 0<=d/\d<146097 then d * 86400+86399 else -1
theorem zsE (d:Int) (w:World):Calls prog 194 #[.int .i64 d] w (Ret (.agg #[.int .i64 (zr2 d),.int .i64 (zr3 d)]) w):=by
 have HJ:=waV (fun W=>zmC d 0 dQ dQ W)
 have HN:=waV (fun W=>zj0 W)
 by_cases h:0<=d/\d<146097
 ·rw[if_pos h,waP h] at HJ;have HR:Hid (zr2 d=d * 86400/\zr3 d=d * 86400+86399):=⟨if_pos h,if_pos h⟩;rw[HR.out.1,HR.out.2];obtain⟨k0,k1⟩:=h;go_enter func194,ntmps194;go_wp2_with fail;refine(HJ.out _).mono ?_;rintro e w1 ⟨rfl,rfl⟩;go_wp2
  (try simp only[Exit.inBlock,Exit.then])
  refine waY (v:=.agg #[.int .i64 (d * 86400),.int .i64 (d * 86400+86399)]) ?_ rfl ⟨rfl,by exact zaE⟩
  rw[zah rfl]
  go_simp
  all_goals (try omega)
 ·rw[if_neg h,waO h] at HJ;have HR:Hid (zr2 d=0/\zr3 d=-1):=⟨if_neg h,if_neg h⟩;rw[HR.out.1,HR.out.2];clear h;go_enter func194,ntmps194;go_wp2_with fail;refine(HJ.out _).mono ?_;rintro e w1 ⟨rfl,rfl⟩;go_wp2_with fail;refine(HN.out _).mono ?_;rintro e w1 ⟨rfl,hb1⟩;obtain⟨hc,hf⟩:=zad hb1;have hz1:w.heap.size<w1.heap.size:=by have:=hb1.size;simp at this;omega
  have hbw:Below w.heap.size w w1:=((waC _ w).alloc (waJ _) _).trans (hb1.mono (by simp))
  have f0:∀j,w1.frozen? ⟨w.heap.size,j,none⟩=false:=fun j=>by rw[hf _ _ (by simp)];go_simp
  have c0:∃v,w1.cell? ⟨w.heap.size,0,none⟩=some v:=⟨_,by rw[hc _ _ (by simp)];exact zaa rfl rfl⟩
  have c1:∃v,w1.cell? ⟨w.heap.size,1,none⟩=some v:=⟨_,by rw[hc _ _ (by simp)];exact zaa rfl rfl⟩
  obtain⟨v0,c0⟩:=c0;obtain⟨v1,c1⟩:=c1;clear hb1 hc hf;go_wp2
  (try simp only[Exit.inBlock,Exit.then])
  refine waY (v:=.agg #[.int .i64 0,.int .i64 (-1)]) ?_ rfl ⟨rfl,by exact zaE⟩
  rw[zah rfl]
  go_simp
theorem zd6 (f u:Int):(zaw f u=0/\zao f u=-1)\/(0<=zaw f u/\zaw f u<=zao f u/\zao f u<=12622780799):=by
 unfold zaw zao
 (repeat' split)<;>omega
theorem zh2 (f u:Int) (w:World):Calls prog 143 #[.agg #[.int .i64 f,.int .i64 u]] w (Ret (.bool (decide (zao f u<0))) w):=by
 have HH:=waV (fun W=>zd3 f u W)
 have HN:=waV (fun W=>zj0 W)
 have hr:=zd6 f u;generalize zaw f u=F at *;generalize zao f u=U at *;have HR:Hid (decide (U<0)=(F==0&&U==-1)):=by
  show _=_;rw[waQ,waM];simp only[waN,beq_iff_eq];omega
 rw[HR.out];clear hr;go_enter func143,ntmps143;go_wp2_with fail;refine(HH.out _).mono ?_;rintro e w1 ⟨rfl,hb1⟩;go_wp2_with fail;refine(HN.out _).mono ?_;rintro e w2 ⟨rfl,hb2⟩;have hbw:Below w.heap.size w w2:=(((waC _ w).alloc (waJ _) _).trans (hb1.mono (by simp))).trans (hb2.mono (by have:=hb1.size;simp at this;omega))
 clear hb1 hb2;go_wp2
 all_goals go_ret
 all_goals refine⟨zab ?_,by exact zaE⟩
 all_goals (first|rfl|(simp;done)|simp[*])
def zj1 (f u:Int):Value:=if zao f u<0 then .tuple #[.int .i64 0,.int .i64 0,.bool false] else .tuple #[.int .i64 (zaw f u / 86400),.int .i64 (zao f u / 86400),.bool true]
theorem zgM (f u:Int) (w:World):Calls prog 134 #[.agg #[.int .i64 f,.int .i64 u]] w (Ret (zj1 f u) w):=by
 have HH:=waV (fun W=>zd3 f u W)
 have hr:=zd6 f u;unfold zj1;generalize zaw f u=F at *;generalize zao f u=U at *;have iF:inC F=true:=waP oQ;have HF:=waV (fun W=>zes F iF W)
 by_cases hn:U<0
 ·have iU:inC U=false:=waO oQ;have HU:=waV (fun W=>zgB U iU W)
  rw[if_pos hn];generalize F / 86400=F1 at *;generalize F%86400=F2 at *;clear hr hn iF iU;go_enter func134,ntmps134;go_wp2_with fail;refine(HH.out _).mono ?_;rintro e w1 ⟨rfl,hb1⟩;obtain⟨hc,hf⟩:=zad hb1;have hz1:w.heap.size<w1.heap.size:=by have:=hb1.size;simp at this;omega
  have hbw:Below w.heap.size w w1:=((waC _ w).alloc (waJ _) _).trans (hb1.mono (by simp))
  have c0:w1.cell? ⟨w.heap.size,0,none⟩=some (.int .i64 f):=by rw[hc _ _ (by simp)];exact zaa rfl rfl
  have c1:w1.cell? ⟨w.heap.size,1,none⟩=some (.int .i64 u):=by rw[hc _ _ (by simp)];exact zaa rfl rfl
  have f0:∀j,w1.frozen? ⟨w.heap.size,j,none⟩=false:=fun j=>by rw[hf _ _ (by simp)];go_simp
  clear hb1 hc hf;go_wp2_with fail;refine(HF.out _).mono ?_;rintro e w2 ⟨rfl,rfl⟩;go_wp2_with fail;refine(HU.out _).mono ?_;rintro e w2 ⟨rfl,rfl⟩;go_wp2
  (try simp only[Exit.inBlock,Exit.then])
  refine waY (results_tmp3 rfl _ _ _) rfl ?_;exact⟨rfl,by exact zaE⟩
 ·have iU:inC U=true:=waP oQ;have HU:=waV (fun W=>zes U iU W)
  rw[if_neg hn];generalize F / 86400=F1 at *;generalize F%86400=F2 at *;generalize U / 86400=U1 at *;generalize U%86400=U2 at *;clear hr hn iF iU;go_enter func134,ntmps134;go_wp2_with fail;refine(HH.out _).mono ?_;rintro e w1 ⟨rfl,hb1⟩;obtain⟨hc,hf⟩:=zad hb1;have hz1:w.heap.size<w1.heap.size:=by have:=hb1.size;simp at this;omega
  have hbw:Below w.heap.size w w1:=((waC _ w).alloc (waJ _) _).trans (hb1.mono (by simp))
  have c0:w1.cell? ⟨w.heap.size,0,none⟩=some (.int .i64 f):=by rw[hc _ _ (by simp)];exact zaa rfl rfl
  have c1:w1.cell? ⟨w.heap.size,1,none⟩=some (.int .i64 u):=by rw[hc _ _ (by simp)];exact zaa rfl rfl
  have f0:∀j,w1.frozen? ⟨w.heap.size,j,none⟩=false:=fun j=>by rw[hf _ _ (by simp)];go_simp
  clear hb1 hc hf;go_wp2_with fail;refine(HF.out _).mono ?_;rintro e w2 ⟨rfl,rfl⟩;go_wp2_with fail;refine(HU.out _).mono ?_;rintro e w2 ⟨rfl,rfl⟩;go_wp2
  (try simp only[Exit.inBlock,Exit.then])
  refine waY (results_tmp3 rfl _ _ _) rfl ?_;exact⟨rfl,by exact zaE⟩
def mxI (a b:Int):Int:=if a<b then b else a
def mnI (a b:Int):Int:=if b<a then b else a
def zd7 (f1 f2:Int) (k:Nat):Int:=if k=0 then 0 else if k=1 then mxI 0 f1 else mxI (mxI 0 f1) f2
def zd8 (u1 u2:Int) (k:Nat):Int:=if k=0 then 12622780799 else if k=1 then mnI 12622780799 u1 else mnI (mnI 12622780799 u1) u2
theorem zeO (a b:Int):mxI a b=max a b:=by unfold mxI;split<;>omega
theorem zeP (a b:Int):mnI a b=min a b:=by unfold mnI;split<;>omega
theorem zxe (f1 f2:Int):zd7 f1 f2 1=max (zd7 f1 f2 0) f1:=zeO _ _
theorem zxf (f1 f2:Int):zd7 f1 f2 2=max (zd7 f1 f2 1) f2:=zeO _ _
theorem zxg (f1 f2:Int):zd8 f1 f2 1=min (zd8 f1 f2 0) f1:=zeP _ _
theorem zxh (f1 f2:Int):zd8 f1 f2 2=min (zd8 f1 f2 1) f2:=zeP _ _
theorem znR {a b c d:Int} (h1:a=max b 0) (h2:c=min d 12622780799):zaw a c=zaw b d/\zao a c=zao b d:=by
 subst h1 h2;unfold zaw zao;constructor<;>((repeat' split)<;>omega)
theorem zpT (f1 u1 f2 u2:Int):zaw (zd7 f1 f2 2) (zd8 u1 u2 2)=zaw (mxI f1 f2) (mnI u1 u2)/\zao (zd7 f1 f2 2) (zd8 u1 u2 2)=zao (mxI f1 f2) (mnI u1 u2):=by
 refine znR ?_ ?_
 ·show mxI (mxI 0 f1) f2=_;rw[zeO,zeO,zeO];omega
 ·show mnI (mnI _ u1) u2=_;rw[zeP,zeP,zeP];omega
theorem zd9 {W:World} {b:Nat} {a0 a1 x y:Value} (o:Obj) (h0:W.cell? ⟨b,0,none⟩=some a0) (h1:W.cell? ⟨b,1,none⟩=some a1):
 (((W.setCell ⟨b,0,none⟩ x).setCell ⟨b,1,none⟩ y).alloc o).cell? ⟨b,0,none⟩=some x/\(((W.setCell ⟨b,0,none⟩ x).setCell ⟨b,1,none⟩ y).alloc o).cell? ⟨b,1,none⟩=some y:=by
 have hl:b<((W.setCell ⟨b,0,none⟩ x).setCell ⟨b,1,none⟩ y).heap.size:=by
  simp only[World.size_setCell];exact waR W _ h0
 have hk:=(zad ((waC ((W.setCell ⟨b,0,none⟩ x).setCell ⟨b,1,none⟩ y).heap.size ((W.setCell ⟨b,0,none⟩ x).setCell ⟨b,1,none⟩ y)).alloc (waJ _) o)).1;constructor
 ·rw[hk _ _ hl,waU _ _ _ _ (by simp)]
  exact World.cell?_setCell_same' _ _ _ (by rw[h0];rfl)
 ·rw[hk _ _ hl];refine World.cell?_setCell_same' _ _ _ ?_;rw[waU _ _ _ _ (by simp),h1];rfl
theorem zpU (f1 u1 f2 u2:Int) (B c:Nat) (w:World)
 (c0:w.cell? ⟨B,0,none⟩=some (.int .i64 f1)) (c1:w.cell? ⟨B,1,none⟩=some (.int .i64 u1)) (c2:w.cell? ⟨B,2,none⟩=some (.int .i64 f2)) (c3:w.cell? ⟨B,3,none⟩=some (.int .i64 u2)):
 Calls prog 193 #[.slice (some ⟨B,0,none⟩) 2 c] w (Ret (.agg #[.int .i64 (zaw (mxI f1 f2) (mnI u1 u2)),.int .i64 (zao (mxI f1 f2) (mnI u1 u2))]) w):=by
 have HW:=waV (fun W=>zhT W)
 have HH:=waV (fun f u W=>zd3 f u W)
 have hB:=waR w _ c0;have HE:Hid (zaw (zd7 f1 f2 2) (zd8 u1 u2 2)=zaw (mxI f1 f2) (mnI u1 u2)/\zao (zd7 f1 f2 2) (zd8 u1 u2 2)=zao (mxI f1 f2) (mnI u1 u2)):=zpT f1 u1 f2 u2;go_enter func193,ntmps193;go_wp2_with fail;refine(HW.out _).mono ?_;rintro e w1 ⟨rfl,hb1⟩;have hz1:w.heap.size<w1.heap.size:=by have:=hb1.size;simp at this;omega
 have hbw:Below w.heap.size w w1:=((waC _ w).alloc (waJ _) _).trans (hb1.mono (by simp))
 have g0:∀j,w1.frozen? ⟨w.heap.size,j,none⟩=false:=fun j=>by rw[(zad hb1).2 _ _ (by simp)];go_simp
 have k0:∃v,w1.cell? ⟨w.heap.size,0,none⟩=some v:=⟨_,by rw[(zad hb1).1 _ _ (by simp)];exact zaa rfl rfl⟩
 have k1:∃v,w1.cell? ⟨w.heap.size,1,none⟩=some v:=⟨_,by rw[(zad hb1).1 _ _ (by simp)];exact zaa rfl rfl⟩
 clear hb1;go_wp2
 go_loopw [9] (fun i V=>∃k:Nat,k<=2/\i=.int .i64 k/\V.cell? ⟨w1.heap.size,0,none⟩=some (.int .i64 (zd7 f1 f2 k))/\V.cell? ⟨w1.heap.size,1,none⟩=some (.int .i64 (zd8 u1 u2 k))/\Hid (∀j,V.frozen? ⟨w1.heap.size,j,none⟩=false)/\Below w1.heap.size w1 V/\w1.heap.size<V.heap.size) (fun i _=>2 - (intOf i).toNat)
 case atStart=>exact⟨0,by omega,rfl,zaa rfl rfl,zaa rfl rfl,fun j=>by go_simp,by exact zaE,by simp⟩
 case round=>
  obtain⟨k,hk,rfl,r0,r1,r2,r3,r4⟩:=hrel;obtain⟨v0,k0⟩:=k0;obtain⟨v1,k1⟩:=k1;have q0:=(zad r3).1 _ 0 hz1;have q1:=(zad r3).1 _ 1 hz1;have qf:=(zad r3).2 _ 0 hz1;rw[k0] at q0;rw[k1] at q1;rw[g0] at qf;have F0:∀j,wr.frozen? ⟨w.heap.size,j,none⟩=false:=fun j=>by rw[(zad r3).2 _ _ hz1,g0]
  have hbV:Below w.heap.size w wr:=hbw.trans (r3.mono oQ)
  by_cases h2:k=2
  ·subst h2;clear HW;have HHx:=waV (fun W=>HH.out (zd7 f1 f2 2) (zd8 u1 u2 2) W)
   rw[HE.out.1,HE.out.2] at HHx;have HF0:=r2.out;generalize zd7 f1 f2 2=A at *;generalize zd8 u1 u2 2=U at *;generalize zaw (mxI f1 f2) (mnI u1 u2)=RF at *;generalize zao (mxI f1 f2) (mnI u1 u2)=RU at *;go_wp2_with fail;refine(HHx.out _).mono ?_;rintro e w2 ⟨rfl,hb2⟩;have y0:=(zad hb2).1 w.heap.size 0 oQ;have y1:=(zad hb2).1 w.heap.size 1 oQ;have yf:∀j,w2.frozen? ⟨w.heap.size,j,none⟩=false:=fun j=>by rw[(zad hb2).2 _ _ (by omega)];exact F0 j
   rw[q0] at y0;rw[q1] at y1;have hz2:w.heap.size<w2.heap.size:=by have:=hb2.size;omega
   have hbW:Below w.heap.size w w2:=hbV.trans (hb2.mono oQ);clear hb2;go_wp2
   (try simp only[Exit.inBlock,Exit.then])
   refine waY (v:=.agg #[.int .i64 RF,.int .i64 RU]) ?_ rfl ⟨rfl,by exact zaE⟩
   rw[zah rfl]
   go_simp
  ·have hbB:B<w1.heap.size:=by omega
   have b0:wr.cell? ⟨B,0,none⟩=some (.int .i64 f1):=by rw[(zad hbV).1 _ _ hB];exact c0
   have b1:wr.cell? ⟨B,1,none⟩=some (.int .i64 u1):=by rw[(zad hbV).1 _ _ hB];exact c1
   have b2:wr.cell? ⟨B,2,none⟩=some (.int .i64 f2):=by rw[(zad hbV).1 _ _ hB];exact c2
   have b3:wr.cell? ⟨B,3,none⟩=some (.int .i64 u2):=by rw[(zad hbV).1 _ _ hB];exact c3
   have HF0:=r2.out;have n1:w1.heap.size≠B:=by omega
   obtain rfl|rfl:k=0\/k=1:=by omega
   ·clear HW HH HE;go_wp2;go_roundw
    case rel=>exact⟨1,by omega,rfl,(by first|exact(zd9 _ r0 r1).1|(rw[zxe];exact(zd9 _ r0 r1).1)),(by first|exact(zd9 _ r0 r1).2|(rw[zxg];exact(zd9 _ r0 r1).2)),fun j=>by go_simp,by exact zaE,by simp;omega⟩
    case measure=>simp [intOf]
   ·clear HW HH HE;go_wp2;go_roundw
    case rel=>exact⟨2,by omega,rfl,(by first|exact(zd9 _ r0 r1).1|(rw[zxf];exact(zd9 _ r0 r1).1)),(by first|exact(zd9 _ r0 r1).2|(rw[zxh];exact(zd9 _ r0 r1).2)),fun j=>by go_simp,by exact zaE,by simp;omega⟩
    case measure=>simp [intOf]
def zjF (f d:Int):Int:=mxI f (zr2 d)
def zi2 (u d:Int):Int:=mnI u (zr3 d)
theorem zj2 {w w1 w2:World} {o:Obj} {x y:Value} (hz1:w.heap.size<w1.heap.size) (hb:Below w.heap.size w w1)
 (s0:w1.cell? ⟨w.heap.size,0,none⟩=some x) (s1:w1.cell? ⟨w.heap.size,1,none⟩=some y) (sf:∀j,w1.frozen? ⟨w.heap.size,j,none⟩=false) (hb2:Below (w1.alloc o).heap.size (w1.alloc o) w2):
 w2.cell? ⟨w.heap.size,0,none⟩=some x/\w2.cell? ⟨w.heap.size,1,none⟩=some y/\(∀j,w2.frozen? ⟨w.heap.size,j,none⟩=false)/\w.heap.size<w2.heap.size/\Below w.heap.size w w2:=by
 have h1:Below w1.heap.size w1 (w1.alloc o):=(waC _ w1).alloc (waJ _) o;have h2:Below w1.heap.size w1 w2:=h1.trans (hb2.mono h1.size);exact⟨by rw[(zad h2).1 _ _ hz1];exact s0,by rw[(zad h2).1 _ _ hz1];exact s1,fun j=>by rw[(zad h2).2 _ _ hz1];exact sf j,waD hz1 h2.size,hb.trans (h2.mono (by omega))⟩
theorem zmD (f u d:Int) (w:World):Calls prog 136 #[.agg #[.int .i64 f,.int .i64 u],.int .i64 d] w (Ret (if zao (zjF f d) (zi2 u d)<0 then .tuple #[.int .i64 0,.int .i64 0,.bool false] else .tuple #[.int .i64 (zaw (zjF f d) (zi2 u d)%86400),.int .i64 (zao (zjF f d) (zi2 u d)%86400),.bool true]) w):=by
 have HD:=waV (fun W=>zsE d W)
 have HM:=waV (fun B c W=>zpU f u (zr2 d) (zr3 d) B c W)
 have hr:=zd6 (zjF f d) (zi2 u d);unfold zjF zi2 at *;generalize zaw (mxI f (zr2 d)) (mnI u (zr3 d))=F at *;generalize zao (mxI f (zr2 d)) (mnI u (zr3 d))=U at *;generalize zr2 d=D1 at *;generalize zr3 d=D2 at *;have iF:inC F=true:=waP oQ;have HF:=waV (fun W=>zes F iF W)
 by_cases hn:U<0
 ·have iU:inC U=false:=waO oQ;have HU:=waV (fun W=>zgB U iU W)
  rw[if_pos hn];generalize F / 86400=F1 at *;generalize F%86400=F2 at *;clear hr hn iF iU;go_enter func136,ntmps136;go_wp2_with fail
  go_region_with ((first|(go_at_call 194;refine(HD.out _).mono ?_;rintro e w1 ⟨rfl,hb1⟩;have hz1:w.heap.size<w1.heap.size:=(by have:=hb1.size;(try simp at this);omega);have hbw1:Below w.heap.size w w1:=(by first|exact((waC _ w).alloc (waJ _) _).trans (hb1.mono (by first|omega|simp))|exact(((waC _ w).alloc (waJ _) _).drewN _).trans (hb1.mono (by first|omega|simp))|exact(zaj ((waC _ w).alloc (waJ _) _) _).trans (hb1.mono (by first|omega|simp)));have s0:w1.cell? ⟨w.heap.size,0,none⟩=some (.int .i64 f):=(hb1.cell (p:=⟨w.heap.size,0,none⟩) (by simp)).trans (zaa rfl rfl);have s1:w1.cell? ⟨w.heap.size,1,none⟩=some (.int .i64 u):=(hb1.cell (p:=⟨w.heap.size,1,none⟩) (by simp)).trans (zaa rfl rfl);have sf:∀j,w1.frozen? ⟨w.heap.size,j,none⟩=false:=(fun j=>by rw[(zad hb1).2 _ _ (by simp)];go_simp);clear hb1)|(go_at_call 193;go_loud (refine(HM.out _ _ _ (zaa rfl rfl) (zaa rfl rfl) (zaa rfl rfl) (zaa rfl rfl)).mono ?_;rintro e w2 ⟨rfl,hb2⟩;obtain⟨y0,y1,yf,hz2,hbw2⟩:=zj2 hz1 hbw1 s0 s1 sf hb2;clear hb2))))
  all_goals (
   go_wp2_with fail;refine(HF.out _).mono ?_;rintro e w3 ⟨rfl,rfl⟩;go_wp2_with fail;refine(HU.out _).mono ?_;rintro e w3 ⟨rfl,rfl⟩;go_wp2
   (try simp only[Exit.inBlock,Exit.then])
   refine waY (results_tmp3 rfl _ _ _) rfl ?_;exact⟨rfl,by exact zaE⟩)
 ·have iU:inC U=true:=waP oQ;have HU:=waV (fun W=>zes U iU W)
  rw[if_neg hn];generalize F / 86400=F1 at *;generalize F%86400=F2 at *;generalize U / 86400=U1 at *;generalize U%86400=U2 at *;clear hr hn iF iU;go_enter func136,ntmps136;go_wp2_with fail
  go_region_with ((first|(go_at_call 194;refine(HD.out _).mono ?_;rintro e w1 ⟨rfl,hb1⟩;have hz1:w.heap.size<w1.heap.size:=(by have:=hb1.size;(try simp at this);omega);have hbw1:Below w.heap.size w w1:=(by first|exact((waC _ w).alloc (waJ _) _).trans (hb1.mono (by first|omega|simp))|exact(((waC _ w).alloc (waJ _) _).drewN _).trans (hb1.mono (by first|omega|simp))|exact(zaj ((waC _ w).alloc (waJ _) _) _).trans (hb1.mono (by first|omega|simp)));have s0:w1.cell? ⟨w.heap.size,0,none⟩=some (.int .i64 f):=(hb1.cell (p:=⟨w.heap.size,0,none⟩) (by simp)).trans (zaa rfl rfl);have s1:w1.cell? ⟨w.heap.size,1,none⟩=some (.int .i64 u):=(hb1.cell (p:=⟨w.heap.size,1,none⟩) (by simp)).trans (zaa rfl rfl);have sf:∀j,w1.frozen? ⟨w.heap.size,j,none⟩=false:=(fun j=>by rw[(zad hb1).2 _ _ (by simp)];go_simp);clear hb1)|(go_at_call 193;go_loud (refine(HM.out _ _ _ (zaa rfl rfl) (zaa rfl rfl) (zaa rfl rfl) (zaa rfl rfl)).mono ?_;rintro e w2 ⟨rfl,hb2⟩;obtain⟨y0,y1,yf,hz2,hbw2⟩:=zj2 hz1 hbw1 s0 s1 sf hb2;clear hb2))))
  all_goals (
   go_wp2_with fail;refine(HF.out _).mono ?_;rintro e w3 ⟨rfl,rfl⟩;go_wp2_with fail;refine(HU.out _).mono ?_;rintro e w3 ⟨rfl,rfl⟩;go_wp2
   (try simp only[Exit.inBlock,Exit.then])
   refine waY (results_tmp3 rfl _ _ _) rfl ?_;exact⟨rfl,by exact zaE⟩)
def zcz (u s a d:Int):Int:=if okU u a=true/\(0<=d/\d<146097)/\1<=s/\zap u≠0 then(zbi u a - d * 86400 / zap u)%s else 0
theorem zet {u s a d:Int} (h:¬(okU u a=true/\(0<=d/\d<146097)/\1<=s/\zap u≠0)):zcz u s a d=0:=if_neg h
theorem znS (u:Int):zap u=0\/zap u=1\/zap u=60\/zap u=3600:=by
 unfold zap
 (repeat' split)<;>omega
theorem znT (u s a d:Int) (hs:s<=9223372036854775807) (w:World):Calls prog 138 #[.int .i64 u,.int .i64 s,.int .i64 a,.int .i64 d] w (Ret (.int .i64 (zcz u s a d)) w):=by
 have H2:=waV (fun W=>zmC d 0 dQ dQ W)
 have H3:=waV (fun W=>zd5 u W)
 by_cases ho:okU u a=true
 ·have H1:=waV (fun W=>zjS u a ho W)
  have hw:=zmz ho
  by_cases hd:0<=d/\d<146097
  ·rw[if_pos hd,waP hd] at H2
   by_cases h1:1<=s
   ·by_cases hz:zap u=0
    ·have HR:Hid (zcz u s a d=0):=zet (fun h=>h.2.2.2 hz)
     rw[hz] at H3;clear ho hd hz;generalize zcz u s a d=R at *;generalize zbi u a=q at *;go_enter func138,ntmps138;go_wp2_with fail;refine(H1.out _).mono ?_;rintro e w1 ⟨rfl,hb1⟩;go_wp2_with fail;refine(H2.out _).mono ?_;rintro e w2 ⟨rfl,rfl⟩;go_wp2_with fail;refine(H3.out _).mono ?_;rintro e w2 ⟨rfl,hb2⟩;go_wp2;go_ret;exact⟨zaR HR.out.symm,zaf hb1 hb2 hb1.size⟩
    ·have HR:Hid (zcz u s a d=(zbi u a - d * 86400 / zap u)%s):=if_pos ⟨ho,hd,h1,hz⟩;generalize zcz u s a d=R at *;have hc:=znS u;generalize zbi u a=q at *;generalize zap u=n at *;clear ho;obtain⟨d0,d1⟩:=hd;obtain⟨q0,q1⟩:=hw;have hf0:0<=d * 86400:=by omega
     rcases hc with rfl|rfl|rfl|rfl
     ·exact absurd rfl hz
     ·have HM:=waV (fun W=>zlj (q - d * 86400) s oQ oQ h1 hs W)
      have HR':R=(q - d * 86400)%s:=by rw[HR.out,Int.ediv_one]
      rw[<-HR'] at HM;clear HR';clear HR hz;go_enter func138,ntmps138;go_wp2_with fail;refine(H1.out _).mono ?_;rintro e w1 ⟨rfl,hb1⟩;go_wp2_with fail;refine(H2.out _).mono ?_;rintro e w2 ⟨rfl,rfl⟩;go_wp2_with fail;refine(H3.out _).mono ?_;rintro e w2 ⟨rfl,hb2⟩;go_wp2_with fail;refine(HM.out _).mono ?_;rintro e w3 ⟨rfl,rfl⟩;go_wp2;go_ret;exact⟨rfl,zaf hb1 hb2 hb1.size⟩
     ·have HM:=waV (fun W=>zlj (q - d * 86400 / 60) s oQ oQ h1 hs W)
      rw[<-HR.out] at HM;clear HR hz;go_enter func138,ntmps138;go_wp2_with fail;refine(H1.out _).mono ?_;rintro e w1 ⟨rfl,hb1⟩;go_wp2_with fail;refine(H2.out _).mono ?_;rintro e w2 ⟨rfl,rfl⟩;go_wp2_with fail;refine(H3.out _).mono ?_;rintro e w2 ⟨rfl,hb2⟩;go_wp2_with fail;refine(HM.out _).mono ?_;rintro e w3 ⟨rfl,rfl⟩;go_wp2;go_ret;exact⟨rfl,zaf hb1 hb2 hb1.size⟩
     ·have HM:=waV (fun W=>zlj (q - d * 86400 / 3600) s oQ oQ h1 hs W)
      rw[<-HR.out] at HM;clear HR hz;go_enter func138,ntmps138;go_wp2_with fail;refine(H1.out _).mono ?_;rintro e w1 ⟨rfl,hb1⟩;go_wp2_with fail;refine(H2.out _).mono ?_;rintro e w2 ⟨rfl,rfl⟩;go_wp2_with fail;refine(H3.out _).mono ?_;rintro e w2 ⟨rfl,hb2⟩;go_wp2_with fail;refine(HM.out _).mono ?_;rintro e w3 ⟨rfl,rfl⟩;go_wp2;go_ret;exact⟨rfl,zaf hb1 hb2 hb1.size⟩
   ·have HR:Hid (zcz u s a d=0):=zet (fun h=>h1 h.2.2.1)
    clear ho hd;generalize zcz u s a d=R at *;generalize zbi u a=q at *;generalize zap u=n at *;go_enter func138,ntmps138;go_wp2_with fail;refine(H1.out _).mono ?_;rintro e w1 ⟨rfl,hb1⟩;go_wp2_with fail;refine(H2.out _).mono ?_;rintro e w2 ⟨rfl,rfl⟩;go_wp2_with fail;refine(H3.out _).mono ?_;rintro e w2 ⟨rfl,hb2⟩;go_wp2;go_ret;exact⟨zaR HR.out.symm,zaf hb1 hb2 hb1.size⟩
  ·rw[if_neg hd,waO hd] at H2;have HR:Hid (zcz u s a d=0):=zet (fun h=>hd h.2.1)
   clear ho hd;generalize zcz u s a d=R at *;generalize zbi u a=q at *;generalize zap u=n at *;go_enter func138,ntmps138;go_wp2_with fail;refine(H1.out _).mono ?_;rintro e w1 ⟨rfl,hb1⟩;go_wp2_with fail;refine(H2.out _).mono ?_;rintro e w2 ⟨rfl,rfl⟩;go_wp2_with fail;refine(H3.out _).mono ?_;rintro e w2 ⟨rfl,hb2⟩;go_wp2;go_ret;exact⟨zaR HR.out.symm,zaf hb1 hb2 hb1.size⟩
 ·have H1:=waV (fun W=>zhW u a (by simpa using ho) W)
  have HR:Hid (zcz u s a d=0):=zet (fun h=>ho h.1)
  clear ho;generalize zcz u s a d=R at *;generalize zap u=n at *;generalize (if 0<=d/\d<146097 then d * 86400+0 else 0)=fr at *
  generalize decide (0<=d/\d<146097)=is at *;cases is
  ·go_enter func138,ntmps138;go_wp2_with fail;refine(H1.out _).mono ?_;rintro e w1 ⟨rfl,hb1⟩;go_wp2_with fail;refine(H2.out _).mono ?_;rintro e w2 ⟨rfl,rfl⟩;go_wp2_with fail;refine(H3.out _).mono ?_;rintro e w2 ⟨rfl,hb2⟩;go_wp2;go_ret;exact⟨zaR HR.out.symm,zaf hb1 hb2 hb1.size⟩
  ·go_enter func138,ntmps138;go_wp2_with fail;refine(H1.out _).mono ?_;rintro e w1 ⟨rfl,hb1⟩;go_wp2_with fail;refine(H2.out _).mono ?_;rintro e w2 ⟨rfl,rfl⟩;go_wp2_with fail;refine(H3.out _).mono ?_;rintro e w2 ⟨rfl,hb2⟩;go_wp2;go_ret;exact⟨zaR HR.out.symm,zaf hb1 hb2 hb1.size⟩
end Go.Proofs.YtllcdbgjeidlkaaGreatDoor
