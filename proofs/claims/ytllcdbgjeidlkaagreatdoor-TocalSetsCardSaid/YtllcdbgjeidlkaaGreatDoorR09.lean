/- A part of the proof: RLap -/
import Derived.Test.YtllcdbgjeidlkaaGreatDoorR08
import Derived.Test.YtllcdbgjeidlkaaGreatDoorR00
import Derived.Test.YtllcdbgjeidlkaaGreatDoorR05
import Derived.Test.YtllcdbgjeidlkaaGreatDoorR06
set_option maxHeartbeats 80000000
set_option maxRecDepth 100000
set_option linter.unusedSimpArgs false
set_option linter.unusedVariables false
namespace Go.Proofs.YtllcdbgjeidlkaaGreatDoor
open Go.Proofs.Tryz
open Go.RowKit
def spF (c:Cl):Int:=zax c.f c.t
def spU (c:Cl):Int:=zao c.f c.t
def zoC (c:Cl) (n:Int):Bool:=decide (spF c<=spU c/\spF c / 86400<=n/\n<=spU c / 86400)&&zjz c n
def zhm (c:Cl) (n:Int):Int:=if n=spF c / 86400 then spF c%86400 else 0
def zeI (c:Cl) (n:Int):Int:=if n=spU c / 86400 then spU c%86400 else 86399
def zbL (c:Cl) (n:Int):Int:=if 1<c.s/\0<zap c.u then(c.a / zap c.u - n * 86400 / zap c.u)%c.s else 0
structure LSt where
 act:Bool
 fr:Int
 un:Int
 ph:Int
def stZ:LSt:=⟨false,0,0,0⟩
def zkX (c:Cl) (n:Int):LSt:=if zoC c n then⟨true,zhm c n,zeI c n,zbL c n⟩ else stZ
def zfy (c:Cl) (x:LSt) (s:Int):Bool:=
 decide (x.act=true/\0<=x.ph/\zeH c zbl=true)&&(decide (x.fr<=s/\s<=x.un)&&(zdf s (c.m 2) (c.m 1) (c.m 0)&&
  (!decide (0<zap c.u/\(1<c.s\/0<x.ph))||decide (x.ph<=s / zap c.u/\(s / zap c.u - x.ph)%c.s=0))))
theorem zgx (u:Int):zap u=1\/zap u=60\/zap u=3600\/zap u=0:=by
 unfold zap;split
 ·exact .inl rfl
 ·split
  ·exact .inr (.inl rfl)
  ·split
   ·exact .inr (.inr (.inl rfl))
   ·exact .inr (.inr (.inr rfl))
theorem zgy {c:Cl} (h:zeH c zbl=true):1<=c.s/\inC c.a=true/\0<=c.u/\c.u<7:=by
 unfold zeH at h;simp only[waN,waM,Bool.not_eq_true'] at h;obtain⟨_,_,_,hu,hs,ha⟩:=h;refine⟨hs,ha,?_⟩;have h1:unT c.u≠[]:=by intro e;rw[e] at hu;cases hu
 rw[ne_eq,zt2,Decidable.not_not] at h1;exact h1
theorem zrU {x b p s:Int} (hs:1<=s) (hx:0<=x) (hp:p=b%s):(p<=x/\(x - p)%s=0)↔(x - b)%s=0:=by
 have e:(x - p)%s=(x - b)%s:=by rw[hp,Int.sub_emod,Int.emod_emod_of_dvd _ (Int.dvd_refl s),<-Int.sub_emod]
 constructor
 ·rintro ⟨_,h⟩;rw[<-e];exact h
 ·intro h;rw[<-e] at h;refine⟨?_,h⟩;have h1:p<s:=by rw[hp];exact Int.emod_lt_of_pos _ (by omega)
  obtain⟨k,hk⟩:=Int.dvd_of_emod_eq_zero h;have hk0:0<=k:=by
   false_or_by_contra
   have:s * k<=s * (-1):=Int.mul_le_mul_of_nonneg_left oQ oQ;omega
  have:=Int.mul_nonneg (show 0<=s by omega) hk0
  omega
theorem zrV {c:Cl} {n:Int} (h:zjz c n=true):ziy c.u c.s c.a n=true:=by
 unfold zjz zvY at h;simp only[waN] at h;exact h.2.2.2.2.2.2
theorem zuK {n s z:Int} (hz:z=1\/z=60\/z=3600) (hs:0<=s):(n * 86400+s) / z=n * 86400 / z+s / z:=by
 rcases hz with rfl|rfl|rfl<;>omega
theorem zpu (c:Cl) {n s:Int} (h0:0<=n) (h1:n<146097) (s0:0<=s) (s1:s<86400):zfy c (zkX c n) s=zrT c (n * 86400+s):=by
 have ht:(n * 86400+s) / 86400=n:=by omega
 have hm:(n * 86400+s)%86400=s:=by omega
 have hi:inC (n * 86400+s)=true:=waP oQ;unfold zrT;rw[ht,hm,hi,Bool.true_and];unfold zkX;cases hmay:zeH c zbl with
 |false=>
  rw[Bool.false_and];have:zoC c n=false:=by unfold zoC zjz;rw[hmay];simp
  rw[this];rfl
 |true=>
  rw[Bool.true_and];obtain⟨hs,ha,hu0,hu1⟩:=zgy hmay;cases hd:zjz c n with
  |false=>
   have:zoC c n=false:=by unfold zoC;rw[hd];simp
   rw[this];simp only[Bool.and_false];rfl
  |true=>
   have hst:=zrV hd;have hact:zoC c n=decide (spF c<=spU c/\spF c / 86400<=n/\n<=spU c / 86400):=by unfold zoC;rw[hd,Bool.and_true]
   rw[hact];have hon:onU c.u c.s c.a (n * 86400+s)=decide (0<zap c.u/\1<c.s->(s / zap c.u - zbL c n)%c.s=0/\zbL c n<=s / zap c.u):=by
    unfold onU;rw[wbH];have hoa:okU c.u c.a=true:=waP ⟨ha,hu0,hu1⟩;have hot:okU c.u (n * 86400+s)=true:=waP ⟨hi,hu0,hu1⟩
    by_cases hz:0<zap c.u
    ·have hw:∀t,zbf c.u t=t / zap c.u:=fun t=>if_pos hz
     have hz3:zap c.u=1\/zap c.u=60\/zap c.u=3600:=by
      rcases zgx c.u with h|h|h|h
      ·exact .inl h
      ·exact .inr (.inl h)
      ·exact .inr (.inr h)
      ·omega
     rw[hw,hw,zuK hz3 s0];have hx:0<=s / zap c.u:=Int.ediv_nonneg s0 oQ
     by_cases h1s:1<c.s
     ·have hp:zbL c n=(c.a / zap c.u - n * 86400 / zap c.u)%c.s:=if_pos ⟨h1s,hz⟩;have:=zrU hs hx hp;have e:n * 86400 / zap c.u+s / zap c.u - c.a / zap c.u=s / zap c.u - (c.a / zap c.u - n * 86400 / zap c.u):=by omega
      rw[e];constructor
      ·rintro ⟨_,_,_,h⟩ _;exact(this.2 h).symm
      ·intro h;exact⟨hoa,hot,hs,this.1 (h ⟨hz,h1s⟩).symm⟩
     ·have e1:c.s=1:=by omega
      constructor
      ·rintro _ ⟨_,h⟩;exact absurd h h1s
      ·intro _;rw[e1];exact⟨hoa,hot,by omega,Int.emod_one _⟩
    ·have hw:∀t,zbf c.u t=zb1 c.u (t / 86400):=fun t=>if_neg hz
     constructor
     ·rintro _ ⟨h,_⟩;exact absurd h hz
     ·intro _;refine⟨hoa,hot,hs,?_⟩;unfold ziy at hst;obtain⟨_,_,h⟩:=waA hst;rcases h with h|h|h
      ·exact absurd h hz
      ·rw[h];exact Int.emod_one _
      ·rw[hw (n * 86400+s),ht];exact h
   rw[hon,Bool.and_true];have hph0:0<=zbL c n:=by
    unfold zbL;split
    ·exact Int.emod_nonneg _ oQ
    ·exact Int.le_refl _
   have hphz:¬(1<c.s/\0<zap c.u)->zbL c n=0:=fun h=>if_neg h
   have hsp:(decide (zax c.f c.t<=n * 86400+s/\n * 86400+s<=zao c.f c.t))=(decide (spF c<=spU c/\spF c / 86400<=n/\n<=spU c / 86400)&&decide (zhm c n<=s/\s<=zeI c n)):=by
    show decide (spF c<=n * 86400+s/\n * 86400+s<=spU c)=_;rw[waQ,waN,waM,waM,waM];unfold zhm zeI;generalize spF c=F;generalize spU c=U;constructor
    ·intro h;refine⟨by omega,?_,?_⟩
     ·split<;>omega
     ·split<;>omega
    ·rintro ⟨⟨h2,h3,h4⟩,h5,h6⟩;constructor
     ·split at h5<;>omega
     ·split at h6<;>omega
   rw[hsp];cases hA:decide (spF c<=spU c/\spF c / 86400<=n/\n<=spU c / 86400) with
   |false=>
    rw[if_neg (by decide)]
    simp only[Bool.false_and];rfl
   |true=>
    rw[if_pos rfl,Bool.true_and];unfold zfy;dsimp only;have e1:decide (True/\0<=zbL c n/\zeH c zbl=true)=true:=waP ⟨trivial,hph0,hmay⟩;have e2:decide ((true:Bool)=true/\0<=zbL c n/\zeH c zbl=true)=true:=waP ⟨rfl,hph0,hmay⟩;rw[e2,Bool.true_and];congr 1;congr 1
    by_cases hz:0<zap c.u/\1<c.s
    ·have d1:decide (0<zap c.u/\(1<c.s\/0<zbL c n))=true:=waP ⟨hz.1,.inl hz.2⟩;rw[d1,Bool.not_true,Bool.false_or,wbH];exact⟨fun h _=>⟨h.2,h.1⟩,fun h=>⟨(h hz).2,(h hz).1⟩⟩
    ·have hp0:=hphz (fun h=>hz ⟨h.2,h.1⟩)
     have d1:decide (0<zap c.u/\(1<c.s\/0<zbL c n))=false:=waO (by
      rintro ⟨h2,h3|h3⟩
      ·exact hz ⟨h2,h3⟩
      ·omega)
     rw[d1,Bool.not_false,Bool.true_or];exact(waP (fun h=>absurd h hz)).symm
def zws:Cl:={m:=fun _=>0,or:=false,oi:=0,ob:=false,od:=fun _=>0,y:=fun _=>0,u:=0,s:=0,a:=0,f:=0,t:=0}
theorem zpv:(prog.info? 60).map (fun i=>(i.zero,i.size,i.bytes))=some (some (.agg (clA zws)),30,240):=by kernel_rfl
theorem zco (c:Cl):(zdg c).length=30:=rfl
theorem zpw (c:Cl):(zdg c).all (·.oneCell')=true:=by kernel_rfl
theorem zgz (l:List Cl):∀u∈l.flatMap zdg,u.oneCell'=true:=by
 intro u hu;obtain⟨x,_,h⟩:=List.mem_flatMap.1 hu;exact List.all_eq_true.1 (zpw x) u h
def zwt (n:Nat) (l:List Cl) (w:World) (e:Ending) (w':World):Prop:=∃A c,e=.returned (.slice A n c)/\zbd w' A n l/\Below w.heap.size w w'
theorem znx (A:Option Addr) (n c:Nat) (l:List Cl) (w:World) (hA:zbd w A n l) (hn:n<=4294967296) (hnil:A=none->n=0):
 Calls prog 21 #[.slice A n c] w (zwt n l w):=by
 have HL:Hid (l.length=n):=hA.1;have heql:=fun W=>Lib.run_eql_slice_nil (P:=prog) W 22 60 A n c 0 0 underlying22
 rcases A with _|⟨b,o,sp⟩
 ·have h0:n=0:=hnil rfl;subst h0;go_enter func21,ntmps21;go_wp2;go_ret;exact⟨none,0,rfl,hA,waC _ _⟩
 ·have hsp:0<n->sp=none:=fun h=>by
   obtain⟨b',o',e,_⟩:=hA.2 h;cases e;rfl
  obtain⟨i0,hi0,hz0,hz1,hz2⟩:=info_parts zpv;have hnews:∀(j:Nat) u,(l.flatMap zdg)[j]?=some u->w.cell? ((⟨b,o,sp⟩:Addr).add j)=some u:=by
   intro j u hu;have hn0:0<n:=by
    obtain⟨i,_,x,_,hx,_⟩:=zf4 zco l j u hu;have:=(waI.1 hx).1;have:=HL.out;omega
   have:=hsp hn0;subst this;exact Rd.news zco hA j u hu
  have hall:∀(O:Obj) (j:Nat) u,(l.flatMap zdg)[j]?=some u->(w.alloc O).cell? ((⟨b,o,sp⟩:Addr).add j)=some u:=fun O j u hu=>by
   have h1:=hnews j u hu;have hlt:=waR w _ h1;exact(World.cell?_alloc_lt w O _ hlt).trans h1
  have hlen:(l.flatMap zdg).length=n * 30:=by rw[zer zco,HL.out]
  have HN:=waV hall;clear hall hnews hsp;go_enter func21,ntmps21
  go_wp2_with (at_builtin;refine wpList_append_own _ rfl _ _ 22 rfl w.heap.size 60 i0 _ 30 240 underlying22 hi0 hz0 hz1 hz2 rfl dQ _ 0 [] rfl ?c0 ⟨b,o,sp⟩ n c (l.flatMap zdg) rfl hlen ?c1 (zgz l) ?c2 ?c3 ?c4 ?c5)
  case c0=>exact World.ownsRow_made w #[] 0 (waJ _) (waK _) rfl
  case c1=>exact HN.out _
  case c2=>simp only[maxLen];omega
  case c3=>omega
  case c4=>simp
  case c5=>
   intro v' w' hown hg _;have hown:w'.ownsRow w.heap.size 60 30 v' n (l.flatMap zdg):=by simpa using hown
   obtain⟨A',c',rfl,_,_,hr,_⟩:=Rd.of_own zco hown HL.out;have hbl:Below w.heap.size w w':=((waC _ w).alloc (waJ _) _).grown hg (by simp) (by simp[Value.ownBlock])
   go_wp2;go_ret;exact⟨A',c',rfl,hr,hbl⟩
end Go.Proofs.YtllcdbgjeidlkaaGreatDoor
namespace Go.Proofs.YtllcdbgjeidlkaaGreatDoor
open Go.Proofs.Tryz
def zdR (x:LSt):Value:=.agg #[.bool x.act,.int .i64 x.fr,.int .i64 x.un,.int .i64 x.ph]
theorem zrW {x y:LSt} (h:zdR x=zdR y):x=y:=by
 cases x;cases y;simp only[zdR,Value.agg.injEq,Array.mk.injEq,List.cons.injEq,Value.bool.injEq,Value.int.injEq,and_true,true_and] at h;obtain⟨rfl,rfl,rfl,rfl⟩:=h;rfl
def zeD (L:List Cl) (i:Nat):Cl:=L.getD i zws
def zbD (L:List Cl) (x:Nat->LSt) (s:Nat):Bool:=(List.range L.length).any fun i=>zfy (zeD L i) (x i) (s:Int)
def stN (L:List Cl) (n:Int) (i:Nat):LSt:=if i<L.length then zkX (zeD L i) n else stZ
def zaE (L:List Cl) (n:Int) (s:Nat):Bool:=zt4 L (n * 86400+(s:Int))
theorem ze7 (c:Cl) {x:LSt} (h:x.act=false) (s:Int):zfy c x s=false:=by
 unfold zfy;rw[waO (fun g=>by rw[h] at g;cases g.1)]
 rfl
theorem ziC {L:List Cl} (h:zdw L=true) {n:Int} (h0:0<=n) (h1:n<146097) {s:Nat} (hs:s<86400):zbD L (stN L n) s=zaE L n s:=by
 unfold zbD zaE zt4;rw[h,Bool.true_and,waQ,List.any_eq_true,List.any_eq_true];constructor
 ·rintro ⟨i,hi,he⟩;have hi':=wbG.1 hi;rw[stN,if_pos hi',zpu _ h0 h1 (by omega) (by omega)] at he
  refine⟨zeD L i,?_,he⟩;unfold zeD;rw[List.getD_eq_getElem?_getD,waE hi'];exact List.getElem_mem hi'
 ·rintro ⟨c,hc,he⟩;obtain⟨i,hi,rfl⟩:=List.mem_iff_getElem.1 hc;refine⟨i,wbG.2 hi,?_⟩;have e:zeD L i=L[i]:=by unfold zeD;rw[List.getD_eq_getElem?_getD,waE hi];rfl
  rw[stN,if_pos hi,e,zpu _ h0 h1 (by omega) (by omega)]
  exact he
theorem zrX {L:List Cl} {x y:Nat->LSt} (h:∀i,i<L.length->x i=y i) (s:Nat):zbD L x s=zbD L y s:=by
 unfold zbD;rw[waQ,List.any_eq_true,List.any_eq_true];constructor<;>rintro ⟨i,hi,he⟩<;>refine⟨i,hi,?_⟩
 ·rw[<-h i (wbG.1 hi)];exact he
 ·rw[h i (wbG.1 hi)];exact he
def ziD:LSt:=⟨true,0,86399,0⟩
def zdS (x:Nat->LSt):Nat->Nat
 |0=>0
 |k+1=>zdS x k+if (x k).act then 2^k else 0
theorem zgA (x:Nat->LSt):∀k,zdS x k<2^k
 |0=>by simp[zdS]
 |k+1=>by
  have:=zgA x k;simp only[zdS,Nat.pow_succ];split<;>omega
theorem ziE (x:Nat->LSt):∀k i,i<k->(zdS x k).testBit i=(x i).act
 |0,i,h=>by omega
 |k+1,i,h=>by
  have hl:=zgA x k;simp only[zdS]
  by_cases hi:i=k
  ·subst hi;cases ha:(x i).act with
   |true=>rw [if_pos rfl,Nat.add_comm,Nat.testBit_two_pow_add_eq,waX hl];rfl
   |false=>rw [if_neg (by decide),Nat.add_zero,waX hl]
  ·rw[<-ziE x k i (by omega)]
   cases ha:(x k).act with
   |true=>rw [if_pos rfl,Nat.add_comm,Nat.testBit_two_pow_add_gt (by omega)]
   |false=>rw [if_neg (by decide),Nat.add_zero]
def whS (a:Nat) (i:Nat):LSt:=if a.testBit i then ziD else stZ
theorem zhI {L:List Cl} {x:Nat->LSt} (h:∀i,i<L.length->(x i).act=true->x i=ziD) (s:Nat):zbD L (whS (zdS x L.length)) s=zbD L x s:=by
 unfold zbD;rw[waQ,List.any_eq_true,List.any_eq_true];constructor<;>rintro ⟨i,hi,he⟩<;>refine⟨i,hi,?_⟩<;>have hi':=wbG.1 hi<;>unfold whS at * <;>rw [ziE x _ i hi'] at * <;>cases ha:(x i).act
 ·rw[ha,if_neg (by decide),ze7 _ rfl] at he;cases he
 ·rw[ha,if_pos rfl,<-h i hi' ha] at he;exact he
 ·rw[ze7 _ ha] at he;cases he
 ·rw[if_pos rfl,<-h i hi' ha];exact he
theorem zjB {L:List Cl} {x:Nat->LSt} (h:zdS x L.length=0) (s:Nat):zbD L x s=false:=by
 unfold zbD;rw[List.any_eq_false];intro i hi;have:=ziE x L.length i (wbG.1 hi);rw[h,Nat.zero_testBit] at this;rw[ze7 _ this.symm];decide
end Go.Proofs.YtllcdbgjeidlkaaGreatDoor
namespace Go.Proofs.YtllcdbgjeidlkaaGreatDoor
open Go.Proofs.Tryz
open Go.RowKit
theorem zjC (w:World):Calls prog 199 #[] w (Ret (.agg #[.int .i64 0,.int .i64 (-1)]) w):=by
 go_enter func199,ntmps199;go_wp2
 (try simp only[Exit.inBlock,Exit.then])
 refine waY (v:=.agg #[.int .i64 0,.int .i64 (-1)]) ?_ rfl ⟨rfl,by exact zaB⟩
 rw[zae rfl]
 go_simp
theorem zkY (a b:Int) (ha:-1000000000000000<=a) (ha1:a<=1000000000000000) (hb:1<=b) (hb1:b<=9223372036854775807) (w:World):Calls prog 197 #[.int .i64 a,.int .i64 b] w (zbF (.int .i64 (a%b)) w):=by
 have hq:¬b<1:=by omega
 have hb0:(b==0)=false:=by simp;omega
 have hd:a.tmod b=if a.tmod b<0 then a%b - b else a%b:=by
  have h0:=Int.emod_nonneg a (b:=b) oQ;have h2:=Int.emod_lt_of_pos a (b:=b) oQ
  by_cases h:0<=a
  ·rw[Int.tmod_eq_emod_of_nonneg h,if_neg (by omega)]
  ·have e:=Int.tmod_eq_emod (a:=a) (b:=b)
   by_cases hd:0<=a\/b ∣ a
   ·rw[if_pos hd] at e;rw[if_neg (by omega)];omega
   ·rw[if_neg hd] at e;have hna:((b.natAbs:Nat):Int)=b:=by omega
    rw[if_pos (by omega)];omega
 have g0:=Int.emod_nonneg a (b:=b) oQ;have g1:=Int.emod_lt_of_pos a (b:=b) oQ
 by_cases hn:a.tmod b<0
 ·rw[if_pos hn] at hd;generalize a%b=r at *;have e:r=a.tmod b+b:=by omega
  have hl:-1000000000000000<=a.tmod b:=by
   have h1:=Int.natAbs_tmod a b;have h2:=Nat.mod_le a.natAbs b.natAbs;omega
  have hu:a.tmod b+b<=9223372036854775807:=by omega
  rw[e];clear hd e g0 g1;have hne1:(b==-1)=false:=by rw[wbE];omega
  go_enter func197,ntmps197;go_wp2;go_ret;exact⟨rfl,rfl⟩
 ·rw[if_neg hn] at hd;rw[<-hd] at g0 g1 ⊢;clear hd;have hne1:(b==-1)=false:=by rw[wbE];omega
  go_enter func197,ntmps197;go_wp2;go_ret;exact⟨rfl,rfl⟩
theorem zmh (d s:Int) (h0:0<=s) (h1:s<86400) (w:World):Calls prog 196 #[.int .i64 d,.int .i64 s] w (zbF (.tuple #[.int .i64 (if 0<=d/\d<146097 then d * 86400+s else 0),.bool (decide (0<=d/\d<146097))]) w):=by
 have h2:¬s<0:=by omega
 have h3:¬86400<=s:=by omega
 by_cases hd0:d<0
 ·rw[if_neg (by omega),waO (by omega)]
  go_enter func196,ntmps196;go_wp2
  (try simp only[Exit.inBlock,Exit.then])
  refine waY (wbM rfl _ _ _) rfl ?_;exact⟨rfl,rfl⟩
 ·by_cases hd1:d<146097
  ·have hd2:¬146097<=d:=by omega
   rw[if_pos (by omega),waP (by omega)]
   go_enter func196,ntmps196;go_wp2
   (try simp only[Exit.inBlock,Exit.then])
   refine waY (wbM rfl _ _ _) rfl ?_;exact⟨rfl,rfl⟩
  ·have hd2:146097<=d:=by omega
   rw[if_neg (by omega),waO (by omega)]
   go_enter func196,ntmps196;go_wp2
   (try simp only[Exit.inBlock,Exit.then])
   refine waY (wbM rfl _ _ _) rfl ?_;exact⟨rfl,rfl⟩
def zro (d:Int):Int:=if 0<=d/\d<146097 then d * 86400 else 0
def zrp (d:Int):Int:=if 0<=d/\d<146097 then d * 86400+86399 else -1
theorem zrY (d:Int) (w:World):Calls prog 194 #[.int .i64 d] w (Ret (.agg #[.int .i64 (zro d),.int .i64 (zrp d)]) w):=by
 have HJ:=waV (fun W=>zmh d 0 dQ dQ W)
 have HN:=waV (fun W=>zjC W)
 by_cases h:0<=d/\d<146097
 ·rw[if_pos h,waP h] at HJ;have HR:Hid (zro d=d * 86400/\zrp d=d * 86400+86399):=⟨if_pos h,if_pos h⟩;rw[HR.out.1,HR.out.2];obtain⟨k0,k1⟩:=h;go_enter func194,ntmps194;go_wp2_with fail;refine(HJ.out _).mono ?_;rintro e w1 ⟨rfl,rfl⟩;go_wp2
  (try simp only[Exit.inBlock,Exit.then])
  refine waY (v:=.agg #[.int .i64 (d * 86400),.int .i64 (d * 86400+86399)]) ?_ rfl ⟨rfl,by exact zaB⟩
  rw[zae rfl]
  go_simp
  all_goals (try omega)
 ·rw[if_neg h,waO h] at HJ;have HR:Hid (zro d=0/\zrp d=-1):=⟨if_neg h,if_neg h⟩;rw[HR.out.1,HR.out.2];clear h;go_enter func194,ntmps194;go_wp2_with fail;refine(HJ.out _).mono ?_;rintro e w1 ⟨rfl,rfl⟩;go_wp2_with fail;refine(HN.out _).mono ?_;rintro e w1 ⟨rfl,hb1⟩;obtain⟨hc,hf⟩:=zac hb1;have hz1:w.heap.size<w1.heap.size:=by have:=hb1.size;simp at this;omega
  have hbw:Below w.heap.size w w1:=((waC _ w).alloc (waJ _) _).trans (hb1.mono (by simp))
  have f0:∀j,w1.frozen? ⟨w.heap.size,j,none⟩=false:=fun j=>by rw[hf _ _ (by simp)];go_simp
  have c0:∃v,w1.cell? ⟨w.heap.size,0,none⟩=some v:=⟨_,by rw[hc _ _ (by simp)];exact zaa rfl rfl⟩
  have c1:∃v,w1.cell? ⟨w.heap.size,1,none⟩=some v:=⟨_,by rw[hc _ _ (by simp)];exact zaa rfl rfl⟩
  obtain⟨v0,c0⟩:=c0;obtain⟨v1,c1⟩:=c1;clear hb1 hc hf;go_wp2
  (try simp only[Exit.inBlock,Exit.then])
  refine waY (v:=.agg #[.int .i64 0,.int .i64 (-1)]) ?_ rfl ⟨rfl,by exact zaB⟩
  rw[zae rfl]
  go_simp
theorem zd6 (f u:Int):(zax f u=0/\zao f u=-1)\/(0<=zax f u/\zax f u<=zao f u/\zao f u<=12622780799):=by
 unfold zax zao
 (repeat' split)<;>omega
theorem zhJ (f u:Int) (w:World):Calls prog 143 #[.agg #[.int .i64 f,.int .i64 u]] w (Ret (.bool (decide (zao f u<0))) w):=by
 have HH:=waV (fun W=>zd4 f u W)
 have HN:=waV (fun W=>zjC W)
 have hr:=zd6 f u;generalize zax f u=F at *;generalize zao f u=U at *;have HR:Hid (decide (U<0)=(F==0&&U==-1)):=by
  show _=_;rw[waQ,waM];simp only[waN,beq_iff_eq];omega
 rw[HR.out];clear hr;go_enter func143,ntmps143;go_wp2_with fail;refine(HH.out _).mono ?_;rintro e w1 ⟨rfl,hb1⟩;go_wp2_with fail;refine(HN.out _).mono ?_;rintro e w2 ⟨rfl,hb2⟩;have hbw:Below w.heap.size w w2:=(((waC _ w).alloc (waJ _) _).trans (hb1.mono (by simp))).trans (hb2.mono (by have:=hb1.size;simp at this;omega))
 clear hb1 hb2;go_wp2
 all_goals go_ret
 all_goals refine⟨zab ?_,by exact zaB⟩
 all_goals (first|rfl|(simp;done)|simp[*])
def zjD (f u:Int):Value:=if zao f u<0 then .tuple #[.int .i64 0,.int .i64 0,.bool false] else .tuple #[.int .i64 (zax f u / 86400),.int .i64 (zao f u / 86400),.bool true]
theorem zgB (f u:Int) (w:World):Calls prog 134 #[.agg #[.int .i64 f,.int .i64 u]] w (Ret (zjD f u) w):=by
 have HH:=waV (fun W=>zd4 f u W)
 have hr:=zd6 f u;unfold zjD;generalize zax f u=F at *;generalize zao f u=U at *;have iF:inC F=true:=waP oQ;have HF:=waV (fun W=>zes F iF W)
 by_cases hn:U<0
 ·have iU:inC U=false:=waO oQ;have HU:=waV (fun W=>zgp U iU W)
  rw[if_pos hn];generalize F / 86400=F1 at *;generalize F%86400=F2 at *;clear hr hn iF iU;go_enter func134,ntmps134;go_wp2_with fail;refine(HH.out _).mono ?_;rintro e w1 ⟨rfl,hb1⟩;obtain⟨hc,hf⟩:=zac hb1;have hz1:w.heap.size<w1.heap.size:=by have:=hb1.size;simp at this;omega
  have hbw:Below w.heap.size w w1:=((waC _ w).alloc (waJ _) _).trans (hb1.mono (by simp))
  have c0:w1.cell? ⟨w.heap.size,0,none⟩=some (.int .i64 f):=by rw[hc _ _ (by simp)];exact zaa rfl rfl
  have c1:w1.cell? ⟨w.heap.size,1,none⟩=some (.int .i64 u):=by rw[hc _ _ (by simp)];exact zaa rfl rfl
  have f0:∀j,w1.frozen? ⟨w.heap.size,j,none⟩=false:=fun j=>by rw[hf _ _ (by simp)];go_simp
  clear hb1 hc hf;go_wp2_with fail;refine(HF.out _).mono ?_;rintro e w2 ⟨rfl,rfl⟩;go_wp2_with fail;refine(HU.out _).mono ?_;rintro e w2 ⟨rfl,rfl⟩;go_wp2
  (try simp only[Exit.inBlock,Exit.then])
  refine waY (results_tmp3 rfl _ _ _) rfl ?_;exact⟨rfl,by exact zaB⟩
 ·have iU:inC U=true:=waP oQ;have HU:=waV (fun W=>zes U iU W)
  rw[if_neg hn];generalize F / 86400=F1 at *;generalize F%86400=F2 at *;generalize U / 86400=U1 at *;generalize U%86400=U2 at *;clear hr hn iF iU;go_enter func134,ntmps134;go_wp2_with fail;refine(HH.out _).mono ?_;rintro e w1 ⟨rfl,hb1⟩;obtain⟨hc,hf⟩:=zac hb1;have hz1:w.heap.size<w1.heap.size:=by have:=hb1.size;simp at this;omega
  have hbw:Below w.heap.size w w1:=((waC _ w).alloc (waJ _) _).trans (hb1.mono (by simp))
  have c0:w1.cell? ⟨w.heap.size,0,none⟩=some (.int .i64 f):=by rw[hc _ _ (by simp)];exact zaa rfl rfl
  have c1:w1.cell? ⟨w.heap.size,1,none⟩=some (.int .i64 u):=by rw[hc _ _ (by simp)];exact zaa rfl rfl
  have f0:∀j,w1.frozen? ⟨w.heap.size,j,none⟩=false:=fun j=>by rw[hf _ _ (by simp)];go_simp
  clear hb1 hc hf;go_wp2_with fail;refine(HF.out _).mono ?_;rintro e w2 ⟨rfl,rfl⟩;go_wp2_with fail;refine(HU.out _).mono ?_;rintro e w2 ⟨rfl,rfl⟩;go_wp2
  (try simp only[Exit.inBlock,Exit.then])
  refine waY (results_tmp3 rfl _ _ _) rfl ?_;exact⟨rfl,by exact zaB⟩
def mxI (a b:Int):Int:=if a<b then b else a
def mnI (a b:Int):Int:=if b<a then b else a
def zd7 (f1 f2:Int) (k:Nat):Int:=if k=0 then 0 else if k=1 then mxI 0 f1 else mxI (mxI 0 f1) f2
def zd8 (u1 u2:Int) (k:Nat):Int:=if k=0 then 12622780799 else if k=1 then mnI 12622780799 u1 else mnI (mnI 12622780799 u1) u2
theorem zeM (a b:Int):mxI a b=max a b:=by unfold mxI;split<;>omega
theorem zeN (a b:Int):mnI a b=min a b:=by unfold mnI;split<;>omega
theorem zwu (f1 f2:Int):zd7 f1 f2 1=max (zd7 f1 f2 0) f1:=zeM _ _
theorem zwv (f1 f2:Int):zd7 f1 f2 2=max (zd7 f1 f2 1) f2:=zeM _ _
theorem zww (f1 f2:Int):zd8 f1 f2 1=min (zd8 f1 f2 0) f1:=zeN _ _
theorem zwx (f1 f2:Int):zd8 f1 f2 2=min (zd8 f1 f2 1) f2:=zeN _ _
theorem zny {a b c d:Int} (h1:a=max b 0) (h2:c=min d 12622780799):zax a c=zax b d/\zao a c=zao b d:=by
 subst h1 h2;unfold zax zao;constructor<;>((repeat' split)<;>omega)
theorem zpx (f1 u1 f2 u2:Int):zax (zd7 f1 f2 2) (zd8 u1 u2 2)=zax (mxI f1 f2) (mnI u1 u2)/\zao (zd7 f1 f2 2) (zd8 u1 u2 2)=zao (mxI f1 f2) (mnI u1 u2):=by
 refine zny ?_ ?_
 ·show mxI (mxI 0 f1) f2=_;rw[zeM,zeM,zeM];omega
 ·show mnI (mnI _ u1) u2=_;rw[zeN,zeN,zeN];omega
theorem zd9 {W:World} {b:Nat} {a0 a1 x y:Value} (o:Obj) (h0:W.cell? ⟨b,0,none⟩=some a0) (h1:W.cell? ⟨b,1,none⟩=some a1):
 (((W.setCell ⟨b,0,none⟩ x).setCell ⟨b,1,none⟩ y).alloc o).cell? ⟨b,0,none⟩=some x/\(((W.setCell ⟨b,0,none⟩ x).setCell ⟨b,1,none⟩ y).alloc o).cell? ⟨b,1,none⟩=some y:=by
 have hl:b<((W.setCell ⟨b,0,none⟩ x).setCell ⟨b,1,none⟩ y).heap.size:=by
  simp only[World.size_setCell];exact waR W _ h0
 have hk:=(zac ((waC ((W.setCell ⟨b,0,none⟩ x).setCell ⟨b,1,none⟩ y).heap.size ((W.setCell ⟨b,0,none⟩ x).setCell ⟨b,1,none⟩ y)).alloc (waJ _) o)).1;constructor
 ·rw[hk _ _ hl,waU _ _ _ _ (by simp)]
  exact World.cell?_setCell_same' _ _ _ (by rw[h0];rfl)
 ·rw[hk _ _ hl];refine World.cell?_setCell_same' _ _ _ ?_;rw[waU _ _ _ _ (by simp),h1];rfl
theorem zpy (f1 u1 f2 u2:Int) (B c:Nat) (w:World)
 (c0:w.cell? ⟨B,0,none⟩=some (.int .i64 f1)) (c1:w.cell? ⟨B,1,none⟩=some (.int .i64 u1)) (c2:w.cell? ⟨B,2,none⟩=some (.int .i64 f2)) (c3:w.cell? ⟨B,3,none⟩=some (.int .i64 u2)):
 Calls prog 193 #[.slice (some ⟨B,0,none⟩) 2 c] w (Ret (.agg #[.int .i64 (zax (mxI f1 f2) (mnI u1 u2)),.int .i64 (zao (mxI f1 f2) (mnI u1 u2))]) w):=by
 have HW:=waV (fun W=>zhA W)
 have HH:=waV (fun f u W=>zd4 f u W)
 have hB:=waR w _ c0;have HE:Hid (zax (zd7 f1 f2 2) (zd8 u1 u2 2)=zax (mxI f1 f2) (mnI u1 u2)/\zao (zd7 f1 f2 2) (zd8 u1 u2 2)=zao (mxI f1 f2) (mnI u1 u2)):=zpx f1 u1 f2 u2;go_enter func193,ntmps193;go_wp2_with fail;refine(HW.out _).mono ?_;rintro e w1 ⟨rfl,hb1⟩;have hz1:w.heap.size<w1.heap.size:=by have:=hb1.size;simp at this;omega
 have hbw:Below w.heap.size w w1:=((waC _ w).alloc (waJ _) _).trans (hb1.mono (by simp))
 have g0:∀j,w1.frozen? ⟨w.heap.size,j,none⟩=false:=fun j=>by rw[(zac hb1).2 _ _ (by simp)];go_simp
 have k0:∃v,w1.cell? ⟨w.heap.size,0,none⟩=some v:=⟨_,by rw[(zac hb1).1 _ _ (by simp)];exact zaa rfl rfl⟩
 have k1:∃v,w1.cell? ⟨w.heap.size,1,none⟩=some v:=⟨_,by rw[(zac hb1).1 _ _ (by simp)];exact zaa rfl rfl⟩
 clear hb1;go_wp2
 go_loopw [9] (fun i V=>∃k:Nat,k<=2/\i=.int .i64 k/\V.cell? ⟨w1.heap.size,0,none⟩=some (.int .i64 (zd7 f1 f2 k))/\V.cell? ⟨w1.heap.size,1,none⟩=some (.int .i64 (zd8 u1 u2 k))/\Hid (∀j,V.frozen? ⟨w1.heap.size,j,none⟩=false)/\Below w1.heap.size w1 V/\w1.heap.size<V.heap.size) (fun i _=>2 - (intOf i).toNat)
 case atStart=>exact⟨0,by omega,rfl,zaa rfl rfl,zaa rfl rfl,fun j=>by go_simp,by exact zaB,by simp⟩
 case round=>
  obtain⟨k,hk,rfl,r0,r1,r2,r3,r4⟩:=hrel;obtain⟨v0,k0⟩:=k0;obtain⟨v1,k1⟩:=k1;have q0:=(zac r3).1 _ 0 hz1;have q1:=(zac r3).1 _ 1 hz1;have qf:=(zac r3).2 _ 0 hz1;rw[k0] at q0;rw[k1] at q1;rw[g0] at qf;have F0:∀j,wr.frozen? ⟨w.heap.size,j,none⟩=false:=fun j=>by rw[(zac r3).2 _ _ hz1,g0]
  have hbV:Below w.heap.size w wr:=hbw.trans (r3.mono oQ)
  by_cases h2:k=2
  ·subst h2;clear HW;have HHx:=waV (fun W=>HH.out (zd7 f1 f2 2) (zd8 u1 u2 2) W)
   rw[HE.out.1,HE.out.2] at HHx;have HF0:=r2.out;generalize zd7 f1 f2 2=A at *;generalize zd8 u1 u2 2=U at *;generalize zax (mxI f1 f2) (mnI u1 u2)=RF at *;generalize zao (mxI f1 f2) (mnI u1 u2)=RU at *;go_wp2_with fail;refine(HHx.out _).mono ?_;rintro e w2 ⟨rfl,hb2⟩;have y0:=(zac hb2).1 w.heap.size 0 oQ;have y1:=(zac hb2).1 w.heap.size 1 oQ;have yf:∀j,w2.frozen? ⟨w.heap.size,j,none⟩=false:=fun j=>by rw[(zac hb2).2 _ _ (by omega)];exact F0 j
   rw[q0] at y0;rw[q1] at y1;have hz2:w.heap.size<w2.heap.size:=by have:=hb2.size;omega
   have hbW:Below w.heap.size w w2:=hbV.trans (hb2.mono oQ);clear hb2;go_wp2
   (try simp only[Exit.inBlock,Exit.then])
   refine waY (v:=.agg #[.int .i64 RF,.int .i64 RU]) ?_ rfl ⟨rfl,by exact zaB⟩
   rw[zae rfl]
   go_simp
  ·have hbB:B<w1.heap.size:=by omega
   have b0:wr.cell? ⟨B,0,none⟩=some (.int .i64 f1):=by rw[(zac hbV).1 _ _ hB];exact c0
   have b1:wr.cell? ⟨B,1,none⟩=some (.int .i64 u1):=by rw[(zac hbV).1 _ _ hB];exact c1
   have b2:wr.cell? ⟨B,2,none⟩=some (.int .i64 f2):=by rw[(zac hbV).1 _ _ hB];exact c2
   have b3:wr.cell? ⟨B,3,none⟩=some (.int .i64 u2):=by rw[(zac hbV).1 _ _ hB];exact c3
   have HF0:=r2.out;have n1:w1.heap.size≠B:=by omega
   obtain rfl|rfl:k=0\/k=1:=by omega
   ·clear HW HH HE;go_wp2;go_roundw
    case rel=>exact⟨1,by omega,rfl,(by first|exact(zd9 _ r0 r1).1|(rw[zwu];exact(zd9 _ r0 r1).1)),(by first|exact(zd9 _ r0 r1).2|(rw[zww];exact(zd9 _ r0 r1).2)),fun j=>by go_simp,by exact zaB,by simp;omega⟩
    case measure=>simp [intOf]
   ·clear HW HH HE;go_wp2;go_roundw
    case rel=>exact⟨2,by omega,rfl,(by first|exact(zd9 _ r0 r1).1|(rw[zwv];exact(zd9 _ r0 r1).1)),(by first|exact(zd9 _ r0 r1).2|(rw[zwx];exact(zd9 _ r0 r1).2)),fun j=>by go_simp,by exact zaB,by simp;omega⟩
    case measure=>simp [intOf]
def zjg (f d:Int):Int:=mxI f (zro d)
def ziF (u d:Int):Int:=mnI u (zrp d)
theorem zjE {w w1 w2:World} {o:Obj} {x y:Value} (hz1:w.heap.size<w1.heap.size) (hb:Below w.heap.size w w1)
 (s0:w1.cell? ⟨w.heap.size,0,none⟩=some x) (s1:w1.cell? ⟨w.heap.size,1,none⟩=some y) (sf:∀j,w1.frozen? ⟨w.heap.size,j,none⟩=false) (hb2:Below (w1.alloc o).heap.size (w1.alloc o) w2):
 w2.cell? ⟨w.heap.size,0,none⟩=some x/\w2.cell? ⟨w.heap.size,1,none⟩=some y/\(∀j,w2.frozen? ⟨w.heap.size,j,none⟩=false)/\w.heap.size<w2.heap.size/\Below w.heap.size w w2:=by
 have h1:Below w1.heap.size w1 (w1.alloc o):=(waC _ w1).alloc (waJ _) o;have h2:Below w1.heap.size w1 w2:=h1.trans (hb2.mono h1.size);exact⟨by rw[(zac h2).1 _ _ hz1];exact s0,by rw[(zac h2).1 _ _ hz1];exact s1,fun j=>by rw[(zac h2).2 _ _ hz1];exact sf j,waD hz1 h2.size,hb.trans (h2.mono (by omega))⟩
theorem zmi (f u d:Int) (w:World):Calls prog 136 #[.agg #[.int .i64 f,.int .i64 u],.int .i64 d] w (Ret (if zao (zjg f d) (ziF u d)<0 then .tuple #[.int .i64 0,.int .i64 0,.bool false] else .tuple #[.int .i64 (zax (zjg f d) (ziF u d)%86400),.int .i64 (zao (zjg f d) (ziF u d)%86400),.bool true]) w):=by
 have HD:=waV (fun W=>zrY d W)
 have HM:=waV (fun B c W=>zpy f u (zro d) (zrp d) B c W)
 have hr:=zd6 (zjg f d) (ziF u d);unfold zjg ziF at *;generalize zax (mxI f (zro d)) (mnI u (zrp d))=F at *;generalize zao (mxI f (zro d)) (mnI u (zrp d))=U at *;generalize zro d=D1 at *;generalize zrp d=D2 at *;have iF:inC F=true:=waP oQ;have HF:=waV (fun W=>zes F iF W)
 by_cases hn:U<0
 ·have iU:inC U=false:=waO oQ;have HU:=waV (fun W=>zgp U iU W)
  rw[if_pos hn];generalize F / 86400=F1 at *;generalize F%86400=F2 at *;clear hr hn iF iU;go_enter func136,ntmps136;go_wp2_with fail
  go_region_with ((first|(go_at_call 194;refine(HD.out _).mono ?_;rintro e w1 ⟨rfl,hb1⟩;have hz1:w.heap.size<w1.heap.size:=(by have:=hb1.size;(try simp at this);omega);have hbw1:Below w.heap.size w w1:=(by first|exact((waC _ w).alloc (waJ _) _).trans (hb1.mono (by first|omega|simp))|exact(((waC _ w).alloc (waJ _) _).drewN _).trans (hb1.mono (by first|omega|simp))|exact(zai ((waC _ w).alloc (waJ _) _) _).trans (hb1.mono (by first|omega|simp)));have s0:w1.cell? ⟨w.heap.size,0,none⟩=some (.int .i64 f):=(hb1.cell (p:=⟨w.heap.size,0,none⟩) (by simp)).trans (zaa rfl rfl);have s1:w1.cell? ⟨w.heap.size,1,none⟩=some (.int .i64 u):=(hb1.cell (p:=⟨w.heap.size,1,none⟩) (by simp)).trans (zaa rfl rfl);have sf:∀j,w1.frozen? ⟨w.heap.size,j,none⟩=false:=(fun j=>by rw[(zac hb1).2 _ _ (by simp)];go_simp);clear hb1)|(go_at_call 193;go_loud (refine(HM.out _ _ _ (zaa rfl rfl) (zaa rfl rfl) (zaa rfl rfl) (zaa rfl rfl)).mono ?_;rintro e w2 ⟨rfl,hb2⟩;obtain⟨y0,y1,yf,hz2,hbw2⟩:=zjE hz1 hbw1 s0 s1 sf hb2;clear hb2))))
  all_goals (
   go_wp2_with fail;refine(HF.out _).mono ?_;rintro e w3 ⟨rfl,rfl⟩;go_wp2_with fail;refine(HU.out _).mono ?_;rintro e w3 ⟨rfl,rfl⟩;go_wp2
   (try simp only[Exit.inBlock,Exit.then])
   refine waY (results_tmp3 rfl _ _ _) rfl ?_;exact⟨rfl,by exact zaB⟩)
 ·have iU:inC U=true:=waP oQ;have HU:=waV (fun W=>zes U iU W)
  rw[if_neg hn];generalize F / 86400=F1 at *;generalize F%86400=F2 at *;generalize U / 86400=U1 at *;generalize U%86400=U2 at *;clear hr hn iF iU;go_enter func136,ntmps136;go_wp2_with fail
  go_region_with ((first|(go_at_call 194;refine(HD.out _).mono ?_;rintro e w1 ⟨rfl,hb1⟩;have hz1:w.heap.size<w1.heap.size:=(by have:=hb1.size;(try simp at this);omega);have hbw1:Below w.heap.size w w1:=(by first|exact((waC _ w).alloc (waJ _) _).trans (hb1.mono (by first|omega|simp))|exact(((waC _ w).alloc (waJ _) _).drewN _).trans (hb1.mono (by first|omega|simp))|exact(zai ((waC _ w).alloc (waJ _) _) _).trans (hb1.mono (by first|omega|simp)));have s0:w1.cell? ⟨w.heap.size,0,none⟩=some (.int .i64 f):=(hb1.cell (p:=⟨w.heap.size,0,none⟩) (by simp)).trans (zaa rfl rfl);have s1:w1.cell? ⟨w.heap.size,1,none⟩=some (.int .i64 u):=(hb1.cell (p:=⟨w.heap.size,1,none⟩) (by simp)).trans (zaa rfl rfl);have sf:∀j,w1.frozen? ⟨w.heap.size,j,none⟩=false:=(fun j=>by rw[(zac hb1).2 _ _ (by simp)];go_simp);clear hb1)|(go_at_call 193;go_loud (refine(HM.out _ _ _ (zaa rfl rfl) (zaa rfl rfl) (zaa rfl rfl) (zaa rfl rfl)).mono ?_;rintro e w2 ⟨rfl,hb2⟩;obtain⟨y0,y1,yf,hz2,hbw2⟩:=zjE hz1 hbw1 s0 s1 sf hb2;clear hb2))))
  all_goals (
   go_wp2_with fail;refine(HF.out _).mono ?_;rintro e w3 ⟨rfl,rfl⟩;go_wp2_with fail;refine(HU.out _).mono ?_;rintro e w3 ⟨rfl,rfl⟩;go_wp2
   (try simp only[Exit.inBlock,Exit.then])
   refine waY (results_tmp3 rfl _ _ _) rfl ?_;exact⟨rfl,by exact zaB⟩)
def zcw (u s a d:Int):Int:=if okU u a=true/\(0<=d/\d<146097)/\1<=s/\zap u≠0 then(zbf u a - d * 86400 / zap u)%s else 0
theorem zet {u s a d:Int} (h:¬(okU u a=true/\(0<=d/\d<146097)/\1<=s/\zap u≠0)):zcw u s a d=0:=if_neg h
theorem znz (u:Int):zap u=0\/zap u=1\/zap u=60\/zap u=3600:=by
 unfold zap
 (repeat' split)<;>omega
theorem znA (u s a d:Int) (hs:s<=9223372036854775807) (w:World):Calls prog 138 #[.int .i64 u,.int .i64 s,.int .i64 a,.int .i64 d] w (Ret (.int .i64 (zcw u s a d)) w):=by
 have H2:=waV (fun W=>zmh d 0 dQ dQ W)
 have H3:=waV (fun W=>zd5 u W)
 by_cases ho:okU u a=true
 ·have H1:=waV (fun W=>zjt u a ho W)
  have hw:=zme ho
  by_cases hd:0<=d/\d<146097
  ·rw[if_pos hd,waP hd] at H2
   by_cases h1:1<=s
   ·by_cases hz:zap u=0
    ·have HR:Hid (zcw u s a d=0):=zet (fun h=>h.2.2.2 hz)
     rw[hz] at H3;clear ho hd hz;generalize zcw u s a d=R at *;generalize zbf u a=q at *;go_enter func138,ntmps138;go_wp2_with fail;refine(H1.out _).mono ?_;rintro e w1 ⟨rfl,hb1⟩;go_wp2_with fail;refine(H2.out _).mono ?_;rintro e w2 ⟨rfl,rfl⟩;go_wp2_with fail;refine(H3.out _).mono ?_;rintro e w2 ⟨rfl,hb2⟩;go_wp2;go_ret;exact⟨zaP HR.out.symm,zag hb1 hb2 hb1.size⟩
    ·have HR:Hid (zcw u s a d=(zbf u a - d * 86400 / zap u)%s):=if_pos ⟨ho,hd,h1,hz⟩;generalize zcw u s a d=R at *;have hc:=znz u;generalize zbf u a=q at *;generalize zap u=n at *;clear ho;obtain⟨d0,d1⟩:=hd;obtain⟨q0,q1⟩:=hw;have hf0:0<=d * 86400:=by omega
     rcases hc with rfl|rfl|rfl|rfl
     ·exact absurd rfl hz
     ·have HM:=waV (fun W=>zkY (q - d * 86400) s oQ oQ h1 hs W)
      have HR':R=(q - d * 86400)%s:=by rw[HR.out,Int.ediv_one]
      rw[<-HR'] at HM;clear HR';clear HR hz;go_enter func138,ntmps138;go_wp2_with fail;refine(H1.out _).mono ?_;rintro e w1 ⟨rfl,hb1⟩;go_wp2_with fail;refine(H2.out _).mono ?_;rintro e w2 ⟨rfl,rfl⟩;go_wp2_with fail;refine(H3.out _).mono ?_;rintro e w2 ⟨rfl,hb2⟩;go_wp2_with fail;refine(HM.out _).mono ?_;rintro e w3 ⟨rfl,rfl⟩;go_wp2;go_ret;exact⟨rfl,zag hb1 hb2 hb1.size⟩
     ·have HM:=waV (fun W=>zkY (q - d * 86400 / 60) s oQ oQ h1 hs W)
      rw[<-HR.out] at HM;clear HR hz;go_enter func138,ntmps138;go_wp2_with fail;refine(H1.out _).mono ?_;rintro e w1 ⟨rfl,hb1⟩;go_wp2_with fail;refine(H2.out _).mono ?_;rintro e w2 ⟨rfl,rfl⟩;go_wp2_with fail;refine(H3.out _).mono ?_;rintro e w2 ⟨rfl,hb2⟩;go_wp2_with fail;refine(HM.out _).mono ?_;rintro e w3 ⟨rfl,rfl⟩;go_wp2;go_ret;exact⟨rfl,zag hb1 hb2 hb1.size⟩
     ·have HM:=waV (fun W=>zkY (q - d * 86400 / 3600) s oQ oQ h1 hs W)
      rw[<-HR.out] at HM;clear HR hz;go_enter func138,ntmps138;go_wp2_with fail;refine(H1.out _).mono ?_;rintro e w1 ⟨rfl,hb1⟩;go_wp2_with fail;refine(H2.out _).mono ?_;rintro e w2 ⟨rfl,rfl⟩;go_wp2_with fail;refine(H3.out _).mono ?_;rintro e w2 ⟨rfl,hb2⟩;go_wp2_with fail;refine(HM.out _).mono ?_;rintro e w3 ⟨rfl,rfl⟩;go_wp2;go_ret;exact⟨rfl,zag hb1 hb2 hb1.size⟩
   ·have HR:Hid (zcw u s a d=0):=zet (fun h=>h1 h.2.2.1)
    clear ho hd;generalize zcw u s a d=R at *;generalize zbf u a=q at *;generalize zap u=n at *;go_enter func138,ntmps138;go_wp2_with fail;refine(H1.out _).mono ?_;rintro e w1 ⟨rfl,hb1⟩;go_wp2_with fail;refine(H2.out _).mono ?_;rintro e w2 ⟨rfl,rfl⟩;go_wp2_with fail;refine(H3.out _).mono ?_;rintro e w2 ⟨rfl,hb2⟩;go_wp2;go_ret;exact⟨zaP HR.out.symm,zag hb1 hb2 hb1.size⟩
  ·rw[if_neg hd,waO hd] at H2;have HR:Hid (zcw u s a d=0):=zet (fun h=>hd h.2.1)
   clear ho hd;generalize zcw u s a d=R at *;generalize zbf u a=q at *;generalize zap u=n at *;go_enter func138,ntmps138;go_wp2_with fail;refine(H1.out _).mono ?_;rintro e w1 ⟨rfl,hb1⟩;go_wp2_with fail;refine(H2.out _).mono ?_;rintro e w2 ⟨rfl,rfl⟩;go_wp2_with fail;refine(H3.out _).mono ?_;rintro e w2 ⟨rfl,hb2⟩;go_wp2;go_ret;exact⟨zaP HR.out.symm,zag hb1 hb2 hb1.size⟩
 ·have H1:=waV (fun W=>zhD u a (by simpa using ho) W)
  have HR:Hid (zcw u s a d=0):=zet (fun h=>ho h.1)
  clear ho;generalize zcw u s a d=R at *;generalize zap u=n at *;generalize (if 0<=d/\d<146097 then d * 86400+0 else 0)=fr at *
  generalize decide (0<=d/\d<146097)=is at *;cases is
  ·go_enter func138,ntmps138;go_wp2_with fail;refine(H1.out _).mono ?_;rintro e w1 ⟨rfl,hb1⟩;go_wp2_with fail;refine(H2.out _).mono ?_;rintro e w2 ⟨rfl,rfl⟩;go_wp2_with fail;refine(H3.out _).mono ?_;rintro e w2 ⟨rfl,hb2⟩;go_wp2;go_ret;exact⟨zaP HR.out.symm,zag hb1 hb2 hb1.size⟩
  ·go_enter func138,ntmps138;go_wp2_with fail;refine(H1.out _).mono ?_;rintro e w1 ⟨rfl,hb1⟩;go_wp2_with fail;refine(H2.out _).mono ?_;rintro e w2 ⟨rfl,rfl⟩;go_wp2_with fail;refine(H3.out _).mono ?_;rintro e w2 ⟨rfl,hb2⟩;go_wp2;go_ret;exact⟨zaP HR.out.symm,zag hb1 hb2 hb1.size⟩
end Go.Proofs.YtllcdbgjeidlkaaGreatDoor
