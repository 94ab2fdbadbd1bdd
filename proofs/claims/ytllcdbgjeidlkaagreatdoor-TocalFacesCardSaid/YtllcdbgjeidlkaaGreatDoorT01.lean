/- A part of the proof: WItemOf -/
import Derived.Test.YtllcdbgjeidlkaaGreatDoorT00
import Derived.Laws.BitsAllLaws
import Derived.Laws.ShiftsVarLaws
set_option maxHeartbeats 80000000
set_option maxRecDepth 100000
set_option linter.unusedSimpArgs false
set_option linter.unusedVariables false
namespace Go.Proofs.YtllcdbgjeidlkaaGreatDoor
open Go.Proofs.Tryz
open Go.RowKit
theorem zcr {x:Int} (h0:-9223372036854775808<=x) (h1:x<=9223372036854775807):IntKind.i64.wrap x=x:=by
 simp[IntKind.wrap,IntKind.bits,IntKind.signed];omega
def zb8:Option Int->List Int->Bool
 |_,[]=>true
 |p,x::l=>decide (0<=x/\x<=9999/\∀y,p=some y->y<x)&&zb8 (some x) l
def ziI (l:List Int):Nat->Option Int
 |0=>none
 |k+1=>l[k]?
theorem zpa {α:Type} {l:List α} {k:Nat} {x:α} (h:l[k]?=some x):l.drop k=x::l.drop (k+1):=by
 obtain⟨h1,h2⟩:=waI.1 h;rw[List.drop_eq_getElem_cons h1,h2]
theorem zr8 (A:Option Addr) (n c:Nat) (l:List Int) (w:World) (hA:zaI w A n l) (hn:n<=9223372036854775806):
 Calls prog 151 #[.slice A n c] w (zbE (.bool (zb8 none l)) w):=by
 have HL:Hid (l.length=n):=hA.1;have HA:=waV hA;clear hA;go_enter func151,ntmps151;go_wp2
 go_loopw [7] (fun i wr=>∃k:Nat,k<=n/\i=.int .i64 k/\Hid (zb8 none l=zb8 (ziI l k) (l.drop k))/\wr=w) (fun i _=>n - (intOf i).toNat)
 case atStart=>exact⟨0,waK _,rfl,rfl,rfl⟩
 case round=>
  obtain⟨k,hk,rfl,HM,rfl⟩:=hrel
  by_cases hlt:k<n
  ·obtain⟨b,o,x,rfl,hbl,hx,c0⟩:=zaI.at_ HA.out hlt
   have hlt':(k:Int)<(n:Int):=by omega
   have hE:zb8 none l=(decide (0<=x/\x<=9999/\∀y,ziI l k=some y->y<x)&&zb8 (ziI l (k+1)) (l.drop (k+1))):=by
    rw[HM.out,zpa hx,zb8];show _=(_&&zb8 l[k]? _);rw[hx]
   clear HM
   by_cases hr:0<=x/\x<=9999
   ·obtain⟨hr0,hr1⟩:=hr;have hr0':¬x<0:=by omega
    have hr1':¬9999<x:=by omega
    rcases k with _|k
    ·have HE:Hid (zb8 none l=zb8 (ziI l (0+1)) (l.drop (0+1))):=by
      show _=_;rw[hE];simp[ziI,hr0,hr1]
     clear hE hx;rw[Nat.add_zero] at c0;go_wp2;go_roundw
     case rel=>exact⟨1,by omega,by go_num,HE.out,by trivial⟩
     case measure=>simp [intOf];omega
    ·obtain⟨b',o',y,e,-,hy,c1⟩:=zaI.at_ HA.out (i:=k) oQ
     cases e
     by_cases hyx:y<x
     ·have HE:Hid (zb8 none l=zb8 (ziI l (k+1+1)) (l.drop (k+1+1))):=by
       show _=_;rw[hE];simp[hr0,hr1,ziI,hy];intro h;omega
      have hyx':¬x<=y:=by omega
      clear hE hx hy;go_wp2;go_roundw
      case rel=>exact⟨k+1+1,by omega,by go_num,HE.out,by trivial⟩
      case measure=>simp [intOf];omega
     ·have HE:Hid (zb8 none l=false):=by
       show _=_;rw[hE];simp[hr0,hr1,ziI,hy];intro h;omega
      have hyx':x<=y:=by omega
      clear hE hx hy;go_wp2;go_ret;exact⟨zab HE.out.symm,rfl⟩
   ·have HE:Hid (zb8 none l=false):=by
     show _=_;rw[hE];have:¬(0<=x/\x<=9999/\∀y,ziI l k=some y->y<x):=fun h=>hr ⟨h.1,h.2.1⟩
     simp only[this,decide_false,Bool.false_and]
    clear hE hx
    by_cases h0:x<0
    ·clear hr;go_wp2;go_ret;exact⟨zab HE.out.symm,rfl⟩
    ·have h1:9999<x:=by omega
     clear hr;go_wp2;go_ret;exact⟨zab HE.out.symm,rfl⟩
  ·obtain rfl:k=n:=by omega
   have HE:Hid (zb8 none l=true):=by
    show _=_;rw[HM.out,List.drop_of_length_le (by have:=HL.out;omega)];rfl
   clear HM;go_wp2;go_ret;exact⟨zab HE.out.symm,rfl⟩
structure Pc where
 f:Int
 t:Int
 s:Int
 deriving DecidableEq
def ziJ (p:Pc):List Value:=[.int .i64 p.f,.int .i64 p.t,.int .i64 p.s]
theorem ze1 (p:Pc):(ziJ p).length=3:=rfl
abbrev pcV (p:Pc):Value:=.agg #[.int .i64 p.f,.int .i64 p.t,.int .i64 p.s]
abbrev zpb (w:World) (A:Option Addr) (n:Nat) (l:List Pc):Prop:=Rd 3 ziJ w A n l
theorem zpb.at_ {w:World} {A:Option Addr} {n:Nat} {l:List Pc} (h:zpb w A n l) {i:Nat} (hi:i<n):
 ∃b o p,A=some ⟨b,o,none⟩/\b<w.heap.size/\l[i]?=some p/\w.cell? ⟨b,o+i * 3,none⟩=some (.int .i64 p.f)/\w.cell? ⟨b,o+i * 3+1,none⟩=some (.int .i64 p.t)/\
 w.cell? ⟨b,o+i * 3+2,none⟩=some (.int .i64 p.s):=by
 obtain⟨b,o,it,e,hlt,hl,hc⟩:=h.gen hi;exact⟨b,o,it,e,hlt,hl,hc 0 _ rfl,hc 1 _ rfl,hc 2 _ rfl⟩
def zjE (s:Int):Int->List Int->Nat
 |_,[]=>0
 |a,b::l=>if b - a=s then zjE s b l+1 else 0
def zhy (a:Int):List Int->Int
 |[]=>1
 |b::_=>b - a
def ze2 (a:Int) (l:List Int):Nat:=zjE (zhy a l) a l+1
theorem zpc (s a:Int) (l:List Int):zjE s a l<=l.length:=by
 induction l generalizing a with
 |nil=>simp [zjE]
 |cons b l ih=>simp only[zjE];split<;>simp [ih]
def zbb (a:Int) (l:List Int):Pc×Nat:=if ze2 a l=1\/ze2 a l=2/\1<zhy a l then(⟨a,a,1⟩,1) else(⟨a,(a::l).getD (ze2 a l - 1) 0,zhy a l⟩,ze2 a l)
def InC (l:List Int):Prop:=∀(j:Nat) x,l[j]?=some x->0<=x/\x<=9999
theorem zpd (A:Option Addr) (n c:Nat) (a:Int) (l:List Int) (w:World) (hA:zaI w A n (a::l)) (hn:n<=9223372036854775806) (hi:InC (a::l)):
 Calls prog 152 #[.slice A n c] w (Ret (.tuple #[pcV (zbb a l).1,.int .i64 (zbb a l).2]) w):=by
 have hL:l.length+1=n:=hA.1;obtain⟨b,o,x0,rfl,hbl,hx,c0⟩:=zaI.at_ hA (i:=0) oQ
 obtain rfl:a=x0:=by simpa using hx
 have ha:=hi 0 a rfl;have HI:=waV hi;have HA:=waV hA;clear hA hi hx;rw[Nat.add_zero] at c0;obtain⟨s,hs⟩:∃s,s=zhy a l:=⟨_,rfl⟩;have hsb:-9999<=s/\s<=9999:=by
  rcases l with _|⟨y,l⟩
  ·simp[zhy] at hs;omega
  ·have:=HI.out 1 y rfl;simp[zhy] at hs;omega
 have HP:Hid (zbb a l=if ze2 a l=1\/ze2 a l=2/\1<s then(⟨a,a,1⟩,1) else(⟨a,(a::l).getD (ze2 a l - 1) 0,s⟩,ze2 a l)):=by
  show _=_;rw[hs];rfl
 have HM:Hid (ze2 a l=zjE s a l+1):=by show _=_;unfold ze2;rw[<-hs]
 have HS:Hid (l=[]->s=1):=by rintro rfl;exact hs
 have HS2:Hid (∀y l',l=y::l'->s=y - a):=by rintro y l' rfl;exact hs
 obtain⟨m,hm⟩:∃m,m=ze2 a l:=⟨_,rfl⟩;have hm1:1<=m/\m<=n:=by rw[hm,HM.out];have:=zpc s a l;omega
 have hlast:∃z,(a::l)[m - 1]?=some z:=⟨_,waE (by simp;omega)⟩
 obtain⟨z,hz⟩:=hlast;have HP2:Hid (zbb a l=if m=1\/m=2/\1<s then(⟨a,a,1⟩,1) else(⟨a,z,s⟩,m)):=by
  show _=_;rw[HP.out,<-hm,List.getD_eq_getElem?_getD,hz];rfl
 have HM2:Hid (m=zjE s a l+1):=hm.trans HM.out;clear HP HM hm hs;obtain⟨b',o',z',e,-,hz',c2⟩:=zaI.at_ HA.out (i:=m - 1) oQ
 cases e;obtain rfl:z=z':=by rw[hz] at hz';injection hz'
 clear hz hz';have HD:Hid (∀k,k<=n->∀y,(a::l)[k]?=some y->0<=y/\y<=9999):=fun k _ y h=>HI.out k y h
 clear HI
 by_cases h1:n=1
 ·subst h1;obtain rfl:l=[]:=List.length_eq_zero_iff.1 oQ;obtain rfl:=HS.out rfl;obtain rfl:m=1:=by omega
  have HQ:Hid ((zbb a []).1=⟨a,a,1⟩/\(zbb a []).2=1):=by show _/\_;rw[HP2.out];simp
  clear HP2 HS2 HM2 HD HA hm1;go_enter func152,ntmps152;go_wp2;go_step3;go_wp2;go_step3;go_wp2
  go_loopw [4,6] (fun v i wr=>v=.int .i64 1/\i=.int .i64 1/\wr=w.alloc (.cells #[.int .i64 0,.int .i64 0,.int .i64 0] 169)) (fun _ _ _=>0)
  case atStart=>exact⟨rfl,rfl,by trivial⟩
  case round=>
   obtain⟨rfl,rfl,rfl⟩:=hrel;go_wp2
   go_region
   all_goals (try go_wp2)
   all_goals (try simp only[Exit.inBlock,Exit.then,Exit.noGoto])
   all_goals refine waY (v:=.tuple #[.agg #[.int .i64 a,.int .i64 a,.int .i64 1],.int .i64 1]) ?_ rfl ⟨?_,?_⟩
   all_goals first
    |(rw[results_cell_tmp rfl];go_simp;done)
    |(rw[HQ.out.1,HQ.out.2];rfl)
    |go_grown
 ·have h1':1<(n:Int):=by omega
  obtain⟨y1,l',rfl⟩:∃y l',l=y::l':=by
   rcases l with _|⟨y,l'⟩
   ·simp at hL;omega
   ·exact⟨y,l',rfl⟩
  have hsy:=HS2.out y1 l' rfl;have hy1:=HD.out 1 oQ y1 rfl;obtain⟨b',o',z',e,-,hz',c1⟩:=zaI.at_ HA.out (i:=1) oQ
  cases e;obtain rfl:y1=z':=by simpa using hz'
  clear hz' HS HS2;have HSY:=waV hsy;have HL:=waV hL;clear hL hsy;generalize hl2:y1::l'=l at *;clear hl2;go_enter func152,ntmps152;go_wp2;go_step3;go_wp2;have hwr:IntKind.i64.wrap (y1 - a)=s:=by rw[HSY.out];apply zcr<;>omega
  go_quiet (fail)
  clear hwr;go_wp2;go_step3;go_wp2
  go_loopw [4,6] (fun v i wr=>∃(k q:Nat) (y:Int),1<=k/\k<=n/\v=.int .i64 k/\i=.int .i64 k/\Hid ((a::l)[k - 1]?=some y/\m=k+zjE s y ((a::l).drop k))/\wr=(w.alloc (.cells #[.int .i64 0,.int .i64 0,.int .i64 0] 169)).drewN q) (fun _ i _=>n - (intOf i).toNat)
  case atStart=>exact⟨1,_,a,by omega,by omega,by go_num,by go_num,⟨rfl,by have:=HM2.out;simp only[waZ,wbA];omega⟩,rfl⟩
  case round=>
   obtain⟨k,q,y,hk1,hk,rfl,rfl,HR,rfl⟩:=hrel
   by_cases hlt:k<n
   case' pos=>
    obtain⟨b',o',x,e,-,hx,cx⟩:=zaI.at_ HA.out hlt
    cases e;obtain⟨b',o',y',e,-,hy,cy⟩:=zaI.at_ HA.out (i:=k - 1) oQ
    cases e;obtain rfl:y=y':=by rw[HR.out.1] at hy;injection hy
    have hxb:=HD.out k oQ x hx;have hyb:=HD.out (k - 1) oQ y hy;have hlt':(k:Int)<(n:Int):=by omega
    have hmE:m=k+(if x - y=s then zjE s x ((a::l).drop (k+1))+1 else 0):=by
     have:=HR.out.2;rw[zpa hx,zjE] at this;exact this
    clear HR hy;have hw1:IntKind.i64.wrap ((k:Int) - 1)=((k - 1:Nat):Int):=by rw[zcr (by omega) (by omega)];omega
    have hw2:IntKind.i64.wrap (x - y)=x - y:=zcr oQ oQ;have hk0:¬(((k - 1:Nat):Int)<0):=by omega
    have hk2:(((k - 1:Nat):Int)<(n:Int)):=by omega
    by_cases he:x - y=s
    ·have HR2:Hid ((a::l)[k+1 - 1]?=some x/\m=k+1+zjE s x ((a::l).drop (k+1))):=⟨hx,by rw[if_pos he] at hmE;omega⟩
     have he':(x - y !=s)=false:=by simpa using he
     clear hmE hx he;go_wp2
     go_quiet (fail)
     go_wp2;go_roundw
     case rel=>exact⟨k+1,_,x,by omega,by omega,by go_num,by go_num,HR2.out,rfl⟩
     case measure=>simp [intOf];omega
    have he':(x - y !=s)=true:=by simpa using he
    rw[if_neg he] at hmE;obtain rfl:m=k:=by omega
    obtain rfl:z=y:=by rw[c2] at cy;injection cy with h;injection h
    clear hmE hx he;go_wp2
    go_quiet (fail)
    clear hw1 hk0 hk2
   case' neg=>
    obtain rfl:m=k:=by
     have:=HR.out.2;rw[List.drop_of_length_le (by have:=HL.out;simp;omega)] at this
     simpa[zjE] using this
    have hge:¬((m:Int)<(n:Int)):=by omega
    clear HR hlt hk
   all_goals
    by_cases hs1:m=1\/m=2/\1<s
    ·have HQ:Hid ((zbb a l).1=⟨a,a,1⟩/\(zbb a l).2=1):=by show _/\_;rw[HP2.out,if_pos hs1];exact⟨rfl,rfl⟩
     clear HP2
     by_cases hm2:m=1
     case' pos=>have hb1:((m:Int)==1)=true:=by simp;omega
     case' neg=>
      have hb1:((m:Int)==1)=false:=by simp;omega
      have hb2:((m:Int)==2)=true:=by simp;omega
      have hb3:1<s:=by omega
     all_goals
      clear hs1 hm2;go_wp2
      go_region
      all_goals (try go_wp2)
      all_goals (try simp only[Exit.inBlock,Exit.then,Exit.noGoto])
      all_goals refine waY (v:=.tuple #[.agg #[.int .i64 a,.int .i64 a,.int .i64 1],.int .i64 1]) ?_ rfl ⟨?_,?_⟩
      all_goals first
       |(rw[results_cell_tmp rfl];go_simp;done)
       |(rw[HQ.out.1,HQ.out.2];first|done|rfl)
       |exact zaE
    ·have HQ:Hid ((zbb a l).1=⟨a,z,s⟩/\(zbb a l).2=m):=by show _/\_;rw[HP2.out,if_neg hs1];exact⟨rfl,rfl⟩
     clear HP2;have hb1:((m:Int)==1)=false:=by simp;omega
     have hw1:IntKind.i64.wrap ((m:Int) - 1)=((m - 1:Nat):Int):=by rw[zcr (by omega) (by omega)];omega
     have hk0:¬(((m - 1:Nat):Int)<0):=by omega
     have hk2:(((m - 1:Nat):Int)<(n:Int)):=by omega
     by_cases hm2:m=2
     case' pos=>
      have hb2:((m:Int)==2)=true:=by simp;omega
      have hb3:¬1<s:=by omega
     case' neg=>have hb2:((m:Int)==2)=false:=by simp;omega
     all_goals
      clear hs1 hm2;go_wp2
      go_region
      all_goals (try go_wp2)
      all_goals (try simp only[Exit.inBlock,Exit.then,Exit.noGoto])
      all_goals refine waY (v:=.tuple #[.agg #[.int .i64 a,.int .i64 z,.int .i64 s],.int .i64 m]) ?_ rfl ⟨?_,?_⟩
      all_goals first
       |(rw[results_cell_tmp rfl];go_simp;done)
       |(rw[HQ.out.1,HQ.out.2];first|done|rfl)
       |exact zaE
def inL (l:List Int) (i:Nat):Bool:=decide ((i:Int)∈l)
def zal (l:List Int):Int:=(mkN (inL l) 64:Nat)
theorem zcZ (l:List Int):0<=zal l/\zal l<18446744073709551616:=by
 have:=zcI (inL l) 64;unfold zal;omega
theorem zdT:zal []=0:=by
 unfold zal;have:inL []=fun _=>false:=by funext i;simp[inL]
 rw[this,ze0];rfl
theorem znB {l:List Int} {x:Int} (h:¬(0<=x/\x<64)):zal (l++[x])=zal l:=by
 unfold zal;rw[zbe (q:=inL l)];intro i hi;simp only[inL,wbB,wbC];have:¬(i:Int)=x:=by omega
 simp[this]
theorem zpe {l:List Int} {x:Int} (h0:0<=x) (h1:x<64):bits .or .u64 (zal l) (2^x.toNat)=zal (l++[x]):=by
 obtain⟨n,rfl⟩:=wbD h0;have hn:n<64:=by omega
 have h2:(2:Int)^((n:Int)).toNat=((2^n:Nat):Int):=by simp
 have h3:2^n<2^64:=Nat.pow_lt_pow_right oQ hn;rw[h2,zal,u64_or_nat _ _ (zcI _ _) h3,<-ziH n 64 hn,zmo,zal];congr 1;apply zbe;intro i _
 by_cases hi:(i:Int)∈l<;>by_cases hj:i=n<;>simp [inL,hi,hj]
 omega
theorem zhN {l:List Int} {x:Int} (h0:0<=x) (h1:x<64):bits .or .u64 (zal l) (IntKind.u64.wrap (2^x.toNat))=zal (l++[x]):=by
 have e:IntKind.u64.wrap ((2:Int)^x.toNat)=2^x.toNat:=by
  obtain⟨n,rfl⟩:=wbD h0;have h2:(2:Int)^((n:Int)).toNat=((2^n:Nat):Int):=by simp
  have h3:2^n<2^64:=Nat.pow_lt_pow_right oQ oQ;rw[h2];have h4:((2^n:Nat):Int)<18446744073709551616:=by omega
  have h5:(0:Int)<=((2^n:Nat):Int):=Int.natCast_nonneg _;generalize ((2^n:Nat):Int)=z at h4 h5 ⊢;simp[IntKind.wrap,IntKind.bits,IntKind.signed];omega
 rw[e,zpe h0 h1]
theorem zfD (A:Option Addr) (n c:Nat) (l:List Int) (w:World) (hA:zaI w A n l) (hn:n<=9223372036854775807):
 Calls prog 86 #[.slice A n c] w (zbE (.int .u64 (zal l)) w):=by
 have HL:Hid (l.length=n):=hA.1;have HA:=waV hA;clear hA;go_enter func86,ntmps86;go_wp2
 go_loopw [3,8] (fun m i wr=>∃k:Nat,k<=n/\i=.int .i64 k/\Hid (m=.int .u64 (zal (l.take k)))/\wr=w) (fun _ i _=>n - (intOf i).toNat)
 case atStart=>exact⟨0,waK _,rfl,by show _=_;rw[List.take_zero,zdT],rfl⟩
 case round=>
  obtain⟨k,hk,rfl,HM,rfl⟩:=hrel
  by_cases hlt:k<n
  ·obtain⟨b,o,x,rfl,hbl,hx,c0⟩:=zaI.at_ HA.out hlt
   have hlt':(k:Int)<(n:Int):=by omega
   have hts:l.take (k+1)=l.take k++[x]:=by rw[List.take_add_one,hx];rfl
   obtain rfl:=HM.out;clear hx HM
   by_cases hx:0<=x/\x<64
   ·obtain⟨hx0,hx1⟩:=hx;have HP:Hid (bits .or .u64 (zal (l.take k)) (IntKind.u64.wrap (2^x.toNat))=zal (l.take (k+1))):=by
     show _=_;rw[hts];exact zhN hx0 hx1
    clear hts;go_wp2;go_roundw
    case rel=>exact⟨k+1,by omega,by go_num,by show _=_;rw[HP.out],by trivial⟩
    case measure=>simp [intOf];omega
   ·have HP:Hid (zal (l.take k)=zal (l.take (k+1))):=by
     show _=_;rw[hts,znB hx]
    clear hts
    by_cases hx0:x<0
    ·clear hx;go_wp2;go_roundw
     case rel=>exact⟨k+1,by omega,by go_num,by show _=_;rw[HP.out],by trivial⟩
     case measure=>simp [intOf];omega
    ·have hx1:¬x<64:=by omega
     clear hx;go_wp2;go_roundw
     case rel=>exact⟨k+1,by omega,by go_num,by show _=_;rw[HP.out],by trivial⟩
     case measure=>simp [intOf];omega
  ·obtain rfl:k=n:=by omega
   have HE:Hid (zal (l.take k)=zal l):=by
    show _=_;rw[List.take_of_length_le (by have:=HL.out;omega)]
   obtain rfl:=HM.out;clear HM;go_wp2;go_ret;refine⟨?_,rfl⟩;rw[<-HE.out];rfl
theorem zgz {l m:List Int} (h:∀i:Nat,i<64->((i:Int)∈l↔(i:Int)∈m)):zal l=zal m:=by
 unfold zal;rw[zbe];intro i hi;simp only[inL,h i hi]
def zr9 (p:Pc):Prop:=0<=p.f/\p.f<=p.t/\p.t<=9999/\1<=p.s/\(p.t - p.f)%p.s=0
instance (p:Pc):Decidable (zr9 p):=by unfold zr9;infer_instance
def zga (p:Pc):Int:=if zr9 p then(p.t - p.f) / p.s+1 else 0
theorem zsa (p:Pc) (w:World):Calls prog 88 #[.agg #[.int .i64 p.f,.int .i64 p.t,.int .i64 p.s]] w (Ret (.int .i64 (zga p)) w):=by
 by_cases h:zr9 p
 ·have HE:Hid (zga p=(p.t - p.f) / p.s+1):=if_pos h;obtain⟨h1,h2,h3,h4,h5⟩:=h;have h5':((p.t - p.f)%p.s==0)=true:=by simpa using h5
  have h6:¬p.f<0:=by omega
  have h7:¬p.t<p.f:=by omega
  have h8:¬9999<p.t:=by omega
  have h9:¬p.s<1:=by omega
  have h10:(p.s==0)=false:=by simp;omega
  have hd0:0<=(p.t - p.f) / p.s:=Int.ediv_nonneg oQ oQ;have hd1:(p.t - p.f) / p.s<=9999:=by have:=Int.ediv_le_self (a:=p.t - p.f) p.s oQ;omega
  clear h5;go_enter func88,ntmps88;go_wp2;go_ret;exact⟨by rw[HE.out];rfl,by exact zaE⟩
 ·have HE:Hid (zga p=0):=if_neg h;unfold zr9 at h
  by_cases h6:p.f<0
  ·go_enter func88,ntmps88;go_wp2;go_ret;exact⟨by rw[HE.out];rfl,by exact zaE⟩
  by_cases h7:p.t<p.f
  ·go_enter func88,ntmps88;go_wp2;go_ret;exact⟨by rw[HE.out];rfl,by exact zaE⟩
  by_cases h8:9999<p.t
  ·go_enter func88,ntmps88;go_wp2;go_ret;exact⟨by rw[HE.out];rfl,by exact zaE⟩
  by_cases h9:p.s<1
  ·go_enter func88,ntmps88;go_wp2;go_ret;exact⟨by rw[HE.out];rfl,by exact zaE⟩
  have h5:((p.t - p.f)%p.s==0)=false:=by simp;omega
  have h10:(p.s==0)=false:=by simp;omega
  have h11:0<=p.f:=by omega
  have h12:p.f<=p.t:=by omega
  have h13:p.t<=9999:=by omega
  have h14:1<=p.s:=by omega
  clear h;go_enter func88,ntmps88;go_wp2;go_ret;exact⟨by rw[HE.out];rfl,by exact zaE⟩
def zca:Nat->List Int->List Pc
 |0,_=>[]
 |_,[]=>[]
 |k+1,a::l=>(zbb a l).1::zca k ((a::l).drop (zbb a l).2)
def zcb (l:List Int):List Pc:=if zb8 none l then zca l.length l else []
abbrev zpf (w:World) (B:Nat) (v:Value) (l:List Pc):Prop:=w.ownsRow B 169 3 v l.length (l.flatMap ziJ)
def zpg (l:List Pc) (w:World) (e:Ending) (w':World):Prop:=∃v,e=.returned v/\zpf w' w.heap.size v l/\Below w.heap.size w w'
theorem zvd:(prog.info? 169).map (fun i=>(i.zero,i.size,i.bytes))=some (some (.agg #[.int .i64 0,.int .i64 0,.int .i64 0]),3,24):=by kernel_rfl
theorem zve {l:List Int}:∀{p:Option Int},zb8 p l=true->InC l:=by
 induction l with
 |nil=>intro p _ j x h;simp at h
 |cons a l ih=>
  intro p h j x hx;simp only[zb8,waN,waM] at h;rcases j with _|j
  ·obtain rfl:a=x:=by simpa using hx
   exact⟨h.1.1,h.1.2.1⟩
  ·exact ih h.2 j x (by simpa using hx)
theorem InC.drop {l:List Int} (h:InC l) (m:Nat):InC (l.drop m):=fun j x hx=>h (m+j) x (by rw[List.getElem?_drop] at hx;exact hx)
theorem zaI.drop {w:World} {b o n:Nat} {l:List Int} (h:zaI w (some ⟨b,o,none⟩) n l) (m:Nat):zaI w (some ⟨b,o+m,none⟩) (n - m) (l.drop m):=
 ⟨by rw[List.length_drop,h.1],fun hn=>by
  obtain⟨b',o',e,hlt,hc⟩:=h.2 oQ;cases e;exact⟨b,o+m,rfl,hlt,fun i x hi j v hj=>by
   have:=hc (m+i) x (by rw[List.getElem?_drop] at hi;exact hi) j v hj
   rwa [show o+(m+i) * 1+j=o+m+i * 1+j by omega] at this⟩⟩
theorem zph (A:Option Addr) (n c:Nat) (l:List Int) (w:World) (hA:zaI w A n l) (hn:n<=1000000) (hnc:n<=c) (hc:c<=maxLen):
 Calls prog 87 #[.slice A n c] w (zpg (zcb l) w):=by
 have hL:l.length=n:=hA.1;obtain⟨i0,hi0,hz0,hz1,hz2⟩:=info_parts zvd;have HI0:=waV hi0;have HZ0:=waV hz0;have HZ1:=waV hz1;have HZ2:=waV hz2;clear hi0 hz0 hz1 hz2;have HMay:=waV (fun W (hW:Below w.heap.size w W)=>zr8 A n c l W (hA.below hW (waJ _)) oQ)
 cases hm:zb8 none l with
 |false=>
  have HE:Hid (zcb l=[]):=by show _=_;simp[zcb,hm]
  rw[hm] at HMay;clear hm hA;go_enter func87,ntmps87;go_wp2_with fail;refine(HMay.out _ (waC _ _)).mono ?_;rintro e w1 ⟨rfl,rfl⟩;go_wp2;go_ret;exact⟨_,rfl,by rw[HE.out];exact World.ownsRow_nil _ _ _ _,waC _ _⟩
 |true=>
  have HE:Hid (zcb l=zca l.length l):=by show _=_;simp[zcb,hm]
  have HIn:=waV (zve hm);have HA:=waV hA;have HL:=waV hL;rw[hm] at HMay;clear hm hA hL;go_enter func87,ntmps87;go_wp2_with fail;refine(HMay.out _ (waC _ _)).mono ?_;rintro e w1 ⟨rfl,rfl⟩;clear HMay;go_wp2
  go_loopw [0,3] (fun ns v wr=>∃(vo:Value) (A':Option Addr) (n' c' q:Nat) (cur:List Int) (acc:List Pc),vo=v/\ns=.slice A' n' c'/\n'<=c'/\c'<=maxLen/\n'<=n/\acc.length+n'<=n/\
   Hid (zaI w A' n' cur/\InC cur/\n'<=q/\zca l.length l=acc++zca q cur)/\Hid (zpf wr w.heap.size vo acc)/\Below w.heap.size w wr) (fun ns _ _=>match ns with| .slice _ k _=>k|_=>0)
  case atStart=>exact⟨_,A,n,c,n,l,[],rfl,by go_num,hnc,hc,waJ _,by simp,⟨HA.out,HIn.out,waJ _,by rw[HL.out];rfl⟩,World.ownsRow_nil _ _ _ _,waC _ _⟩
  case round=>
   obtain⟨vo,A',n',c',q,cur,acc,rfl,rfl,hnc',hc',hn',hacc,HR,HO,hb⟩:=hrel;have hsz:=hb.size;rcases cur with _|⟨a,cur⟩
   ·obtain rfl:n'=0:=HR.out.1.1.symm;have HF:Hid (zcb l=acc):=by
     show _=_;rw[HE.out,HR.out.2.2.2];cases q<;>simp [zca]
    clear HR;go_wp2;go_ret;exact⟨_,rfl,by rw[HF.out];exact HO.out,hb⟩
   ·have hn1:cur.length+1=n':=HR.out.1.1;obtain⟨b,o,x0,rfl,hbl,-,-⟩:=zaI.at_ HR.out.1 (i:=0) oQ
    have hn1':(0:Int)<(n':Int):=by omega
    have HF:=waV (fun W (hW:Below w.heap.size w W)=>zpd (some ⟨b,o,none⟩) n' c' a cur W (HR.out.1.below hW (waJ _)) (by omega) HR.out.2.1)
    obtain⟨q,rfl⟩:∃q',q=q'+1:=⟨q - 1,by have:=HR.out.2.2.1;omega⟩
    have HC:Hid (zca l.length l=(acc++[(zbb a cur).1])++zca q ((a::cur).drop (zbb a cur).2)):=by
     show _=_;rw[HR.out.2.2.2,zca];simp
    have hpm:1<=(zbb a cur).2/\(zbb a cur).2<=n':=by
     have:=zpc (zhy a cur) a cur;unfold zbb ze2;split<;>simp<;>omega
    have HQ:Hid (n'<=q+1):=HR.out.2.2.1;have HRD:=waV (zaI.drop HR.out.1 (zbb a cur).2);have HID:=waV (InC.drop HR.out.2.1 (zbb a cur).2);clear HR;obtain⟨hm1,hm2⟩:=hpm;generalize (zbb a cur).2=m at *;generalize (zbb a cur).1=p at *;have HX:=waV (HF.out wr hb);have HN1:=waV hn1;clear hn1;go_wp2_with fail;refine HX.out.mono ?_;rintro e w1 ⟨rfl,hb1⟩;have hb2:=zaf hb hb1 hsz;have hsz2:=hb2.size;have HO1:=waV (zak HO.out hb1);clear HF HX HO;have hi0:=HI0.out;have hz0:=HZ0.out;have hz1:=HZ1.out;have hz2:=HZ2.out
    go_wp2_with (at_builtin;refine wpList_append_own _ rfl _ _ 166 rfl w.heap.size 169 i0 _ 3 24 underlying166 hi0 hz0 hz1 hz2 rfl dQ _ acc.length _ rfl ((HO1.out.alloc _).alloc _) ⟨w1.heap.size+1,0,none⟩ 1 1 (ziJ p) rfl rfl ?c1 ?c2 ?c3 ?c4 ?c5 ?c6)
    case c1=>
     intro j u hu;rcases j with _|_|_|j
     ·simp[ziJ] at hu;subst hu;exact zaa (by simp) rfl
     ·simp[ziJ] at hu;subst hu;exact zaa (by simp) rfl
     ·simp[ziJ] at hu;subst hu;exact zaa (by simp) rfl
     ·simp[ziJ] at hu
    case c2=>intro u hu;simp[ziJ] at hu;rcases hu with rfl|rfl|rfl<;>rfl
    case c3=>simp only[maxLen];omega
    case c4=>omega
    case c5=>simp;omega
    case c6=>
     intro v' w' hown hg _;have HV:Hid (zpf w' w.heap.size v' (acc++[p])):=by
      show World.ownsRow _ _ _ _ _ _ _;rw[waF,List.flatMap_append];simpa using hown
     have hbn:Below w.heap.size w w':=by
      refine((hb2.alloc oQ _).alloc (by simp;omega) _).grown hg (by simp;omega) ?_
      intro b hb';rcases zbO HO1.out with ⟨h1,_⟩|⟨g,cap,h1,h2,h3⟩
      ·rw[h1] at hb';simp[Value.ownBlock] at hb'
      ·rw[h1] at hb';simp[Value.ownBlock] at hb';subst hb';exact h2
     clear hown hg hi0 hz0 hz1 hz2;have HRD2:Hid (zaI w (if c'=m then some ⟨b,o,none⟩ else some ⟨b,o+m,none⟩) (n' - m) ((a::cur).drop m)):=by
      show Rd _ _ _ _ _ _;split
      ·refine⟨HRD.out.1,fun h=>?_⟩
       omega
      ·exact HRD.out
     go_wp2;go_roundw
     case rel=>exact⟨_,_,n' - m,c' - m,q,_,acc++[p],rfl,rfl,by omega,by omega,by omega,by simp;omega,⟨HRD2.out,HID.out,by have:=HQ.out;omega,HC.out⟩,HV.out,hbn⟩
     case measure=>simp;omega
def itP (p:Pc):It:=if zga p=1 then⟨1,p.f,0,0⟩ else⟨2,p.f,p.t,p.s⟩
def zae (lo hi:Int) (l:List Int) (star:Bool):List It:=if star=true/\zcb l=[⟨lo,hi,1⟩] then [⟨0,0,0,1⟩] else(zcb l).map itP
def zdU (l:List It) (w:World) (e:Ending) (w':World):Prop:=∃v,e=.returned v/\zaY w' w.heap.size v l/\Below w.heap.size w w'
theorem zhO:∀k l,(zca k l).length<=k
 |0,_=>by simp[zca]
 |k+1,[]=>by simp[zca]
 |k+1,a::l=>by simp only[zca,waG];have:=zhO k ((a::l).drop (zbb a l).2);omega
theorem zfE (l:List Int):(zcb l).length<=l.length:=by
 unfold zcb;split
 ·exact zhO _ _
 ·simp
def zvf (a b:Pc):Bool:=decide (a=b)
theorem zsb (a b:Pc):zvf a b=(decide (a.f=b.f)&&(decide (a.t=b.t)&&decide (a.s=b.s))):=by
 cases a;cases b;simp[zvf]
theorem zuy (a b:Pc) (w:World):(binOp .eql 169 (.agg #[.int .i64 a.f,.int .i64 a.t,.int .i64 a.s]) (.agg #[.int .i64 b.f,.int .i64 b.t,.int .i64 b.s])).run prog w=.ok (.bool (zvf a b)) w:=by
 rw[run_eql_struct,zsb]
 by_cases h1:a.f=b.f<;>by_cases h2:a.t=b.t<;>by_cases h3:a.s=b.s<;>simp [go_sem,h1,h2,h3]
theorem zfF (lo hi:Int) (A:Option Addr) (n c:Nat) (l:List Int) (star:Bool) (w:World) (hA:zaI w A n l) (hn:n<=1000000) (hnc:n<=c) (hc:c<=maxLen):
 Calls prog 35 #[.int .i64 lo,.int .i64 hi,.slice A n c,.bool star] w (zdU (zae lo hi l star) w):=by
 obtain⟨i0,hi0,hz0,hz1,hz2⟩:=info_parts ziF;have HI0:=waV hi0;have HZ0:=waV hz0;have HZ1:=waV hz1;have HZ2:=waV hz2;have hpl:(zcb l).length<=n:=by rw[<-hA.1];exact zfE l
 have HC:=waV (zph A n c l w hA hn hnc hc);clear hi0 hz0 hz1 hz2 hA;obtain⟨P,hP⟩:∃P,P=zcb l:=⟨_,rfl⟩;have HEd:Hid (zae lo hi l star=if star=true/\P=[⟨lo,hi,1⟩] then [⟨0,0,0,1⟩] else P.map itP):=by show _=_;rw[hP];rfl
 rw[<-hP] at HC hpl;clear hP;generalize hR:zae lo hi l star=R at *;clear hR;cases star
 case' false=>
  have HE:Hid (R=P.map itP):=by show _=_;rw[HEd.out];simp
  clear HEd;go_enter func35,ntmps35;go_wp2_with fail;refine HC.out.mono ?_;rintro e w1 ⟨vP,rfl,hown,hbw⟩;obtain⟨A',c',rfl,hc1,hc2,hrd,-⟩:=Rd.of_own ze1 hown rfl;have HRD:=waV hrd;obtain⟨pn,hpn⟩:∃pn,pn=P.length:=⟨_,rfl⟩;rw[<-hpn] at HRD hpl ⊢;have HPL:Hid (P.length=pn):=hpn.symm;have hszw:=hbw.size;clear hrd hown hpn HC;go_wp2
 case' true=>
  by_cases hone:P.length=1
  case' pos=>
   obtain⟨q,rfl⟩:∃q,P=[q]:=List.length_eq_one_iff.1 hone
   by_cases hq:q=⟨lo,hi,1⟩
   case pos=>
    have HE:Hid (R=[⟨0,0,0,1⟩]):=by show _=_;rw[HEd.out,hq];simp
    have hqe:zvf q ⟨lo,hi,1⟩=true:=by simp[zvf,hq]
    have hql:=fun W=>zuy q ⟨lo,hi,1⟩ W
    rw[hqe] at hql;clear HEd hqe hq;go_enter func35,ntmps35;go_wp2_with fail;refine HC.out.mono ?_;rintro e w1 ⟨vP,rfl,hown,hbw⟩;obtain⟨A',c',rfl,hc1,hc2,hrd,-⟩:=Rd.of_own ze1 hown rfl;obtain⟨b,o,p,rfl,hbl,hx,c0,cc1,cc2⟩:=zpb.at_ hrd (i:=0) Nat.one_pos
    obtain rfl:q=p:=by simpa using hx
    rw[Nat.zero_mul,Nat.add_zero] at c0 cc1 cc2;have hc1':1<=c':=hc1;clear hrd hown HC hx hone;go_wp2;go_ret;have hszw:=hbw.size;refine⟨_,rfl,?_,by exact zaE⟩
    rw[HE.out];exact zar (ziE w1 #[.int .i64 0,.int .i64 0,.int .i64 0,.int .i64 1] 64 4 1 dQ rfl) hbw.size
   case' neg=>
    have HE:Hid (R=[q].map itP):=by show _=_;rw[HEd.out];simp[hq]
    have hqe:zvf q ⟨lo,hi,1⟩=false:=by simp[zvf,hq]
    have hql:=fun W=>zuy q ⟨lo,hi,1⟩ W
    rw[hqe] at hql;obtain⟨P,hP⟩:∃P,P=[q]:=⟨_,rfl⟩;rw[<-hP] at HE HC;have HP0:Hid (P=[q]):=hP;clear HEd hqe hq hP;go_enter func35,ntmps35;go_wp2_with fail;refine HC.out.mono ?_;rintro e w1 ⟨vP,rfl,hown,hbw⟩;obtain⟨A',c',rfl,hc1,hc2,hrd,-⟩:=Rd.of_own ze1 hown rfl;have HRD:=waV hrd;obtain⟨b,o,p,rfl,hbl,hx,c0,cc1,cc2⟩:=zpb.at_ hrd (i:=0) (by rw[HP0.out];exact Nat.one_pos)
    obtain rfl:q=p:=by rw[HP0.out] at hx;simpa using hx
    rw[Nat.zero_mul,Nat.add_zero] at c0 cc1 cc2;obtain⟨pn,hpn⟩:∃pn,pn=P.length:=⟨_,rfl⟩;rw[<-hpn] at HRD hc1 ⊢;have hpl:pn<=n:=by rw[hpn,HP0.out];exact hpl
    have hone':((pn:Int)==1)=true:=by rw[hpn,HP0.out];rfl
    have hpn0:(0:Int)<(pn:Int):=by rw[hpn,HP0.out];exact Int.one_pos
    have HPL:Hid (P.length=pn):=hpn.symm;have hszw:=hbw.size;clear hrd hown hpn HC hone hx;go_wp2;clear hql hone' hpn0
  case' neg=>
   have HE:Hid (R=P.map itP):=by
    show _=_;rw[HEd.out,if_neg];rintro ⟨-,rfl⟩;simp at hone
   clear HEd;have hone':((P.length:Int)==1)=false:=by simp;omega
   go_enter func35,ntmps35;go_wp2_with fail;refine HC.out.mono ?_;rintro e w1 ⟨vP,rfl,hown,hbw⟩;obtain⟨A',c',rfl,hc1,hc2,hrd,-⟩:=Rd.of_own ze1 hown rfl;have HRD:=waV hrd;obtain⟨pn,hpn⟩:∃pn,pn=P.length:=⟨_,rfl⟩;rw[<-hpn] at HRD hpl hone' ⊢;have HPL:Hid (P.length=pn):=hpn.symm;have hszw:=hbw.size;clear hrd hown hpn HC hone;go_wp2
 all_goals
  go_loopw [10,35] (fun v i wr=>∃(vo:Value) (k:Nat),vo=v/\k<=pn/\i=.int .i64 k/\Hid (zaY wr w1.heap.size vo ((P.take k).map itP))/\Below w1.heap.size w1 wr) (fun _ i _=>pn - (intOf i).toNat)
  case atStart=>exact⟨_,0,rfl,waK _,by go_num,World.ownsRow_nil _ _ _ _,by exact zaE⟩
  case round=>
   obtain⟨vo,k,rfl,hk,rfl,HO,hb⟩:=hrel;have hsz:=hb.size
   by_cases hlt:k<pn
   ·obtain⟨b,o,p,hAe,hbl,hx,c0,c1,c2⟩:=zpb.at_ (HRD.out.below hb (waJ _)) hlt
    cases hAe;have hlt':(k:Int)<(pn:Int):=by omega
    have hts:P.take (k+1)=P.take k++[p]:=by rw[List.take_add_one,hx];rfl
    have hkl:((P.take k).map itP).length=k:=by simp;have:=HPL.out;omega
    have HLen:=waV (fun W=>zsa p W)
    clear hx
    by_cases h1:zga p=1
    ·have HI:Hid ((P.take (k+1)).map itP=(P.take k).map itP++[⟨1,p.f,0,0⟩]):=by
      show _=_;rw[hts,List.map_append];simp[itP,h1]
     have h1':(zga p==1)=true:=by simpa using h1
     clear hts h1;obtain⟨it,hit⟩:∃it:It,it=⟨1,p.f,0,0⟩:=⟨_,rfl⟩;have HIT:Hid ([.int .i64 1,.int .i64 p.f,.int .i64 0,.int .i64 0]=zdb it):=by subst hit;rfl
     rw[<-hit] at HI;clear hit;go_wp2_with fail;refine(HLen.out _).mono ?_;rintro e w2 ⟨rfl,hb2⟩;obtain⟨hq1,hq2⟩:=zad hb2;have hb3:Below wr.heap.size wr w2:=(((waC _ wr).alloc (waJ _) _).alloc (by simp) _).trans (hb2.mono (by simp;omega))
     have hsz3:wr.heap.size+2<=w2.heap.size:=by have:=hb2.size;simp at this;omega
     obtain⟨X0,hX0⟩:∃X,X=(P.take k).map itP:=⟨_,rfl⟩;obtain⟨X1,hX1⟩:∃X,X=(P.take (k+1)).map itP:=⟨_,rfl⟩;rw[<-hX0] at HO HI hkl;rw[<-hX1] at HI;have HX1:=waV hX1;clear hX0 hX1;have hi0:=HI0.out;have hz0:=HZ0.out;have hz1:=HZ1.out;have hz2:=HZ2.out
     go_wp2_with (at_builtin;refine wpList_append_own _ rfl _ _ 24 rfl w1.heap.size 64 i0 _ 4 32 underlying24 hi0 hz0 hz1 hz2 rfl dQ _ X0.length _ rfl (zak HO.out ?cB) ⟨w2.heap.size,0,none⟩ 1 1 [.int .i64 1,.int .i64 p.f,.int .i64 0,.int .i64 0] rfl rfl ?c1 ?c2 ?c3 ?c4 ?c5 ?c6)
     case cB=>exact zaE
     case c1=>
      intro j u hu;rcases j with _|_|_|_|j
      ·simp at hu;subst hu;exact zaa (by simp) rfl
      ·simp at hu;subst hu;exact zaa (by simp) rfl
      ·simp at hu;subst hu;exact zaa (by simp) rfl
      ·simp at hu;subst hu;exact zaa (by simp) rfl
      ·simp at hu
     case c2=>intro u hu;simp at hu;rcases hu with rfl|rfl|rfl|rfl<;>rfl
     case c3=>rw [hkl];simp only[maxLen];omega
     case c4=>rw [hkl];omega
     case c5=>simp;omega
     case c6=>
      intro v' w' hown hg _;have HV:Hid (zaY w' w1.heap.size v' X1):=by
       show World.ownsRow _ _ _ _ _ _ _;rw[HI.out,waF,hkl,List.flatMap_append,List.flatMap_singleton,<-HIT.out];exact hown
      have hbn:Below w1.heap.size w1 w':=by
       have hbx:Below w1.heap.size w1 w2:=zaf hb hb3 hsz;refine Below.grown ?_ hg (by simp;omega) ?_
       ·exact zaE
       ·intro b hb';rcases zbO HO.out with ⟨h1,_⟩|⟨g,cap,h1,h2,h3⟩
        ·rw[h1] at hb';simp[Value.ownBlock] at hb'
        ·rw[h1] at hb';simp[Value.ownBlock] at hb';subst hb';exact h2
      clear hown hg hi0 hz0 hz1 hz2;go_wp2;go_roundw
      case rel=>exact⟨_,k+1,rfl,by omega,by go_num,by rw[<-HX1.out];exact HV.out,hbn⟩
      case measure=>simp [intOf];omega
    ·have HI:Hid ((P.take (k+1)).map itP=(P.take k).map itP++[⟨2,p.f,p.t,p.s⟩]):=by
      show _=_;rw[hts,List.map_append];simp[itP,h1]
     have h1':(zga p==1)=false:=by simpa using h1
     clear hts h1;obtain⟨it,hit⟩:∃it:It,it=⟨2,p.f,p.t,p.s⟩:=⟨_,rfl⟩;have HIT:Hid ([.int .i64 2,.int .i64 p.f,.int .i64 p.t,.int .i64 p.s]=zdb it):=by subst hit;rfl
     rw[<-hit] at HI;clear hit;go_wp2_with fail;refine(HLen.out _).mono ?_;rintro e w2 ⟨rfl,hb2⟩;obtain⟨hq1,hq2⟩:=zad hb2;have hb3:Below wr.heap.size wr w2:=(((waC _ wr).alloc (waJ _) _).alloc (by simp) _).trans (hb2.mono (by simp;omega))
     have hsz3:wr.heap.size+2<=w2.heap.size:=by have:=hb2.size;simp at this;omega
     obtain⟨X0,hX0⟩:∃X,X=(P.take k).map itP:=⟨_,rfl⟩;obtain⟨X1,hX1⟩:∃X,X=(P.take (k+1)).map itP:=⟨_,rfl⟩;rw[<-hX0] at HO HI hkl;rw[<-hX1] at HI;have HX1:=waV hX1;clear hX0 hX1;have hi0:=HI0.out;have hz0:=HZ0.out;have hz1:=HZ1.out;have hz2:=HZ2.out
     go_wp2_with (at_builtin;refine wpList_append_own _ rfl _ _ 24 rfl w1.heap.size 64 i0 _ 4 32 underlying24 hi0 hz0 hz1 hz2 rfl dQ _ X0.length _ rfl (zak HO.out ?cB) ⟨w2.heap.size,0,none⟩ 1 1 [.int .i64 2,.int .i64 p.f,.int .i64 p.t,.int .i64 p.s] rfl rfl ?c1 ?c2 ?c3 ?c4 ?c5 ?c6)
     case cB=>exact zaE
     case c1=>
      intro j u hu;rcases j with _|_|_|_|j
      ·simp at hu;subst hu;exact zaa (by simp) rfl
      ·simp at hu;subst hu;exact zaa (by simp) rfl
      ·simp at hu;subst hu;exact zaa (by simp) rfl
      ·simp at hu;subst hu;exact zaa (by simp) rfl
      ·simp at hu
     case c2=>intro u hu;simp at hu;rcases hu with rfl|rfl|rfl|rfl<;>rfl
     case c3=>rw [hkl];simp only[maxLen];omega
     case c4=>rw [hkl];omega
     case c5=>simp;omega
     case c6=>
      intro v' w' hown hg _;have HV:Hid (zaY w' w1.heap.size v' X1):=by
       show World.ownsRow _ _ _ _ _ _ _;rw[HI.out,waF,hkl,List.flatMap_append,List.flatMap_singleton,<-HIT.out];exact hown
      have hbn:Below w1.heap.size w1 w':=by
       have hbx:Below w1.heap.size w1 w2:=zaf hb hb3 hsz;refine Below.grown ?_ hg (by simp;omega) ?_
       ·exact zaE
       ·intro b hb';rcases zbO HO.out with ⟨h1,_⟩|⟨g,cap,h1,h2,h3⟩
        ·rw[h1] at hb';simp[Value.ownBlock] at hb'
        ·rw[h1] at hb';simp[Value.ownBlock] at hb';subst hb';exact h2
      clear hown hg hi0 hz0 hz1 hz2;go_wp2;go_roundw
      case rel=>exact⟨_,k+1,rfl,by omega,by go_num,by rw[<-HX1.out];exact HV.out,hbn⟩
      case measure=>simp [intOf];omega
   ·have HF:Hid (R=(P.take k).map itP):=by
     show _=_;rw[HE.out,List.take_of_length_le (by have:=HPL.out;omega)]
    go_wp2;go_ret;exact⟨_,rfl,by rw[HF.out];exact zar HO.out hszw,zaf hbw hb hbw.size⟩
end Go.Proofs.YtllcdbgjeidlkaaGreatDoor
