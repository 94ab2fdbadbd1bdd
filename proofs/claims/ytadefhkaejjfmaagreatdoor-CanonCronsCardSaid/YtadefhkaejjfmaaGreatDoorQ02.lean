/- A part of the proof: RCiv2 WMoA -/
import Derived.Test.YtadefhkaejjfmaaGreatDoorQ00
import Derived.OwnWalk
import Derived.Laws.ResultCell
set_option maxHeartbeats 80000000
set_option maxRecDepth 100000
set_option linter.unusedSimpArgs false
set_option linter.unusedVariables false
namespace Go.Proofs.YtadefhkaejjfmaaGreatDoor
open Go.Proofs.Tryz
open Go.RowKit
def zdY (y:Int):Bool:=decide (y%4=0∧(y%100≠0∨y%400=0))
def ztq (m:Int):Int:=if m=2 then 28 else if m=4∨m=6∨m=9∨m=11 then 30 else 31
def zbq (y m:Int):Int:=if m<1∨12<m then 0 else if m=2∧zdY y=true then 29 else ztq m
def zrG (y m d:Int):Bool:=decide (-1000000000≤y∧y≤1000000000∧1≤d∧d≤zbq y m)
def zbh (k:Int):Int:=365 * k+k / 4 - k / 100+k / 400
def gY (o:Int):Int:=o - o / 1460+o / 36524 - o / 146096
def yrs (o:Int):Int:=gY o / 365
theorem zt1 {x:Int} (h0:0≤x) (h:x+1<146097):gY x≤gY (x+1):=by
 unfold gY
 by_cases e:x=146095
 ·subst e;decide
 ·have h1:x / 146096=0:=by omega
  have h2:(x+1) / 146096=0:=by omega
  rw[h1,h2];omega
theorem zo8 {a b:Int} (h0:0≤a) (h:a≤b) (hb:b<146097):gY a≤gY b:=by
 obtain⟨d,rfl⟩:∃d:Nat,b=a+d:=⟨(b - a).toNat,by omega⟩
 clear h;induction d with
 |zero=>simp
 |succ d ih=>
  have h1:=ih oQ;have h2:=zt1 (x:=a+(d:Int)) oQ oQ;rw[show a+((d+1:Nat):Int)=a+(d:Int)+1 by omega]
  omega
def zvq (k:Nat):Bool:=decide (365 * (k:Int)≤gY (zbh k)∧gY (zbh ((k:Int)+1) - 1)≤365 * (k:Int)+364∧0≤zbh k∧zbh ((k:Int)+1)≤146097)
theorem zt2:(List.range 400).all zvq=true:=by decide+kernel
theorem zmn (o:Int) (h0:0≤o):∀K:Nat,o<zbh K→∃k:Nat,k<K∧zbh k≤o∧o<zbh ((k:Int)+1)
 |0,h=>by simp[zbh] at h;omega
 |K+1,h=>by
  by_cases h1:o<zbh K
  ·obtain⟨k,hk,h2⟩:=zmn o h0 K h1;exact⟨k,by omega,h2⟩
  ·exact⟨K,by omega,by omega,by simpa using h⟩
theorem zmo {o:Int} (h0:0≤o) (h1:o<146097):0≤yrs o∧yrs o<400∧zbh (yrs o)≤o∧o<zbh (yrs o+1):=by
 obtain⟨k,hk,h2,h3⟩:=zmn o h0 400 (by simp[zbh];omega)
 have ha:=List.all_eq_true.1 zt2 k (wbG.2 hk);unfold zvq at ha;rw[waM] at ha;obtain⟨a1,a2,a3,a4⟩:=ha;have m1:=zo8 a3 h2 h1;have m2:=zo8 h0 (show o≤zbh ((k:Int)+1) - 1 by omega) oQ
 have e:yrs o=(k:Int):=by unfold yrs;omega
 rw[e];exact⟨by omega,by omega,h2,h3⟩
def lft (o:Int):Int:=o - (yrs o * 365+yrs o / 4 - yrs o / 100)
theorem zo9 {o:Int} (h0:0≤o) (h1:o<146097):lft o=o - zbh (yrs o)∧0≤lft o∧lft o≤365:=by
 obtain⟨a,b,c,d⟩:=zmo h0 h1;unfold lft;generalize yrs o=k at *;have e0:k / 400=0:=by omega
 have e1:zbh k=k * 365+k / 4 - k / 100:=by unfold zbh;omega
 have e2:zbh (k+1)≤zbh k+366:=by
  by_cases hk:k=399
  ·subst hk;decide
  ·have:(k+1) / 400=0:=by omega
   unfold zbh;omega
 omega
def mm (o:Int):Int:=(5 * lft o+2) / 153
def dd (o:Int):Int:=lft o - (153 * mm o+2) / 5+1
def mon (o:Int):Int:=(mm o+2)%12+1
def zjV (n:Int):Int:=(n+719468) / 146097
def zbY (n:Int):Int:=(n+719468)%146097
def dD (n:Int):Int:=dd (zbY n)
def mD (n:Int):Int:=mon (zbY n)
def yD (n:Int):Int:=zjV n * 400+yrs (zbY n)+if mD n≤2 then 1 else 0
theorem zln {n:Int} (h:0≤n):0≤zbY n∧zbY n<146097:=by unfold zbY;omega
theorem zpa {n:Int} (h:0≤n) (h1:n<146097):4≤zjV n∧zjV n≤5:=by unfold zjV;omega
theorem zvr {o:Int} (h0:0≤lft o) (h1:lft o≤365):0≤mm o∧mm o≤11∧1≤dd o∧dd o≤31∧1≤mon o∧mon o≤12:=by
 unfold dd mon mm;omega
def zvs (l:Nat):Bool:=
 let m:=(5 * (l:Int)+2) / 153
 let d:=(l:Int) - (153 * m+2) / 5+1
 let mo:=(m+2)%12+1
 decide (1≤d∧1≤mo∧mo≤12∧(d≤ztq mo∨l=365∧mo=2∧d=29))
theorem zt3:(List.range 366).all zvs=true:=by decide+kernel
theorem ziT {n:Int} (h:0≤n) (h1:n<146097):zrG (yD n) (mD n) (dD n)=true∧1969≤yD n∧yD n≤2401:=by
 obtain⟨o0,o1⟩:=zln h;obtain⟨e0,e1⟩:=zpa h h1;obtain⟨y0,y1,y2,y3⟩:=zmo o0 o1;obtain⟨l0,l1,l2⟩:=zo9 o0 o1;obtain⟨L,hL⟩:=wbD l1;have ha:=List.all_eq_true.1 zt3 L (wbG.2 oQ);unfold zvs at ha;simp only[waM] at ha;have em:mm (zbY n)=(5 * (L:Int)+2) / 153:=by unfold mm;rw[hL]
 have ed:dd (zbY n)=(L:Int) - (153 * ((5 * (L:Int)+2) / 153)+2) / 5+1:=by unfold dd;rw[em,hL]
 have eo:mon (zbY n)=((5 * (L:Int)+2) / 153+2)%12+1:=by unfold mon;rw[em]
 rw[←eo,←ed] at ha;obtain⟨a1,a2,a3,a4⟩:=ha;have hyl:yD n=zjV n * 400+yrs (zbY n)+if mon (zbY n)≤2 then 1 else 0:=rfl
 have hy1:1969≤yD n∧yD n≤2401:=by
  rw[hyl];have hn:zjV n=4→3≤400:=fun _=>by decide
  by_cases he:zjV n=4
  ·have:zbY n=n+719468 - 584388:=by unfold zbY zjV at *;omega
   have hy:369≤yrs (zbY n):=by
    false_or_by_contra
    rename_i hc;have:zbh (yrs (zbY n)+1)≤zbh 369:=by unfold zbh;omega
    have e2:zbh 369=134774:=by decide
    omega
   split<;>omega
  ·split<;>omega
 refine⟨?_,hy1⟩;unfold zrG;refine waP ⟨by omega,by omega,a1,?_⟩
 show dd (zbY n)≤zbq (yD n) (mon (zbY n));unfold zbq;rw[if_neg (by omega)]
 rcases a4 with a4|⟨b1,b2,b3⟩
 ·split
  ·rename_i hq;have:ztq (mon (zbY n))=28:=by rw[hq.1];rfl
   omega
  ·exact a4
 ·have hleap:zdY (yD n)=true:=by
   have hl:zbh (yrs (zbY n)+1) - zbh (yrs (zbY n))=366:=by
    have hu:zbh (yrs (zbY n)+1) - zbh (yrs (zbY n))≤366:=by unfold zbh;omega
    omega
   have hq:(yrs (zbY n)+1)%4=0∧((yrs (zbY n)+1)%100≠0∨(yrs (zbY n)+1)%400=0):=by unfold zbh at hl;omega
   unfold zdY;rw[hyl,if_pos (by omega)]
   exact waP ⟨by omega,by omega⟩
  rw[if_pos ⟨b2,hleap⟩,b3];decide
def jan (y:Int):Int:=365 * (y - 1970)+(y - 1) / 4 - (y - 1) / 100+(y - 1) / 400 - 477
def lpC (y:Int):Int:=if zdY y=true then 1 else 0
def zvc (m:Int):Int:=if m=1 then 0 else if m=2 then 31 else if m=3 then 59 else if m=4 then 90 else if m=5 then 120 else if m=6 then 151 else if m=7 then 181 else if m=8 then 212 else if m=9 then 243 else if m=10 then 273 else if m=11 then 304 else if m=12 then 334 else 365
def zb9 (y m:Int):Int:=zvc m+if 2<m then lpC y else 0
theorem ztr (y:Int):lpC y=y / 4 - (y - 1) / 4 - (y / 100 - (y - 1) / 100)+(y / 400 - (y - 1) / 400):=by
 unfold lpC zdY
 by_cases h:y%4=0∧(y%100≠0∨y%400=0)
 ·rw[if_pos (by simpa using h)];omega
 ·rw[if_neg (by simpa using h)];omega
theorem zmp (y:Int):lpC y=0∨lpC y=1:=by unfold lpC;split<;>omega
theorem zfj (y:Int):jan (y+1)=jan y+365+lpC y:=by
 rw[ztr];unfold jan;rw[show y+1 - 1=y by omega]
 omega
theorem zd7 {y m:Int} (h1:1≤m) (h2:m≤12):zb9 y (m+1)=zb9 y m+zbq y m:=by
 have hl:lpC y=if zdY y=true then 1 else 0:=rfl
 obtain rfl|rfl|rfl|rfl|rfl|rfl|rfl|rfl|rfl|rfl|rfl|rfl:m=1∨m=2∨m=3∨m=4∨m=5∨m=6∨m=7∨m=8∨m=9∨m=10∨m=11∨m=12:=by omega
 all_goals (unfold zb9 zbq ztq zvc;simp[hl];try(split<;>omega);try omega)
theorem zc5 (y:Int):zb9 y 1=0:=by unfold zb9 zvc;simp
theorem zeC (y:Int):zb9 y 13=365+lpC y:=by unfold zb9 zvc;simp
def zts (l:Nat):Bool:=
 let m:=(5 * (l:Int)+2) / 153
 let d:=(l:Int) - (153 * m+2) / 5+1
 let mo:=(m+2)%12+1
 decide ((2<mo→(l:Int)+59=zvc mo+d - 1)∧(mo≤2→(l:Int) - 306=zvc mo+d - 1))
theorem zrH:(List.range 366).all zts=true:=by decide+kernel
theorem zc6 {n:Int} (h:0≤n) (h1:n<146097):n=jan (yD n)+zb9 (yD n) (mD n)+dD n - 1∧1≤mD n∧mD n≤12∧1≤dD n∧dD n≤zbq (yD n) (mD n):=by
 obtain⟨o0,o1⟩:=zln h;obtain⟨y0,y1,y2,y3⟩:=zmo o0 o1;obtain⟨l0,l1,l2⟩:=zo9 o0 o1;obtain⟨m0,m1,d0,d1,q0,q1⟩:=zvr l1 l2;obtain⟨hmay,_,_⟩:=ziT h h1;unfold zrG at hmay;rw[waM] at hmay;obtain⟨L,hL⟩:=wbD l1;have ha:=List.all_eq_true.1 zrH L (wbG.2 oQ);unfold zts at ha;simp only[waM] at ha;have em:mm (zbY n)=(5 * (L:Int)+2) / 153:=by unfold mm;rw[hL]
 have ed:dd (zbY n)=(L:Int) - (153 * ((5 * (L:Int)+2) / 153)+2) / 5+1:=by unfold dd;rw[em,hL]
 have eo:mon (zbY n)=((5 * (L:Int)+2) / 153+2)%12+1:=by unfold mon;rw[em]
 rw[←eo,←ed] at ha;have hD:dD n=dd (zbY n):=rfl;have hM:mD n=mon (zbY n):=rfl;have hn:n+719468=zjV n * 146097+zbY n:=by unfold zjV zbY;omega
 have hk4:yrs (zbY n) / 400=0:=by omega
 have hs:zbh (yrs (zbY n))=365 * yrs (zbY n)+yrs (zbY n) / 4 - yrs (zbY n) / 100:=by unfold zbh;omega
 have hmar:∀e k:Int,0≤k→k<400→jan (e * 400+k)+lpC (e * 400+k)+59=e * 146097+(365 * k+k / 4 - k / 100) - 719468:=by
  intro e k hk0 hk1;rw[ztr];unfold jan;omega
 have hm0:=hmar (zjV n) (yrs (zbY n)) y0 y1;refine⟨?_,by rw[hM];omega,by rw[hM];omega,by rw[hD];omega,hmay.2.2.2⟩
 rw[hD,hM]
 by_cases h2:mon (zbY n)≤2
 ·have hy:yD n=zjV n * 400+yrs (zbY n)+1:=by show _+(if mon (zbY n)≤2 then 1 else 0)=_;rw[if_pos h2]
  have hq:=ha.2 h2;rw[hy,zfj];unfold zb9;rw[if_neg (by omega)]
  omega
 ·have hy:yD n=zjV n * 400+yrs (zbY n):=by show _+(if mon (zbY n)≤2 then 1 else 0)=_;rw[if_neg h2];omega
  have hq:=ha.1 oQ;rw[hy];unfold zb9;rw[if_pos (by omega)]
  omega
theorem zgB {a b:Int} (h:a≤b):jan a≤jan b:=by
 obtain⟨d,rfl⟩:∃d:Nat,b=a+d:=⟨(b - a).toNat,by omega⟩
 clear h;induction d with
 |zero=>simp
 |succ d ih=>
  have h1:=zfj (a+d);have h2:=zmp (a+d);rw[show a+((d+1:Nat):Int)=a+(d:Int)+1 by omega]
  omega
theorem zca {y m:Int} (h1:1≤m) (h2:m≤12):28≤zbq y m∧zbq y m≤31:=by
 unfold zbq ztq
 repeat' split
 all_goals omega
theorem zby {y a b:Int} (h1:1≤a) (h:a≤b) (h2:b≤13):zb9 y a≤zb9 y b:=by
 obtain⟨d,rfl⟩:∃d:Nat,b=a+d:=⟨(b - a).toNat,by omega⟩
 clear h;induction d with
 |zero=>simp
 |succ d ih=>
  have h3:=ih oQ;have h4:=zd7 (y:=y) (m:=a+d) oQ oQ;have h5:=zca (y:=y) (m:=a+d) oQ oQ;rw[show a+((d+1:Nat):Int)=a+(d:Int)+1 by omega]
  omega
theorem ze0 {n:Int} (h:0≤n) (h1:n<146097):jan (yD n)≤n∧n<jan (yD n+1)∧jan (yD n)+zb9 (yD n) (mD n)≤n∧n<jan (yD n)+zb9 (yD n) (mD n+1)∧1970≤yD n∧yD n≤2369:=by
 obtain⟨e,m1,m2,d1,d2⟩:=zc6 h h1;have a1:=zby (y:=yD n) (a:=1) (b:=mD n) oQ m1 oQ;have a2:=zby (y:=yD n) (a:=mD n+1) (b:=13) oQ oQ oQ;rw[zc5] at a1;rw[zeC] at a2;have a3:=zd7 (y:=yD n) m1 m2;have a4:=zfj (yD n);have b1:jan 1970=0:=by decide
 have b2:jan 2370=146097:=by decide
 have b3:1970≤yD n:=by
  false_or_by_contra
  have:=zgB (a:=yD n+1) (b:=1970) oQ;omega
 have b4:yD n≤2369:=by
  false_or_by_contra
  have:=zgB (a:=2370) (b:=yD n) oQ;omega
 omega
theorem zgX (a b:Int) (ha:0≤a) (ha1:a≤1000000000000000) (hb:1≤b) (hb1:b≤1000000) (w:World):Calls prog 290 #[.int .i64 a,.int .i64 b] w (zb4 (.int .i64 (a / b)) w):=by
 have h1:0≤a / b:=Int.ediv_nonneg ha oQ;have h2:0≤a%b:=Int.emod_nonneg _ oQ;have h3:¬a%b<0:=by omega
 have hq:¬b<1:=by omega
 have hb0:(b==0)=false:=by simp;omega
 go_enter func290,ntmps290;go_wp2;go_ret;exact⟨rfl,rfl⟩
theorem ziU (a b:Int) (ha:0≤a) (ha1:a≤1000000000000000) (hb:1≤b) (hb1:b≤1000000) (w:World):Calls prog 287 #[.int .i64 a,.int .i64 b] w (zb4 (.int .i64 (a%b)) w):=by
 have h2:0≤a%b:=Int.emod_nonneg _ oQ;have h3:¬a%b<0:=by omega
 have hq:¬b<1:=by omega
 have hb0:(b==0)=false:=by simp;omega
 go_enter func287,ntmps287;go_wp2;go_ret;exact⟨rfl,rfl⟩
theorem zmq (y:Int) (h0:0≤y) (h1:y≤3000000000) (w:World):Calls prog 218 #[.int .i64 y] w (zb4 (.bool (zdY y)) w):=by
 generalize hq:zdY y=q;have HQ:=waV hq;clear hq;go_enter func218,ntmps218;go_wp2
 all_goals go_ret
 all_goals (refine⟨zap ?_,rfl⟩;rw[←HQ.out];((try simp only[beq_iff_eq,wbE,bne_iff_ne,ne_eq,zdY,waM,decide_eq_false_iff_not,waN,wbF,Bool.not_eq_true',Bool.not_eq_false',Bool.and_eq_false_iff,Bool.or_eq_false_iff] at *)
                                            rw[waQ]
                                            (try simp only[zdY,waM,beq_iff_eq,bne_iff_ne,ne_eq,waN,wbF,Bool.not_eq_true',Bool.not_eq_false',wbE,decide_eq_false_iff_not,iff_true,true_iff,Bool.false_eq_true,false_iff,iff_false,reduceCtorEq])
                                            omega))
theorem zpb {y m:Int} (h1:1≤m) (h2:m≤12) (h:¬(m=2∧zdY y=true)):zbq y m=ztq m:=by
 unfold zbq;rw[if_neg (by omega),if_neg h]
theorem zdo (y m:Int) (h0:0≤y) (h1:y≤3000000000) (w:World):Calls prog 121 #[.int .i64 y,.int .i64 m] w (Ret (.int .i64 (zbq y m)) w):=by
 by_cases hm1:m<1
 ·have HR:Hid (zbq y m=0):=by show _=_;unfold zbq;rw[if_pos (.inl hm1)]
  go_enter func121,ntmps121;go_wp2;go_ret;exact⟨zaW HR.out.symm,waC _ _⟩
 by_cases hm2:12<m
 ·have HR:Hid (zbq y m=0):=by show _=_;unfold zbq;rw[if_pos (.inr hm2)]
  go_enter func121,ntmps121;go_wp2;go_ret;exact⟨zaW HR.out.symm,waC _ _⟩
 by_cases hm:m=2
 ·subst hm;have HL:=waV (zmq y h0 h1);cases hl:zdY y with
  |true=>
   have HR:Hid (zbq y 2=29):=by show _=_;unfold zbq;rw[if_neg (by omega),if_pos ⟨rfl,hl⟩]
   rw[hl] at HL;clear hl;go_enter func121,ntmps121;go_wp2_with fail;refine(HL.out _).mono ?_;rintro e w1 ⟨rfl,rfl⟩;go_wp2;go_ret;exact⟨zaW HR.out.symm,by exact zaI⟩
  |false=>
   have HR:Hid (zbq y 2=28):=by show _=_;rw[zpb (by omega) (by omega) (by rw[hl];simp)];rfl
   rw[hl] at HL;clear hl;go_enter func121,ntmps121;go_wp2_with fail;refine(HL.out _).mono ?_;rintro e w1 ⟨rfl,rfl⟩;go_wp2;go_ret;exact⟨zaW HR.out.symm,by exact zaI⟩
 ·have HR:Hid (zbq y m=ztq m):=zpb oQ oQ oQ;obtain rfl|rfl|rfl|rfl|rfl|rfl|rfl|rfl|rfl|rfl|rfl:m=1∨m=3∨m=4∨m=5∨m=6∨m=7∨m=8∨m=9∨m=10∨m=11∨m=12:=by omega
  all_goals
   clear hm1 hm2 hm;go_enter func121,ntmps121;go_wp2;go_ret;exact⟨zaW HR.out.symm,by exact zaI⟩
theorem zjW (y m d:Int) (h0:0≤y) (h1:y≤1000000000) (w:World):Calls prog 291 #[.int .i64 y,.int .i64 m,.int .i64 d] w (Ret (.bool (zrG y m d)) w):=by
 have HL:=waV (zdo y m h0 oQ);have hy:-1000000000≤y:=by omega
 by_cases hd:1≤d
 ·have HR:Hid (zrG y m d=decide (d≤zbq y m)):=by show _=_;unfold zrG;simp only[hy,h1,hd,true_and]
  generalize zbq y m=q at *;go_enter func291,ntmps291;go_wp2_with fail;refine(HL.out _).mono ?_;rintro e w1 ⟨rfl,hb⟩;go_wp2;go_ret;exact⟨zap HR.out.symm,hb⟩
 ·have HR:Hid (zrG y m d=false):=by show _=_;unfold zrG;exact waO oQ
  go_enter func291,ntmps291;go_wp2;go_ret;exact⟨zap HR.out.symm,waC _ _⟩
theorem zd8 {fn:Func} {t u v x:Tmp} (h:fn.results=#[.tmp t,.tmp u,.tmp v,.tmp x]) (tmps:Array Value) (P:Program) (w:World):
 (results fn tmps).run P w=.ok (.tuple #[tmps.getD t undef,tmps.getD u undef,tmps.getD v undef,tmps.getD x undef]) w:=by
 simp[results,h]
theorem zmr (n:Int) (h:0≤n) (h1:n<146097) (w:World):Calls prog 204 #[.int .i64 n] w (Ret (.tuple #[.int .i64 (yD n),.int .i64 (mD n),.int .i64 (dD n),.bool true]) w):=by
 obtain⟨o0,o1⟩:=zln h;obtain⟨e0,e1⟩:=zpa h h1;obtain⟨y0,y1,_,_⟩:=zmo o0 o1;obtain⟨l0,l1,l2⟩:=zo9 o0 o1;obtain⟨m0,m1,d0,d1,q0,q1⟩:=zvr l1 l2;obtain⟨hmay,hy0,hy1⟩:=ziT h h1;have HM:=waV (zjW (yD n) (mD n) (dD n) oQ oQ);rw[hmay] at HM;have HF1:=waV (zgX n 365 h oQ oQ oQ);have HF2:=waV (zgX (n+719468) 146097 oQ oQ oQ oQ);have HM2:=waV (ziU (n+719468) 146097 oQ oQ oQ oQ);have f0:0≤n / 365:=by omega
 have f1:n / 365≤2000000000:=by omega
 have HY:Hid (yD n=if mD n≤2 then zjV n * 400+yrs (zbY n)+1 else zjV n * 400+yrs (zbY n)):=by
  show _=_;unfold yD;split<;>omega
 rw[show (n+719468) / 146097=zjV n from rfl] at HF2
 rw[show (n+719468)%146097=zbY n from rfl] at HM2
 have E1:(zbY n - zbY n / 1460+zbY n / 36524 - zbY n / 146096) / 365=yrs (zbY n):=rfl;have E2:zbY n - (yrs (zbY n) * 365+yrs (zbY n) / 4 - yrs (zbY n) / 100)=lft (zbY n):=rfl;have E3:(5 * lft (zbY n)+2) / 153=mm (zbY n):=rfl;have E4:lft (zbY n) - (153 * mm (zbY n)+2) / 5+1=dD n:=rfl;have E5:(mm (zbY n)+2)%12+1=mD n:=rfl
 change 1≤dD n at d0
 change dD n≤31 at d1
 change 1≤mD n at q0
 change mD n≤12 at q1
 clear hmay l0;generalize yD n=YY at *;generalize mD n=MM at *;generalize dD n=DD at *;generalize mm (zbY n)=M at *;generalize lft (zbY n)=L at *;generalize yrs (zbY n)=Y at *;generalize zjV n=E at *;generalize zbY n=o at *
 by_cases hm:MM≤2
 ·have HY2:=HY.out;rw[if_pos hm] at HY2;subst HY2;clear HY;go_enter func204,ntmps204;go_wp2_with fail;refine(HF1.out _).mono ?_;rintro e w1 ⟨rfl,rfl⟩;go_wp2_with fail;refine(HF1.out _).mono ?_;rintro e w1 ⟨rfl,rfl⟩;go_wp2_with fail;refine(HF2.out _).mono ?_;rintro e w1 ⟨rfl,rfl⟩;go_wp2_with fail;refine(HM2.out _).mono ?_;rintro e w1 ⟨rfl,rfl⟩;go_wp2_with fail;refine(HM.out _).mono ?_;rintro e w1 ⟨rfl,hb⟩;go_wp2
  (try simp only[Exit.inBlock,Exit.then])
  refine waY (zd8 rfl _ _ _) rfl ?_;exact⟨rfl,hb⟩
 ·have HY2:=HY.out;rw[if_neg hm] at HY2;subst HY2;clear HY;go_enter func204,ntmps204;go_wp2_with fail;refine(HF1.out _).mono ?_;rintro e w1 ⟨rfl,rfl⟩;go_wp2_with fail;refine(HF1.out _).mono ?_;rintro e w1 ⟨rfl,rfl⟩;go_wp2_with fail;refine(HF2.out _).mono ?_;rintro e w1 ⟨rfl,rfl⟩;go_wp2_with fail;refine(HM2.out _).mono ?_;rintro e w1 ⟨rfl,rfl⟩;go_wp2_with fail;refine(HM.out _).mono ?_;rintro e w1 ⟨rfl,hb⟩;go_wp2
  (try simp only[Exit.inBlock,Exit.then])
  refine waY (zd8 rfl _ _ _) rfl ?_;exact⟨rfl,hb⟩
theorem zjX (s:Int) (h:0≤s) (h1:s<86400) (w:World):Calls prog 200 #[.int .i64 s] w (zb4 (.tuple #[.int .i64 (s / 3600),.int .i64 (s / 60%60),.int .i64 (s%60),.bool true]) w):=by
 have e1:0≤s / 60:=by omega
 have h2:¬s<0:=by omega
 have h3:¬86400≤s:=by omega
 go_enter func200,ntmps200;go_wp2
 (try simp only[Exit.inBlock,Exit.then])
 refine waY (zd8 rfl _ _ _) rfl ?_;exact⟨rfl,rfl⟩
def inC (t:Int):Bool:=decide (0≤t∧t<12622780800)
theorem zpc (t:Int) (w:World):Calls prog 177 #[.int .i64 t] w (zb4 (.bool (inC t)) w):=by
 generalize hq:inC t=q;have HQ:=waV hq;clear hq;go_enter func177,ntmps177;go_wp2
 all_goals go_ret
 all_goals (refine⟨zap ?_,rfl⟩;rw[←HQ.out];((try simp only[beq_iff_eq,wbE,bne_iff_ne,ne_eq,inC,waM,decide_eq_false_iff_not,waN,wbF,Bool.not_eq_true',Bool.not_eq_false',Bool.and_eq_false_iff,Bool.or_eq_false_iff] at *)
                                            rw[waQ]
                                            (try simp only[inC,waM,beq_iff_eq,bne_iff_ne,ne_eq,waN,wbF,Bool.not_eq_true',Bool.not_eq_false',wbE,decide_eq_false_iff_not,iff_true,true_iff,Bool.false_eq_true,false_iff,iff_false,reduceCtorEq])
                                            omega))
theorem zeD (t:Int) (h:inC t=true) (w:World):Calls prog 282 #[.int .i64 t] w (zb4 (.tuple #[.int .i64 (t / 86400),.int .i64 (t%86400),.bool true]) w):=by
 have HI:=waV (zpc t);rw[h] at HI;unfold inC at h;rw[waM] at h;obtain⟨h0,h1⟩:=h;go_enter func282,ntmps282;go_wp2_with fail;refine(HI.out _).mono ?_;rintro e w1 ⟨rfl,rfl⟩;go_wp2
 go_ret3
 exact⟨rfl,rfl⟩
theorem zgY (t:Int) (h:inC t=false) (w:World):Calls prog 282 #[.int .i64 t] w (zb4 (.tuple #[.int .i64 0,.int .i64 0,.bool false]) w):=by
 have HI:=waV (zpc t);rw[h] at HI;clear h;go_enter func282,ntmps282;go_wp2_with fail;refine(HI.out _).mono ?_;rintro e w1 ⟨rfl,rfl⟩;go_wp2
 go_ret3
 exact⟨rfl,rfl⟩
end Go.Proofs.YtadefhkaejjfmaaGreatDoor
