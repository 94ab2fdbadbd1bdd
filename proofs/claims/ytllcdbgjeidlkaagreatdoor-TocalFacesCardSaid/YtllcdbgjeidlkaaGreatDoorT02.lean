/- A part of the proof: RCiv2 -/
import Derived.Test.YtllcdbgjeidlkaaGreatDoorT00
import Derived.OwnWalk
import Derived.Laws.ResultCell
set_option maxHeartbeats 80000000
set_option maxRecDepth 100000
set_option linter.unusedSimpArgs false
set_option linter.unusedVariables false
namespace Go.Proofs.YtllcdbgjeidlkaaGreatDoor
open Go.Proofs.Tryz
open Go.RowKit
def zeM (y:Int):Bool:=decide (y%4=0/\(y%100≠0\/y%400=0))
def zuz (m:Int):Int:=if m=2 then 28 else if m=4\/m=6\/m=9\/m=11 then 30 else 31
def zbt (y m:Int):Int:=if m<1\/12<m then 0 else if m=2/\zeM y=true then 29 else zuz m
def zsc (y m d:Int):Bool:=decide (-1000000000<=y/\y<=1000000000/\1<=d/\d<=zbt y m)
def zaZ (k:Int):Int:=365 * k+k / 4 - k / 100+k / 400
def gY (o:Int):Int:=o - o / 1460+o / 36524 - o / 146096
def yrs (o:Int):Int:=gY o / 365
theorem zvg {x:Int} (h0:0<=x) (h:x+1<146097):gY x<=gY (x+1):=by
 unfold gY
 by_cases e:x=146095
 ·subst e;decide
 ·have h1:x / 146096=0:=by omega
  have h2:(x+1) / 146096=0:=by omega
  rw[h1,h2];omega
theorem zpi {a b:Int} (h0:0<=a) (h:a<=b) (hb:b<146097):gY a<=gY b:=by
 obtain⟨d,rfl⟩:∃d:Nat,b=a+d:=⟨(b - a).toNat,by omega⟩
 clear h;induction d with
 |zero=>simp
 |succ d ih=>
  have h1:=ih oQ;have h2:=zvg (x:=a+(d:Int)) oQ oQ;rw[show a+((d+1:Nat):Int)=a+(d:Int)+1 by omega]
  omega
def zwZ (k:Nat):Bool:=decide (365 * (k:Int)<=gY (zaZ k)/\gY (zaZ ((k:Int)+1) - 1)<=365 * (k:Int)+364/\0<=zaZ k/\zaZ ((k:Int)+1)<=146097)
theorem zvh:(List.range 400).all zwZ=true:=by decide+kernel
theorem zmp (o:Int) (h0:0<=o):∀K:Nat,o<zaZ K->∃k:Nat,k<K/\zaZ k<=o/\o<zaZ ((k:Int)+1)
 |0,h=>by simp[zaZ] at h;omega
 |K+1,h=>by
  by_cases h1:o<zaZ K
  ·obtain⟨k,hk,h2⟩:=zmp o h0 K h1;exact⟨k,by omega,h2⟩
  ·exact⟨K,by omega,by omega,by simpa using h⟩
theorem zmq {o:Int} (h0:0<=o) (h1:o<146097):0<=yrs o/\yrs o<400/\zaZ (yrs o)<=o/\o<zaZ (yrs o+1):=by
 obtain⟨k,hk,h2,h3⟩:=zmp o h0 400 (by simp[zaZ];omega)
 have ha:=List.all_eq_true.1 zvh k (wbG.2 hk);unfold zwZ at ha;rw[waM] at ha;obtain⟨a1,a2,a3,a4⟩:=ha;have m1:=zpi a3 h2 h1;have m2:=zpi h0 (show o<=zaZ ((k:Int)+1) - 1 by omega) oQ
 have e:yrs o=(k:Int):=by unfold yrs;omega
 rw[e];exact⟨by omega,by omega,h2,h3⟩
def lft (o:Int):Int:=o - (yrs o * 365+yrs o / 4 - yrs o / 100)
theorem zpj {o:Int} (h0:0<=o) (h1:o<146097):lft o=o - zaZ (yrs o)/\0<=lft o/\lft o<=365:=by
 obtain⟨a,b,c,d⟩:=zmq h0 h1;unfold lft;generalize yrs o=k at *;have e0:k / 400=0:=by omega
 have e1:zaZ k=k * 365+k / 4 - k / 100:=by unfold zaZ;omega
 have e2:zaZ (k+1)<=zaZ k+366:=by
  by_cases hk:k=399
  ·subst hk;decide
  ·have:(k+1) / 400=0:=by omega
   unfold zaZ;omega
 omega
def mm (o:Int):Int:=(5 * lft o+2) / 153
def dd (o:Int):Int:=lft o - (153 * mm o+2) / 5+1
def mon (o:Int):Int:=(mm o+2)%12+1
def zjI (n:Int):Int:=(n+719468) / 146097
def zbL (n:Int):Int:=(n+719468)%146097
def dD (n:Int):Int:=dd (zbL n)
def mD (n:Int):Int:=mon (zbL n)
def yD (n:Int):Int:=zjI n * 400+yrs (zbL n)+if mD n<=2 then 1 else 0
theorem zlc {n:Int} (h:0<=n):0<=zbL n/\zbL n<146097:=by unfold zbL;omega
theorem zpk {n:Int} (h:0<=n) (h1:n<146097):4<=zjI n/\zjI n<=5:=by unfold zjI;omega
theorem zw0 {o:Int} (h0:0<=lft o) (h1:lft o<=365):0<=mm o/\mm o<=11/\1<=dd o/\dd o<=31/\1<=mon o/\mon o<=12:=by
 unfold dd mon mm;omega
def zw1 (l:Nat):Bool:=
 let m:=(5 * (l:Int)+2) / 153
 let d:=(l:Int) - (153 * m+2) / 5+1
 let mo:=(m+2)%12+1
 decide (1<=d/\1<=mo/\mo<=12/\(d<=zuz mo\/l=365/\mo=2/\d=29))
theorem zvi:(List.range 366).all zw1=true:=by decide+kernel
theorem ziK {n:Int} (h:0<=n) (h1:n<146097):zsc (yD n) (mD n) (dD n)=true/\1969<=yD n/\yD n<=2401:=by
 obtain⟨o0,o1⟩:=zlc h;obtain⟨e0,e1⟩:=zpk h h1;obtain⟨y0,y1,y2,y3⟩:=zmq o0 o1;obtain⟨l0,l1,l2⟩:=zpj o0 o1;obtain⟨L,hL⟩:=wbD l1;have ha:=List.all_eq_true.1 zvi L (wbG.2 oQ);unfold zw1 at ha;simp only[waM] at ha;have em:mm (zbL n)=(5 * (L:Int)+2) / 153:=by unfold mm;rw[hL]
 have ed:dd (zbL n)=(L:Int) - (153 * ((5 * (L:Int)+2) / 153)+2) / 5+1:=by unfold dd;rw[em,hL]
 have eo:mon (zbL n)=((5 * (L:Int)+2) / 153+2)%12+1:=by unfold mon;rw[em]
 rw[<-eo,<-ed] at ha;obtain⟨a1,a2,a3,a4⟩:=ha;have hyl:yD n=zjI n * 400+yrs (zbL n)+if mon (zbL n)<=2 then 1 else 0:=rfl
 have hy1:1969<=yD n/\yD n<=2401:=by
  rw[hyl];have hn:zjI n=4->3<=400:=fun _=>by decide
  by_cases he:zjI n=4
  ·have:zbL n=n+719468 - 584388:=by unfold zbL zjI at *;omega
   have hy:369<=yrs (zbL n):=by
    false_or_by_contra
    rename_i hc;have:zaZ (yrs (zbL n)+1)<=zaZ 369:=by unfold zaZ;omega
    have e2:zaZ 369=134774:=by decide
    omega
   split<;>omega
  ·split<;>omega
 refine⟨?_,hy1⟩;unfold zsc;refine waP ⟨by omega,by omega,a1,?_⟩
 show dd (zbL n)<=zbt (yD n) (mon (zbL n));unfold zbt;rw[if_neg (by omega)]
 rcases a4 with a4|⟨b1,b2,b3⟩
 ·split
  ·rename_i hq;have:zuz (mon (zbL n))=28:=by rw[hq.1];rfl
   omega
  ·exact a4
 ·have hleap:zeM (yD n)=true:=by
   have hl:zaZ (yrs (zbL n)+1) - zaZ (yrs (zbL n))=366:=by
    have hu:zaZ (yrs (zbL n)+1) - zaZ (yrs (zbL n))<=366:=by unfold zaZ;omega
    omega
   have hq:(yrs (zbL n)+1)%4=0/\((yrs (zbL n)+1)%100≠0\/(yrs (zbL n)+1)%400=0):=by unfold zaZ at hl;omega
   unfold zeM;rw[hyl,if_pos (by omega)]
   exact waP ⟨by omega,by omega⟩
  rw[if_pos ⟨b2,hleap⟩,b3];decide
def jan (y:Int):Int:=365 * (y - 1970)+(y - 1) / 4 - (y - 1) / 100+(y - 1) / 400 - 477
def lpC (y:Int):Int:=if zeM y=true then 1 else 0
def zwI (m:Int):Int:=if m=1 then 0 else if m=2 then 31 else if m=3 then 59 else if m=4 then 90 else if m=5 then 120 else if m=6 then 151 else if m=7 then 181 else if m=8 then 212 else if m=9 then 243 else if m=10 then 273 else if m=11 then 304 else if m=12 then 334 else 365
def zcB (y m:Int):Int:=zwI m+if 2<m then lpC y else 0
theorem zuA (y:Int):lpC y=y / 4 - (y - 1) / 4 - (y / 100 - (y - 1) / 100)+(y / 400 - (y - 1) / 400):=by
 unfold lpC zeM
 by_cases h:y%4=0/\(y%100≠0\/y%400=0)
 ·rw[if_pos (by simpa using h)];omega
 ·rw[if_neg (by simpa using h)];omega
theorem zmr (y:Int):lpC y=0\/lpC y=1:=by unfold lpC;split<;>omega
theorem ze3 (y:Int):jan (y+1)=jan y+365+lpC y:=by
 rw[zuA];unfold jan;rw[show y+1 - 1=y by omega]
 omega
theorem zdV {y m:Int} (h1:1<=m) (h2:m<=12):zcB y (m+1)=zcB y m+zbt y m:=by
 have hl:lpC y=if zeM y=true then 1 else 0:=rfl
 obtain rfl|rfl|rfl|rfl|rfl|rfl|rfl|rfl|rfl|rfl|rfl|rfl:m=1\/m=2\/m=3\/m=4\/m=5\/m=6\/m=7\/m=8\/m=9\/m=10\/m=11\/m=12:=by omega
 all_goals (unfold zcB zbt zuz zwI;simp[hl];try(split<;>omega);try omega)
theorem zdr (y:Int):zcB y 1=0:=by unfold zcB zwI;simp
theorem ze4 (y:Int):zcB y 13=365+lpC y:=by unfold zcB zwI;simp
def zuB (l:Nat):Bool:=
 let m:=(5 * (l:Int)+2) / 153
 let d:=(l:Int) - (153 * m+2) / 5+1
 let mo:=(m+2)%12+1
 decide ((2<mo->(l:Int)+59=zwI mo+d - 1)/\(mo<=2->(l:Int) - 306=zwI mo+d - 1))
theorem zsd:(List.range 366).all zuB=true:=by decide+kernel
theorem zds {n:Int} (h:0<=n) (h1:n<146097):n=jan (yD n)+zcB (yD n) (mD n)+dD n - 1/\1<=mD n/\mD n<=12/\1<=dD n/\dD n<=zbt (yD n) (mD n):=by
 obtain⟨o0,o1⟩:=zlc h;obtain⟨y0,y1,y2,y3⟩:=zmq o0 o1;obtain⟨l0,l1,l2⟩:=zpj o0 o1;obtain⟨m0,m1,d0,d1,q0,q1⟩:=zw0 l1 l2;obtain⟨hmay,_,_⟩:=ziK h h1;unfold zsc at hmay;rw[waM] at hmay;obtain⟨L,hL⟩:=wbD l1;have ha:=List.all_eq_true.1 zsd L (wbG.2 oQ);unfold zuB at ha;simp only[waM] at ha;have em:mm (zbL n)=(5 * (L:Int)+2) / 153:=by unfold mm;rw[hL]
 have ed:dd (zbL n)=(L:Int) - (153 * ((5 * (L:Int)+2) / 153)+2) / 5+1:=by unfold dd;rw[em,hL]
 have eo:mon (zbL n)=((5 * (L:Int)+2) / 153+2)%12+1:=by unfold mon;rw[em]
 rw[<-eo,<-ed] at ha;have hD:dD n=dd (zbL n):=rfl;have hM:mD n=mon (zbL n):=rfl;have hn:n+719468=zjI n * 146097+zbL n:=by unfold zjI zbL;omega
 have hk4:yrs (zbL n) / 400=0:=by omega
 have hs:zaZ (yrs (zbL n))=365 * yrs (zbL n)+yrs (zbL n) / 4 - yrs (zbL n) / 100:=by unfold zaZ;omega
 have hmar:∀e k:Int,0<=k->k<400->jan (e * 400+k)+lpC (e * 400+k)+59=e * 146097+(365 * k+k / 4 - k / 100) - 719468:=by
  intro e k hk0 hk1;rw[zuA];unfold jan;omega
 have hm0:=hmar (zjI n) (yrs (zbL n)) y0 y1;refine⟨?_,by rw[hM];omega,by rw[hM];omega,by rw[hD];omega,hmay.2.2.2⟩
 rw[hD,hM]
 by_cases h2:mon (zbL n)<=2
 ·have hy:yD n=zjI n * 400+yrs (zbL n)+1:=by show _+(if mon (zbL n)<=2 then 1 else 0)=_;rw[if_pos h2]
  have hq:=ha.2 h2;rw[hy,ze3];unfold zcB;rw[if_neg (by omega)]
  omega
 ·have hy:yD n=zjI n * 400+yrs (zbL n):=by show _+(if mon (zbL n)<=2 then 1 else 0)=_;rw[if_neg h2];omega
  have hq:=ha.1 oQ;rw[hy];unfold zcB;rw[if_pos (by omega)]
  omega
theorem zgh {a b:Int} (h:a<=b):jan a<=jan b:=by
 obtain⟨d,rfl⟩:∃d:Nat,b=a+d:=⟨(b - a).toNat,by omega⟩
 clear h;induction d with
 |zero=>simp
 |succ d ih=>
  have h1:=ze3 (a+d);have h2:=zmr (a+d);rw[show a+((d+1:Nat):Int)=a+(d:Int)+1 by omega]
  omega
theorem zcC {y m:Int} (h1:1<=m) (h2:m<=12):28<=zbt y m/\zbt y m<=31:=by
 unfold zbt zuz
 repeat' split
 all_goals omega
theorem zbM {y a b:Int} (h1:1<=a) (h:a<=b) (h2:b<=13):zcB y a<=zcB y b:=by
 obtain⟨d,rfl⟩:∃d:Nat,b=a+d:=⟨(b - a).toNat,by omega⟩
 clear h;induction d with
 |zero=>simp
 |succ d ih=>
  have h3:=ih oQ;have h4:=zdV (y:=y) (m:=a+d) oQ oQ;have h5:=zcC (y:=y) (m:=a+d) oQ oQ;rw[show a+((d+1:Nat):Int)=a+(d:Int)+1 by omega]
  omega
theorem zce {n:Int} (h:0<=n) (h1:n<146097):jan (yD n)<=n/\n<jan (yD n+1)/\jan (yD n)+zcB (yD n) (mD n)<=n/\n<jan (yD n)+zcB (yD n) (mD n+1)/\1970<=yD n/\yD n<=2369:=by
 obtain⟨e,m1,m2,d1,d2⟩:=zds h h1;have a1:=zbM (y:=yD n) (a:=1) (b:=mD n) oQ m1 oQ;have a2:=zbM (y:=yD n) (a:=mD n+1) (b:=13) oQ oQ oQ;rw[zdr] at a1;rw[ze4] at a2;have a3:=zdV (y:=yD n) m1 m2;have a4:=ze3 (yD n);have b1:jan 1970=0:=by decide
 have b2:jan 2370=146097:=by decide
 have b3:1970<=yD n:=by
  false_or_by_contra
  have:=zgh (a:=yD n+1) (b:=1970) oQ;omega
 have b4:yD n<=2369:=by
  false_or_by_contra
  have:=zgh (a:=2370) (b:=yD n) oQ;omega
 omega
theorem zgA (a b:Int) (ha:0<=a) (ha1:a<=1000000000000000) (hb:1<=b) (hb1:b<=1000000) (w:World):Calls prog 200 #[.int .i64 a,.int .i64 b] w (zbE (.int .i64 (a / b)) w):=by
 have h1:0<=a / b:=Int.ediv_nonneg ha oQ;have h2:0<=a%b:=Int.emod_nonneg _ oQ;have h3:¬a%b<0:=by omega
 have hq:¬b<1:=by omega
 have hb0:(b==0)=false:=by simp;omega
 go_enter func200,ntmps200;go_wp2;go_ret;exact⟨rfl,rfl⟩
theorem ziL (a b:Int) (ha:0<=a) (ha1:a<=1000000000000000) (hb:1<=b) (hb1:b<=1000000) (w:World):Calls prog 197 #[.int .i64 a,.int .i64 b] w (zbE (.int .i64 (a%b)) w):=by
 have h2:0<=a%b:=Int.emod_nonneg _ oQ;have h3:¬a%b<0:=by omega
 have hq:¬b<1:=by omega
 have hb0:(b==0)=false:=by simp;omega
 go_enter func197,ntmps197;go_wp2;go_ret;exact⟨rfl,rfl⟩
theorem zms (y:Int) (h0:0<=y) (h1:y<=3000000000) (w:World):Calls prog 159 #[.int .i64 y] w (zbE (.bool (zeM y)) w):=by
 generalize hq:zeM y=q;have HQ:=waV hq;clear hq;go_enter func159,ntmps159;go_wp2
 all_goals go_ret
 all_goals (refine⟨zab ?_,rfl⟩;rw[<-HQ.out];((try simp only[beq_iff_eq,wbE,bne_iff_ne,ne_eq,zeM,waM,decide_eq_false_iff_not,waN,wbF,Bool.not_eq_true',Bool.not_eq_false',Bool.and_eq_false_iff,Bool.or_eq_false_iff] at *)
                                             rw[waQ]
                                             (try simp only[zeM,waM,beq_iff_eq,bne_iff_ne,ne_eq,waN,wbF,Bool.not_eq_true',Bool.not_eq_false',wbE,decide_eq_false_iff_not,iff_true,true_iff,Bool.false_eq_true,false_iff,iff_false,reduceCtorEq])
                                             omega))
theorem zpl {y m:Int} (h1:1<=m) (h2:m<=12) (h:¬(m=2/\zeM y=true)):zbt y m=zuz m:=by
 unfold zbt;rw[if_neg (by omega),if_neg h]
theorem zde (y m:Int) (h0:0<=y) (h1:y<=3000000000) (w:World):Calls prog 93 #[.int .i64 y,.int .i64 m] w (Ret (.int .i64 (zbt y m)) w):=by
 by_cases hm1:m<1
 ·have HR:Hid (zbt y m=0):=by show _=_;unfold zbt;rw[if_pos (.inl hm1)]
  go_enter func93,ntmps93;go_wp2;go_ret;exact⟨zaR HR.out.symm,waC _ _⟩
 by_cases hm2:12<m
 ·have HR:Hid (zbt y m=0):=by show _=_;unfold zbt;rw[if_pos (.inr hm2)]
  go_enter func93,ntmps93;go_wp2;go_ret;exact⟨zaR HR.out.symm,waC _ _⟩
 by_cases hm:m=2
 ·subst hm;have HL:=waV (zms y h0 h1);cases hl:zeM y with
  |true=>
   have HR:Hid (zbt y 2=29):=by show _=_;unfold zbt;rw[if_neg (by omega),if_pos ⟨rfl,hl⟩]
   rw[hl] at HL;clear hl;go_enter func93,ntmps93;go_wp2_with fail;refine(HL.out _).mono ?_;rintro e w1 ⟨rfl,rfl⟩;go_wp2;go_ret;exact⟨zaR HR.out.symm,by exact zaE⟩
  |false=>
   have HR:Hid (zbt y 2=28):=by show _=_;rw[zpl (by omega) (by omega) (by rw[hl];simp)];rfl
   rw[hl] at HL;clear hl;go_enter func93,ntmps93;go_wp2_with fail;refine(HL.out _).mono ?_;rintro e w1 ⟨rfl,rfl⟩;go_wp2;go_ret;exact⟨zaR HR.out.symm,by exact zaE⟩
 ·have HR:Hid (zbt y m=zuz m):=zpl oQ oQ oQ;obtain rfl|rfl|rfl|rfl|rfl|rfl|rfl|rfl|rfl|rfl|rfl:m=1\/m=3\/m=4\/m=5\/m=6\/m=7\/m=8\/m=9\/m=10\/m=11\/m=12:=by omega
  all_goals
   clear hm1 hm2 hm;go_enter func93,ntmps93;go_wp2;go_ret;exact⟨zaR HR.out.symm,by exact zaE⟩
theorem zjJ (y m d:Int) (h0:0<=y) (h1:y<=1000000000) (w:World):Calls prog 201 #[.int .i64 y,.int .i64 m,.int .i64 d] w (Ret (.bool (zsc y m d)) w):=by
 have HL:=waV (zde y m h0 oQ);have hy:-1000000000<=y:=by omega
 by_cases hd:1<=d
 ·have HR:Hid (zsc y m d=decide (d<=zbt y m)):=by show _=_;unfold zsc;simp only[hy,h1,hd,true_and]
  generalize zbt y m=q at *;go_enter func201,ntmps201;go_wp2_with fail;refine(HL.out _).mono ?_;rintro e w1 ⟨rfl,hb⟩;go_wp2;go_ret;exact⟨zab HR.out.symm,hb⟩
 ·have HR:Hid (zsc y m d=false):=by show _=_;unfold zsc;exact waO oQ
  go_enter func201,ntmps201;go_wp2;go_ret;exact⟨zab HR.out.symm,waC _ _⟩
theorem zdW {fn:Func} {t u v x:Tmp} (h:fn.results=#[.tmp t,.tmp u,.tmp v,.tmp x]) (tmps:Array Value) (P:Program) (w:World):
 (results fn tmps).run P w=.ok (.tuple #[tmps.getD t undef,tmps.getD u undef,tmps.getD v undef,tmps.getD x undef]) w:=by
 simp[results,h]
theorem zmt (n:Int) (h:0<=n) (h1:n<146097) (w:World):Calls prog 145 #[.int .i64 n] w (Ret (.tuple #[.int .i64 (yD n),.int .i64 (mD n),.int .i64 (dD n),.bool true]) w):=by
 obtain⟨o0,o1⟩:=zlc h;obtain⟨e0,e1⟩:=zpk h h1;obtain⟨y0,y1,_,_⟩:=zmq o0 o1;obtain⟨l0,l1,l2⟩:=zpj o0 o1;obtain⟨m0,m1,d0,d1,q0,q1⟩:=zw0 l1 l2;obtain⟨hmay,hy0,hy1⟩:=ziK h h1;have HM:=waV (zjJ (yD n) (mD n) (dD n) oQ oQ);rw[hmay] at HM;have HF1:=waV (zgA n 365 h oQ oQ oQ);have HF2:=waV (zgA (n+719468) 146097 oQ oQ oQ oQ);have HM2:=waV (ziL (n+719468) 146097 oQ oQ oQ oQ);have f0:0<=n / 365:=by omega
 have f1:n / 365<=2000000000:=by omega
 have HY:Hid (yD n=if mD n<=2 then zjI n * 400+yrs (zbL n)+1 else zjI n * 400+yrs (zbL n)):=by
  show _=_;unfold yD;split<;>omega
 rw[show (n+719468) / 146097=zjI n from rfl] at HF2
 rw[show (n+719468)%146097=zbL n from rfl] at HM2
 have E1:(zbL n - zbL n / 1460+zbL n / 36524 - zbL n / 146096) / 365=yrs (zbL n):=rfl;have E2:zbL n - (yrs (zbL n) * 365+yrs (zbL n) / 4 - yrs (zbL n) / 100)=lft (zbL n):=rfl;have E3:(5 * lft (zbL n)+2) / 153=mm (zbL n):=rfl;have E4:lft (zbL n) - (153 * mm (zbL n)+2) / 5+1=dD n:=rfl;have E5:(mm (zbL n)+2)%12+1=mD n:=rfl
 change 1<=dD n at d0
 change dD n<=31 at d1
 change 1<=mD n at q0
 change mD n<=12 at q1
 clear hmay l0;generalize yD n=YY at *;generalize mD n=MM at *;generalize dD n=DD at *;generalize mm (zbL n)=M at *;generalize lft (zbL n)=L at *;generalize yrs (zbL n)=Y at *;generalize zjI n=E at *;generalize zbL n=o at *
 by_cases hm:MM<=2
 ·have HY2:=HY.out;rw[if_pos hm] at HY2;subst HY2;clear HY;go_enter func145,ntmps145;go_wp2_with fail;refine(HF1.out _).mono ?_;rintro e w1 ⟨rfl,rfl⟩;go_wp2_with fail;refine(HF1.out _).mono ?_;rintro e w1 ⟨rfl,rfl⟩;go_wp2_with fail;refine(HF2.out _).mono ?_;rintro e w1 ⟨rfl,rfl⟩;go_wp2_with fail;refine(HM2.out _).mono ?_;rintro e w1 ⟨rfl,rfl⟩;go_wp2_with fail;refine(HM.out _).mono ?_;rintro e w1 ⟨rfl,hb⟩;go_wp2
  (try simp only[Exit.inBlock,Exit.then])
  refine waY (zdW rfl _ _ _) rfl ?_;exact⟨rfl,hb⟩
 ·have HY2:=HY.out;rw[if_neg hm] at HY2;subst HY2;clear HY;go_enter func145,ntmps145;go_wp2_with fail;refine(HF1.out _).mono ?_;rintro e w1 ⟨rfl,rfl⟩;go_wp2_with fail;refine(HF1.out _).mono ?_;rintro e w1 ⟨rfl,rfl⟩;go_wp2_with fail;refine(HF2.out _).mono ?_;rintro e w1 ⟨rfl,rfl⟩;go_wp2_with fail;refine(HM2.out _).mono ?_;rintro e w1 ⟨rfl,rfl⟩;go_wp2_with fail;refine(HM.out _).mono ?_;rintro e w1 ⟨rfl,hb⟩;go_wp2
  (try simp only[Exit.inBlock,Exit.then])
  refine waY (zdW rfl _ _ _) rfl ?_;exact⟨rfl,hb⟩
theorem zjK (s:Int) (h:0<=s) (h1:s<86400) (w:World):Calls prog 141 #[.int .i64 s] w (zbE (.tuple #[.int .i64 (s / 3600),.int .i64 (s / 60%60),.int .i64 (s%60),.bool true]) w):=by
 have e1:0<=s / 60:=by omega
 have h2:¬s<0:=by omega
 have h3:¬86400<=s:=by omega
 go_enter func141,ntmps141;go_wp2
 (try simp only[Exit.inBlock,Exit.then])
 refine waY (zdW rfl _ _ _) rfl ?_;exact⟨rfl,rfl⟩
def inC (t:Int):Bool:=decide (0<=t/\t<12622780800)
theorem zpm (t:Int) (w:World):Calls prog 118 #[.int .i64 t] w (zbE (.bool (inC t)) w):=by
 generalize hq:inC t=q;have HQ:=waV hq;clear hq;go_enter func118,ntmps118;go_wp2
 all_goals go_ret
 all_goals (refine⟨zab ?_,rfl⟩;rw[<-HQ.out];((try simp only[beq_iff_eq,wbE,bne_iff_ne,ne_eq,inC,waM,decide_eq_false_iff_not,waN,wbF,Bool.not_eq_true',Bool.not_eq_false',Bool.and_eq_false_iff,Bool.or_eq_false_iff] at *)
                                             rw[waQ]
                                             (try simp only[inC,waM,beq_iff_eq,bne_iff_ne,ne_eq,waN,wbF,Bool.not_eq_true',Bool.not_eq_false',wbE,decide_eq_false_iff_not,iff_true,true_iff,Bool.false_eq_true,false_iff,iff_false,reduceCtorEq])
                                             omega))
theorem zes (t:Int) (h:inC t=true) (w:World):Calls prog 192 #[.int .i64 t] w (zbE (.tuple #[.int .i64 (t / 86400),.int .i64 (t%86400),.bool true]) w):=by
 have HI:=waV (zpm t);rw[h] at HI;unfold inC at h;rw[waM] at h;obtain⟨h0,h1⟩:=h;go_enter func192,ntmps192;go_wp2_with fail;refine(HI.out _).mono ?_;rintro e w1 ⟨rfl,rfl⟩;go_wp2
 go_ret3
 exact⟨rfl,rfl⟩
theorem zgB (t:Int) (h:inC t=false) (w:World):Calls prog 192 #[.int .i64 t] w (zbE (.tuple #[.int .i64 0,.int .i64 0,.bool false]) w):=by
 have HI:=waV (zpm t);rw[h] at HI;clear h;go_enter func192,ntmps192;go_wp2_with fail;refine(HI.out _).mono ?_;rintro e w1 ⟨rfl,rfl⟩;go_wp2
 go_ret3
 exact⟨rfl,rfl⟩
end Go.Proofs.YtllcdbgjeidlkaaGreatDoor
