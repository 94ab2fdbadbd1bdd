/- A part of the proof: RTal -/
import Derived.Test.YtllcdbgjeidlkaaGreatDoorR37
import Derived.Test.YtllcdbgjeidlkaaGreatDoorR29
import Derived.Test.YtllcdbgjeidlkaaGreatDoorR40
import Derived.Test.YtllcdbgjeidlkaaGreatDoorR30
import Derived.Test.YtllcdbgjeidlkaaGreatDoorR36
import Derived.Test.YtllcdbgjeidlkaaGreatDoorR39
import Derived.Maps.OwnIn
import Derived.Test.YtllcdbgjeidlkaaGreatDoorR33
import Derived.Test.YtllcdbgjeidlkaaGreatDoorR32
import Derived.Test.YtllcdbgjeidlkaaGreatDoorR24
import Derived.Test.YtllcdbgjeidlkaaGreatDoorR27
import Derived.Test.YtllcdbgjeidlkaaGreatDoorR34
set_option maxHeartbeats 80000000
set_option maxRecDepth 100000
set_option linter.unusedSimpArgs false
set_option linter.unusedVariables false
namespace Go.Proofs.YtllcdbgjeidlkaaGreatDoor
open Go.Proofs.Tryz
theorem zqW (P:Int->Nat->Bool):∀j,j<7->ziA (fun i=>(yrF P i:Int)) j=(yrF P j:Int):=fun j hj=>
 zul (fun k=>@decide (∃n,zc8 P n/\yD n=1970+64 * (j:Int)+(k:Int)) (Classical.propDecidable _)) (inL (zga 0 (399 - (j:Int) * 64+1 - 0).toNat)) fun k hk hx=>by
  obtain⟨n,hl,e⟩:=@waA _ (Classical.propDecidable _) hx;have:=zc7 hl.win.1 hl.win.2;simp only[inL,waM];rw[zbO];omega
def zcs (o:List It):It:=o.getLast?.getD ⟨0,0,0,0⟩
def zen (o:List It) (d:Nat):List It:=if o.length≠0/\max (zcs o).f (zcs o).t=(d:Int) - 1 then o.dropLast++[⟨2,(zcs o).f,d,1⟩] else o++[⟨1,d,0,0⟩]
def runF (l:List Nat):List It:=l.foldl zen []
theorem zti:∀l:List Nat,(runF l).length<=l.length:=by
 have:∀(l:List Nat) (o:List It),(l.foldl zen o).length<=o.length+l.length:=by
  intro l;induction l with
  |nil=>intro o;exact waJ _
  |cons a l ih=>
   intro o;rw[List.foldl_cons,waG];have h1:=ih (zen o a);have h2:(zen o a).length<=o.length+1:=by
    unfold zen;split
    ·rw[waF,List.length_dropLast,waG,List.length_nil];omega
    ·rw[waF,waG,List.length_nil];omega
   omega
 intro l;have:=this l [];rw[List.length_nil,waH] at this;exact this
def zf2 (m:Nat):List It:=if zmJ (m:Int)=7 then [] else runF (zam m)
def evL (se mi ho mo dm en wk:Nat) (y:Nat->Nat) (bk:Bool):CalV:=
 {week:=zf2 wk,year:=zaj 1970 2369 (zbM y) true,month:=zaj 1 12 (zb7 mo) true,
  day:=if zoD mo dm then [⟨0,0,0,1⟩] else zaj 1 31 (zb7 (if bk then en else dm)) false,back:=!zoD mo dm&&bk,
  hour:=zaj 0 23 (zb7 ho) true,minute:=zaj 0 59 (zb7 mi) true,second:=zaj 0 59 (zb7 se) true}
noncomputable def evP (P:Int->Nat->Bool) (bk:Bool):CalV:=evL (zsJ P) (zqp P) (zg0 P) (zki P) (zn1 P) (zv2 P) (wkF P) (yrF P) bk
theorem zm6 (lo hi:Int) (l:List Int) (S:Bool):(zaj lo hi l S).length<=l.length+1:=by
 unfold zaj;split
 ·simp
 ·rw[List.length_map];have:=zhv l;omega
theorem zvB {c:CalV} {N:Nat} (h:(c.week.length<=N/\c.year.length<=N/\c.month.length<=N/\c.day.length<=N)/\c.hour.length<=N/\c.minute.length<=N/\c.second.length<=N):∀j,j<8->j≠4->(zhh c j).length<=N:=fun j hj h4=>by
 obtain⟨⟨h0,h1,h2,h3⟩,h5,h6,h7⟩:=h;obtain rfl|rfl|rfl|rfl|rfl|rfl|rfl:j=0\/j=1\/j=2\/j=3\/j=5\/j=6\/j=7:=by omega
 ·exact h0
 ·exact h1
 ·exact h2
 ·exact h3
 ·exact h5
 ·exact h6
 ·exact h7
theorem zeo (lo hi:Int) (m:Nat) (S:Bool):(zaj lo hi (zb7 m) S).length<=100000:=by have h1:=zm6 lo hi (zb7 m) S;have h2:=ziU m;omega
theorem zvC (se mi ho mo dm en wk:Nat) (y:Nat->Nat) (bk:Bool):∀j,j<8->j≠4->(zhh (evL se mi ho mo dm en wk y bk) j).length<=100000:=by
 refine zvB ⟨⟨?_,?_,?_,?_⟩,?_,?_,?_⟩
 ·unfold evL zf2;dsimp only;split
  ·exact waK _
  ·have h1:=zti (zam wk);have h2:=zdy wk;omega
 ·unfold evL;dsimp only;have h1:=zm6 1970 2369 (zbM y) true;have h2:(zbM y).length<=448:=by unfold zbM;rw[List.length_map];exact zi4 y 7
  omega
 ·unfold evL;exact zeo _ _ _ _
 ·unfold evL;dsimp only;split
  ·exact waW (waJ 1) dQ
  ·exact zeo _ _ _ _
 ·unfold evL;exact zeo _ _ _ _
 ·unfold evL;exact zeo _ _ _ _
 ·unfold evL;exact zeo _ _ _ _
def zky:CalV:=⟨[],[⟨0,0,0,1⟩],[⟨1,2,0,0⟩],[⟨1,30,0,0⟩],false,[⟨1,0,0,0⟩],[⟨1,0,0,0⟩],[⟨1,0,0,0⟩]⟩
def zdM (c:CalV) (P:Int->Nat->Bool):Prop:=zf0 c=(7,0)/\zvc (zaE [evC c]) P
def zkz (P:Int->Nat->Bool) (r:Option CalV):Prop:=
 (¬zls P/\r=some zky)\/(zls P/\zdM (evP P false) P/\r=some (evP P false))\/(zls P/\¬zdM (evP P false) P/\zdM (evP P true) P/\r=some (evP P true))\/(zls P/\¬zdM (evP P false) P/\¬zdM (evP P true) P/\r=none)
theorem zqX (c:CalV) (n:Int) (s:Nat):zaE [evC c] n s=zh8 c (n * 86400+(s:Int)):=zvz c _
theorem zqY (k lo hi n:Int) (h:inB [⟨1,k,0,0⟩] lo hi n=true):n=k:=by
 unfold inB zkg at h;simp only[List.any_cons,List.any_nil,Bool.or_false,waN] at h;have h2:=waA h.2;simp only[bF,bT,bS] at h2;have a:k<=n:=h2.1;have b:n<=k:=h2.2.1;omega
theorem zkA (n:Int) (s:Nat) (h0:0<=n) (h1:n<146097) (hs:s<86400):zaE [evC zky] n s=false:=by
 rw[zqX,Bool.eq_false_iff];intro h;unfold zh8 at h;rw[waN] at h;have h:=h.2;unfold zm2 at h;simp only[waN] at h;have hm:=zqY _ _ _ _ h.2.1;have hd:=zqY _ _ _ _ h.2.2.1;have e:(n * 86400+(s:Int)) / 86400=n:=by omega
 have hm:mD ((n * 86400+(s:Int)) / 86400)=2:=hm;have hd:dD ((n * 86400+(s:Int)) / 86400)=30:=hd;rw[e] at hm hd;have hb:=zbt h0 h1;have hl:zbk (yD n) (mD n)<=29:=by
  rw[hm];unfold zbk zrw;(repeat' split)<;>first|omega|decide
 omega
theorem zlQ {P:Int->Nat->Bool} (h:¬zls P):zdM zky P:=⟨by kernel_rfl,fun n s h0 h1 hs=>by
 rw[zkA n s h0 h1 hs];cases hp:P n s with
 |false=>rfl
 |true=>exact absurd ⟨n,s,h0,h1,hs,hp⟩ h⟩
theorem zkz.means {P:Int->Nat->Bool} {c:CalV} (h:zkz P (some c)):zdM c P:=by
 rcases h with ⟨h,e⟩|⟨_,h,e⟩|⟨_,_,h,e⟩|⟨_,_,_,e⟩
 ·cases e;exact zlQ h
 ·cases e;exact h
 ·cases e;exact h
 ·cases e
def zdN (P:Int->Nat->Bool):Prop:=∀n s,0<=n->n<146097->s<86400->P n s=decide (dD n=1/\s=0)
section
variable {P : Int -> Nat -> Bool}
theorem zep (h:zdN P) {n:Int} {s:Nat}:zeG P n s↔0<=n/\n<146097/\dD n=1/\s=0:=by
 constructor
 ·rintro ⟨a,b,c,d⟩;rw[h n s a b c,waM] at d;exact⟨a,b,d⟩
 ·rintro ⟨a,b,c,rfl⟩;exact⟨a,b,by decide,by rw[h n 0 a b (by decide)];exact waP ⟨c,rfl⟩⟩
theorem zh9 (h:zdN P) {n:Int}:zc8 P n↔0<=n/\n<146097/\dD n=1:=by
 constructor
 ·rintro ⟨s,hl⟩;obtain⟨a,b,c,_⟩:=(zep h).1 hl;exact⟨a,b,c⟩
 ·rintro ⟨a,b,c⟩;exact⟨0,(zep h).2 ⟨a,b,c,rfl⟩⟩
theorem zlR:∀k,k<64->((1:Nat).testBit k=true↔k=0):=by decide
theorem zw3 (h:zdN P):zsJ P=1:=zg8 dQ fun k hk=>by
 rw[zlR k hk];constructor
 ·rintro ⟨n,s,hl,e⟩;obtain⟨_,_,_,rfl⟩:=(zep h).1 hl;exact e.symm
 ·rintro rfl;exact⟨0,0,(zep h).2 ⟨by decide,by decide,by decide+kernel,rfl⟩,rfl⟩
theorem zw4 (h:zdN P):zqp P=1:=zg8 dQ fun k hk=>by
 rw[zlR k hk];constructor
 ·rintro ⟨n,s,hl,e⟩;obtain⟨_,_,_,rfl⟩:=(zep h).1 hl;exact e.symm
 ·rintro rfl;exact⟨0,0,(zep h).2 ⟨by decide,by decide,by decide+kernel,rfl⟩,rfl⟩
theorem zvD (h:zdN P):zg0 P=1:=zg8 dQ fun k hk=>by
 rw[zlR k hk];constructor
 ·rintro ⟨n,s,hl,e⟩;obtain⟨_,_,_,rfl⟩:=(zep h).1 hl;exact e.symm
 ·rintro rfl;exact⟨0,0,(zep h).2 ⟨by decide,by decide,by decide+kernel,rfl⟩,rfl⟩
theorem zw5 (h:zdN P):zki P=8190:=zg8 dQ fun k hk=>by
 have hb:∀k,k<64->((8190:Nat).testBit k=decide (1<=k/\k<=12)):=by decide
 rw[hb k hk,waM];constructor
 ·rintro ⟨n,⟨s,g⟩,e⟩;have:=zbt g.1 g.2.1;omega
 ·intro g;have hd:∀k:Nat,k<13->1<=k->∃n:Nat,n<366/\mD (n:Int)=(k:Int)/\dD (n:Int)=1:=by decide+kernel
  obtain⟨n,h1,h2,h3⟩:=hd k oQ g.1;exact⟨n,(zh9 h).2 ⟨by omega,by omega,h3⟩,h2⟩
theorem zw6 (h:zdN P):zn1 P=2:=zg8 dQ fun k hk=>by
 have hb:∀k,k<64->((2:Nat).testBit k=true↔k=1):=by decide
 rw[hb k hk];constructor
 ·rintro ⟨n,hl,e⟩;have:=((zh9 h).1 hl).2.2;omega
 ·rintro rfl;exact⟨0,(zh9 h).2 ⟨by decide,by decide,by decide+kernel⟩,by decide+kernel⟩
theorem fm_wk (h:zdN P):wkF P=254:=zg8 dQ fun k hk=>by
 have hb:∀k,k<64->((254:Nat).testBit k=decide (1<=k/\k<=7)):=by decide
 rw[hb k hk,waM];constructor
 ·rintro ⟨n,⟨s,g⟩,e⟩;have:=zfP n;omega
 ·intro g;have hd:∀k:Nat,k<8->1<=k->∃n:Nat,n<366/\wdD (n:Int)=(k:Int)/\dD (n:Int)=1:=by decide+kernel
  obtain⟨n,h1,h2,h3⟩:=hd k oQ g.1;exact⟨n,(zh9 h).2 ⟨by omega,by omega,h3⟩,h2⟩
def ztj (i:Nat):Nat:=if i<6 then 18446744073709551615 else 65535
theorem fm_yr (h:zdN P) (i:Nat) (hi:i<7):yrF P i=ztj i:=zg8 (by unfold ztj;split<;>decide) fun k hk=>by
 have hb:∀i,i<7->∀k,k<64->((ztj i).testBit k=decide (64 * i+k<400)):=by decide+kernel
 rw[hb i hi k hk,waM];constructor
 ·rintro ⟨n,⟨s,g⟩,e⟩;have:=zc7 g.1 g.2.1;omega
 ·intro g;have hd:∀k:Nat,k<400->0<=jan (1970+(k:Int))/\jan (1970+(k:Int))<146097/\dD (jan (1970+(k:Int)))=1/\yD (jan (1970+(k:Int)))=1970+(k:Int):=by decide+kernel
  obtain⟨h1,h2,h3,h4⟩:=hd (64 * i+k) g;exact⟨_,(zh9 h).2 ⟨h1,h2,h3⟩,by rw[h4];push_cast;omega⟩
theorem zw7 (h:zdN P):zls P:=⟨0,(zh9 h).2 ⟨by decide,by decide,by decide+kernel⟩⟩
def evM:CalV:=⟨[],[⟨0,0,0,1⟩],[⟨0,0,0,1⟩],[⟨1,1,0,0⟩],false,[⟨1,0,0,0⟩],[⟨1,0,0,0⟩],[⟨1,0,0,0⟩]⟩
theorem zkB {y z:Nat->Nat} (h:∀i,i<7->y i=z i):zbM y=zbM z:=by
 unfold zbM wyL;congr 1;rw[show List.range 7=[0,1,2,3,4,5,6] from rfl]
 simp only[List.flatMap_cons,List.flatMap_nil,h 0 (by decide),h 1 (by decide),h 2 (by decide),h 3 (by decide),h 4 (by decide),h 5 (by decide),h 6 (by decide)]
theorem fm_ev (h:zdN P):evP P false=evM:=by
 unfold evP evL;rw[zw3 h,zw4 h,zvD h,zw5 h,zw6 h,fm_wk h,zkB (fm_yr h)];have e0:zf2 254=[]:=by decide+kernel
 have e1:zaj 1970 2369 (zbM ztj) true=[⟨0,0,0,1⟩]:=by decide+kernel
 have e2:zaj 1 12 (zb7 8190) true=[⟨0,0,0,1⟩]:=by decide+kernel
 have e3:zoD 8190 2=false:=by decide+kernel
 have e4:zaj 1 31 (zb7 2) false=[⟨1,1,0,0⟩]:=by decide+kernel
 have e5:zaj 0 23 (zb7 1) true=[⟨1,0,0,0⟩]:=by decide+kernel
 have e6:zaj 0 59 (zb7 1) true=[⟨1,0,0,0⟩]:=by decide+kernel
 rw[e0,e1,e2,e3,e5,e6];simp only[Bool.false_eq_true,if_false,Bool.not_false,Bool.true_and];rw[e4];rfl
theorem zlS:zf0 evM=(7,0):=by kernel_rfl
theorem zkC:zdN (zaE [evC evM]):=fun n s h0 h1 hs=>by
 rw[zqX];unfold zh8;have hi:inC (n * 86400+(s:Int))=true:=waP ⟨by omega,by omega⟩
 rw[hi,Bool.true_and];unfold zm2;have e:(n * 86400+(s:Int)) / 86400=n:=by omega
 have e2:(n * 86400+(s:Int))%86400=(s:Int):=by omega
 have d:=zbt h0 h1;obtain⟨_,_,_,_,y0,y1⟩:=zc7 h0 h1;have star:∀lo hi k:Int,0<=lo->hi<=9999->lo<=k->k<=hi->inB [⟨0,0,0,1⟩] lo hi k=true:=fun lo hi k a b c f=>by
  unfold inB zkg;have hm:zct ⟨0,0,0,1⟩ lo hi=true:=waP ⟨a,by omega,b,.inl ⟨rfl,rfl,rfl,by decide,by decide⟩⟩
  simp only[List.any_cons,List.any_nil,Bool.or_false,hm,Bool.true_and,zuc,bF,bT,bS,waM];simp;omega
 have one:∀j lo hi k:Int,0<=lo->hi<=9999->lo<=j->j<=hi->inB [⟨1,j,0,0⟩] lo hi k=decide (k=j):=fun j lo hi k a b c f=>by
  rw[waQ,waM];constructor
  ·exact zqY _ _ _ _
  ·rintro rfl;unfold inB zkg;have hm:zct ⟨1,k,0,0⟩ lo hi=true:=waP ⟨a,by omega,b,.inr (.inl ⟨rfl,c,f,rfl,rfl⟩)⟩
   simp only[List.any_cons,List.any_nil,Bool.or_false,hm,Bool.true_and,zuc,bF,bT,bS,waM];simp
 show(inB [⟨0,0,0,1⟩] 1970 2369 (yD _)&&(inB [⟨0,0,0,1⟩] 1 12 (mD _)&&(inB [⟨1,1,0,0⟩] 1 31 (dD _)&&(_&&(inB [⟨1,0,0,0⟩] 0 23 (_%86400 / 3600)&&(inB [⟨1,0,0,0⟩] 0 59 (_%86400 / 60%60)&&inB [⟨1,0,0,0⟩] 0 59 (_%86400%60)))))))=_;rw[e,e2,star _ _ _ (by decide) (by decide) y0 y1,star _ _ _ (by decide) (by decide) d.2.2.1 d.2.2.2.1,one _ _ _ _ (by decide) (by decide) (by decide) (by decide),one _ _ _ _ (by decide) (by decide) (by decide) (by decide),one _ _ _ _ (by decide) (by decide) (by decide) (by decide),one _ _ _ _ (by decide) (by decide) (by decide) (by decide)]
 show(true&&(true&&(decide (dD n=1)&&(true&&(_&&(_&&_))))))=_;rw[Bool.true_and,Bool.true_and,Bool.true_and,waQ];simp only[waN,waM];constructor
 ·rintro ⟨a,b,c,f⟩;exact⟨a,by omega⟩
 ·rintro ⟨a,rfl⟩;exact⟨a,by decide,by decide,by decide⟩
theorem zkD:zdM evM (zaE [evC evM]):=⟨zlS,fun _ _ _ _ _=>rfl⟩
theorem ztk {r:Option CalV} (h:zkz (zaE [evC evM]) r):r=some evM:=by
 have e:=fm_ev zkC;rcases h with ⟨h,_⟩|⟨_,_,h⟩|⟨_,h,_⟩|⟨_,h,_⟩
 ·exact absurd (zw7 zkC) h
 ·rw[h,e]
 ·rw[e] at h;exact absurd zkD h
 ·rw[e] at h;exact absurd zkD h
end
end Go.Proofs.YtllcdbgjeidlkaaGreatDoor
namespace Go.Proofs.YtllcdbgjeidlkaaGreatDoor
open Go.Proofs.Tryz
open Go.RowKit
open Go.Maps
theorem zvE (lo hi:Int) (m:Nat) (hm:m<18446744073709551616) (w:World) (hw:Tz w):Calls prog 34 #[.int .i64 lo,.int .i64 hi,.int .u64 m] w (zdV (zaj lo hi (zb7 m) true) w):=by
 have HL:=waV (zh3 m hm w hw);have HO:=waV (fun A n c V (h:zaJ V A n (zb7 m)) hnc hc=>zfu lo hi A n c (zb7 m) true V h (by have:=h.1;have:=ziU m;omega) hnc hc)
 clear hm hw;go_enter func34,ntmps34;go_wp2_with fail;refine HL.out.mono ?_;rintro e V1 ⟨A0,n0,c0,rfl,hr,hnc,hcm,hq,hn⟩;have HOr:=waV (HO.out A0 n0 c0 V1 hr hnc hcm);clear hr hnc hcm hn HO HL;go_wp2_with fail;refine HOr.out.mono ?_;rintro e V2 ⟨v0,rfl,hov,hq2⟩;have O0:=waV (zar hov hq.size);clear hov HOr;go_wp2;go_ret;exact⟨v0,rfl,O0.out,zag hq hq2 hq.size⟩
theorem zm7 (w:World):Calls prog 40 #[] w (zdV [⟨0,0,0,1⟩] w):=by
 go_enter func40,ntmps40;go_wp2;go_ret;refine⟨_,rfl,?_,by exact zaB⟩
 exact zar (zig w #[.int .i64 0,.int .i64 0,.int .i64 0,.int .i64 1] 64 4 1 dQ rfl) (waJ _)
theorem ztl (k:Int) (w:World):Calls prog 49 #[.int .i64 k] w (zdV [⟨1,k,0,0⟩] w):=by
 go_enter func49,ntmps49;go_wp2;go_ret;refine⟨_,rfl,?_,by exact zaB⟩
 exact zar (zig w #[.int .i64 1,.int .i64 k,.int .i64 0,.int .i64 0] 64 4 1 dQ rfl) (waJ _)
def zw8 (c:CalV) (w:World) (e:Ending) (w':World):Prop:=∃v,e=.returned v/\zbZ w' w.heap.size v c/\Below w.heap.size w w'
theorem zqZ (w:World):Calls prog 17 #[] w (zw8 zky w):=by
 have HS:=waV (fun W=>zm7 W)
 have HO:=waV (fun k W=>ztl k W)
 go_enter func17,ntmps17;go_wp2_with fail;have hb0:Below w.heap.size w (w.alloc (.cells zcN 26)):=(waC _ w).alloc (waJ _) _;have hO:zbY (w.alloc (.cells zcN 26)) w.heap.size zcN:=zbY.new _ _;generalize (w.alloc (.cells _ 26))=V0 at *;refine(HS.out _).mono ?_;rintro e V1 ⟨v1,rfl,o1,hq⟩;have O1:=waV (zar o1 hb0.size);replace hO:=hO.below hq;have hb1:=zag hb0 hq hb0.size;clear o1 hq hb0;go_wp2_with fail;refine(HO.out 2 _).mono ?_;rintro e V2 ⟨v2,rfl,o2,hq⟩;have O2:=waV (zar o2 hb1.size);replace O1:=waV (zak O1.out hq);replace hO:=hO.below hq;have hb2:=zag hb1 hq hb1.size;clear o2 hq hb1;go_wp2_with fail;refine(HO.out 30 _).mono ?_;rintro e V3 ⟨v3,rfl,o3,hq⟩;have O3:=waV (zar o3 hb2.size);replace O1:=waV (zak O1.out hq);replace O2:=waV (zak O2.out hq);replace hO:=hO.below hq;have hb3:=zag hb2 hq hb2.size;clear o3 hq hb2;go_wp2_with fail;refine(HO.out 0 _).mono ?_;rintro e V4 ⟨v5,rfl,o5,hq⟩;have O5:=waV (zar o5 hb3.size);replace O1:=waV (zak O1.out hq);replace O2:=waV (zak O2.out hq);replace O3:=waV (zak O3.out hq);replace hO:=hO.below hq;have hb4:=zag hb3 hq hb3.size;clear o5 hq hb3;go_wp2_with fail;refine(HO.out 0 _).mono ?_;rintro e V5 ⟨v6,rfl,o6,hq⟩;have O6:=waV (zar o6 hb4.size);replace O1:=waV (zak O1.out hq);replace O2:=waV (zak O2.out hq);replace O3:=waV (zak O3.out hq);replace O5:=waV (zak O5.out hq);replace hO:=hO.below hq;have hb5:=zag hb4 hq hb4.size;clear o6 hq hb4;go_wp2_with fail;refine(HO.out 0 _).mono ?_;rintro e V6 ⟨v7,rfl,o7,hq⟩;have O7:=waV (zar o7 hb5.size);replace O1:=waV (zak O1.out hq);replace O2:=waV (zak O2.out hq);replace O3:=waV (zak O3.out hq);replace O5:=waV (zak O5.out hq);replace O6:=waV (zak O6.out hq);replace hO:=hO.below hq;have hb6:=zag hb5 hq hb5.size;clear o7 hq hb5;have HEv:Hid (zbZ V6 w.heap.size (.agg #[.slice none 0 0,v1,v2,v3,.bool false,v5,v6,v7]) zky):=⟨_,_,_,_,_,_,_,rfl,⟨World.ownsRow_nil _ _ _ _,O1.out,O2.out,O3.out⟩,O5.out,O6.out,O7.out⟩;obtain⟨S1,d1,rfl⟩:=zaO O1.out;obtain⟨S2,d2,rfl⟩:=zaO O2.out;obtain⟨S3,d3,rfl⟩:=zaO O3.out;obtain⟨S5,d5,rfl⟩:=zaO O5.out;obtain⟨S6,d6,rfl⟩:=zaO O6.out;obtain⟨S7,d7,rfl⟩:=zaO O7.out;have HCa:=waV hO;clear O1 O2 O3 O5 O6 O7 hO
 go_wp2_with (first|(refine za8 rfl _ _ rfl _ HCa.out rfl rfl rfl (by kernel_rfl) (by kernel_rfl) ?_;intro V8 hc8 hr8)|fail)
 refine waY (zg7 rfl rfl hc8 kQ) rfl ?_;exact⟨_,rfl,HEv.out.rls HCa.out hr8,hr8.to_below' hb6 (waJ _)⟩
def zum (c:CalV) (P:Int->Nat->Bool) (w:World) (e:Ending) (w':World):Prop:=Below w.heap.size w w'/\∃b:Bool,e=.returned (.bool b)/\(b=true↔zdM c P)
theorem ztm {c:CalV} {L:List Cl}:zsA [evC c] L↔zvc (zaE [evC c]) (zaE L):=⟨fun h n s h0 h1 hs=>h n h0 h1 s hs,fun h n h0 h1 s hs=>h n s h0 h1 hs⟩
theorem zw9 (c:CalV):zdw [evC c]=true:=by unfold zdw;simp[zm5]
theorem zq0 (c:CalV):∀k,k∈[evC c]->zbH k/\k.s<=9223372036854775807:=fun k hk=>by rw[wbC.1 hk];exact⟨zvy c,show(1:Int)<=9223372036854775807 by decide⟩
theorem zq1 (c:CalV):zbC 1 [evC c]=0:=by unfold zbC;rw[if_neg (by decide),if_pos (zw9 c)]
theorem zoo (A:Nat->Option Addr) (n m:Nat->Nat) (c:CalV) (A2:Option Addr) (n2 c2:Nat) (L:List Cl) (W:World) (hA:zi2 W A n c) (hn:∀j,j<8->j≠4->n j<=100000)
 (hB:zbd W A2 n2 L) (hn2:n2<=8) (hnil2:A2=none->n2=0) (hbit2:∀c,c∈L->zbH c/\c.s<=9223372036854775807) (hset:zdw L=true) (hw:Tz W):
 Calls prog 18 #[evV A n m c.back,.slice A2 n2 c2] W (zum c (zaE L) W):=by
 have HOk:=waV (fun h V (hV:Below W.heap.size W V)=>zg9 A n m c V (hA.below hV) hn h)
 have HBad:=waV (fun h V (hV:Below W.heap.size W V)=>zoj A n m c V (hA.below hV) (fun k hk=>by have:=hn (zbx k) (by unfold zbx;split<;>omega) (by unfold zbx;split<;>omega);omega) h)
 have HEq:=waV (fun b V (hV:Below W.heap.size W V) (hA1:zbd V (some ⟨b,0,none⟩) 1 [evC c])=>zhV (some ⟨b,0,none⟩) A2 1 n2 1 c2 [evC c] L V hA1 dQ (fun h=>(by cases h)) (zq0 c) (hB.below hV (waJ _)) oQ hnil2 hbit2 (hw.below hV))
 have he2:zbC n2 L=0:=by unfold zbC;rw[if_neg (by omega),if_pos hset]
 have HE:Hid (erE (zbC 1 [evC c]) (zbC n2 L)=0):=by show _=_;rw[zq1,he2];rfl
 have HOr:=waV (zvA c);clear hA hn hB hn2 hnil2 hbit2 hset hw he2;generalize hbk:c.back=bk at *;clear hbk;unfold evV at *;go_enter func18,ntmps18;go_wp2_with fail;have hb0:Below W.heap.size W (W.alloc (.cells #[.slice (A 0) (n 0) (m 0),.slice (A 1) (n 1) (m 1),.slice (A 2) (n 2) (m 2),.slice (A 3) (n 3) (m 3),.bool bk,.slice (A 5) (n 5) (m 5),.slice (A 6) (n 6) (m 6),.slice (A 7) (n 7) (m 7)] 26)):=(waC _ W).alloc (waJ _) _;generalize W.alloc (.cells #[.slice (A 0) (n 0) (m 0),.slice (A 1) (n 1) (m 1),.slice (A 2) (n 2) (m 2),.slice (A 3) (n 3) (m 3),.bool bk,.slice (A 5) (n 5) (m 5),.slice (A 6) (n 6) (m 6),.slice (A 7) (n 7) (m 7)] 26)=V0 at *;rcases HOr.out with hc|hc
 ·refine(HOk.out hc _ hb0).mono ?_;rintro e w1 ⟨b,rfl,hr,hb1⟩;have hb01:=hb0.trans (hb1.mono hb0.size);have HQ:=waV (HEq.out b _ hb01 hr);have HC:=waV hc;clear hr hb1 hb0 hc HOr HOk HBad HEq;go_wp2_with fail;refine HQ.out.mono ?_;rintro e w2 ⟨hb2,y,f,t,rfl,hy⟩;have HY:=waV (hy HE.out);rw[HE.out];clear hy HQ;go_wp2_with fail;go_ret;refine⟨(hb01.trans (hb2.mono hb01.size)).alloc (waW hb01.size hb2.size) _,y,rfl,HY.out.trans (ztm.trans ⟨fun h=>⟨HC.out,h⟩,fun h=>h.2⟩)⟩
 ·refine(HBad.out hc _ hb0).mono ?_;rintro e w1 ⟨rfl,hb1⟩;have hne:((zf0 c).2==0)=false:=by rw[wbE];exact hc
  have HC:Hid (¬zdM c (zaE L)):=fun h=>hc (congrArg Prod.snd h.1)
  clear hc HOr HOk HBad HEq;generalize (zf0 c).2=k at *;go_wp2_with fail;go_ret;exact⟨hb0.trans (hb1.mono hb0.size),false,rfl,fun h=>(by cases h),fun h=>absurd h HC.out⟩
end Go.Proofs.YtllcdbgjeidlkaaGreatDoor
namespace Go.Proofs.YtllcdbgjeidlkaaGreatDoor
open Go.Proofs.Tryz
open Go.RowKit
attribute [local go_sem] Oper.semAt_some
def yrV (l:List Nat):List Value:=(l.map fun(k:Nat)=>1970+(k:Int)).flatMap zcS
theorem ztn (l:List Nat) (x:Nat):yrV (l++[x])=yrV l++[.int .i64 (1970+(x:Int))]:=by
 unfold yrV;rw[List.map_append,List.flatMap_append];rfl
def zxa (y:Nat->Nat) (w:World) (e:Ending) (w':World):Prop:=∃A n c,e=.returned (.slice A n c)/\zaJ w' A n (zbM y)/\n<=c/\c<=maxLen/\Below w.heap.size w w'/\n=(zbM y).length
theorem zop (y:Nat->Nat):(zbM y).length<=448:=by unfold zbM;rw[List.length_map];exact zi4 y 7
theorem zeq {N B n:Nat} {v:Value} {xs:List Value} {X Y:World} {t:TypeId} {k:Nat} (h:X.ownsRow B t k v n xs) (hr:Rl 0 0 N X Y):Y.ownsRow B t k v n xs:=by
 refine⟨h.1,?_⟩;rcases h.2 with h|⟨g,cap,cur,h1,h2,h3,h4⟩
 ·exact .inl h
 ·exact .inr ⟨g,cap,cur,h1,h2,hr.block g _ h3 (.inr (waK _)) (.inr rfl),h4⟩
theorem zdH {B n:Nat} {v:Value} {xs:List Value} {X:World} {t:TypeId} {k:Nat} (h:X.ownsRow B t k v n xs):∀b,v.ownBlock=some b->B<=b/\b<X.heap.size:=fun b hb=>by
 rcases h.2 with ⟨rfl,_⟩|⟨g,cap,cur,rfl,h2,h3,_⟩
 ·cases hb
 ·obtain rfl:g=b:=by simpa[Value.ownBlock] using hb
  exact⟨h2,(waL.1 h3).1⟩
theorem zlT {S:Nat->Prop} {B n:Nat} {v:Value} {xs:List Value} {X Y:World} {t:TypeId} {k:Nat} (h:X.ownsRow B t k v n xs) (hr:RlS S X Y) (hS:∀b,v.ownBlock=some b->¬S b):Y.ownsRow B t k v n xs:=by
 refine⟨h.1,?_⟩;rcases h.2 with h|⟨g,cap,cur,h1,h2,h3,h4⟩
 ·exact .inl h
 ·exact .inr ⟨g,cap,cur,h1,h2,(hr.block g (waL.1 h3).1 (hS g (by rw[h1];rfl))).trans h3,h4⟩
theorem zi8 {B n:Nat} {v:Value} {xs:List Value} {X:World} {t:TypeId} {k:Nat} (h:X.ownsRow B t k v n xs) {b:Nat} {o:Obj} (hb:v.ownBlock=some b) (ho:X.heap[b]?=some o):o.isCells=true:=by
 rcases h.2 with ⟨rfl,_⟩|⟨g,cap,cur,rfl,h2,h3,_⟩
 ·cases hb
 ·obtain rfl:g=b:=by simpa[Value.ownBlock] using hb
  rw[h3] at ho;cases ho;rfl
theorem zha {V V4:World} {o:Obj} {box B0 sz n n':Nat} {tb te:TypeId} {v v':Value} {xs xs':List Value} (hv:Boxed V box tb v) (hrow:V.ownsRow B0 te sz v n xs) (hg:(V.alloc o).grownBy V4 v.ownBlock) (hown:V4.ownsRow B0 te sz v' n' xs') (hblk:v'.ownBlock=v.ownBlock\/v'.ownBlock=some (V.alloc o).heap.size) (hbox:box<B0) (hB0:B0<=V.heap.size):
 Boxed V4 box tb v/\Boxed (V4.setCell ⟨box,0,none⟩ v') box tb v'/\(V4.setCell ⟨box,0,none⟩ v').ownsRow B0 te sz v' n' xs'/\KpA box tb V (V4.setCell ⟨box,0,none⟩ v')/\KeepsFrom B0 V (V4.setCell ⟨box,0,none⟩ v')/\(∀A,A<=box->Below A V (V4.setCell ⟨box,0,none⟩ v'))/\RlS (fun k=>k=box\/v.ownBlock=some k) V (V4.setCell ⟨box,0,none⟩ v'):=by
 have hrb:=zdH hrow;have hnb:=zdH hown;have ha:(V.alloc o).heap.size=V.heap.size+1:=by simp
 have same:∀k,k<V.heap.size->k≠box->v.ownBlock≠some k->(V4.setCell ⟨box,0,none⟩ v').heap[k]?=V.heap[k]? :=fun k h1 h2 h3=>by
  rw[wbJ _ _ _ _ h2,hg.block k (by omega) (fun e=>h3 e.symm),Below.heap_alloc _ _ _ h1]
 have hz:V.heap.size<=(V4.setCell ⟨box,0,none⟩ v').heap.size:=by
  have h1:=hg.size;have h2:=(KeepsWalks.setCell V4 ⟨box,0,none⟩ v').size;omega
 have h4:Boxed V4 box tb v:=by
  show V4.heap[box]?=_;rw[hg.block box (by omega) (fun e=>by have:=(hrb box e.symm).1;omega),Below.heap_alloc _ _ _ (by omega)]
  exact hv
 refine⟨h4,Boxed.set _ h4,zlT (S:=(·=box)) hown ((RlS.refl _ V4).set _ _ rfl) (fun b hb e=>by have:=(hnb b hb).1;have:b=box:=e;omega),⟨hz,fun v0 hv0 _=>?_⟩,⟨hz,fun i q h1 h2 h3=>?_⟩,fun A hA=>⟨hg.os,hg.tape,hg.output,hz,fun k hk=>same k oQ oQ (fun e=>by have:=(hrb k e).1;omega)⟩,⟨hg.os,hg.tape,hg.output,hz,fun k hk hS=>same k hk (fun e=>hS (.inl e)) (fun e=>hS (.inr e))⟩⟩
 ·obtain rfl:v0=v:=by
   have:=(show V.heap[box]?=_ from hv0).symm.trans hv
   injection this with this
   injection this with this
   injection this with this
   injection this
  refine⟨fun k q h1 h2 h3 h4=>(same k (waL.1 h1).1 h3 h4).trans h1,v',Boxed.set _ h4,fun k hk=>⟨?_,?_⟩⟩
  ·have h1:=(hnb k hk).2;have h2:=(KeepsWalks.setCell V4 ⟨box,0,none⟩ v').size;omega
  ·rcases hblk with e|e
   ·exact .inl (e▸hk)
   ·rw[hk] at e;injection e with e;right;omega
 ·refine(same i (waL.1 h2).1 oQ (fun e=>?_)).trans h2
  have:=zi8 hrow e h2;rw[h3] at this;cases this
theorem zoq (g:Nat->Value) (y:Nat->Nat) (ey:∀i,i<7->g (7+i)=.int .u64 (y i:Nat)) (hy:∀j,y j<18446744073709551616) (hwn:∀j,j<7->ziA (fun i=>(y i:Int)) j=(y j:Int)) (w:World) (hw:Tz w):
 Calls prog 38 #[.agg (za7 g)] w (zxa y w):=by
 have eg:∀args w,(callFunc 158 args).run prog w=.ok (.enter 158 args) w:=enters_of func158 kQ rfl;obtain⟨i0,hi,hz0',hz1',hz2⟩:=info_parts zf5;have HA:=waV (fun W=>wbP (n:=19).2 (zsZ y hwn W))
 have HSq:=waV (fun b hb hn=>zqK (w.heap.size+1) 87 19 b y hy hb hn)
 have HW:=waV hw;have HLn:=waV (zi4 y 7);obtain⟨cs,hcs⟩:∃cs,za7 g=cs:=⟨_,rfl⟩;have E0:cs[7]?=some (.int .u64 (y 0:Nat)):=by rw[<-hcs,<-ey 0 (by decide)];rfl
 have E1:cs[8]?=some (.int .u64 (y 1:Nat)):=by rw[<-hcs,<-ey 1 (by decide)];rfl
 have E2:cs[9]?=some (.int .u64 (y 2:Nat)):=by rw[<-hcs,<-ey 2 (by decide)];rfl
 have E3:cs[10]?=some (.int .u64 (y 3:Nat)):=by rw[<-hcs,<-ey 3 (by decide)];rfl
 have E4:cs[11]?=some (.int .u64 (y 4:Nat)):=by rw[<-hcs,<-ey 4 (by decide)];rfl
 have E5:cs[12]?=some (.int .u64 (y 5:Nat)):=by rw[<-hcs,<-ey 5 (by decide)];rfl
 have E6:cs[13]?=some (.int .u64 (y 6:Nat)):=by rw[<-hcs,<-ey 6 (by decide)];rfl
 have htz:0<w.heap.size:=waR w _ (hw 0 dQ);rw[hcs];clear hcs ey hw hy hwn;refine(wbP (n:=20)).1 ?_;refine callsIn_of_wp_marks func38 rfl trivial ?_ rfl;simp only[ntmps38,wbQ,waG,List.length_nil,Nat.reduceAdd,Nat.reduceSub,wbR,wbS,List.push_toArray,List.append_toArray,wbN,wbT]
 gi_wp2_with fail
 refine⟨trivial,?_⟩;have hb0:Below w.heap.size w ((w.alloc (.cells cs 43)).alloc (.cells #[.slice none 0 0] 87)):=((waC _ w).alloc (waJ _) _).alloc (by simp) _
 have hz0:((w.alloc (.cells cs 43)).alloc (.cells #[.slice none 0 0] 87)).heap.size=w.heap.size+2:=by simp
 have x0:Boxed ((w.alloc (.cells cs 43)).alloc (.cells #[.slice none 0 0] 87)) (w.heap.size+1) 87 (.slice none 0 0):=by
  have h:=Boxed.new (w.alloc (.cells cs 43)) 87 (.slice none 0 0)
  rwa [World.size_alloc] at h
 generalize ((w.alloc (.cells cs 43)).alloc (.cells #[.slice none 0 0] 87))=W0 at *;refine(HA.out _).mono ?_;rintro e w1 ⟨bA,rfl,hlA,cA,hq1⟩;have x1:=zaH hq1 x0;have hb1:Below w.heap.size w w1:=zag hb0 hq1 hb0.size;have hT1:=HW.out.below hb1;have hz1:=hq1.size;have hbA:=waR w1 _ (cA 0 dQ);have hseq:=HSq.out bA oQ oQ;clear x0 hb0 HA E0 E1 E2 E3 E4 E5 E6
 gi_wp2_with fail
 obtain⟨wd,hwd⟩:∃wd,wd=w7A y:=⟨_,rfl⟩;refine za0 rfl dQ (gf:=158) (lb:=#[.pointer (some ⟨bA,0,none⟩)]) rfl trivial eg hseq
  (fun h k=>h.trans k) (fun V l o o' _ hl ho _=>KpA.putObj o' hl ho) (fun o o'=>?st) (fun _=>rfl) (waK _)
  (fun pre V=>(∃v,Boxed V (w.heap.size+1) 87 v/\V.ownsRow w1.heap.size 3 1 v pre.length (yrV pre))/\w1.heap.size<=V.heap.size/\Below w.heap.size w V)
  (fun c pre V=>False)
  (fun pre A B hs hr=>by
    obtain⟨⟨v,h1,h2⟩,h3,h4⟩:=hs;exact⟨⟨v,hr.block _ _ h1 (.inr (waK _)) (.inr rfl),zeq h2 hr⟩,waW h3 hr.size,za1 h4 hr (.inr rfl) oQ (waJ _)⟩)
  (fun c pre A B hs hr=>hs)
  ⟨⟨_,x1,World.ownsRow_nil _ _ _ _⟩,waJ _,hb1⟩
  (fun x a' _=>a'={tmps:=#[.agg cs,.pointer (some ⟨w.heap.size,0,none⟩),.slice none 0 0,.pointer (some ⟨w.heap.size+1,0,none⟩),.int .i64 (x:Int),.pointer (some ⟨w.heap.size,7,none⟩),.agg (w7A y),.func (.func 158) #[] #[.pointer (some ⟨bA,0,none⟩)],.int .i64 (x:Int),undef,undef,undef,undef,undef,undef],defers:=[]})
  (fun _ _ _ _ hs _=>hs) (fun _ _ _ hs _=>hs)
  ?assign ?body ?done ?stop
 case st=>
  have hb:Below w1.heap.size w1 ((w1.alloc o).alloc o'):=((waC _ w1).alloc (waJ _) _).alloc (by simp) _
  exact⟨⟨_,zaH hb x1,fun k e=>by cases e⟩,fun j hj=>((zac hb).1 _ _ (waR w1 _ (cA j hj))).trans (cA j hj),hT1.below hb⟩
 case assign=>
  rintro l1 pre x V K hi he hK
  gi_wp2_with fail
  exact hK _ _ (KeepsFrom.refl _ _) (KpA.refl _ _ _) (Rl.refl _ _ _ _) hi rfl
 case body=>
  rintro l1 pre x a' V hl1 _ ⟨⟨v,hv,hrow⟩,hzV,hB⟩ hx rfl hlt;have hc:=hv.cell;have hx2:wrap64 (1970+(x:Int))=1970+(x:Int):=by unfold wrap64;omega
  gi_wp2_with (gi_at_builtin;refine wpListIn_append_own_at _ rfl _ _ 87 rfl w1.heap.size 3 i0 (.int .i64 0) 1 8 underlying87 hi hz0' hz1' hz2 rfl dQ _ _ _ rfl (hrow.alloc _) ⟨V.heap.size,0,none⟩ 1 1 [.int .i64 (1970+(x:Int))] rfl rfl (cell_one_new _ _ _) (by simp[Value.oneCell']) (by unfold maxLen;omega) oQ (by simp;omega) ?_;intro v' w4 hown' hgrow _ hblk;obtain⟨g',cap',rfl⟩:=ownsRow_succ hown';obtain⟨hv4,hv5,hr5,hk5,hf5,hb5,_⟩:=zha hv hrow hgrow hown' hblk oQ hzV;have hc1:=hv4.cell;have hf1:=hv4.frozen;have hl4:=hv4.lt)
  exact⟨hf5,hk5,⟨_,hv5,by rw[ztn];simpa using hr5⟩,waW hzV hk5.size,hB.trans (hb5 _ (by omega))⟩
 case done=>
  rintro D zs V hD rfl ⟨⟨v,hv,hrow⟩,hzV,hB⟩ hKd;have c0:=hv.cell
  gi_wp2_with fail
  refine⟨by simp,.inl ⟨_,_,rfl,run_takeDeferred hKd,?_⟩⟩
  have hr:Rl 0 0 w.heap.size V (V.putObj D (.deferred none)):=(Rl.refl _ _ _ V).put _ hKd rfl oQ;have h2:=zeq hrow hr;obtain⟨A,c,rfl,h3,h4,h5,_⟩:=Rd.of_own zfs h2 (by rw[List.length_map])
  exact⟨_,results_tmp rfl _ _ _,A,_,c,rfl,h5,h3,h4,za1 hB hr (.inr rfl) (waJ _) (waJ _),by unfold zbM;rw[List.length_map]⟩
 case stop=>
  rintro D c pre V hD hpre h hKd;exact h.elim
end Go.Proofs.YtllcdbgjeidlkaaGreatDoor
namespace Go.Proofs.YtllcdbgjeidlkaaGreatDoor
open Go.Proofs.Tryz
open Go.RowKit
open Go.Maps
theorem zi9 {V:World} {b i:Nat} {t:TypeId} {z:Nat×Nat} {cur:Array Value} {v:Value} (h:V.heap[b]?=some (.cells cur t z)):(V.setCell ⟨b,i,none⟩ v).heap[b]?=some (.cells (cur.setIfInBounds i v) t z):=by
 obtain⟨hlt,hk⟩:=waL.1 h;show(V.heap.modify b _)[b]?=_;rw[wbI (by rw[Array.size_modify];exact hlt),Array.getElem_modify_self,hk]
 rfl
end Go.Proofs.YtllcdbgjeidlkaaGreatDoor
