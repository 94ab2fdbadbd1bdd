/- A part of the proof: RTal -/
import Derived.Test.YtllcdbgjeidlkaaGreatDoorT37
import Derived.Test.YtllcdbgjeidlkaaGreatDoorT30
import Derived.Test.YtllcdbgjeidlkaaGreatDoorT40
import Derived.Test.YtllcdbgjeidlkaaGreatDoorT36
import Derived.Test.YtllcdbgjeidlkaaGreatDoorT39
import Derived.Maps.OwnIn
import Derived.Test.YtllcdbgjeidlkaaGreatDoorT33
import Derived.Test.YtllcdbgjeidlkaaGreatDoorT32
import Derived.Test.YtllcdbgjeidlkaaGreatDoorT24
import Derived.Test.YtllcdbgjeidlkaaGreatDoorT27
import Derived.Test.YtllcdbgjeidlkaaGreatDoorT34
set_option maxHeartbeats 80000000
set_option maxRecDepth 100000
set_option linter.unusedSimpArgs false
set_option linter.unusedVariables false
namespace Go.Proofs.YtllcdbgjeidlkaaGreatDoor
open Go.Proofs.Tryz
theorem zrt (P:Int->Nat->Bool):∀j,j<7->ziX (fun i=>(yrF P i:Int)) j=(yrF P j:Int):=fun j hj=>
 zu4 (fun k=>@decide (∃n,zcy P n/\yD n=1970+64 * (j:Int)+(k:Int)) (Classical.propDecidable _)) (inL (zgl 0 (399 - (j:Int) * 64+1 - 0).toNat)) fun k hk hx=>by
  obtain⟨n,hl,e⟩:=@waA _ (Classical.propDecidable _) hx;have:=zce hl.win.1 hl.win.2;simp only[inL,waM];rw[zbQ];omega
def zcw (o:List It):It:=o.getLast?.getD ⟨0,0,0,0⟩
def zen (o:List It) (d:Nat):List It:=if o.length≠0/\max (zcw o).f (zcw o).t=(d:Int) - 1 then o.dropLast++[⟨2,(zcw o).f,d,1⟩] else o++[⟨1,d,0,0⟩]
def runF (l:List Nat):List It:=l.foldl zen []
theorem ztW:∀l:List Nat,(runF l).length<=l.length:=by
 have:∀(l:List Nat) (o:List It),(l.foldl zen o).length<=o.length+l.length:=by
  intro l;induction l with
  |nil=>intro o;exact waJ _
  |cons a l ih=>
   intro o;rw[List.foldl_cons,waG];have h1:=ih (zen o a);have h2:(zen o a).length<=o.length+1:=by
    unfold zen;split
    ·rw[waF,List.length_dropLast,waG,List.length_nil];omega
    ·rw[waF,waG,List.length_nil];omega
   omega
 intro l;have:=this l [];rw[List.length_nil,waH] at this;exact this
def zeG (m:Nat):List It:=if zm5 (m:Int)=7 then [] else runF (zam m)
def evL (se mi ho mo dm en wk:Nat) (y:Nat->Nat) (bk:Bool):CalV:=
 {week:=zeG wk,year:=zae 1970 2369 (zbg y) true,month:=zae 1 12 (zbx mo) true,
  day:=if zlN mo dm then [⟨0,0,0,1⟩] else zae 1 31 (zbx (if bk then en else dm)) false,back:=!zlN mo dm&&bk,
  hour:=zae 0 23 (zbx ho) true,minute:=zae 0 59 (zbx mi) true,second:=zae 0 59 (zbx se) true}
noncomputable def evP (P:Int->Nat->Bool) (bk:Bool):CalV:=evL (zo0 P) (zlK P) (zeT P) (zhw P) (zhI P) (zr5 P) (wkF P) (yrF P) bk
theorem znq (lo hi:Int) (l:List Int) (S:Bool):(zae lo hi l S).length<=l.length+1:=by
 unfold zae;split
 ·simp
 ·rw[List.length_map];have:=zfE l;omega
theorem zwp {c:CalV} {N:Nat} (h:(c.week.length<=N/\c.year.length<=N/\c.month.length<=N/\c.day.length<=N)/\c.hour.length<=N/\c.minute.length<=N/\c.second.length<=N):∀j,j<8->j≠4->(zhx c j).length<=N:=fun j hj h4=>by
 obtain⟨⟨h0,h1,h2,h3⟩,h5,h6,h7⟩:=h;obtain rfl|rfl|rfl|rfl|rfl|rfl|rfl:j=0\/j=1\/j=2\/j=3\/j=5\/j=6\/j=7:=by omega
 ·exact h0
 ·exact h1
 ·exact h2
 ·exact h3
 ·exact h5
 ·exact h6
 ·exact h7
theorem zeo (lo hi:Int) (m:Nat) (S:Bool):(zae lo hi (zbx m) S).length<=100000:=by have h1:=znq lo hi (zbx m) S;have h2:=zgt m;omega
theorem zwq (se mi ho mo dm en wk:Nat) (y:Nat->Nat) (bk:Bool):∀j,j<8->j≠4->(zhx (evL se mi ho mo dm en wk y bk) j).length<=100000:=by
 refine zwp ⟨⟨?_,?_,?_,?_⟩,?_,?_,?_⟩
 ·unfold evL zeG;dsimp only;split
  ·exact waK _
  ·have h1:=ztW (zam wk);have h2:=zdw wk;omega
 ·unfold evL;dsimp only;have h1:=znq 1970 2369 (zbg y) true;have h2:(zbg y).length<=448:=by unfold zbg;rw[List.length_map];exact zju y 7
  omega
 ·unfold evL;exact zeo _ _ _ _
 ·unfold evL;dsimp only;split
  ·exact waW (waJ 1) dQ
  ·exact zeo _ _ _ _
 ·unfold evL;exact zeo _ _ _ _
 ·unfold evL;exact zeo _ _ _ _
 ·unfold evL;exact zeo _ _ _ _
def zoI:CalV:=⟨[],[⟨0,0,0,1⟩],[⟨1,2,0,0⟩],[⟨1,30,0,0⟩],false,[⟨1,0,0,0⟩],[⟨1,0,0,0⟩],[⟨1,0,0,0⟩]⟩
def zfw (c:CalV) (P:Int->Nat->Bool):Prop:=zfB c=(7,0)/\zv0 (zay [evC c]) P
def zoJ (P:Int->Nat->Bool) (r:Option CalV):Prop:=
 (¬zk6 P/\r=some zoI)\/(zk6 P/\zfw (evP P false) P/\r=some (evP P false))\/(zk6 P/\¬zfw (evP P false) P/\zfw (evP P true) P/\r=some (evP P true))\/(zk6 P/\¬zfw (evP P false) P/\¬zfw (evP P true) P/\r=none)
theorem zru (c:CalV) (n:Int) (s:Nat):zay [evC c] n s=zis c (n * 86400+(s:Int)):=zwn c _
theorem zxM (k lo hi n:Int) (h:inB [⟨1,k,0,0⟩] lo hi n=true):n=k:=by
 unfold inB zfr at h;simp only[List.any_cons,List.any_nil,Bool.or_false,waN] at h;have h2:=waA h.2;simp only[bF,bT,bS] at h2;have a:k<=n:=h2.1;have b:n<=k:=h2.2.1;omega
def zdK (P:Int->Nat->Bool):Prop:=∀n s,0<=n->n<146097->s<86400->P n s=decide (dD n=1/\s=0)
section
variable {P : Int -> Nat -> Bool}
theorem zep (h:zdK P) {n:Int} {s:Nat}:zdD P n s↔0<=n/\n<146097/\dD n=1/\s=0:=by
 constructor
 ·rintro ⟨a,b,c,d⟩;rw[h n s a b c,waM] at d;exact⟨a,b,d⟩
 ·rintro ⟨a,b,c,rfl⟩;exact⟨a,b,by decide,by rw[h n 0 a b (by decide)];exact waP ⟨c,rfl⟩⟩
theorem zit (h:zdK P) {n:Int}:zcy P n↔0<=n/\n<146097/\dD n=1:=by
 constructor
 ·rintro ⟨s,hl⟩;obtain⟨a,b,c,_⟩:=(zep h).1 hl;exact⟨a,b,c⟩
 ·rintro ⟨a,b,c⟩;exact⟨0,(zep h).2 ⟨a,b,c,rfl⟩⟩
theorem zl9:∀k,k<64->((1:Nat).testBit k=true↔k=0):=by decide
theorem zxN (h:zdK P):zo0 P=1:=zhm dQ fun k hk=>by
 rw[zl9 k hk];constructor
 ·rintro ⟨n,s,hl,e⟩;obtain⟨_,_,_,rfl⟩:=(zep h).1 hl;exact e.symm
 ·rintro rfl;exact⟨0,0,(zep h).2 ⟨by decide,by decide,by decide+kernel,rfl⟩,rfl⟩
theorem zxO (h:zdK P):zlK P=1:=zhm dQ fun k hk=>by
 rw[zl9 k hk];constructor
 ·rintro ⟨n,s,hl,e⟩;obtain⟨_,_,_,rfl⟩:=(zep h).1 hl;exact e.symm
 ·rintro rfl;exact⟨0,0,(zep h).2 ⟨by decide,by decide,by decide+kernel,rfl⟩,rfl⟩
theorem zwr (h:zdK P):zeT P=1:=zhm dQ fun k hk=>by
 rw[zl9 k hk];constructor
 ·rintro ⟨n,s,hl,e⟩;obtain⟨_,_,_,rfl⟩:=(zep h).1 hl;exact e.symm
 ·rintro rfl;exact⟨0,0,(zep h).2 ⟨by decide,by decide,by decide+kernel,rfl⟩,rfl⟩
theorem zxP (h:zdK P):zhw P=8190:=zhm dQ fun k hk=>by
 have hb:∀k,k<64->((8190:Nat).testBit k=decide (1<=k/\k<=12)):=by decide
 rw[hb k hk,waM];constructor
 ·rintro ⟨n,⟨s,g⟩,e⟩;have:=zbm g.1 g.2.1;omega
 ·intro g;have hd:∀k:Nat,k<13->1<=k->∃n:Nat,n<366/\mD (n:Int)=(k:Int)/\dD (n:Int)=1:=by decide+kernel
  obtain⟨n,h1,h2,h3⟩:=hd k oQ g.1;exact⟨n,(zit h).2 ⟨by omega,by omega,h3⟩,h2⟩
theorem zxQ (h:zdK P):zhI P=2:=zhm dQ fun k hk=>by
 have hb:∀k,k<64->((2:Nat).testBit k=true↔k=1):=by decide
 rw[hb k hk];constructor
 ·rintro ⟨n,hl,e⟩;have:=((zit h).1 hl).2.2;omega
 ·rintro rfl;exact⟨0,(zit h).2 ⟨by decide,by decide,by decide+kernel⟩,by decide+kernel⟩
theorem fm_wk (h:zdK P):wkF P=254:=zhm dQ fun k hk=>by
 have hb:∀k,k<64->((254:Nat).testBit k=decide (1<=k/\k<=7)):=by decide
 rw[hb k hk,waM];constructor
 ·rintro ⟨n,⟨s,g⟩,e⟩;have:=zeH n;omega
 ·intro g;have hd:∀k:Nat,k<8->1<=k->∃n:Nat,n<366/\wdD (n:Int)=(k:Int)/\dD (n:Int)=1:=by decide+kernel
  obtain⟨n,h1,h2,h3⟩:=hd k oQ g.1;exact⟨n,(zit h).2 ⟨by omega,by omega,h3⟩,h2⟩
def ztX (i:Nat):Nat:=if i<6 then 18446744073709551615 else 65535
theorem fm_yr (h:zdK P) (i:Nat) (hi:i<7):yrF P i=ztX i:=zhm (by unfold ztX;split<;>decide) fun k hk=>by
 have hb:∀i,i<7->∀k,k<64->((ztX i).testBit k=decide (64 * i+k<400)):=by decide+kernel
 rw[hb i hi k hk,waM];constructor
 ·rintro ⟨n,⟨s,g⟩,e⟩;have:=zce g.1 g.2.1;omega
 ·intro g;have hd:∀k:Nat,k<400->0<=jan (1970+(k:Int))/\jan (1970+(k:Int))<146097/\dD (jan (1970+(k:Int)))=1/\yD (jan (1970+(k:Int)))=1970+(k:Int):=by decide+kernel
  obtain⟨h1,h2,h3,h4⟩:=hd (64 * i+k) g;exact⟨_,(zit h).2 ⟨h1,h2,h3⟩,by rw[h4];push_cast;omega⟩
theorem zxR (h:zdK P):zk6 P:=⟨0,(zit h).2 ⟨by decide,by decide,by decide+kernel⟩⟩
def evM:CalV:=⟨[],[⟨0,0,0,1⟩],[⟨0,0,0,1⟩],[⟨1,1,0,0⟩],false,[⟨1,0,0,0⟩],[⟨1,0,0,0⟩],[⟨1,0,0,0⟩]⟩
theorem zkX {y z:Nat->Nat} (h:∀i,i<7->y i=z i):zbg y=zbg z:=by
 unfold zbg wyL;congr 1;rw[show List.range 7=[0,1,2,3,4,5,6] from rfl]
 simp only[List.flatMap_cons,List.flatMap_nil,h 0 (by decide),h 1 (by decide),h 2 (by decide),h 3 (by decide),h 4 (by decide),h 5 (by decide),h 6 (by decide)]
theorem fm_ev (h:zdK P):evP P false=evM:=by
 unfold evP evL;rw[zxN h,zxO h,zwr h,zxP h,zxQ h,fm_wk h,zkX (fm_yr h)];have e0:zeG 254=[]:=by decide+kernel
 have e1:zae 1970 2369 (zbg ztX) true=[⟨0,0,0,1⟩]:=by decide+kernel
 have e2:zae 1 12 (zbx 8190) true=[⟨0,0,0,1⟩]:=by decide+kernel
 have e3:zlN 8190 2=false:=by decide+kernel
 have e4:zae 1 31 (zbx 2) false=[⟨1,1,0,0⟩]:=by decide+kernel
 have e5:zae 0 23 (zbx 1) true=[⟨1,0,0,0⟩]:=by decide+kernel
 have e6:zae 0 59 (zbx 1) true=[⟨1,0,0,0⟩]:=by decide+kernel
 rw[e0,e1,e2,e3,e5,e6];simp only[Bool.false_eq_true,if_false,Bool.not_false,Bool.true_and];rw[e4];rfl
theorem zma:zfB evM=(7,0):=by kernel_rfl
theorem zkY:zdK (zay [evC evM]):=fun n s h0 h1 hs=>by
 rw[zru];unfold zis;have hi:inC (n * 86400+(s:Int))=true:=waP ⟨by omega,by omega⟩
 rw[hi,Bool.true_and];unfold znm;have e:(n * 86400+(s:Int)) / 86400=n:=by omega
 have e2:(n * 86400+(s:Int))%86400=(s:Int):=by omega
 have d:=zbm h0 h1;obtain⟨_,_,_,_,y0,y1⟩:=zce h0 h1;have star:∀lo hi k:Int,0<=lo->hi<=9999->lo<=k->k<=hi->inB [⟨0,0,0,1⟩] lo hi k=true:=fun lo hi k a b c f=>by
  unfold inB zfr;have hm:zbK ⟨0,0,0,1⟩ lo hi=true:=waP ⟨a,by omega,b,.inl ⟨rfl,rfl,rfl,by decide,by decide⟩⟩
  simp only[List.any_cons,List.any_nil,Bool.or_false,hm,Bool.true_and,zqO,bF,bT,bS,waM];simp;omega
 have one:∀j lo hi k:Int,0<=lo->hi<=9999->lo<=j->j<=hi->inB [⟨1,j,0,0⟩] lo hi k=decide (k=j):=fun j lo hi k a b c f=>by
  rw[waQ,waM];constructor
  ·exact zxM _ _ _ _
  ·rintro rfl;unfold inB zfr;have hm:zbK ⟨1,k,0,0⟩ lo hi=true:=waP ⟨a,by omega,b,.inr (.inl ⟨rfl,c,f,rfl,rfl⟩)⟩
   simp only[List.any_cons,List.any_nil,Bool.or_false,hm,Bool.true_and,zqO,bF,bT,bS,waM];simp
 show(inB [⟨0,0,0,1⟩] 1970 2369 (yD _)&&(inB [⟨0,0,0,1⟩] 1 12 (mD _)&&(inB [⟨1,1,0,0⟩] 1 31 (dD _)&&(_&&(inB [⟨1,0,0,0⟩] 0 23 (_%86400 / 3600)&&(inB [⟨1,0,0,0⟩] 0 59 (_%86400 / 60%60)&&inB [⟨1,0,0,0⟩] 0 59 (_%86400%60)))))))=_;rw[e,e2,star _ _ _ (by decide) (by decide) y0 y1,star _ _ _ (by decide) (by decide) d.2.2.1 d.2.2.2.1,one _ _ _ _ (by decide) (by decide) (by decide) (by decide),one _ _ _ _ (by decide) (by decide) (by decide) (by decide),one _ _ _ _ (by decide) (by decide) (by decide) (by decide),one _ _ _ _ (by decide) (by decide) (by decide) (by decide)]
 show(true&&(true&&(decide (dD n=1)&&(true&&(_&&(_&&_))))))=_;rw[Bool.true_and,Bool.true_and,Bool.true_and,waQ];simp only[waN,waM];constructor
 ·rintro ⟨a,b,c,f⟩;exact⟨a,by omega⟩
 ·rintro ⟨a,rfl⟩;exact⟨a,by decide,by decide,by decide⟩
theorem zkZ:zfw evM (zay [evC evM]):=⟨zma,fun _ _ _ _ _=>rfl⟩
theorem ztY {r:Option CalV} (h:zoJ (zay [evC evM]) r):r=some evM:=by
 have e:=fm_ev zkY;rcases h with ⟨h,_⟩|⟨_,_,h⟩|⟨_,h,_⟩|⟨_,h,_⟩
 ·exact absurd (zxR zkY) h
 ·rw[h,e]
 ·rw[e] at h;exact absurd zkZ h
 ·rw[e] at h;exact absurd zkZ h
end
end Go.Proofs.YtllcdbgjeidlkaaGreatDoor
namespace Go.Proofs.YtllcdbgjeidlkaaGreatDoor
open Go.Proofs.Tryz
open Go.RowKit
open Go.Maps
theorem zws (lo hi:Int) (m:Nat) (hm:m<18446744073709551616) (w:World) (hw:Tz w):Calls prog 34 #[.int .i64 lo,.int .i64 hi,.int .u64 m] w (zdU (zae lo hi (zbx m) true) w):=by
 have HL:=waV (zim m hm w hw);have HO:=waV (fun A n c V (h:zaI V A n (zbx m)) hnc hc=>zfF lo hi A n c (zbx m) true V h (by have:=h.1;have:=zgt m;omega) hnc hc)
 clear hm hw;go_enter func34,ntmps34;go_wp2_with fail;refine HL.out.mono ?_;rintro e V1 ⟨A0,n0,c0,rfl,hr,hnc,hcm,hq,hn⟩;have HOr:=waV (HO.out A0 n0 c0 V1 hr hnc hcm);clear hr hnc hcm hn HO HL;go_wp2_with fail;refine HOr.out.mono ?_;rintro e V2 ⟨v0,rfl,hov,hq2⟩;have O0:=waV (zar hov hq.size);clear hov HOr;go_wp2;go_ret;exact⟨v0,rfl,O0.out,zaf hq hq2 hq.size⟩
theorem znr (w:World):Calls prog 40 #[] w (zdU [⟨0,0,0,1⟩] w):=by
 go_enter func40,ntmps40;go_wp2;go_ret;refine⟨_,rfl,?_,by exact zaE⟩
 exact zar (ziE w #[.int .i64 0,.int .i64 0,.int .i64 0,.int .i64 1] 64 4 1 dQ rfl) (waJ _)
theorem ztZ (k:Int) (w:World):Calls prog 49 #[.int .i64 k] w (zdU [⟨1,k,0,0⟩] w):=by
 go_enter func49,ntmps49;go_wp2;go_ret;refine⟨_,rfl,?_,by exact zaE⟩
 exact zar (ziE w #[.int .i64 1,.int .i64 k,.int .i64 0,.int .i64 0] 64 4 1 dQ rfl) (waJ _)
def zxS (c:CalV) (w:World) (e:Ending) (w':World):Prop:=∃v,e=.returned v/\zb0 w' w.heap.size v c/\Below w.heap.size w w'
theorem zrv (w:World):Calls prog 17 #[] w (zxS zoI w):=by
 have HS:=waV (fun W=>znr W)
 have HO:=waV (fun k W=>ztZ k W)
 go_enter func17,ntmps17;go_wp2_with fail;have hb0:Below w.heap.size w (w.alloc (.cells zcT 26)):=(waC _ w).alloc (waJ _) _;have hO:zb9 (w.alloc (.cells zcT 26)) w.heap.size zcT:=zb9.new _ _;generalize (w.alloc (.cells _ 26))=V0 at *;refine(HS.out _).mono ?_;rintro e V1 ⟨v1,rfl,o1,hq⟩;have O1:=waV (zar o1 hb0.size);replace hO:=hO.below hq;have hb1:=zaf hb0 hq hb0.size;clear o1 hq hb0;go_wp2_with fail;refine(HO.out 2 _).mono ?_;rintro e V2 ⟨v2,rfl,o2,hq⟩;have O2:=waV (zar o2 hb1.size);replace O1:=waV (zak O1.out hq);replace hO:=hO.below hq;have hb2:=zaf hb1 hq hb1.size;clear o2 hq hb1;go_wp2_with fail;refine(HO.out 30 _).mono ?_;rintro e V3 ⟨v3,rfl,o3,hq⟩;have O3:=waV (zar o3 hb2.size);replace O1:=waV (zak O1.out hq);replace O2:=waV (zak O2.out hq);replace hO:=hO.below hq;have hb3:=zaf hb2 hq hb2.size;clear o3 hq hb2;go_wp2_with fail;refine(HO.out 0 _).mono ?_;rintro e V4 ⟨v5,rfl,o5,hq⟩;have O5:=waV (zar o5 hb3.size);replace O1:=waV (zak O1.out hq);replace O2:=waV (zak O2.out hq);replace O3:=waV (zak O3.out hq);replace hO:=hO.below hq;have hb4:=zaf hb3 hq hb3.size;clear o5 hq hb3;go_wp2_with fail;refine(HO.out 0 _).mono ?_;rintro e V5 ⟨v6,rfl,o6,hq⟩;have O6:=waV (zar o6 hb4.size);replace O1:=waV (zak O1.out hq);replace O2:=waV (zak O2.out hq);replace O3:=waV (zak O3.out hq);replace O5:=waV (zak O5.out hq);replace hO:=hO.below hq;have hb5:=zaf hb4 hq hb4.size;clear o6 hq hb4;go_wp2_with fail;refine(HO.out 0 _).mono ?_;rintro e V6 ⟨v7,rfl,o7,hq⟩;have O7:=waV (zar o7 hb5.size);replace O1:=waV (zak O1.out hq);replace O2:=waV (zak O2.out hq);replace O3:=waV (zak O3.out hq);replace O5:=waV (zak O5.out hq);replace O6:=waV (zak O6.out hq);replace hO:=hO.below hq;have hb6:=zaf hb5 hq hb5.size;clear o7 hq hb5;have HEv:Hid (zb0 V6 w.heap.size (.agg #[.slice none 0 0,v1,v2,v3,.bool false,v5,v6,v7]) zoI):=⟨_,_,_,_,_,_,_,rfl,⟨World.ownsRow_nil _ _ _ _,O1.out,O2.out,O3.out⟩,O5.out,O6.out,O7.out⟩;obtain⟨S1,d1,rfl⟩:=zaP O1.out;obtain⟨S2,d2,rfl⟩:=zaP O2.out;obtain⟨S3,d3,rfl⟩:=zaP O3.out;obtain⟨S5,d5,rfl⟩:=zaP O5.out;obtain⟨S6,d6,rfl⟩:=zaP O6.out;obtain⟨S7,d7,rfl⟩:=zaP O7.out;have HCa:=waV hO;clear O1 O2 O3 O5 O6 O7 hO
 go_wp2_with (first|(refine za0 rfl _ _ rfl _ HCa.out rfl rfl rfl (by kernel_rfl) (by kernel_rfl) ?_;intro V8 hc8 hr8)|fail)
 refine waY (zhk rfl rfl hc8 kQ) rfl ?_;exact⟨_,rfl,HEv.out.rls HCa.out hr8,hr8.to_below' hb6 (waJ _)⟩
def zu5 (c:CalV) (P:Int->Nat->Bool) (w:World) (e:Ending) (w':World):Prop:=Below w.heap.size w w'/\∃b:Bool,e=.returned (.bool b)/\(b=true↔zfw c P)
theorem zt0 {c:CalV} {L:List Cl}:zvW [evC c] L↔zv0 (zay [evC c]) (zay L):=⟨fun h n s h0 h1 hs=>h n h0 h1 s hs,fun h n h0 h1 s hs=>h n s h0 h1 hs⟩
theorem zxT (c:CalV):zeJ [evC c]=true:=by unfold zeJ;simp[znp]
theorem zrw (c:CalV):∀k,k∈[evC c]->zbC k/\k.s<=9223372036854775807:=fun k hk=>by rw[wbC.1 hk];exact⟨zwm c,show(1:Int)<=9223372036854775807 by decide⟩
theorem zrx (c:CalV):zbI 1 [evC c]=0:=by unfold zbI;rw[if_neg (by decide),if_pos (zxT c)]
theorem zoK (A:Nat->Option Addr) (n m:Nat->Nat) (c:CalV) (A2:Option Addr) (n2 c2:Nat) (L:List Cl) (W:World) (hA:zjr W A n c) (hn:∀j,j<8->j≠4->n j<=100000)
 (hB:zbh W A2 n2 L) (hn2:n2<=8) (hnil2:A2=none->n2=0) (hbit2:∀c,c∈L->zbC c/\c.s<=9223372036854775807) (hset:zeJ L=true) (hw:Tz W):
 Calls prog 18 #[evV A n m c.back,.slice A2 n2 c2] W (zu5 c (zay L) W):=by
 have HOk:=waV (fun h V (hV:Below W.heap.size W V)=>zhn A n m c V (hA.below hV) hn h)
 have HBad:=waV (fun h V (hV:Below W.heap.size W V)=>zoD A n m c V (hA.below hV) (fun k hk=>by have:=hn (zby k) (by unfold zby;split<;>omega) (by unfold zby;split<;>omega);omega) h)
 have HEq:=waV (fun b V (hV:Below W.heap.size W V) (hA1:zbh V (some ⟨b,0,none⟩) 1 [evC c])=>zof (some ⟨b,0,none⟩) A2 1 n2 1 c2 [evC c] L V hA1 dQ (fun h=>(by cases h)) (zrw c) (hB.below hV (waJ _)) oQ hnil2 hbit2 (hw.below hV))
 have he2:zbI n2 L=0:=by unfold zbI;rw[if_neg (by omega),if_pos hset]
 have HE:Hid (erE (zbI 1 [evC c]) (zbI n2 L)=0):=by show _=_;rw[zrx,he2];rfl
 have HOr:=waV (zwo c);clear hA hn hB hn2 hnil2 hbit2 hset hw he2;generalize hbk:c.back=bk at *;clear hbk;unfold evV at *;go_enter func18,ntmps18;go_wp2_with fail;have hb0:Below W.heap.size W (W.alloc (.cells #[.slice (A 0) (n 0) (m 0),.slice (A 1) (n 1) (m 1),.slice (A 2) (n 2) (m 2),.slice (A 3) (n 3) (m 3),.bool bk,.slice (A 5) (n 5) (m 5),.slice (A 6) (n 6) (m 6),.slice (A 7) (n 7) (m 7)] 26)):=(waC _ W).alloc (waJ _) _;generalize W.alloc (.cells #[.slice (A 0) (n 0) (m 0),.slice (A 1) (n 1) (m 1),.slice (A 2) (n 2) (m 2),.slice (A 3) (n 3) (m 3),.bool bk,.slice (A 5) (n 5) (m 5),.slice (A 6) (n 6) (m 6),.slice (A 7) (n 7) (m 7)] 26)=V0 at *;rcases HOr.out with hc|hc
 ·refine(HOk.out hc _ hb0).mono ?_;rintro e w1 ⟨b,rfl,hr,hb1⟩;have hb01:=hb0.trans (hb1.mono hb0.size);have HQ:=waV (HEq.out b _ hb01 hr);have HC:=waV hc;clear hr hb1 hb0 hc HOr HOk HBad HEq;go_wp2_with fail;refine HQ.out.mono ?_;rintro e w2 ⟨hb2,y,f,t,rfl,hy⟩;have HY:=waV (hy HE.out);rw[HE.out];clear hy HQ;go_wp2_with fail;go_ret;refine⟨(hb01.trans (hb2.mono hb01.size)).alloc (waW hb01.size hb2.size) _,y,rfl,HY.out.trans (zt0.trans ⟨fun h=>⟨HC.out,h⟩,fun h=>h.2⟩)⟩
 ·refine(HBad.out hc _ hb0).mono ?_;rintro e w1 ⟨rfl,hb1⟩;have hne:((zfB c).2==0)=false:=by rw[wbE];exact hc
  have HC:Hid (¬zfw c (zay L)):=fun h=>hc (congrArg Prod.snd h.1)
  clear hc HOr HOk HBad HEq;generalize (zfB c).2=k at *;go_wp2_with fail;go_ret;exact⟨hb0.trans (hb1.mono hb0.size),false,rfl,fun h=>(by cases h),fun h=>absurd h HC.out⟩
end Go.Proofs.YtllcdbgjeidlkaaGreatDoor
namespace Go.Proofs.YtllcdbgjeidlkaaGreatDoor
open Go.Proofs.Tryz
open Go.RowKit
attribute [local go_sem] Oper.semAt_some
def yrV (l:List Nat):List Value:=(l.map fun(k:Nat)=>1970+(k:Int)).flatMap zcY
theorem zt1 (l:List Nat) (x:Nat):yrV (l++[x])=yrV l++[.int .i64 (1970+(x:Int))]:=by
 unfold yrV;rw[List.map_append,List.flatMap_append];rfl
def zxU (y:Nat->Nat) (w:World) (e:Ending) (w':World):Prop:=∃A n c,e=.returned (.slice A n c)/\zaI w' A n (zbg y)/\n<=c/\c<=maxLen/\Below w.heap.size w w'/\n=(zbg y).length
theorem zoL (y:Nat->Nat):(zbg y).length<=448:=by unfold zbg;rw[List.length_map];exact zju y 7
theorem zeq {N B n:Nat} {v:Value} {xs:List Value} {X Y:World} {t:TypeId} {k:Nat} (h:X.ownsRow B t k v n xs) (hr:Rl 0 0 N X Y):Y.ownsRow B t k v n xs:=by
 refine⟨h.1,?_⟩;rcases h.2 with h|⟨g,cap,cur,h1,h2,h3,h4⟩
 ·exact .inl h
 ·exact .inr ⟨g,cap,cur,h1,h2,hr.block g _ h3 (.inr (waK _)) (.inr rfl),h4⟩
theorem zdG {B n:Nat} {v:Value} {xs:List Value} {X:World} {t:TypeId} {k:Nat} (h:X.ownsRow B t k v n xs):∀b,v.ownBlock=some b->B<=b/\b<X.heap.size:=fun b hb=>by
 rcases h.2 with ⟨rfl,_⟩|⟨g,cap,cur,rfl,h2,h3,_⟩
 ·cases hb
 ·obtain rfl:g=b:=by simpa[Value.ownBlock] using hb
  exact⟨h2,(waL.1 h3).1⟩
theorem zmb {S:Nat->Prop} {B n:Nat} {v:Value} {xs:List Value} {X Y:World} {t:TypeId} {k:Nat} (h:X.ownsRow B t k v n xs) (hr:RlS S X Y) (hS:∀b,v.ownBlock=some b->¬S b):Y.ownsRow B t k v n xs:=by
 refine⟨h.1,?_⟩;rcases h.2 with h|⟨g,cap,cur,h1,h2,h3,h4⟩
 ·exact .inl h
 ·exact .inr ⟨g,cap,cur,h1,h2,(hr.block g (waL.1 h3).1 (hS g (by rw[h1];rfl))).trans h3,h4⟩
theorem zjy {B n:Nat} {v:Value} {xs:List Value} {X:World} {t:TypeId} {k:Nat} (h:X.ownsRow B t k v n xs) {b:Nat} {o:Obj} (hb:v.ownBlock=some b) (ho:X.heap[b]?=some o):o.isCells=true:=by
 rcases h.2 with ⟨rfl,_⟩|⟨g,cap,cur,rfl,h2,h3,_⟩
 ·cases hb
 ·obtain rfl:g=b:=by simpa[Value.ownBlock] using hb
  rw[h3] at ho;cases ho;rfl
theorem zho {V V4:World} {o:Obj} {box B0 sz n n':Nat} {tb te:TypeId} {v v':Value} {xs xs':List Value} (hv:Boxed V box tb v) (hrow:V.ownsRow B0 te sz v n xs) (hg:(V.alloc o).grownBy V4 v.ownBlock) (hown:V4.ownsRow B0 te sz v' n' xs') (hblk:v'.ownBlock=v.ownBlock\/v'.ownBlock=some (V.alloc o).heap.size) (hbox:box<B0) (hB0:B0<=V.heap.size):
 Boxed V4 box tb v/\Boxed (V4.setCell ⟨box,0,none⟩ v') box tb v'/\(V4.setCell ⟨box,0,none⟩ v').ownsRow B0 te sz v' n' xs'/\KpA box tb V (V4.setCell ⟨box,0,none⟩ v')/\KeepsFrom B0 V (V4.setCell ⟨box,0,none⟩ v')/\(∀A,A<=box->Below A V (V4.setCell ⟨box,0,none⟩ v'))/\RlS (fun k=>k=box\/v.ownBlock=some k) V (V4.setCell ⟨box,0,none⟩ v'):=by
 have hrb:=zdG hrow;have hnb:=zdG hown;have ha:(V.alloc o).heap.size=V.heap.size+1:=by simp
 have same:∀k,k<V.heap.size->k≠box->v.ownBlock≠some k->(V4.setCell ⟨box,0,none⟩ v').heap[k]?=V.heap[k]? :=fun k h1 h2 h3=>by
  rw[wbJ _ _ _ _ h2,hg.block k (by omega) (fun e=>h3 e.symm),Below.heap_alloc _ _ _ h1]
 have hz:V.heap.size<=(V4.setCell ⟨box,0,none⟩ v').heap.size:=by
  have h1:=hg.size;have h2:=(KeepsWalks.setCell V4 ⟨box,0,none⟩ v').size;omega
 have h4:Boxed V4 box tb v:=by
  show V4.heap[box]?=_;rw[hg.block box (by omega) (fun e=>by have:=(hrb box e.symm).1;omega),Below.heap_alloc _ _ _ (by omega)]
  exact hv
 refine⟨h4,Boxed.set _ h4,zmb (S:=(·=box)) hown ((RlS.refl _ V4).set _ _ rfl) (fun b hb e=>by have:=(hnb b hb).1;have:b=box:=e;omega),⟨hz,fun v0 hv0 _=>?_⟩,⟨hz,fun i q h1 h2 h3=>?_⟩,fun A hA=>⟨hg.os,hg.tape,hg.output,hz,fun k hk=>same k oQ oQ (fun e=>by have:=(hrb k e).1;omega)⟩,⟨hg.os,hg.tape,hg.output,hz,fun k hk hS=>same k hk (fun e=>hS (.inl e)) (fun e=>hS (.inr e))⟩⟩
 ·obtain rfl:v0=v:=by
   have:=(show V.heap[box]?=_ from hv0).symm.trans hv
   injection this with this
   injection this with this
   injection this with this
   injection this
  refine⟨fun k q h1 h2 h3 h4=>(same k (waL.1 h1).1 h3 h4).trans h1,v',Boxed.set _ h4,fun k hk=>⟨?_,?_⟩⟩
  ·have h1:=(hnb k hk).2;have h2:=(KeepsWalks.setCell V4 ⟨box,0,none⟩ v').size;omega
  ·rcases hblk with e|e
   ·exact .inl (e▸hk)
   ·rw[hk] at e;injection e with e;right;omega
 ·refine(same i (waL.1 h2).1 oQ (fun e=>?_)).trans h2
  have:=zjy hrow e h2;rw[h3] at this;cases this
theorem zoM (g:Nat->Value) (y:Nat->Nat) (ey:∀i,i<7->g (7+i)=.int .u64 (y i:Nat)) (hy:∀j,y j<18446744073709551616) (hwn:∀j,j<7->ziX (fun i=>(y i:Int)) j=(y j:Int)) (w:World) (hw:Tz w):
 Calls prog 38 #[.agg (zaU g)] w (zxU y w):=by
 have eg:∀args w,(callFunc 158 args).run prog w=.ok (.enter 158 args) w:=enters_of func158 kQ rfl;obtain⟨i0,hi,hz0',hz1',hz2⟩:=info_parts zgg;have HA:=waV (fun W=>wbP (n:=19).2 (ztB y hwn W))
 have HSq:=waV (fun b hb hn=>zre (w.heap.size+1) 87 19 b y hy hb hn)
 have HW:=waV hw;have HLn:=waV (zju y 7);obtain⟨cs,hcs⟩:∃cs,zaU g=cs:=⟨_,rfl⟩;have E0:cs[7]?=some (.int .u64 (y 0:Nat)):=by rw[<-hcs,<-ey 0 (by decide)];rfl
 have E1:cs[8]?=some (.int .u64 (y 1:Nat)):=by rw[<-hcs,<-ey 1 (by decide)];rfl
 have E2:cs[9]?=some (.int .u64 (y 2:Nat)):=by rw[<-hcs,<-ey 2 (by decide)];rfl
 have E3:cs[10]?=some (.int .u64 (y 3:Nat)):=by rw[<-hcs,<-ey 3 (by decide)];rfl
 have E4:cs[11]?=some (.int .u64 (y 4:Nat)):=by rw[<-hcs,<-ey 4 (by decide)];rfl
 have E5:cs[12]?=some (.int .u64 (y 5:Nat)):=by rw[<-hcs,<-ey 5 (by decide)];rfl
 have E6:cs[13]?=some (.int .u64 (y 6:Nat)):=by rw[<-hcs,<-ey 6 (by decide)];rfl
 have htz:0<w.heap.size:=waR w _ (hw 0 dQ);rw[hcs];clear hcs ey hw hy hwn;refine(wbP (n:=20)).1 ?_;refine callsIn_of_wp_marks func38 rfl trivial ?_ rfl;simp only[ntmps38,wbQ,waG,List.length_nil,Nat.reduceAdd,Nat.reduceSub,wbR,wbS,List.push_toArray,List.append_toArray,wbN,wbT]
 gi_wp2_with fail
 refine⟨trivial,?_⟩;have hb0:Below w.heap.size w ((w.alloc (.cells cs 43)).alloc (.cells #[.slice none 0 0] 87)):=((waC _ w).alloc (waJ _) _).alloc (by simp) _
 have hz0:((w.alloc (.cells cs 43)).alloc (.cells #[.slice none 0 0] 87)).heap.size=w.heap.size+2:=by simp
 have x0:Boxed ((w.alloc (.cells cs 43)).alloc (.cells #[.slice none 0 0] 87)) (w.heap.size+1) 87 (.slice none 0 0):=by
  have h:=Boxed.new (w.alloc (.cells cs 43)) 87 (.slice none 0 0)
  rwa [World.size_alloc] at h
 generalize ((w.alloc (.cells cs 43)).alloc (.cells #[.slice none 0 0] 87))=W0 at *;refine(HA.out _).mono ?_;rintro e w1 ⟨bA,rfl,hlA,cA,hq1⟩;have x1:=zaG hq1 x0;have hb1:Below w.heap.size w w1:=zaf hb0 hq1 hb0.size;have hT1:=HW.out.below hb1;have hz1:=hq1.size;have hbA:=waR w1 _ (cA 0 dQ);have hseq:=HSq.out bA oQ oQ;clear x0 hb0 HA E0 E1 E2 E3 E4 E5 E6
 gi_wp2_with fail
 obtain⟨wd,hwd⟩:∃wd,wd=w7A y:=⟨_,rfl⟩;refine za4 rfl dQ (gf:=158) (lb:=#[.pointer (some ⟨bA,0,none⟩)]) rfl trivial eg hseq
  (fun h k=>h.trans k) (fun V l o o' _ hl ho _=>KpA.putObj o' hl ho) (fun o o'=>?st) (fun _=>rfl) (waK _)
  (fun pre V=>(∃v,Boxed V (w.heap.size+1) 87 v/\V.ownsRow w1.heap.size 3 1 v pre.length (yrV pre))/\w1.heap.size<=V.heap.size/\Below w.heap.size w V)
  (fun c pre V=>False)
  (fun pre A B hs hr=>by
    obtain⟨⟨v,h1,h2⟩,h3,h4⟩:=hs;exact⟨⟨v,hr.block _ _ h1 (.inr (waK _)) (.inr rfl),zeq h2 hr⟩,waW h3 hr.size,za5 h4 hr (.inr rfl) oQ (waJ _)⟩)
  (fun c pre A B hs hr=>hs)
  ⟨⟨_,x1,World.ownsRow_nil _ _ _ _⟩,waJ _,hb1⟩
  (fun x a' _=>a'={tmps:=#[.agg cs,.pointer (some ⟨w.heap.size,0,none⟩),.slice none 0 0,.pointer (some ⟨w.heap.size+1,0,none⟩),.int .i64 (x:Int),.pointer (some ⟨w.heap.size,7,none⟩),.agg (w7A y),.func (.func 158) #[] #[.pointer (some ⟨bA,0,none⟩)],.int .i64 (x:Int),undef,undef,undef,undef,undef,undef],defers:=[]})
  (fun _ _ _ _ hs _=>hs) (fun _ _ _ hs _=>hs)
  ?assign ?body ?done ?stop
 case st=>
  have hb:Below w1.heap.size w1 ((w1.alloc o).alloc o'):=((waC _ w1).alloc (waJ _) _).alloc (by simp) _
  exact⟨⟨_,zaG hb x1,fun k e=>by cases e⟩,fun j hj=>((zad hb).1 _ _ (waR w1 _ (cA j hj))).trans (cA j hj),hT1.below hb⟩
 case assign=>
  rintro l1 pre x V K hi he hK
  gi_wp2_with fail
  exact hK _ _ (KeepsFrom.refl _ _) (KpA.refl _ _ _) (Rl.refl _ _ _ _) hi rfl
 case body=>
  rintro l1 pre x a' V hl1 _ ⟨⟨v,hv,hrow⟩,hzV,hB⟩ hx rfl hlt;have hc:=hv.cell;have hx2:wrap64 (1970+(x:Int))=1970+(x:Int):=by unfold wrap64;omega
  gi_wp2_with (gi_at_builtin;refine wpListIn_append_own_at _ rfl _ _ 87 rfl w1.heap.size 3 i0 (.int .i64 0) 1 8 underlying87 hi hz0' hz1' hz2 rfl dQ _ _ _ rfl (hrow.alloc _) ⟨V.heap.size,0,none⟩ 1 1 [.int .i64 (1970+(x:Int))] rfl rfl (cell_one_new _ _ _) (by simp[Value.oneCell']) (by unfold maxLen;omega) oQ (by simp;omega) ?_;intro v' w4 hown' hgrow _ hblk;obtain⟨g',cap',rfl⟩:=ownsRow_succ hown';obtain⟨hv4,hv5,hr5,hk5,hf5,hb5,_⟩:=zho hv hrow hgrow hown' hblk oQ hzV;have hc1:=hv4.cell;have hf1:=hv4.frozen;have hl4:=hv4.lt)
  exact⟨hf5,hk5,⟨_,hv5,by rw[zt1];simpa using hr5⟩,waW hzV hk5.size,hB.trans (hb5 _ (by omega))⟩
 case done=>
  rintro D zs V hD rfl ⟨⟨v,hv,hrow⟩,hzV,hB⟩ hKd;have c0:=hv.cell
  gi_wp2_with fail
  refine⟨by simp,.inl ⟨_,_,rfl,run_takeDeferred hKd,?_⟩⟩
  have hr:Rl 0 0 w.heap.size V (V.putObj D (.deferred none)):=(Rl.refl _ _ _ V).put _ hKd rfl oQ;have h2:=zeq hrow hr;obtain⟨A,c,rfl,h3,h4,h5,_⟩:=Rd.of_own zfC h2 (by rw[List.length_map])
  exact⟨_,results_tmp rfl _ _ _,A,_,c,rfl,h5,h3,h4,za5 hB hr (.inr rfl) (waJ _) (waJ _),by unfold zbg;rw[List.length_map]⟩
 case stop=>
  rintro D c pre V hD hpre h hKd;exact h.elim
end Go.Proofs.YtllcdbgjeidlkaaGreatDoor
namespace Go.Proofs.YtllcdbgjeidlkaaGreatDoor
open Go.Proofs.Tryz
open Go.RowKit
open Go.Maps
theorem zjz {V:World} {b i:Nat} {t:TypeId} {z:Nat×Nat} {cur:Array Value} {v:Value} (h:V.heap[b]?=some (.cells cur t z)):(V.setCell ⟨b,i,none⟩ v).heap[b]?=some (.cells (cur.setIfInBounds i v) t z):=by
 obtain⟨hlt,hk⟩:=waL.1 h;show(V.heap.modify b _)[b]?=_;rw[wbI (by rw[Array.size_modify];exact hlt),Array.getElem_modify_self,hk]
 rfl
end Go.Proofs.YtllcdbgjeidlkaaGreatDoor
