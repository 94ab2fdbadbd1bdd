/- A part of the proof: WClT -/
import Derived.Test.YtllcdbgjeidlkaaGreatDoorT07
import Derived.Test.YtllcdbgjeidlkaaGreatDoorT06
import Derived.Laws.EntriesVeiled
set_option maxHeartbeats 80000000
set_option maxRecDepth 100000
set_option linter.unusedSimpArgs false
set_option linter.unusedVariables false
namespace Go.Proofs.YtllcdbgjeidlkaaGreatDoor
open Go.Proofs.Tryz
open Go.RowKit
theorem zxc (w:World) (t:TypeId) (p0 q0 p1 q1 p2 q2 p3 q3 p4 q4 p5 q5 p6 q6:Int):zle (w.alloc (.cells #[.int .u64 p0,.int .u64 q0,.int .u64 p1,.int .u64 q1,.int .u64 p2,.int .u64 q2,.int .u64 p3,.int .u64 q3,.int .u64 p4,.int .u64 q4,.int .u64 p5,.int .u64 q5,.int .u64 p6,.int .u64 q6] t)) (some ⟨w.heap.size,0,none⟩) 7 [(p0,q0),(p1,q1),(p2,q2),(p3,q3),(p4,q4),(p5,q5),(p6,q6)]:=
 ⟨rfl,fun _=>⟨w.heap.size,0,rfl,by simp,fun i x hx j v hj=>by
  have hi:i<7:=(waI.1 hx).1;have hj2:j<2:=(waI.1 hj).1;obtain rfl|rfl:j=0\/j=1:=by omega
  all_goals
   obtain rfl|rfl|rfl|rfl|rfl|rfl|rfl:i=0\/i=1\/i=2\/i=3\/i=4\/i=5\/i=6:=by omega
   all_goals (cases hx;cases hj;exact zaa rfl rfl)⟩⟩
def gC (c:Cl) (j:Nat):Value:=(clA c).getD j undef
theorem zgH (w:World) (c:Cl) (t:TypeId):Arr (w.alloc (.cells (clA c) t)) w.heap.size 30 (gC c):=
 zdq w (clA c) t (gC c) (fun j hj=>by unfold gC;rw[wbI hj,wbL,wbI hj];rfl)
def zsw (c F:Cl):List (Int×Int):=[(c.m 0,F.m 0),(c.m 1,F.m 1),(c.m 2,F.m 2),(c.m 3,F.m 3),(c.m 4,F.m 4),(c.m 5,F.m 5),(c.m 6,F.m 6)]
def zeI (c F:Cl):Bool:=(zsw c F).all zaz&&(zh0 c&&(eqW (ziX c.y) c.y&&(!(unT c.u).isEmpty&&(decide (1<=c.s)&&inC c.a))))
theorem zhB {ops:Array Oper} {rest:List Oper} {op:Oper} {a:Act} {Q:Exit->Act->World->Prop} {W:World} (hgd:op.guard=none) (t:TypeId) (x y:Operand) (ho:op.op=.store t x y) (cs:Array Value) (b:Nat) (B:Nat) (w0:World) (hB:B<=b)
 (hx:a.eval x=.pointer (some ⟨b,0,none⟩)) (hy:a.eval y=.agg cs) (hi:(prog.info? t).map (·.size)=some cs.size) (h1:cs.all (·.oneCell')=true)
 (hb:Below B w0 W) (ht:W.there b 0 cs.size)
 (h:∀W',Below B w0 W'->(∀j v,cs[j]?=some v->W'.cell? ⟨b,j,none⟩=some v)->W'.heap.size=W.heap.size->wpList prog ops Q rest (a.put op.dst undef) W'):wpList prog ops Q (op::rest) a W:=by
 refine wpList_store_mid (P:=prog) hgd t x y ho b 0 cs hx hy ht hi h1 (h _ (zba hB _ _ _ hb) (fun j v hv=>?_) (zgE _ _ _ _))
 have:=World.rangeAt_setCells_same W b 0 cs.toList (by simpa using ht) j v (by simpa using hv)
 rwa [waH] at this
theorem zpM (c F:Cl) (hF:∀W,Calls prog 63 #[] W (Ret (.agg (clA F)) W)) (w:World):Calls prog 58 #[.agg (clA c)] w (Ret (.bool (zeI c F)) w):=by
 have HF:=waV hF;clear hF;have HWi:=waV (fun A W (h:zle W A 7 (zsw c F))=>zlf A 7 7 (zsw c F) W h dQ)
 have HO:=waV (fun W=>zpK c W)
 have HY:=waV (fun W=>zpI c.y W)
 have HN:=waV (fun W=>zpL c.u W)
 have HI:=waV (fun W=>zpm c.a W)
 have hP:∀(W:World),zle (W.alloc (.cells #[.int .u64 (c.m 0),.int .u64 (F.m 0),.int .u64 (c.m 1),.int .u64 (F.m 1),.int .u64 (c.m 2),.int .u64 (F.m 2),.int .u64 (c.m 3),.int .u64 (F.m 3),.int .u64 (c.m 4),.int .u64 (F.m 4),.int .u64 (c.m 5),.int .u64 (F.m 5),.int .u64 (c.m 6),.int .u64 (F.m 6)] 201)) (some ⟨W.heap.size,0,none⟩) 7 (zsw c F):=fun W=>zxc W _ _ _ _ _ _ _ _ _ _ _ _ _ _ _
 have HP:=waV hP;have hM:Hid (zeI c F=((zsw c F).all zaz&&(zh0 c&&(eqW (ziX c.y) c.y&&(!(unT c.u).isEmpty&&(decide (1<=c.s)&&inC c.a)))))):=rfl;rw[hM.out];clear hM hP;generalize (zsw c F).all zaz=B1 at *;generalize zsw c F=L at *;generalize zh0 c=B2 at *;generalize eqW (ziX c.y) c.y=B3 at *;generalize inC c.a=B6 at *;have HC0:=waV (zgH w c 60);have f0:(clA F)[0]?=some (.int .u64 (F.m 0)):=rfl;have f1:(clA F)[1]?=some (.int .u64 (F.m 1)):=rfl;have f2:(clA F)[2]?=some (.int .u64 (F.m 2)):=rfl;have f3:(clA F)[3]?=some (.int .u64 (F.m 3)):=rfl;have f4:(clA F)[4]?=some (.int .u64 (F.m 4)):=rfl;have f5:(clA F)[5]?=some (.int .u64 (F.m 5)):=rfl;have f6:(clA F)[6]?=some (.int .u64 (F.m 6)):=rfl;have fs:(clA F).size=30:=rfl;have fa:(clA F).all (·.oneCell')=true:=by kernel_rfl
 generalize clA F=cs at *;have Hf:Hid (cs[0]?=some (.int .u64 (F.m 0))/\cs[1]?=some (.int .u64 (F.m 1))/\cs[2]?=some (.int .u64 (F.m 2))/\cs[3]?=some (.int .u64 (F.m 3))/\cs[4]?=some (.int .u64 (F.m 4))/\cs[5]?=some (.int .u64 (F.m 5))/\cs[6]?=some (.int .u64 (F.m 6))/\cs.size=30/\cs.all (·.oneCell')=true):=⟨f0,f1,f2,f3,f4,f5,f6,fs,fa⟩;clear f0 f1 f2 f3 f4 f5 f6 fs fa;unfold clA wdV zdI at *;go_enter func58,ntmps58;go_wp2_with fail;generalize hV:World.alloc w _=V at *;have hbV:Below w.heap.size w V:=by rw[<-hV];exact(waC _ _).alloc (waJ _) _
 clear hV;generalize Value.agg #[.int .u64 (c.m 0),.int .u64 (c.m 1),.int .u64 (c.m 2),.int .u64 (c.m 3),.int .u64 (c.m 4),.int .u64 (c.m 5),.int .u64 (c.m 6),.bool c.or,.int .i64 c.oi,.bool c.ob,.int .u64 (c.od 0),.int .u64 (c.od 1),.int .u64 (c.od 2),.int .u64 (c.od 3),.int .u64 (c.od 4),.int .u64 (c.od 5),.int .u64 (c.od 6),.int .u64 (c.od 7),.int .u64 (c.y 0),.int .u64 (c.y 1),.int .u64 (c.y 2),.int .u64 (c.y 3),.int .u64 (c.y 4),.int .u64 (c.y 5),.int .u64 (c.y 6),.int .i64 c.u,.int .i64 c.s,.int .i64 c.a,.int .i64 c.f,.int .i64 c.t]=va;refine(HF.out _).mono ?_;rintro e w1 ⟨rfl,hb1⟩;have HC:=waV (Arr.below HC0.out (Arr.lt HC0.out dQ) hb1);have hb:=zaf hbV hb1 hbV.size;clear hb1 hbV HF HC0;have m0:w1.cell? ⟨w.heap.size,0,none⟩=some (.int .u64 (c.m 0)):=HC.out.1 0 dQ;have m1:w1.cell? ⟨w.heap.size,1,none⟩=some (.int .u64 (c.m 1)):=HC.out.1 1 dQ;have m2:w1.cell? ⟨w.heap.size,2,none⟩=some (.int .u64 (c.m 2)):=HC.out.1 2 dQ;have m3:w1.cell? ⟨w.heap.size,3,none⟩=some (.int .u64 (c.m 3)):=HC.out.1 3 dQ;have m4:w1.cell? ⟨w.heap.size,4,none⟩=some (.int .u64 (c.m 4)):=HC.out.1 4 dQ;have m5:w1.cell? ⟨w.heap.size,5,none⟩=some (.int .u64 (c.m 5)):=HC.out.1 5 dQ;have m6:w1.cell? ⟨w.heap.size,6,none⟩=some (.int .u64 (c.m 6)):=HC.out.1 6 dQ;have z1:w.heap.size<w1.heap.size:=Arr.lt HC.out dQ;have hT:=zcK w1 #[.int .u64 0,.int .u64 0,.int .u64 0,.int .u64 0,.int .u64 0,.int .u64 0,.int .u64 0,.bool false,.int .i64 0,.bool false,.int .u64 0,.int .u64 0,.int .u64 0,.int .u64 0,.int .u64 0,.int .u64 0,.int .u64 0,.int .u64 0,.int .u64 0,.int .u64 0,.int .u64 0,.int .u64 0,.int .u64 0,.int .u64 0,.int .u64 0,.int .i64 0,.int .i64 0,.int .i64 0,.int .i64 0,.int .i64 0] 60;have hbA:=(waC w1.heap.size w1).alloc (waJ _) (.cells #[.int .u64 0,.int .u64 0,.int .u64 0,.int .u64 0,.int .u64 0,.int .u64 0,.int .u64 0,.bool false,.int .i64 0,.bool false,.int .u64 0,.int .u64 0,.int .u64 0,.int .u64 0,.int .u64 0,.int .u64 0,.int .u64 0,.int .u64 0,.int .u64 0,.int .u64 0,.int .u64 0,.int .u64 0,.int .u64 0,.int .u64 0,.int .u64 0,.int .i64 0,.int .i64 0,.int .i64 0,.int .i64 0,.int .i64 0] 60)
 go_wp2_with (refine zhB rfl 60 _ _ rfl cs w1.heap.size w1.heap.size w1 (waJ _) rfl rfl (by rw[Hf.out.2.2.2.2.2.2.2.1];kernel_rfl) Hf.out.2.2.2.2.2.2.2.2 hbA (by rw[Hf.out.2.2.2.2.2.2.2.1];exact hT) ?_;intro W' hbW hcW hsW;have n0:W'.cell? ⟨w.heap.size,0,none⟩=some (.int .u64 (c.m 0)):=(hbW.cell (p:=⟨w.heap.size,0,none⟩) z1).trans m0;have n1:W'.cell? ⟨w.heap.size,1,none⟩=some (.int .u64 (c.m 1)):=(hbW.cell (p:=⟨w.heap.size,1,none⟩) z1).trans m1;have n2:W'.cell? ⟨w.heap.size,2,none⟩=some (.int .u64 (c.m 2)):=(hbW.cell (p:=⟨w.heap.size,2,none⟩) z1).trans m2;have n3:W'.cell? ⟨w.heap.size,3,none⟩=some (.int .u64 (c.m 3)):=(hbW.cell (p:=⟨w.heap.size,3,none⟩) z1).trans m3;have n4:W'.cell? ⟨w.heap.size,4,none⟩=some (.int .u64 (c.m 4)):=(hbW.cell (p:=⟨w.heap.size,4,none⟩) z1).trans m4;have n5:W'.cell? ⟨w.heap.size,5,none⟩=some (.int .u64 (c.m 5)):=(hbW.cell (p:=⟨w.heap.size,5,none⟩) z1).trans m5;have n6:W'.cell? ⟨w.heap.size,6,none⟩=some (.int .u64 (c.m 6)):=(hbW.cell (p:=⟨w.heap.size,6,none⟩) z1).trans m6;have g0:W'.cell? ⟨w1.heap.size,0,none⟩=some (.int .u64 (F.m 0)):=hcW 0 _ Hf.out.1;have g1:W'.cell? ⟨w1.heap.size,1,none⟩=some (.int .u64 (F.m 1)):=hcW 1 _ Hf.out.2.1;have g2:W'.cell? ⟨w1.heap.size,2,none⟩=some (.int .u64 (F.m 2)):=hcW 2 _ Hf.out.2.2.1;have g3:W'.cell? ⟨w1.heap.size,3,none⟩=some (.int .u64 (F.m 3)):=hcW 3 _ Hf.out.2.2.2.1;have g4:W'.cell? ⟨w1.heap.size,4,none⟩=some (.int .u64 (F.m 4)):=hcW 4 _ Hf.out.2.2.2.2.1;have g5:W'.cell? ⟨w1.heap.size,5,none⟩=some (.int .u64 (F.m 5)):=hcW 5 _ Hf.out.2.2.2.2.2.1;have g6:W'.cell? ⟨w1.heap.size,6,none⟩=some (.int .u64 (F.m 6)):=hcW 6 _ Hf.out.2.2.2.2.2.2.1;clear hcW)
 have hsW':W'.heap.size=w1.heap.size+1:=by rw[hsW];simp
 have hp:=HP.out W';rw[hsW'] at hp;have HCW:=Arr.below HC.out z1 hbW;have HCA:=Arr.alloc HCW (Arr.lt HCW dQ) (.cells #[.int .u64 (c.m 0),.int .u64 (F.m 0),.int .u64 (c.m 1),.int .u64 (F.m 1),.int .u64 (c.m 2),.int .u64 (F.m 2),.int .u64 (c.m 3),.int .u64 (F.m 3),.int .u64 (c.m 4),.int .u64 (F.m 4),.int .u64 (c.m 5),.int .u64 (F.m 5),.int .u64 (c.m 6),.int .u64 (F.m 6)] 201);have hbX:Below w.heap.size w (W'.alloc (.cells #[.int .u64 (c.m 0),.int .u64 (F.m 0),.int .u64 (c.m 1),.int .u64 (F.m 1),.int .u64 (c.m 2),.int .u64 (F.m 2),.int .u64 (c.m 3),.int .u64 (F.m 3),.int .u64 (c.m 4),.int .u64 (F.m 4),.int .u64 (c.m 5),.int .u64 (F.m 5),.int .u64 (c.m 6),.int .u64 (F.m 6)] 201)):=(zaf hb hbW hb.size).alloc oQ _;have HC2:=waV HCA;generalize W'.alloc (.cells #[.int .u64 (c.m 0),.int .u64 (F.m 0),.int .u64 (c.m 1),.int .u64 (F.m 1),.int .u64 (c.m 2),.int .u64 (F.m 2),.int .u64 (c.m 3),.int .u64 (F.m 3),.int .u64 (c.m 4),.int .u64 (F.m 4),.int .u64 (c.m 5),.int .u64 (F.m 5),.int .u64 (c.m 6),.int .u64 (F.m 6)] 201)=WA at *;have hp':=waV hp;clear hp HP HCW HCA n0 n1 n2 n3 n4 n5 n6 g0 g1 g2 g3 g4 g5 g6 m0 m1 m2 m3 m4 m5 m6 hsW hsW' hbW HC hb z1 hT hbA;refine(HWi.out _ _ hp'.out).mono ?_;rintro e w2 ⟨rfl,hq2⟩;replace HC2:=waV (Arr.below HC2.out (Arr.lt HC2.out dQ) hq2);replace hbX:=zaf hbX hq2 hbX.size;clear hq2;clear HWi hp';cases B1 with
 |false=>
  go_wp2;go_ret;exact⟨rfl,hbX⟩
 |true=>
  have o8:w2.cell? ⟨w.heap.size,8,none⟩=some (.int .i64 c.oi):=HC2.out.1 8 dQ;have o9:w2.cell? ⟨w.heap.size,9,none⟩=some (.bool c.ob):=HC2.out.1 9 dQ;have o10:w2.cell? ⟨w.heap.size,10,none⟩=some (.int .u64 (c.od 0)):=HC2.out.1 10 dQ;have o11:w2.cell? ⟨w.heap.size,11,none⟩=some (.int .u64 (c.od 1)):=HC2.out.1 11 dQ;have o12:w2.cell? ⟨w.heap.size,12,none⟩=some (.int .u64 (c.od 2)):=HC2.out.1 12 dQ;have o13:w2.cell? ⟨w.heap.size,13,none⟩=some (.int .u64 (c.od 3)):=HC2.out.1 13 dQ;have o14:w2.cell? ⟨w.heap.size,14,none⟩=some (.int .u64 (c.od 4)):=HC2.out.1 14 dQ;have o15:w2.cell? ⟨w.heap.size,15,none⟩=some (.int .u64 (c.od 5)):=HC2.out.1 15 dQ;have o16:w2.cell? ⟨w.heap.size,16,none⟩=some (.int .u64 (c.od 6)):=HC2.out.1 16 dQ;have o17:w2.cell? ⟨w.heap.size,17,none⟩=some (.int .u64 (c.od 7)):=HC2.out.1 17 dQ;go_wp2_with fail;refine(HO.out _).mono ?_;rintro e w3 ⟨rfl,hq3⟩;replace HC2:=waV (Arr.below HC2.out (Arr.lt HC2.out dQ) hq3);replace hbX:=zaf hbX hq3 hbX.size;clear hq3;clear HO o8 o9 o10 o11 o12 o13 o14 o15 o16 o17;cases B2 with
  |false=>
   go_wp2;go_ret;exact⟨rfl,hbX⟩
  |true=>
   have o18:w3.cell? ⟨w.heap.size,18,none⟩=some (.int .u64 (c.y 0)):=HC2.out.1 18 dQ;have o19:w3.cell? ⟨w.heap.size,19,none⟩=some (.int .u64 (c.y 1)):=HC2.out.1 19 dQ;have o20:w3.cell? ⟨w.heap.size,20,none⟩=some (.int .u64 (c.y 2)):=HC2.out.1 20 dQ;have o21:w3.cell? ⟨w.heap.size,21,none⟩=some (.int .u64 (c.y 3)):=HC2.out.1 21 dQ;have o22:w3.cell? ⟨w.heap.size,22,none⟩=some (.int .u64 (c.y 4)):=HC2.out.1 22 dQ;have o23:w3.cell? ⟨w.heap.size,23,none⟩=some (.int .u64 (c.y 5)):=HC2.out.1 23 dQ;have o24:w3.cell? ⟨w.heap.size,24,none⟩=some (.int .u64 (c.y 6)):=HC2.out.1 24 dQ;go_wp2_with fail;refine(HY.out _).mono ?_;rintro e w4 ⟨rfl,hq4⟩;replace HC2:=waV (Arr.below HC2.out (Arr.lt HC2.out dQ) hq4);replace hbX:=zaf hbX hq4 hbX.size;clear hq4;clear HY o18 o19 o20 o21 o22 o23 o24;cases B3 with
   |false=>
    go_wp2;go_ret;exact⟨rfl,hbX⟩
   |true=>
    have o25:w4.cell? ⟨w.heap.size,25,none⟩=some (.int .i64 c.u):=HC2.out.1 25 dQ;go_wp2_with fail;refine(HN.out _).mono ?_;rintro e w5 ⟨rfl,hq5⟩;replace HC2:=waV (Arr.below HC2.out (Arr.lt HC2.out dQ) hq5);replace hbX:=zaf hbX hq5 hbX.size;clear hq5;clear HN o25;have hE:(za2 (unT c.u)).toList.isEmpty=(unT c.u).isEmpty:=by rw[ByteArray.toList_eq,zbd]
    generalize (unT c.u).isEmpty=B4 at *;generalize za2 (unT c.u)=nm at *;cases B4 with
    |true=>
     go_wp2;go_ret;exact⟨rfl,hbX⟩
    |false=>
     have o26:w5.cell? ⟨w.heap.size,26,none⟩=some (.int .i64 c.s):=HC2.out.1 26 dQ;have o27:w5.cell? ⟨w.heap.size,27,none⟩=some (.int .i64 c.a):=HC2.out.1 27 dQ
     by_cases hs:1<=c.s
     ·rw[waP hs];go_wp2_with fail;refine(HI.out _).mono ?_;rintro e w6 ⟨rfl,rfl⟩;go_wp2;go_ret;exact⟨zab (by simp[hs]),hbX⟩
     ·rw[waO hs];go_wp2;go_ret;exact⟨zab (by simp;omega),hbX⟩
theorem zgI (c:Cl) (w:World):Calls prog 58 #[.agg (clA c)] w (Ret (.bool (zeI c zbn)) w):=zpM c zbn zjV w
theorem znO (lo hi:Nat) (w:World):zbu 187 #[] (fun _=>false) lo hi w:=by
 intro W _ n _ _;have hV:∃g:Nat->Int,shV n=.agg #[.int .i64 (g 0),.int .i64 (g 1),.int .i64 (g 2),.int .i64 (g 3),.int .i64 (g 4),.int .i64 (g 5),.int .i64 (g 6),.int .i64 (g 7),.int .i64 (g 8),.int .i64 (g 9)]:=⟨_,rfl⟩;obtain⟨g,hg⟩:=hV;rw[hg];clear hg;go_enter func187,ntmps187;go_wp2;go_ret;exact⟨rfl,by exact zaE⟩
def zbC (c:Cl):Prop:=(∀k,k<7->M64 (c.m k))/\(∀k,k<8->M64 (c.od k))/\∀k,k<7->M64 (c.y k)
def zwL (c:Cl) (p:Int->Bool) (n:Int):Bool:=
 ((zbA (c.m 4) (shN n (yD n) (mD n) (dD n) 3)&&zbA (c.m 6) (shN n (yD n) (mD n) (dD n) 5))||(c.or&&(zbA (c.m 4) (shN n (yD n) (mD n) (dD n) 3)||zbA (c.m 6) (shN n (yD n) (mD n) (dD n) 5))))&&
 (zbA (c.m 3) (shN n (yD n) (mD n) (dD n) 2)&&(zbA (c.m 5) (shN n (yD n) (mD n) (dD n) 4)&&(zgb c.y (shN n (yD n) (mD n) (dD n) 1 - 1970)&&(zhZ c n&&p n))))
theorem zjX {w W:World} {b o:Nat} {v:Value} (hB:Below w.heap.size w W) (h:w.cell? ⟨b,o,none⟩=some v):W.cell? ⟨b,o,none⟩=some v:=(⟨W,hB⟩:Ext w).cell h
theorem zmA {P:Program} {f:FuncId} {args:Array Value} {w:World} {v:Value} (h:Calls P f args w (zbE v w)):Calls P f args w (Ret v w):=h.mono fun _ _ h=>h.toB
theorem znP (c:Cl) (hc:zbC c) (bc bo:Nat) (g:Nat) (lb:Array Value) (p:Int->Bool) (lo hi lo' hi':Nat) (w:World) (kc:lo<=bc/\bc<hi) (ko:lo<=bo/\bo<hi) (k1:lo<=lo') (k2:hi'<=hi) (k3:hi<=w.heap.size) (HC0:Arr w bc 30 (gC c)) (co:w.cell? ⟨bo,0,none⟩=some (.func (.func g) #[] lb))
 (eg:∀args w,(callFunc g args).run prog w=.ok (.enter g args) w) (hp:zbu g lb p lo' hi' w):zbu 189 #[.pointer (some ⟨bc,0,none⟩),.pointer (some ⟨bo,0,none⟩)] (zwL c p) lo hi w:=by
 intro W hW n h0 h1;obtain⟨_,_,_,_,y0,y1⟩:=zce h0 h1;have hbc:=Arr.lt HC0 dQ;have HA:=waV (hW.arr kc.1 kc.2 HC0);have ho:=hW.cell ko.1 ko.2 co;have HP:=waV (fun V (hV:Below W.heap.size W V)=>hp V ((hW.sub k1 k2).trans (KpI.of_below hV (by have:=hW.size;omega))) n h0 h1)
 have H4:=waV (fun V=>zmA (zcp (c.m 4) (shN n (yD n) (mD n) (dD n) 3) (hc.1 4 dQ).1 (hc.1 4 dQ).2 V))
 have H6:=waV (fun V=>zmA (zcp (c.m 6) (shN n (yD n) (mD n) (dD n) 5) (hc.1 6 dQ).1 (hc.1 6 dQ).2 V))
 have H3:=waV (fun V=>zmA (zcp (c.m 3) (shN n (yD n) (mD n) (dD n) 2) (hc.1 3 dQ).1 (hc.1 3 dQ).2 V))
 have H5:=waV (fun V=>zmA (zcp (c.m 5) (shN n (yD n) (mD n) (dD n) 4) (hc.1 5 dQ).1 (hc.1 5 dQ).2 V))
 have HY:=waV (fun V=>zpJ c.y hc.2.2 (shN n (yD n) (mD n) (dD n) 1 - 1970) V)
 have HN:=waV (fun V=>zvp c n hc.2.1 V)
 have hV:shV n=.agg #[.int .i64 (shN n (yD n) (mD n) (dD n) 0),.int .i64 (shN n (yD n) (mD n) (dD n) 1),.int .i64 (shN n (yD n) (mD n) (dD n) 2),.int .i64 (shN n (yD n) (mD n) (dD n) 3),.int .i64 (shN n (yD n) (mD n) (dD n) 4),.int .i64 (shN n (yD n) (mD n) (dD n) 5),.int .i64 (shN n (yD n) (mD n) (dD n) 6),.int .i64 (shN n (yD n) (mD n) (dD n) 7),.int .i64 (shN n (yD n) (mD n) (dD n) 8),.int .i64 (shN n (yD n) (mD n) (dD n) 9)]:=rfl;have e1:shN n (yD n) (mD n) (dD n) 1=yD n:=rfl;rw[<-e1] at y0 y1;unfold zwL;rw[hV] at HP HN ⊢;clear hV e1 hp hW co HC0 hbc hc kc ko k1 k2 k3;generalize shN n (yD n) (mD n) (dD n)=G at *;generalize zbA (c.m 4) (G 3)=D at *;generalize zbA (c.m 6) (G 5)=K at *;generalize zbA (c.m 3) (G 2)=B3 at *;generalize zbA (c.m 5) (G 4)=B5 at *;generalize zgb c.y (G 1 - 1970)=BY at *;generalize zhZ c n=BN at *;generalize p n=BP at *;unfold wdV zdI at *;clear h0 h1;have HG:=waV eg;clear eg;go_enter func189,ntmps189;go_wp2_with fail;generalize hW1:World.alloc W _=W1;have hb1:Below W.heap.size W W1:=by rw[<-hW1];exact(waC _ _).alloc (waJ _) _
 have HA1:=waV (Arr.below HA.out (Arr.lt HA.out dQ) hb1);have ho1:=zjX hb1 ho;have HS1:Hid (Arr W1 W.heap.size 10 (fun j=>.int .i64 (G j))):=by
  show Arr _ _ _ _;rw[<-hW1];refine zdq W #[.int .i64 (G 0),.int .i64 (G 1),.int .i64 (G 2),.int .i64 (G 3),.int .i64 (G 4),.int .i64 (G 5),.int .i64 (G 6),.int .i64 (G 7),.int .i64 (G 8),.int .i64 (G 9)] _ _ (fun j hj=>?_)
  have hj':j<10:=hj;obtain rfl|rfl|rfl|rfl|rfl|rfl|rfl|rfl|rfl|rfl:j=0\/j=1\/j=2\/j=3\/j=4\/j=5\/j=6\/j=7\/j=8\/j=9:=by omega
  all_goals rfl
 clear hW1 HA ho;have f4:∀y:Ext W1,y.W.cell? ⟨bc,4,none⟩=some (.int .u64 (c.m 4)):=fun y=>y.cell (HA1.out.1 4 dQ)
 have f6:∀y:Ext W1,y.W.cell? ⟨bc,6,none⟩=some (.int .u64 (c.m 6)):=fun y=>y.cell (HA1.out.1 6 dQ)
 have s3:∀y:Ext W1,y.W.cell? ⟨W.heap.size,3,none⟩=some (.int .i64 (G 3)):=fun y=>y.cell (HS1.out.1 3 dQ)
 have s5:∀y:Ext W1,y.W.cell? ⟨W.heap.size,5,none⟩=some (.int .i64 (G 5)):=fun y=>y.cell (HS1.out.1 5 dQ)
 refine zaA kQ kQ ?_
 repeat (first|go_big_quiet_skip|(go_big_quiet_want;go_big_quiet_op;(first|go_big_quiet_on|go_big_quiet_call ((with_reducible first|exact zbP _ (H4.out _)|exact zbP _ (H6.out _))))))
 refine wpQuiet_nil ?_;rintro _ ⟨xw,rfl⟩;have hq2:Below W1.heap.size W1 xw.W:=Ext.h xw;clear f4 f6 s3 s5 H4 H6;generalize xw.W=W2 at *;have hb2:=zaf hb1 hq2 hb1.size;have HA2:=waV (Arr.below HA1.out (Arr.lt HA1.out dQ) hq2);have HS2:=waV (Arr.below HS1.out (Arr.lt HS1.out dQ) hq2);have ho2:=zjX hq2 ho1;clear HA1 HS1 ho1 hq2 hb1 xw;have f7:W2.cell? ⟨bc,7,none⟩=some (.bool c.or):=HA2.out.1 7 dQ;have f3:W2.cell? ⟨bc,3,none⟩=some (.int .u64 (c.m 3)):=HA2.out.1 3 dQ;have s2:W2.cell? ⟨W.heap.size,2,none⟩=some (.int .i64 (G 2)):=HS2.out.1 2 dQ;generalize c.or=O at *;cases D<;>cases K<;>cases O
 case false.false.false=>go_wp2;go_ret;exact⟨rfl,hb2⟩
 case false.false.true=>go_wp2;go_ret;exact⟨rfl,hb2⟩
 case false.true.false=>go_wp2;go_ret;exact⟨rfl,hb2⟩
 case true.false.false=>go_wp2;go_ret;exact⟨rfl,hb2⟩
 all_goals (
  go_wp2_with fail;refine(H3.out _).mono ?_;rintro e w3 ⟨rfl,hq3⟩;have hb3:=zaf hb2 hq3 hb2.size;have HA3:=waV (Arr.below HA2.out (Arr.lt HA2.out dQ) hq3);have HS3:=waV (Arr.below HS2.out (Arr.lt HS2.out dQ) hq3);have ho3:=waV (zjX hq3 ho2);clear f3 s2 f7 ho2 hq3 HA2 HS2 H3 hb2;cases B3 with
  |false=>
   go_wp2;go_ret;exact⟨rfl,hb3⟩
  |true=>
   have f5:w3.cell? ⟨bc,5,none⟩=some (.int .u64 (c.m 5)):=HA3.out.1 5 dQ;have s4:w3.cell? ⟨W.heap.size,4,none⟩=some (.int .i64 (G 4)):=HS3.out.1 4 dQ;go_wp2_with fail;refine(H5.out _).mono ?_;rintro e w4 ⟨rfl,hq4⟩;have hb4:=zaf hb3 hq4 hb3.size;have HA4:=waV (Arr.below HA3.out (Arr.lt HA3.out dQ) hq4);have HS4:=waV (Arr.below HS3.out (Arr.lt HS3.out dQ) hq4);have ho4:=waV (zjX hq4 ho3.out);clear f5 s4 hq4 HA3 HS3 H5 hb3 ho3;cases B5 with
   |false=>
    go_wp2;go_ret;exact⟨rfl,hb4⟩
   |true=>
    have f18:w4.cell? ⟨bc,18,none⟩=some (.int .u64 (c.y 0)):=HA4.out.1 18 dQ;have f19:w4.cell? ⟨bc,19,none⟩=some (.int .u64 (c.y 1)):=HA4.out.1 19 dQ;have f20:w4.cell? ⟨bc,20,none⟩=some (.int .u64 (c.y 2)):=HA4.out.1 20 dQ;have f21:w4.cell? ⟨bc,21,none⟩=some (.int .u64 (c.y 3)):=HA4.out.1 21 dQ;have f22:w4.cell? ⟨bc,22,none⟩=some (.int .u64 (c.y 4)):=HA4.out.1 22 dQ;have f23:w4.cell? ⟨bc,23,none⟩=some (.int .u64 (c.y 5)):=HA4.out.1 23 dQ;have f24:w4.cell? ⟨bc,24,none⟩=some (.int .u64 (c.y 6)):=HA4.out.1 24 dQ;have s1:w4.cell? ⟨W.heap.size,1,none⟩=some (.int .i64 (G 1)):=HS4.out.1 1 dQ;go_wp2_with fail;refine(HY.out _).mono ?_;rintro e w5 ⟨rfl,hq5⟩;have hb5:=zaf hb4 hq5 hb4.size;have HA5:=waV (Arr.below HA4.out (Arr.lt HA4.out dQ) hq5);have HS5:=waV (Arr.below HS4.out (Arr.lt HS4.out dQ) hq5);have ho5:=waV (zjX hq5 ho4.out);clear f18 f19 f20 f21 f22 f23 f24 s1 hq5 HA4 HS4 HY hb4 ho4;cases BY with
    |false=>
     go_wp2;go_ret;exact⟨rfl,hb5⟩
    |true=>
     have f8:w5.cell? ⟨bc,8,none⟩=some (.int .i64 c.oi):=HA5.out.1 8 dQ;have f9:w5.cell? ⟨bc,9,none⟩=some (.bool c.ob):=HA5.out.1 9 dQ;have f10:w5.cell? ⟨bc,10,none⟩=some (.int .u64 (c.od 0)):=HA5.out.1 10 dQ;have f11:w5.cell? ⟨bc,11,none⟩=some (.int .u64 (c.od 1)):=HA5.out.1 11 dQ;have f12:w5.cell? ⟨bc,12,none⟩=some (.int .u64 (c.od 2)):=HA5.out.1 12 dQ;have f13:w5.cell? ⟨bc,13,none⟩=some (.int .u64 (c.od 3)):=HA5.out.1 13 dQ;have f14:w5.cell? ⟨bc,14,none⟩=some (.int .u64 (c.od 4)):=HA5.out.1 14 dQ;have f15:w5.cell? ⟨bc,15,none⟩=some (.int .u64 (c.od 5)):=HA5.out.1 15 dQ;have f16:w5.cell? ⟨bc,16,none⟩=some (.int .u64 (c.od 6)):=HA5.out.1 16 dQ;have f17:w5.cell? ⟨bc,17,none⟩=some (.int .u64 (c.od 7)):=HA5.out.1 17 dQ;have s0:w5.cell? ⟨W.heap.size,0,none⟩=some (.int .i64 (G 0)):=HS5.out.1 0 dQ;have s1:w5.cell? ⟨W.heap.size,1,none⟩=some (.int .i64 (G 1)):=HS5.out.1 1 dQ;have s2:w5.cell? ⟨W.heap.size,2,none⟩=some (.int .i64 (G 2)):=HS5.out.1 2 dQ;have s3:w5.cell? ⟨W.heap.size,3,none⟩=some (.int .i64 (G 3)):=HS5.out.1 3 dQ;have s4:w5.cell? ⟨W.heap.size,4,none⟩=some (.int .i64 (G 4)):=HS5.out.1 4 dQ;have s5:w5.cell? ⟨W.heap.size,5,none⟩=some (.int .i64 (G 5)):=HS5.out.1 5 dQ;have s6:w5.cell? ⟨W.heap.size,6,none⟩=some (.int .i64 (G 6)):=HS5.out.1 6 dQ;have s7:w5.cell? ⟨W.heap.size,7,none⟩=some (.int .i64 (G 7)):=HS5.out.1 7 dQ;have s8:w5.cell? ⟨W.heap.size,8,none⟩=some (.int .i64 (G 8)):=HS5.out.1 8 dQ;have s9:w5.cell? ⟨W.heap.size,9,none⟩=some (.int .i64 (G 9)):=HS5.out.1 9 dQ;go_wp2_with fail;refine(HN.out _).mono ?_;rintro e w6 ⟨rfl,hq6⟩;have hb6:=zaf hb5 hq6 hb5.size;have HA6:=waV (Arr.below HA5.out (Arr.lt HA5.out dQ) hq6);have HS6:=waV (Arr.below HS5.out (Arr.lt HS5.out dQ) hq6);have ho6:=waV (zjX hq6 ho5.out);clear f8 f9 f10 f11 f12 f13 f14 f15 f16 f17 s0 s1 s2 s3 s4 s5 s6 s7 s8 s9 hq6 HA5 HS5 HN hb5 ho5;cases BN with
     |false=>
      go_wp2;go_ret;exact⟨rfl,hb6⟩
     |true=>
      have s0:w6.cell? ⟨W.heap.size,0,none⟩=some (.int .i64 (G 0)):=HS6.out.1 0 dQ;have s1:w6.cell? ⟨W.heap.size,1,none⟩=some (.int .i64 (G 1)):=HS6.out.1 1 dQ;have s2:w6.cell? ⟨W.heap.size,2,none⟩=some (.int .i64 (G 2)):=HS6.out.1 2 dQ;have s3:w6.cell? ⟨W.heap.size,3,none⟩=some (.int .i64 (G 3)):=HS6.out.1 3 dQ;have s4:w6.cell? ⟨W.heap.size,4,none⟩=some (.int .i64 (G 4)):=HS6.out.1 4 dQ;have s5:w6.cell? ⟨W.heap.size,5,none⟩=some (.int .i64 (G 5)):=HS6.out.1 5 dQ;have s6:w6.cell? ⟨W.heap.size,6,none⟩=some (.int .i64 (G 6)):=HS6.out.1 6 dQ;have s7:w6.cell? ⟨W.heap.size,7,none⟩=some (.int .i64 (G 7)):=HS6.out.1 7 dQ;have s8:w6.cell? ⟨W.heap.size,8,none⟩=some (.int .i64 (G 8)):=HS6.out.1 8 dQ;have s9:w6.cell? ⟨W.heap.size,9,none⟩=some (.int .i64 (G 9)):=HS6.out.1 9 dQ;have hoP:=ho6.out;have eg:=HG.out;have hcall:=waV (HP.out w6 hb6)
      go_wp2_with (go_at_fn g;refine hcall.out.mono ?_;rintro e w7 ⟨rfl,hq7⟩)
      have hb7:=zaf hb6 hq7 hb6.size;go_wp2;go_ret;exact⟨rfl,hb7⟩)
section
variable {α : Type} {p : α -> Bool} {l : List α} {k : Nat} {x : α}
def zuK (p:α->Bool) (l:List α):Int:=match l.findIdx? p with|some i=>i|none=>-1
theorem zsx (H:∀j it,j<k->l[j]?=some it->p it=false) (hx:l[k]?=some x) (h:p x=true):zuK p l=k:=by
 have hk:=(waI.1 hx);have:l.findIdx? p=some k:=by
  rw[List.findIdx?_eq_some_iff_getElem];refine⟨hk.1,by rw[hk.2];exact h,fun j hj=>by
   rw[Bool.not_eq_true];exact H j _ hj (waE (Nat.lt_trans hj hk.1))⟩
 simp[zuK,this]
theorem zpN (H:∀j it,j<l.length->l[j]?=some it->p it=false):zuK p l=-1:=by
 have:l.findIdx? p=none:=by
  rw[List.findIdx?_eq_none_iff];intro x hx;obtain⟨j,hj⟩:=List.getElem?_of_mem hx;exact H j x (waI.1 hj).1 hj
 simp[zuK,this]
theorem zsy (p:α->Bool) (l:List α):decide (0<=zuK p l)=l.any p:=by
 unfold zuK;cases h:l.findIdx? p with
 |none=>
  rw[List.findIdx?_eq_none_iff] at h;have:l.any p=false:=by rw[List.any_eq_false];intro x hx;simp[h x hx]
  simp[this]
 |some i=>
  rw[List.findIdx?_eq_some_iff_getElem] at h;obtain⟨hi,hp,_⟩:=h;have:l.any p=true:=by rw[List.any_eq_true];exact⟨_,List.getElem_mem hi,hp⟩
  simp[this]
theorem zpO {b:Bool} (H:∀j it,j<k->l[j]?=some it->p it=b) (hx:l[k]?=some x) (h:p x=b):∀j it,j<k+1->l[j]?=some it->p it=b:=by
 intro j it hj hl;rcases Nat.lt_or_ge j k with h1|h1
 ·exact H j it h1 hl
 ·obtain rfl:j=k:=by omega
  rw[hx] at hl;cases hl;exact h
end
theorem zbu.congr {g:Nat} {lb:Array Value} {p q:Int->Bool} {lo hi:Nat} {w:World} (h:zbu g lb p lo hi w) (e:∀n,0<=n->n<146097->p n=q n):zbu g lb q lo hi w:=fun W hW n h0 h1=>by
 rw[<-e n h0 h1];exact h W hW n h0 h1
theorem zbu.later {g:Nat} {lb:Array Value} {p:Int->Bool} {lo hi:Nat} {w w':World} (h:zbu g lb p lo hi w) (hb:KpI lo hi w w'):zbu g lb p lo hi w':=fun W hW n h0 h1=>h W (hb.trans hW) n h0 h1
def zjY (c:Cl) (n:Int):Bool:=zeI c zbn&&zwL c (ziV c.u c.s c.a) n
theorem zvu {c:Cl} {w:World} {b:Nat} (h:Arr w b 30 (gC c)):∀j v,(clA c)[j]?=some v->w.cell? ⟨b,j,none⟩=some v:=fun j v hj=>by
 have hl:j<30:=(waL.1 hj).1;rw[h.1 j hl];unfold gC;rw[wbL,hj];rfl
theorem zbV (c:Cl):(prog.info? 60).map (·.size)=some (clA c).size:=by kernel_rfl
theorem zpP (c:Cl) (hc:zbC c) (w:World):Calls prog 132 #[.agg (clA c)] w (zw7 (zjY c) w):=by
 have eg1:∀args w,(callFunc 187 args).run prog w=.ok (.enter 187 args) w:=enters_of func187 kQ rfl;have eg2:∀args w,(callFunc 189 args).run prog w=.ok (.enter 189 args) w:=enters_of func189 kQ rfl;have E1:=waV eg1;have E2:=waV eg2;have HM:=waV (fun W=>zgI c W)
 have HU:=waV (fun W=>zpG c.u c.s c.a W)
 have hQ:∀n,zjY c n=(zeI c zbn&&zwL c (ziV c.u c.s c.a) n):=fun n=>rfl
 have H1:=waV (fun lo hi W=>znO lo hi W)
 have H2:=waV (fun bc bo g lb lo hi lo' hi' w h5 h6 h7 h8 h9 h1 h2 h3 h4=>znP c hc bc bo g lb (ziV c.u c.s c.a) lo hi lo' hi' w h5 h6 h7 h8 h9 h1 h2 h3 h4)
 have HC0:=waV (zgH w c 60);have HA:=waV (fun w b h=>@zvu c w b h)
 have HI:=waV (zbV c);have H25:Hid ((gC c) 25=.int .i64 c.u/\(gC c) 26=.int .i64 c.s/\(gC c) 27=.int .i64 c.a):=⟨rfl,rfl,rfl⟩;have h1c:(Value.agg (clA c)).oneCell'=false:=rfl;clear eg1 eg2 hc;generalize ziV c.u c.s c.a=P at *;generalize zjY c=Q at *;generalize zeI c zbn=B at *;generalize gC c=gc at *;generalize clA c=cs at *;go_enter func132,ntmps132
 go_wp2_with (refine zag rfl 60 _ rfl cs w.heap.size 0 rfl underlying60 rfl HI.out (zdM (HA.out _ _ HC0.out)) ?_)
 refine(HM.out _).mono ?_;rintro e w1 ⟨rfl,hq1⟩;have HC2:=waV (Arr.below HC0.out (Arr.lt HC0.out dQ) hq1);have hb1:Below w.heap.size w w1:=((waC _ w).alloc (waJ _) _).trans (hq1.mono (by simp))
 clear HC0 hq1 HM;cases B with
 |false=>
  have HP:Hid (∀lo hi w',zbu 187 #[] Q lo hi w'):=fun lo hi w'=>(H1.out lo hi w').congr fun n _ _=>by rw[hQ n];rfl
  clear hQ H2;go_wp2;go_ret;exact⟨_,_,rfl,E1.out,HP.out _ _ _,hb1⟩
 |true=>
  have o25:w1.cell? ⟨w.heap.size,25,none⟩=some (.int .i64 c.u):=by rw[<-H25.out.1];exact HC2.out.1 25 (by decide)
  have o26:w1.cell? ⟨w.heap.size,26,none⟩=some (.int .i64 c.s):=by rw[<-H25.out.2.1];exact HC2.out.1 26 (by decide)
  have o27:w1.cell? ⟨w.heap.size,27,none⟩=some (.int .i64 c.a):=by rw[<-H25.out.2.2];exact HC2.out.1 27 (by decide)
  have HQ:Hid (∀bc bo g lb lo hi lo' hi' w,(lo<=bc/\bc<hi)->(lo<=bo/\bo<hi)->lo<=lo'->hi'<=hi->hi<=w.heap.size->Arr w bc 30 gc->w.cell? ⟨bo,0,none⟩=some (.func (.func g) #[] lb)->(∀args w,(callFunc g args).run prog w=.ok (.enter g args) w)->zbu g lb P lo' hi' w->zbu 189 #[.pointer (some ⟨bc,0,none⟩),.pointer (some ⟨bo,0,none⟩)] Q lo hi w):=
   fun bc bo g lb lo hi lo' hi' w h5 h6 h7 h8 h9 h1 h2 h3 h4=>(H2.out bc bo g lb lo hi lo' hi' w h5 h6 h7 h8 h9 h1 h2 h3 h4).congr fun n _ _=>by rw[hQ n];rfl
  clear hQ H2 H1;go_wp2_with fail;refine(HU.out _).mono ?_;rintro e w2 ⟨g,lb,rfl,hg,hp,hq2⟩;have HC3:=waV (Arr.below HC2.out (Arr.lt HC2.out dQ) hq2);have hb2:=zaf hb1 hq2 hb1.size;have hs1:=hb1.size;have HG:=waV hg;have HP:=waV hp;clear o25 o26 o27 hq2 HC2 hb1 hg hp HU;go_wp2;go_ret;have hbE:Below w2.heap.size w2 (World.alloc w2 (.cells #[.func (.func g) #[] lb] 218)):=by exact zaE
  have hs2:=hbE.size;have hs3:=hb2.size;have hl1:=Arr.lt HC3.out dQ;refine⟨_,_,rfl,E2.out,HQ.out _ _ g lb _ _ _ _ _ ⟨waJ _,by omega⟩ ⟨by omega,by simp⟩ hs1 hs2 (waJ _) ?_ ?_ HG.out (HP.out.later (KpI.of_below hbE (waJ _))),?_⟩
  ·exact Arr.below HC3.out (Arr.lt HC3.out dQ) hbE
  ·simp[go_sem]
  ·exact zaf hb2 hbE hb2.size
theorem zmB (w:World) (cs:Array Value) (t:TypeId):∀j v,cs[j]?=some v->(w.alloc (.cells cs t)).cell? ⟨w.heap.size,j,none⟩=some v:=fun j v hj=>zaa rfl hj
def shA (n:Int):Array Value:=#[.int .i64 (shN n (yD n) (mD n) (dD n) 0),.int .i64 (shN n (yD n) (mD n) (dD n) 1),.int .i64 (shN n (yD n) (mD n) (dD n) 2),.int .i64 (shN n (yD n) (mD n) (dD n) 3),.int .i64 (shN n (yD n) (mD n) (dD n) 4),.int .i64 (shN n (yD n) (mD n) (dD n) 5),.int .i64 (shN n (yD n) (mD n) (dD n) 6),.int .i64 (shN n (yD n) (mD n) (dD n) 7),.int .i64 (shN n (yD n) (mD n) (dD n) 8),.int .i64 (shN n (yD n) (mD n) (dD n) 9)]
def zsz (c:Cl) (t:Int):Bool:=
 inC t&&(zeI c zbn&&(decide (zaw c.f c.t<=t/\t<=zao c.f c.t)&&(zdh (t%86400) (c.m 2) (c.m 1) (c.m 0)&&(onU c.u c.s c.a t&&zjY c (t / 86400)))))
def zeN (c:Cl):List Value:=(clA c).toList
abbrev zbh (w:World) (A:Option Addr) (n:Nat) (l:List Cl):Prop:=Rd 30 zeN w A n l
theorem zbh.at_ {w:World} {A:Option Addr} {n:Nat} {l:List Cl} (h:zbh w A n l) {i:Nat} (hi:i<n):
 ∃b o c,A=some ⟨b,o,none⟩/\b<w.heap.size/\l[i]?=some c/\∀j v,(clA c)[j]?=some v->w.cell? ⟨b,o+i * 30+j,none⟩=some v:=by
 obtain⟨b,o,hA,hb,hc⟩:=h.2 oQ;have hx:l[i]?=some (l[i]'(by have:=h.1;omega)):=waE _
 exact⟨b,o,_,hA,hb,hx,fun j v hv=>hc i _ hx j v (by unfold zeN;simpa using hv)⟩
def zvv (g:Nat) (lb:Array Value) (p:Cl->Bool) (l:List Cl) (w:World):Prop:=
 ∀(W:World) (c:Cl),c∈l->Below w.heap.size w W->Calls prog g (#[.agg (clA c)]++lb) W (Ret (.bool (p c)) W)
theorem zhC (A:Option Addr) (n c:Nat) (l:List Cl) (g:Nat) (lb:Array Value) (p:Cl->Bool) (w:World) (hA:zbh w A n l) (hn:n<=9223372036854775807)
 (eg:∀args w,(callFunc g args).run prog w=.ok (.enter g args) w) (hp:zvv g lb p l w):
 Calls prog 113 #[.slice A n c,.func (.func g) #[] lb] w (Ret (.int .i64 (zuK p l)) w):=by
 have HL:Hid (l.length=n):=hA.1;go_enter func113,ntmps113;go_wp2
 go_loopw [8] (fun i wr=>∃k:Nat,k<=n/\i=.int .i64 k/\Hid (∀j x,j<k->l[j]?=some x->p x=false)/\Below w.heap.size w wr) (fun i _=>n - (intOf i).toNat)
 case atStart=>exact⟨0,waK _,rfl,fun j _ h=>absurd h (Nat.not_lt_zero _),waC _ _⟩
 case round=>
  obtain⟨k,hk,rfl,H,hb⟩:=hrel;have hsz:=hb.size
  by_cases hlt:k<n
  ·obtain⟨b,o,x,rfl,hbl,hx,hcl⟩:=zbh.at_ (hA.below hb (waJ _)) hlt
   have hlt':(k:Int)<(n:Int):=by omega
   have Hx:=waV hx;have hcall:=waV (hp wr x (List.mem_of_getElem? hx) hb);have HI:=waV (zbV x);have HCl:=waV hcl;clear hx hcl hp;generalize clA x=cs at *;cases hm:p x with
   |true=>
    have Hm:=waV hm;rw[hm] at hcall;clear hm
    go_wp2_with (first|(refine zag (by rfl) 60 _ rfl cs b (o+k * 30) rfl underlying60 rfl HI.out HCl.out ?_)|(go_at_fn g;refine hcall.out.mono ?_;rintro e w1 ⟨rfl,hb1⟩))
    go_ret;exact⟨zaR (zsx H.out Hx.out Hm.out).symm,zaf hb hb1 hsz⟩
   |false=>
    have Hm:=waV hm;rw[hm] at hcall;clear hm
    go_wp2_with (first|(refine zag (by rfl) 60 _ rfl cs b (o+k * 30) rfl underlying60 rfl HI.out HCl.out ?_)|(go_at_fn g;refine hcall.out.mono ?_;rintro e w1 ⟨rfl,hb1⟩))
    go_roundw
    case rel=>exact⟨k+1,by omega,by go_num,zpO H.out Hx.out Hm.out,zaf hb hb1 hsz⟩
    case measure=>simp [intOf];omega
  ·obtain rfl:k=n:=by omega
   go_wp2;go_ret;exact⟨zaR (zpN (HL.out▸H.out)).symm,hb⟩
theorem zfJ (A:Option Addr) (n c:Nat) (l:List Cl) (g:Nat) (lb:Array Value) (p:Cl->Bool) (w:World) (hA:zbh w A n l) (hn:n<=9223372036854775807)
 (eg:∀args w,(callFunc g args).run prog w=.ok (.enter g args) w) (hp:zvv g lb p l w):
 Calls prog 56 #[.slice A n c,.func (.func g) #[] lb] w (Ret (.bool (l.any p)) w):=by
 have HC:=waV (zhC A n c l g lb p w hA hn eg hp);rw[<-zsy];generalize zuK p l=q at HC ⊢;clear hp hA eg;go_enter func56,ntmps56
 go_wp2_with (go_at_call 113;refine HC.out.mono ?_;rintro e w1 ⟨rfl,hb1⟩)
 go_ret;exact⟨rfl,hb1⟩
theorem znQ (l:List Cl) (w:World):zvv 57 #[] (fun c=>!zeI c zbn) l w:=by
 intro W c _ _;have HM:=waV (fun W=>zgI c W)
 have HI:=waV (zbV c);have HL:=waV (zmB W (clA c) 60);show Calls _ _ _ _ (Ret (.bool (!zeI c zbn)) W);generalize zeI c zbn=B at *;generalize clA c=cs at *;go_enter func57,ntmps57
 go_wp2_with (refine zag (by rfl) 60 _ rfl cs W.heap.size 0 rfl underlying60 rfl HI.out (zdM HL.out) ?_)
 refine(HM.out _).mono ?_;rintro e w1 ⟨rfl,hb1⟩;go_wp2;go_ret;exact⟨rfl,((waC _ W).alloc (waJ _) _).trans (hb1.mono (by simp))⟩
def zeJ (l:List Cl):Bool:=decide (l.length<=8)&&l.all fun c=>zeI c zbn
theorem zpQ (A:Option Addr) (n c:Nat) (l:List Cl) (w:World) (hA:zbh w A n l) (hn:n<=9223372036854775807):Calls prog 20 #[.slice A n c] w (Ret (.bool (zeJ l)) w):=by
 have eg:∀args w,(callFunc 57 args).run prog w=.ok (.enter 57 args) w:=enters_of func57 kQ rfl;have HC:=waV (fun W (hb:Below w.heap.size w W)=>zfJ A n c l 57 #[] (fun c=>!zeI c zbn) W (hA.below hb (waJ _)) hn eg (znQ l W))
 have hL:l.length=n:=hA.1;have hS:Hid (zeJ l=(decide (n<=8)&&!(l.any fun c=>!zeI c zbn))):=by
  show _=_;unfold zeJ;rw[hL];congr 1;rw[List.not_any_eq_all_not];simp
 rw[hS.out];clear hS hA eg hL;generalize (l.any fun c=>!zeI c zbn)=B at *
 by_cases h:n<=8
 ·have h':(n:Int)<=8:=by omega
  rw[waP h];clear h;go_enter func20,ntmps20;go_wp2_with fail;refine(HC.out _ (by exact zaE)).mono ?_
  rintro e w1 ⟨rfl,hb1⟩;go_wp2;go_ret;exact⟨zab (by simp),hb1⟩
 ·have h':¬(n:Int)<=8:=by omega
  rw[waO h];clear h;go_enter func20,ntmps20;go_wp2;go_ret;exact⟨rfl,by exact zaE⟩
def zuL (l:List Cl) (t:Int):Bool:=zeJ l&&l.any fun c=>zsz c t
end Go.Proofs.YtllcdbgjeidlkaaGreatDoor
