/- A part of the proof: WClT WRuA WClAQ RLap WCloC -/
import Derived.Test.YtgedndlifiihkaaGreatDoorR07
import Derived.Test.YtgedndlifiihkaaGreatDoorR06
import Derived.Laws.EntriesVeiled
import Derived.Test.YtgedndlifiihkaaGreatDoorR00
set_option maxHeartbeats 80000000
set_option maxRecDepth 100000
set_option linter.unusedSimpArgs false
set_option linter.unusedVariables false
namespace Go.Proofs.YtgedndlifiihkaaGreatDoor
open Go.Proofs.Tryz
open Go.RowKit
theorem zu5 (w:World) (t:TypeId) (p0 q0 p1 q1 p2 q2 p3 q3 p4 q4 p5 q5 p6 q6:Int):zlc (w.alloc (.cells #[.int .u64 p0,.int .u64 q0,.int .u64 p1,.int .u64 q1,.int .u64 p2,.int .u64 q2,.int .u64 p3,.int .u64 q3,.int .u64 p4,.int .u64 q4,.int .u64 p5,.int .u64 q5,.int .u64 p6,.int .u64 q6] t)) (some ⟨w.heap.size,0,none⟩) 7 [(p0,q0),(p1,q1),(p2,q2),(p3,q3),(p4,q4),(p5,q5),(p6,q6)]:=
 ⟨rfl,fun _=>⟨w.heap.size,0,rfl,by simp,fun i x hx j v hj=>by
  have hi:i<7:=(waI.1 hx).1;have hj2:j<2:=(waI.1 hj).1;obtain rfl|rfl:j=0∨j=1:=by omega
  all_goals
   obtain rfl|rfl|rfl|rfl|rfl|rfl|rfl:i=0∨i=1∨i=2∨i=3∨i=4∨i=5∨i=6:=by omega
   all_goals (cases hx;cases hj;exact zaa rfl rfl)⟩⟩
def gC (c:Cl) (j:Nat):Value:=(clA c).getD j undef
theorem zh8 (w:World) (c:Cl) (t:TypeId):Arr (w.alloc (.cells (clA c) t)) w.heap.size 30 (gC c):=
 zd3 w (clA c) t (gC c) (fun j hj=>by unfold gC;rw[wbI hj,wbL,wbI hj];rfl)
def zs5 (c F:Cl):List (Int×Int):=[(c.m 0,F.m 0),(c.m 1,F.m 1),(c.m 2,F.m 2),(c.m 3,F.m 3),(c.m 4,F.m 4),(c.m 5,F.m 5),(c.m 6,F.m 6)]
def ze7 (c F:Cl):Bool:=(zs5 c F).all zaX&&(zjw c&&(eqW (zoo c.y) c.y&&(!(unT c.u).isEmpty&&(decide (1≤c.s)&&inC c.a))))
theorem zhO {ops:Array Oper} {rest:List Oper} {op:Oper} {a:Act} {Q:Exit→Act→World→Prop} {W:World} (hgd:op.guard=none) (t:TypeId) (x y:Operand) (ho:op.op=.store t x y) (cs:Array Value) (b:Nat) (B:Nat) (w0:World) (hB:B≤b)
 (hx:a.eval x=.pointer (some ⟨b,0,none⟩)) (hy:a.eval y=.agg cs) (hi:(prog.info? t).map (·.size)=some cs.size) (h1:cs.all (·.oneCell')=true)
 (hb:Below B w0 W) (ht:W.there b 0 cs.size)
 (h:∀W',Below B w0 W'→(∀j v,cs[j]?=some v→W'.cell? ⟨b,j,none⟩=some v)→W'.heap.size=W.heap.size→wpList prog ops Q rest (a.put op.dst undef) W'):wpList prog ops Q (op::rest) a W:=by
 refine wpList_store_mid (P:=prog) hgd t x y ho b 0 cs hx hy ht hi h1 (h _ (zbm hB _ _ _ hb) (fun j v hv=>?_) (zgV _ _ _ _))
 have:=World.rangeAt_setCells_same W b 0 cs.toList (by simpa using ht) j v (by simpa using hv)
 rwa [waH] at this
theorem zpo (c F:Cl) (hF:∀W,Calls prog 66 #[] W (Ret (.agg (clA F)) W)) (w:World):Calls prog 101 #[.agg (clA c)] w (Ret (.bool (ze7 c F)) w):=by
 have HF:=waV hF;clear hF;have HWi:=waV (fun A W (h:zlc W A 7 (zs5 c F))=>zld A 7 7 (zs5 c F) W h dQ)
 have HO:=waV (fun W=>zpl c W)
 have HY:=waV (fun W=>zpj c.y W)
 have HN:=waV (fun W=>zpn c.u W)
 have HI:=waV (fun W=>zoY c.a W)
 have hP:∀(W:World),zlc (W.alloc (.cells #[.int .u64 (c.m 0),.int .u64 (F.m 0),.int .u64 (c.m 1),.int .u64 (F.m 1),.int .u64 (c.m 2),.int .u64 (F.m 2),.int .u64 (c.m 3),.int .u64 (F.m 3),.int .u64 (c.m 4),.int .u64 (F.m 4),.int .u64 (c.m 5),.int .u64 (F.m 5),.int .u64 (c.m 6),.int .u64 (F.m 6)] 239)) (some ⟨W.heap.size,0,none⟩) 7 (zs5 c F):=fun W=>zu5 W _ _ _ _ _ _ _ _ _ _ _ _ _ _ _
 have HP:=waV hP;have hM:Hid (ze7 c F=((zs5 c F).all zaX&&(zjw c&&(eqW (zoo c.y) c.y&&(!(unT c.u).isEmpty&&(decide (1≤c.s)&&inC c.a)))))):=rfl;rw[hM.out];clear hM hP;generalize (zs5 c F).all zaX=B1 at *;generalize zs5 c F=L at *;generalize zjw c=B2 at *;generalize eqW (zoo c.y) c.y=B3 at *;generalize inC c.a=B6 at *;have HC0:=waV (zh8 w c 61);have f0:(clA F)[0]?=some (.int .u64 (F.m 0)):=rfl;have f1:(clA F)[1]?=some (.int .u64 (F.m 1)):=rfl;have f2:(clA F)[2]?=some (.int .u64 (F.m 2)):=rfl;have f3:(clA F)[3]?=some (.int .u64 (F.m 3)):=rfl;have f4:(clA F)[4]?=some (.int .u64 (F.m 4)):=rfl;have f5:(clA F)[5]?=some (.int .u64 (F.m 5)):=rfl;have f6:(clA F)[6]?=some (.int .u64 (F.m 6)):=rfl;have fs:(clA F).size=30:=rfl;have fa:(clA F).all (·.oneCell')=true:=by kernel_rfl
 generalize clA F=cs at *;have Hf:Hid (cs[0]?=some (.int .u64 (F.m 0))∧cs[1]?=some (.int .u64 (F.m 1))∧cs[2]?=some (.int .u64 (F.m 2))∧cs[3]?=some (.int .u64 (F.m 3))∧cs[4]?=some (.int .u64 (F.m 4))∧cs[5]?=some (.int .u64 (F.m 5))∧cs[6]?=some (.int .u64 (F.m 6))∧cs.size=30∧cs.all (·.oneCell')=true):=⟨f0,f1,f2,f3,f4,f5,f6,fs,fa⟩;clear f0 f1 f2 f3 f4 f5 f6 fs fa;unfold clA wdV zgy at *;go_enter func101,ntmps101;go_wp2_with fail;generalize hV:World.alloc w _=V at *;have hbV:Below w.heap.size w V:=by rw[←hV];exact(waC _ _).alloc (waJ _) _
 clear hV;generalize Value.agg #[.int .u64 (c.m 0),.int .u64 (c.m 1),.int .u64 (c.m 2),.int .u64 (c.m 3),.int .u64 (c.m 4),.int .u64 (c.m 5),.int .u64 (c.m 6),.bool c.or,.int .i64 c.oi,.bool c.ob,.int .u64 (c.od 0),.int .u64 (c.od 1),.int .u64 (c.od 2),.int .u64 (c.od 3),.int .u64 (c.od 4),.int .u64 (c.od 5),.int .u64 (c.od 6),.int .u64 (c.od 7),.int .u64 (c.y 0),.int .u64 (c.y 1),.int .u64 (c.y 2),.int .u64 (c.y 3),.int .u64 (c.y 4),.int .u64 (c.y 5),.int .u64 (c.y 6),.int .i64 c.u,.int .i64 c.s,.int .i64 c.a,.int .i64 c.f,.int .i64 c.t]=va;refine(HF.out _).mono ?_;rintro e w1 ⟨rfl,hb1⟩;have HC:=waV (Arr.below HC0.out (Arr.lt HC0.out dQ) hb1);have hb:=zai hbV hb1 hbV.size;clear hb1 hbV HF HC0;have m0:w1.cell? ⟨w.heap.size,0,none⟩=some (.int .u64 (c.m 0)):=HC.out.1 0 dQ;have m1:w1.cell? ⟨w.heap.size,1,none⟩=some (.int .u64 (c.m 1)):=HC.out.1 1 dQ;have m2:w1.cell? ⟨w.heap.size,2,none⟩=some (.int .u64 (c.m 2)):=HC.out.1 2 dQ;have m3:w1.cell? ⟨w.heap.size,3,none⟩=some (.int .u64 (c.m 3)):=HC.out.1 3 dQ;have m4:w1.cell? ⟨w.heap.size,4,none⟩=some (.int .u64 (c.m 4)):=HC.out.1 4 dQ;have m5:w1.cell? ⟨w.heap.size,5,none⟩=some (.int .u64 (c.m 5)):=HC.out.1 5 dQ;have m6:w1.cell? ⟨w.heap.size,6,none⟩=some (.int .u64 (c.m 6)):=HC.out.1 6 dQ;have z1:w.heap.size<w1.heap.size:=Arr.lt HC.out dQ;have hT:=zb8 w1 #[.int .u64 0,.int .u64 0,.int .u64 0,.int .u64 0,.int .u64 0,.int .u64 0,.int .u64 0,.bool false,.int .i64 0,.bool false,.int .u64 0,.int .u64 0,.int .u64 0,.int .u64 0,.int .u64 0,.int .u64 0,.int .u64 0,.int .u64 0,.int .u64 0,.int .u64 0,.int .u64 0,.int .u64 0,.int .u64 0,.int .u64 0,.int .u64 0,.int .i64 0,.int .i64 0,.int .i64 0,.int .i64 0,.int .i64 0] 61;have hbA:=(waC w1.heap.size w1).alloc (waJ _) (.cells #[.int .u64 0,.int .u64 0,.int .u64 0,.int .u64 0,.int .u64 0,.int .u64 0,.int .u64 0,.bool false,.int .i64 0,.bool false,.int .u64 0,.int .u64 0,.int .u64 0,.int .u64 0,.int .u64 0,.int .u64 0,.int .u64 0,.int .u64 0,.int .u64 0,.int .u64 0,.int .u64 0,.int .u64 0,.int .u64 0,.int .u64 0,.int .u64 0,.int .i64 0,.int .i64 0,.int .i64 0,.int .i64 0,.int .i64 0] 61)
 go_wp2_with (refine zhO rfl 61 _ _ rfl cs w1.heap.size w1.heap.size w1 (waJ _) rfl rfl (by rw[Hf.out.2.2.2.2.2.2.2.1];kernel_rfl) Hf.out.2.2.2.2.2.2.2.2 hbA (by rw[Hf.out.2.2.2.2.2.2.2.1];exact hT) ?_;intro W' hbW hcW hsW;have n0:W'.cell? ⟨w.heap.size,0,none⟩=some (.int .u64 (c.m 0)):=(hbW.cell (p:=⟨w.heap.size,0,none⟩) z1).trans m0;have n1:W'.cell? ⟨w.heap.size,1,none⟩=some (.int .u64 (c.m 1)):=(hbW.cell (p:=⟨w.heap.size,1,none⟩) z1).trans m1;have n2:W'.cell? ⟨w.heap.size,2,none⟩=some (.int .u64 (c.m 2)):=(hbW.cell (p:=⟨w.heap.size,2,none⟩) z1).trans m2;have n3:W'.cell? ⟨w.heap.size,3,none⟩=some (.int .u64 (c.m 3)):=(hbW.cell (p:=⟨w.heap.size,3,none⟩) z1).trans m3;have n4:W'.cell? ⟨w.heap.size,4,none⟩=some (.int .u64 (c.m 4)):=(hbW.cell (p:=⟨w.heap.size,4,none⟩) z1).trans m4;have n5:W'.cell? ⟨w.heap.size,5,none⟩=some (.int .u64 (c.m 5)):=(hbW.cell (p:=⟨w.heap.size,5,none⟩) z1).trans m5;have n6:W'.cell? ⟨w.heap.size,6,none⟩=some (.int .u64 (c.m 6)):=(hbW.cell (p:=⟨w.heap.size,6,none⟩) z1).trans m6;have g0:W'.cell? ⟨w1.heap.size,0,none⟩=some (.int .u64 (F.m 0)):=hcW 0 _ Hf.out.1;have g1:W'.cell? ⟨w1.heap.size,1,none⟩=some (.int .u64 (F.m 1)):=hcW 1 _ Hf.out.2.1;have g2:W'.cell? ⟨w1.heap.size,2,none⟩=some (.int .u64 (F.m 2)):=hcW 2 _ Hf.out.2.2.1;have g3:W'.cell? ⟨w1.heap.size,3,none⟩=some (.int .u64 (F.m 3)):=hcW 3 _ Hf.out.2.2.2.1;have g4:W'.cell? ⟨w1.heap.size,4,none⟩=some (.int .u64 (F.m 4)):=hcW 4 _ Hf.out.2.2.2.2.1;have g5:W'.cell? ⟨w1.heap.size,5,none⟩=some (.int .u64 (F.m 5)):=hcW 5 _ Hf.out.2.2.2.2.2.1;have g6:W'.cell? ⟨w1.heap.size,6,none⟩=some (.int .u64 (F.m 6)):=hcW 6 _ Hf.out.2.2.2.2.2.2.1;clear hcW)
 have hsW':W'.heap.size=w1.heap.size+1:=by rw[hsW];simp
 have hp:=HP.out W';rw[hsW'] at hp;have HCW:=Arr.below HC.out z1 hbW;have HCA:=Arr.alloc HCW (Arr.lt HCW dQ) (.cells #[.int .u64 (c.m 0),.int .u64 (F.m 0),.int .u64 (c.m 1),.int .u64 (F.m 1),.int .u64 (c.m 2),.int .u64 (F.m 2),.int .u64 (c.m 3),.int .u64 (F.m 3),.int .u64 (c.m 4),.int .u64 (F.m 4),.int .u64 (c.m 5),.int .u64 (F.m 5),.int .u64 (c.m 6),.int .u64 (F.m 6)] 239);have hbX:Below w.heap.size w (W'.alloc (.cells #[.int .u64 (c.m 0),.int .u64 (F.m 0),.int .u64 (c.m 1),.int .u64 (F.m 1),.int .u64 (c.m 2),.int .u64 (F.m 2),.int .u64 (c.m 3),.int .u64 (F.m 3),.int .u64 (c.m 4),.int .u64 (F.m 4),.int .u64 (c.m 5),.int .u64 (F.m 5),.int .u64 (c.m 6),.int .u64 (F.m 6)] 239)):=(zai hb hbW hb.size).alloc oQ _;have HC2:=waV HCA;generalize W'.alloc (.cells #[.int .u64 (c.m 0),.int .u64 (F.m 0),.int .u64 (c.m 1),.int .u64 (F.m 1),.int .u64 (c.m 2),.int .u64 (F.m 2),.int .u64 (c.m 3),.int .u64 (F.m 3),.int .u64 (c.m 4),.int .u64 (F.m 4),.int .u64 (c.m 5),.int .u64 (F.m 5),.int .u64 (c.m 6),.int .u64 (F.m 6)] 239)=WA at *;have hp':=waV hp;clear hp HP HCW HCA n0 n1 n2 n3 n4 n5 n6 g0 g1 g2 g3 g4 g5 g6 m0 m1 m2 m3 m4 m5 m6 hsW hsW' hbW HC hb z1 hT hbA;refine(HWi.out _ _ hp'.out).mono ?_;rintro e w2 ⟨rfl,hq2⟩;replace HC2:=waV (Arr.below HC2.out (Arr.lt HC2.out dQ) hq2);replace hbX:=zai hbX hq2 hbX.size;clear hq2;clear HWi hp';cases B1 with
 |false=>
  go_wp2;go_ret;exact⟨rfl,hbX⟩
 |true=>
  have o8:w2.cell? ⟨w.heap.size,8,none⟩=some (.int .i64 c.oi):=HC2.out.1 8 dQ;have o9:w2.cell? ⟨w.heap.size,9,none⟩=some (.bool c.ob):=HC2.out.1 9 dQ;have o10:w2.cell? ⟨w.heap.size,10,none⟩=some (.int .u64 (c.od 0)):=HC2.out.1 10 dQ;have o11:w2.cell? ⟨w.heap.size,11,none⟩=some (.int .u64 (c.od 1)):=HC2.out.1 11 dQ;have o12:w2.cell? ⟨w.heap.size,12,none⟩=some (.int .u64 (c.od 2)):=HC2.out.1 12 dQ;have o13:w2.cell? ⟨w.heap.size,13,none⟩=some (.int .u64 (c.od 3)):=HC2.out.1 13 dQ;have o14:w2.cell? ⟨w.heap.size,14,none⟩=some (.int .u64 (c.od 4)):=HC2.out.1 14 dQ;have o15:w2.cell? ⟨w.heap.size,15,none⟩=some (.int .u64 (c.od 5)):=HC2.out.1 15 dQ;have o16:w2.cell? ⟨w.heap.size,16,none⟩=some (.int .u64 (c.od 6)):=HC2.out.1 16 dQ;have o17:w2.cell? ⟨w.heap.size,17,none⟩=some (.int .u64 (c.od 7)):=HC2.out.1 17 dQ;go_wp2_with fail;refine(HO.out _).mono ?_;rintro e w3 ⟨rfl,hq3⟩;replace HC2:=waV (Arr.below HC2.out (Arr.lt HC2.out dQ) hq3);replace hbX:=zai hbX hq3 hbX.size;clear hq3;clear HO o8 o9 o10 o11 o12 o13 o14 o15 o16 o17;cases B2 with
  |false=>
   go_wp2;go_ret;exact⟨rfl,hbX⟩
  |true=>
   have o18:w3.cell? ⟨w.heap.size,18,none⟩=some (.int .u64 (c.y 0)):=HC2.out.1 18 dQ;have o19:w3.cell? ⟨w.heap.size,19,none⟩=some (.int .u64 (c.y 1)):=HC2.out.1 19 dQ;have o20:w3.cell? ⟨w.heap.size,20,none⟩=some (.int .u64 (c.y 2)):=HC2.out.1 20 dQ;have o21:w3.cell? ⟨w.heap.size,21,none⟩=some (.int .u64 (c.y 3)):=HC2.out.1 21 dQ;have o22:w3.cell? ⟨w.heap.size,22,none⟩=some (.int .u64 (c.y 4)):=HC2.out.1 22 dQ;have o23:w3.cell? ⟨w.heap.size,23,none⟩=some (.int .u64 (c.y 5)):=HC2.out.1 23 dQ;have o24:w3.cell? ⟨w.heap.size,24,none⟩=some (.int .u64 (c.y 6)):=HC2.out.1 24 dQ;go_wp2_with fail;refine(HY.out _).mono ?_;rintro e w4 ⟨rfl,hq4⟩;replace HC2:=waV (Arr.below HC2.out (Arr.lt HC2.out dQ) hq4);replace hbX:=zai hbX hq4 hbX.size;clear hq4;clear HY o18 o19 o20 o21 o22 o23 o24;cases B3 with
   |false=>
    go_wp2;go_ret;exact⟨rfl,hbX⟩
   |true=>
    have o25:w4.cell? ⟨w.heap.size,25,none⟩=some (.int .i64 c.u):=HC2.out.1 25 dQ;go_wp2_with fail;refine(HN.out _).mono ?_;rintro e w5 ⟨rfl,hq5⟩;replace HC2:=waV (Arr.below HC2.out (Arr.lt HC2.out dQ) hq5);replace hbX:=zai hbX hq5 hbX.size;clear hq5;clear HN o25;have hE:(zcZ (unT c.u)).toList.isEmpty=(unT c.u).isEmpty:=by rw[ByteArray.toList_eq,zdj]
    generalize (unT c.u).isEmpty=B4 at *;generalize zcZ (unT c.u)=nm at *;cases B4 with
    |true=>
     go_wp2;go_ret;exact⟨rfl,hbX⟩
    |false=>
     have o26:w5.cell? ⟨w.heap.size,26,none⟩=some (.int .i64 c.s):=HC2.out.1 26 dQ;have o27:w5.cell? ⟨w.heap.size,27,none⟩=some (.int .i64 c.a):=HC2.out.1 27 dQ
     by_cases hs:1≤c.s
     ·rw[waP hs];go_wp2_with fail;refine(HI.out _).mono ?_;rintro e w6 ⟨rfl,rfl⟩;go_wp2;go_ret;exact⟨zak (by simp[hs]),hbX⟩
     ·rw[waO hs];go_wp2;go_ret;exact⟨zak (by simp;omega),hbX⟩
theorem zgZ (c:Cl) (w:World):Calls prog 101 #[.agg (clA c)] w (Ret (.bool (ze7 c zbv)) w):=zpo c zbv zjZ w
theorem znq (lo hi:Nat) (w:World):zbz 214 #[] (fun _=>false) lo hi w:=by
 intro W _ n _ _;have hV:∃g:Nat→Int,shV n=.agg #[.int .i64 (g 0),.int .i64 (g 1),.int .i64 (g 2),.int .i64 (g 3),.int .i64 (g 4),.int .i64 (g 5),.int .i64 (g 6),.int .i64 (g 7),.int .i64 (g 8),.int .i64 (g 9)]:=⟨_,rfl⟩;obtain⟨g,hg⟩:=hV;rw[hg];clear hg;go_enter func214,ntmps214;go_wp2;go_ret;exact⟨rfl,by exact zaG⟩
def zcz (c:Cl):Prop:=(∀k,k<7→M64 (c.m k))∧(∀k,k<8→M64 (c.od k))∧∀k,k<7→M64 (c.y k)
def zuI (c:Cl) (p:Int→Bool) (n:Int):Bool:=
 ((zb3 (c.m 4) (shN n (yD n) (mD n) (dD n) 3)&&zb3 (c.m 6) (shN n (yD n) (mD n) (dD n) 5))||(c.or&&(zb3 (c.m 4) (shN n (yD n) (mD n) (dD n) 3)||zb3 (c.m 6) (shN n (yD n) (mD n) (dD n) 5))))&&
 (zb3 (c.m 3) (shN n (yD n) (mD n) (dD n) 2)&&(zb3 (c.m 5) (shN n (yD n) (mD n) (dD n) 4)&&(zpi c.y (shN n (yD n) (mD n) (dD n) 1 - 1970)&&(zhN c n&&p n))))
theorem znr {w W:World} {b o:Nat} {v:Value} (hB:Below w.heap.size w W) (h:w.cell? ⟨b,o,none⟩=some v):W.cell? ⟨b,o,none⟩=some v:=(⟨W,hB⟩:Ext w).cell h
theorem zmh {P:Program} {f:FuncId} {args:Array Value} {w:World} {v:Value} (h:Calls P f args w (zbU v w)):Calls P f args w (Ret v w):=h.mono fun _ _ h=>h.toB
theorem zns (c:Cl) (hc:zcz c) (bc bo:Nat) (g:Nat) (lb:Array Value) (p:Int→Bool) (lo hi lo' hi':Nat) (w:World) (kc:lo≤bc∧bc<hi) (ko:lo≤bo∧bo<hi) (k1:lo≤lo') (k2:hi'≤hi) (k3:hi≤w.heap.size) (HC0:Arr w bc 30 (gC c)) (co:w.cell? ⟨bo,0,none⟩=some (.func (.func g) #[] lb))
 (eg:∀args w,(callFunc g args).run prog w=.ok (.enter g args) w) (hp:zbz g lb p lo' hi' w):zbz 216 #[.pointer (some ⟨bc,0,none⟩),.pointer (some ⟨bo,0,none⟩)] (zuI c p) lo hi w:=by
 intro W hW n h0 h1;obtain⟨_,_,_,_,y0,y1⟩:=zgQ h0 h1;have hbc:=Arr.lt HC0 dQ;have HA:=waV (hW.arr kc.1 kc.2 HC0);have ho:=hW.cell ko.1 ko.2 co;have HP:=waV (fun V (hV:Below W.heap.size W V)=>hp V ((hW.sub k1 k2).trans (KpI.of_below hV (by have:=hW.size;omega))) n h0 h1)
 have H4:=waV (fun V=>zmh (zby (c.m 4) (shN n (yD n) (mD n) (dD n) 3) (hc.1 4 dQ).1 (hc.1 4 dQ).2 V))
 have H6:=waV (fun V=>zmh (zby (c.m 6) (shN n (yD n) (mD n) (dD n) 5) (hc.1 6 dQ).1 (hc.1 6 dQ).2 V))
 have H3:=waV (fun V=>zmh (zby (c.m 3) (shN n (yD n) (mD n) (dD n) 2) (hc.1 3 dQ).1 (hc.1 3 dQ).2 V))
 have H5:=waV (fun V=>zmh (zby (c.m 5) (shN n (yD n) (mD n) (dD n) 4) (hc.1 5 dQ).1 (hc.1 5 dQ).2 V))
 have HY:=waV (fun V=>zpk c.y hc.2.2 (shN n (yD n) (mD n) (dD n) 1 - 1970) V)
 have HN:=waV (fun V=>ztI c n hc.2.1 V)
 have hV:shV n=.agg #[.int .i64 (shN n (yD n) (mD n) (dD n) 0),.int .i64 (shN n (yD n) (mD n) (dD n) 1),.int .i64 (shN n (yD n) (mD n) (dD n) 2),.int .i64 (shN n (yD n) (mD n) (dD n) 3),.int .i64 (shN n (yD n) (mD n) (dD n) 4),.int .i64 (shN n (yD n) (mD n) (dD n) 5),.int .i64 (shN n (yD n) (mD n) (dD n) 6),.int .i64 (shN n (yD n) (mD n) (dD n) 7),.int .i64 (shN n (yD n) (mD n) (dD n) 8),.int .i64 (shN n (yD n) (mD n) (dD n) 9)]:=rfl;have e1:shN n (yD n) (mD n) (dD n) 1=yD n:=rfl;rw[←e1] at y0 y1;unfold zuI;rw[hV] at HP HN ⊢;clear hV e1 hp hW co HC0 hbc hc kc ko k1 k2 k3;generalize shN n (yD n) (mD n) (dD n)=G at *;generalize zb3 (c.m 4) (G 3)=D at *;generalize zb3 (c.m 6) (G 5)=K at *;generalize zb3 (c.m 3) (G 2)=B3 at *;generalize zb3 (c.m 5) (G 4)=B5 at *;generalize zpi c.y (G 1 - 1970)=BY at *;generalize zhN c n=BN at *;generalize p n=BP at *;unfold wdV zgy at *;clear h0 h1;have HG:=waV eg;clear eg;go_enter func216,ntmps216;go_wp2_with fail;generalize hW1:World.alloc W _=W1;have hb1:Below W.heap.size W W1:=by rw[←hW1];exact(waC _ _).alloc (waJ _) _
 have HA1:=waV (Arr.below HA.out (Arr.lt HA.out dQ) hb1);have ho1:=znr hb1 ho;have HS1:Hid (Arr W1 W.heap.size 10 (fun j=>.int .i64 (G j))):=by
  show Arr _ _ _ _;rw[←hW1];refine zd3 W #[.int .i64 (G 0),.int .i64 (G 1),.int .i64 (G 2),.int .i64 (G 3),.int .i64 (G 4),.int .i64 (G 5),.int .i64 (G 6),.int .i64 (G 7),.int .i64 (G 8),.int .i64 (G 9)] _ _ (fun j hj=>?_)
  have hj':j<10:=hj;obtain rfl|rfl|rfl|rfl|rfl|rfl|rfl|rfl|rfl|rfl:j=0∨j=1∨j=2∨j=3∨j=4∨j=5∨j=6∨j=7∨j=8∨j=9:=by omega
  all_goals rfl
 clear hW1 HA ho;have f4:∀y:Ext W1,y.W.cell? ⟨bc,4,none⟩=some (.int .u64 (c.m 4)):=fun y=>y.cell (HA1.out.1 4 dQ)
 have f6:∀y:Ext W1,y.W.cell? ⟨bc,6,none⟩=some (.int .u64 (c.m 6)):=fun y=>y.cell (HA1.out.1 6 dQ)
 have s3:∀y:Ext W1,y.W.cell? ⟨W.heap.size,3,none⟩=some (.int .i64 (G 3)):=fun y=>y.cell (HS1.out.1 3 dQ)
 have s5:∀y:Ext W1,y.W.cell? ⟨W.heap.size,5,none⟩=some (.int .i64 (G 5)):=fun y=>y.cell (HS1.out.1 5 dQ)
 refine zaU kQ kQ ?_
 repeat (first|go_big_quiet_skip|(go_big_quiet_want;go_big_quiet_op;(first|go_big_quiet_on|go_big_quiet_call ((with_reducible first|exact zew _ (H4.out _)|exact zew _ (H6.out _))))))
 refine wpQuiet_nil ?_;rintro _ ⟨xw,rfl⟩;have hq2:Below W1.heap.size W1 xw.W:=Ext.h xw;clear f4 f6 s3 s5 H4 H6;generalize xw.W=W2 at *;have hb2:=zai hb1 hq2 hb1.size;have HA2:=waV (Arr.below HA1.out (Arr.lt HA1.out dQ) hq2);have HS2:=waV (Arr.below HS1.out (Arr.lt HS1.out dQ) hq2);have ho2:=znr hq2 ho1;clear HA1 HS1 ho1 hq2 hb1 xw;have f7:W2.cell? ⟨bc,7,none⟩=some (.bool c.or):=HA2.out.1 7 dQ;have f3:W2.cell? ⟨bc,3,none⟩=some (.int .u64 (c.m 3)):=HA2.out.1 3 dQ;have s2:W2.cell? ⟨W.heap.size,2,none⟩=some (.int .i64 (G 2)):=HS2.out.1 2 dQ;generalize c.or=O at *;cases D<;>cases K<;>cases O
 case false.false.false=>go_wp2;go_ret;exact⟨rfl,hb2⟩
 case false.false.true=>go_wp2;go_ret;exact⟨rfl,hb2⟩
 case false.true.false=>go_wp2;go_ret;exact⟨rfl,hb2⟩
 case true.false.false=>go_wp2;go_ret;exact⟨rfl,hb2⟩
 all_goals (
  go_wp2_with fail;refine(H3.out _).mono ?_;rintro e w3 ⟨rfl,hq3⟩;have hb3:=zai hb2 hq3 hb2.size;have HA3:=waV (Arr.below HA2.out (Arr.lt HA2.out dQ) hq3);have HS3:=waV (Arr.below HS2.out (Arr.lt HS2.out dQ) hq3);have ho3:=waV (znr hq3 ho2);clear f3 s2 f7 ho2 hq3 HA2 HS2 H3 hb2;cases B3 with
  |false=>
   go_wp2;go_ret;exact⟨rfl,hb3⟩
  |true=>
   have f5:w3.cell? ⟨bc,5,none⟩=some (.int .u64 (c.m 5)):=HA3.out.1 5 dQ;have s4:w3.cell? ⟨W.heap.size,4,none⟩=some (.int .i64 (G 4)):=HS3.out.1 4 dQ;go_wp2_with fail;refine(H5.out _).mono ?_;rintro e w4 ⟨rfl,hq4⟩;have hb4:=zai hb3 hq4 hb3.size;have HA4:=waV (Arr.below HA3.out (Arr.lt HA3.out dQ) hq4);have HS4:=waV (Arr.below HS3.out (Arr.lt HS3.out dQ) hq4);have ho4:=waV (znr hq4 ho3.out);clear f5 s4 hq4 HA3 HS3 H5 hb3 ho3;cases B5 with
   |false=>
    go_wp2;go_ret;exact⟨rfl,hb4⟩
   |true=>
    have f18:w4.cell? ⟨bc,18,none⟩=some (.int .u64 (c.y 0)):=HA4.out.1 18 dQ;have f19:w4.cell? ⟨bc,19,none⟩=some (.int .u64 (c.y 1)):=HA4.out.1 19 dQ;have f20:w4.cell? ⟨bc,20,none⟩=some (.int .u64 (c.y 2)):=HA4.out.1 20 dQ;have f21:w4.cell? ⟨bc,21,none⟩=some (.int .u64 (c.y 3)):=HA4.out.1 21 dQ;have f22:w4.cell? ⟨bc,22,none⟩=some (.int .u64 (c.y 4)):=HA4.out.1 22 dQ;have f23:w4.cell? ⟨bc,23,none⟩=some (.int .u64 (c.y 5)):=HA4.out.1 23 dQ;have f24:w4.cell? ⟨bc,24,none⟩=some (.int .u64 (c.y 6)):=HA4.out.1 24 dQ;have s1:w4.cell? ⟨W.heap.size,1,none⟩=some (.int .i64 (G 1)):=HS4.out.1 1 dQ;go_wp2_with fail;refine(HY.out _).mono ?_;rintro e w5 ⟨rfl,hq5⟩;have hb5:=zai hb4 hq5 hb4.size;have HA5:=waV (Arr.below HA4.out (Arr.lt HA4.out dQ) hq5);have HS5:=waV (Arr.below HS4.out (Arr.lt HS4.out dQ) hq5);have ho5:=waV (znr hq5 ho4.out);clear f18 f19 f20 f21 f22 f23 f24 s1 hq5 HA4 HS4 HY hb4 ho4;cases BY with
    |false=>
     go_wp2;go_ret;exact⟨rfl,hb5⟩
    |true=>
     have f8:w5.cell? ⟨bc,8,none⟩=some (.int .i64 c.oi):=HA5.out.1 8 dQ;have f9:w5.cell? ⟨bc,9,none⟩=some (.bool c.ob):=HA5.out.1 9 dQ;have f10:w5.cell? ⟨bc,10,none⟩=some (.int .u64 (c.od 0)):=HA5.out.1 10 dQ;have f11:w5.cell? ⟨bc,11,none⟩=some (.int .u64 (c.od 1)):=HA5.out.1 11 dQ;have f12:w5.cell? ⟨bc,12,none⟩=some (.int .u64 (c.od 2)):=HA5.out.1 12 dQ;have f13:w5.cell? ⟨bc,13,none⟩=some (.int .u64 (c.od 3)):=HA5.out.1 13 dQ;have f14:w5.cell? ⟨bc,14,none⟩=some (.int .u64 (c.od 4)):=HA5.out.1 14 dQ;have f15:w5.cell? ⟨bc,15,none⟩=some (.int .u64 (c.od 5)):=HA5.out.1 15 dQ;have f16:w5.cell? ⟨bc,16,none⟩=some (.int .u64 (c.od 6)):=HA5.out.1 16 dQ;have f17:w5.cell? ⟨bc,17,none⟩=some (.int .u64 (c.od 7)):=HA5.out.1 17 dQ;have s0:w5.cell? ⟨W.heap.size,0,none⟩=some (.int .i64 (G 0)):=HS5.out.1 0 dQ;have s1:w5.cell? ⟨W.heap.size,1,none⟩=some (.int .i64 (G 1)):=HS5.out.1 1 dQ;have s2:w5.cell? ⟨W.heap.size,2,none⟩=some (.int .i64 (G 2)):=HS5.out.1 2 dQ;have s3:w5.cell? ⟨W.heap.size,3,none⟩=some (.int .i64 (G 3)):=HS5.out.1 3 dQ;have s4:w5.cell? ⟨W.heap.size,4,none⟩=some (.int .i64 (G 4)):=HS5.out.1 4 dQ;have s5:w5.cell? ⟨W.heap.size,5,none⟩=some (.int .i64 (G 5)):=HS5.out.1 5 dQ;have s6:w5.cell? ⟨W.heap.size,6,none⟩=some (.int .i64 (G 6)):=HS5.out.1 6 dQ;have s7:w5.cell? ⟨W.heap.size,7,none⟩=some (.int .i64 (G 7)):=HS5.out.1 7 dQ;have s8:w5.cell? ⟨W.heap.size,8,none⟩=some (.int .i64 (G 8)):=HS5.out.1 8 dQ;have s9:w5.cell? ⟨W.heap.size,9,none⟩=some (.int .i64 (G 9)):=HS5.out.1 9 dQ;go_wp2_with fail;refine(HN.out _).mono ?_;rintro e w6 ⟨rfl,hq6⟩;have hb6:=zai hb5 hq6 hb5.size;have HA6:=waV (Arr.below HA5.out (Arr.lt HA5.out dQ) hq6);have HS6:=waV (Arr.below HS5.out (Arr.lt HS5.out dQ) hq6);have ho6:=waV (znr hq6 ho5.out);clear f8 f9 f10 f11 f12 f13 f14 f15 f16 f17 s0 s1 s2 s3 s4 s5 s6 s7 s8 s9 hq6 HA5 HS5 HN hb5 ho5;cases BN with
     |false=>
      go_wp2;go_ret;exact⟨rfl,hb6⟩
     |true=>
      have s0:w6.cell? ⟨W.heap.size,0,none⟩=some (.int .i64 (G 0)):=HS6.out.1 0 dQ;have s1:w6.cell? ⟨W.heap.size,1,none⟩=some (.int .i64 (G 1)):=HS6.out.1 1 dQ;have s2:w6.cell? ⟨W.heap.size,2,none⟩=some (.int .i64 (G 2)):=HS6.out.1 2 dQ;have s3:w6.cell? ⟨W.heap.size,3,none⟩=some (.int .i64 (G 3)):=HS6.out.1 3 dQ;have s4:w6.cell? ⟨W.heap.size,4,none⟩=some (.int .i64 (G 4)):=HS6.out.1 4 dQ;have s5:w6.cell? ⟨W.heap.size,5,none⟩=some (.int .i64 (G 5)):=HS6.out.1 5 dQ;have s6:w6.cell? ⟨W.heap.size,6,none⟩=some (.int .i64 (G 6)):=HS6.out.1 6 dQ;have s7:w6.cell? ⟨W.heap.size,7,none⟩=some (.int .i64 (G 7)):=HS6.out.1 7 dQ;have s8:w6.cell? ⟨W.heap.size,8,none⟩=some (.int .i64 (G 8)):=HS6.out.1 8 dQ;have s9:w6.cell? ⟨W.heap.size,9,none⟩=some (.int .i64 (G 9)):=HS6.out.1 9 dQ;have hoP:=ho6.out;have eg:=HG.out;have hcall:=waV (HP.out w6 hb6)
      go_wp2_with (go_at_fn g;refine hcall.out.mono ?_;rintro e w7 ⟨rfl,hq7⟩)
      have hb7:=zai hb6 hq7 hb6.size;go_wp2;go_ret;exact⟨rfl,hb7⟩)
section
variable {α : Type} {p : α → Bool} {l : List α} {k : Nat} {x : α}
def zs6 (p:α→Bool) (l:List α):Int:=match l.findIdx? p with|some i=>i|none=>-1
theorem zry (H:∀j it,j<k→l[j]?=some it→p it=false) (hx:l[k]?=some x) (h:p x=true):zs6 p l=k:=by
 have hk:=(waI.1 hx);have:l.findIdx? p=some k:=by
  rw[List.findIdx?_eq_some_iff_getElem];refine⟨hk.1,by rw[hk.2];exact h,fun j hj=>by
   rw[Bool.not_eq_true];exact H j _ hj (waE (Nat.lt_trans hj hk.1))⟩
 simp[zs6,this]
theorem zpp (H:∀j it,j<l.length→l[j]?=some it→p it=false):zs6 p l=-1:=by
 have:l.findIdx? p=none:=by
  rw[List.findIdx?_eq_none_iff];intro x hx;obtain⟨j,hj⟩:=List.getElem?_of_mem hx;exact H j x (waI.1 hj).1 hj
 simp[zs6,this]
theorem zrz (p:α→Bool) (l:List α):decide (0≤zs6 p l)=l.any p:=by
 unfold zs6;cases h:l.findIdx? p with
 |none=>
  rw[List.findIdx?_eq_none_iff] at h;have:l.any p=false:=by rw[List.any_eq_false];intro x hx;simp[h x hx]
  simp[this]
 |some i=>
  rw[List.findIdx?_eq_some_iff_getElem] at h;obtain⟨hi,hp,_⟩:=h;have:l.any p=true:=by rw[List.any_eq_true];exact⟨_,List.getElem_mem hi,hp⟩
  simp[this]
theorem zpq {b:Bool} (H:∀j it,j<k→l[j]?=some it→p it=b) (hx:l[k]?=some x) (h:p x=b):∀j it,j<k+1→l[j]?=some it→p it=b:=by
 intro j it hj hl;rcases Nat.lt_or_ge j k with h1|h1
 ·exact H j it h1 hl
 ·obtain rfl:j=k:=by omega
  rw[hx] at hl;cases hl;exact h
end
theorem zbz.congr {g:Nat} {lb:Array Value} {p q:Int→Bool} {lo hi:Nat} {w:World} (h:zbz g lb p lo hi w) (e:∀n,0≤n→n<146097→p n=q n):zbz g lb q lo hi w:=fun W hW n h0 h1=>by
 rw[←e n h0 h1];exact h W hW n h0 h1
theorem zbz.later {g:Nat} {lb:Array Value} {p:Int→Bool} {lo hi:Nat} {w w':World} (h:zbz g lb p lo hi w) (hb:KpI lo hi w w'):zbz g lb p lo hi w':=fun W hW n h0 h1=>h W (hb.trans hW) n h0 h1
def zj1 (c:Cl) (n:Int):Bool:=ze7 c zbv&&zuI c (zjv c.u c.s c.a) n
theorem ztM {c:Cl} {w:World} {b:Nat} (h:Arr w b 30 (gC c)):∀j v,(clA c)[j]?=some v→w.cell? ⟨b,j,none⟩=some v:=fun j v hj=>by
 have hl:j<30:=(waL.1 hj).1;rw[h.1 j hl];unfold gC;rw[wbL,hj];rfl
theorem zbZ (c:Cl):(prog.info? 61).map (·.size)=some (clA c).size:=by kernel_rfl
theorem zpr (c:Cl) (hc:zcz c) (w:World):Calls prog 171 #[.agg (clA c)] w (zu0 (zj1 c) w):=by
 have eg1:∀args w,(callFunc 214 args).run prog w=.ok (.enter 214 args) w:=enters_of func214 kQ rfl;have eg2:∀args w,(callFunc 216 args).run prog w=.ok (.enter 216 args) w:=enters_of func216 kQ rfl;have E1:=waV eg1;have E2:=waV eg2;have HM:=waV (fun W=>zgZ c W)
 have HU:=waV (fun W=>zpg c.u c.s c.a W)
 have hQ:∀n,zj1 c n=(ze7 c zbv&&zuI c (zjv c.u c.s c.a) n):=fun n=>rfl
 have H1:=waV (fun lo hi W=>znq lo hi W)
 have H2:=waV (fun bc bo g lb lo hi lo' hi' w h5 h6 h7 h8 h9 h1 h2 h3 h4=>zns c hc bc bo g lb (zjv c.u c.s c.a) lo hi lo' hi' w h5 h6 h7 h8 h9 h1 h2 h3 h4)
 have HC0:=waV (zh8 w c 61);have HA:=waV (fun w b h=>@ztM c w b h)
 have HI:=waV (zbZ c);have H25:Hid ((gC c) 25=.int .i64 c.u∧(gC c) 26=.int .i64 c.s∧(gC c) 27=.int .i64 c.a):=⟨rfl,rfl,rfl⟩;have h1c:(Value.agg (clA c)).oneCell'=false:=rfl;clear eg1 eg2 hc;generalize zjv c.u c.s c.a=P at *;generalize zj1 c=Q at *;generalize ze7 c zbv=B at *;generalize gC c=gc at *;generalize clA c=cs at *;go_enter func171,ntmps171
 go_wp2_with (refine zah rfl 61 _ rfl cs w.heap.size 0 rfl underlying61 rfl HI.out (zcx (HA.out _ _ HC0.out)) ?_)
 refine(HM.out _).mono ?_;rintro e w1 ⟨rfl,hq1⟩;have HC2:=waV (Arr.below HC0.out (Arr.lt HC0.out dQ) hq1);have hb1:Below w.heap.size w w1:=((waC _ w).alloc (waJ _) _).trans (hq1.mono (by simp))
 clear HC0 hq1 HM;cases B with
 |false=>
  have HP:Hid (∀lo hi w',zbz 214 #[] Q lo hi w'):=fun lo hi w'=>(H1.out lo hi w').congr fun n _ _=>by rw[hQ n];rfl
  clear hQ H2;go_wp2;go_ret;exact⟨_,_,rfl,E1.out,HP.out _ _ _,hb1⟩
 |true=>
  have o25:w1.cell? ⟨w.heap.size,25,none⟩=some (.int .i64 c.u):=by rw[←H25.out.1];exact HC2.out.1 25 (by decide)
  have o26:w1.cell? ⟨w.heap.size,26,none⟩=some (.int .i64 c.s):=by rw[←H25.out.2.1];exact HC2.out.1 26 (by decide)
  have o27:w1.cell? ⟨w.heap.size,27,none⟩=some (.int .i64 c.a):=by rw[←H25.out.2.2];exact HC2.out.1 27 (by decide)
  have HQ:Hid (∀bc bo g lb lo hi lo' hi' w,(lo≤bc∧bc<hi)→(lo≤bo∧bo<hi)→lo≤lo'→hi'≤hi→hi≤w.heap.size→Arr w bc 30 gc→w.cell? ⟨bo,0,none⟩=some (.func (.func g) #[] lb)→(∀args w,(callFunc g args).run prog w=.ok (.enter g args) w)→zbz g lb P lo' hi' w→zbz 216 #[.pointer (some ⟨bc,0,none⟩),.pointer (some ⟨bo,0,none⟩)] Q lo hi w):=
   fun bc bo g lb lo hi lo' hi' w h5 h6 h7 h8 h9 h1 h2 h3 h4=>(H2.out bc bo g lb lo hi lo' hi' w h5 h6 h7 h8 h9 h1 h2 h3 h4).congr fun n _ _=>by rw[hQ n];rfl
  clear hQ H2 H1;go_wp2_with fail;refine(HU.out _).mono ?_;rintro e w2 ⟨g,lb,rfl,hg,hp,hq2⟩;have HC3:=waV (Arr.below HC2.out (Arr.lt HC2.out dQ) hq2);have hb2:=zai hb1 hq2 hb1.size;have hs1:=hb1.size;have HG:=waV hg;have HP:=waV hp;clear o25 o26 o27 hq2 HC2 hb1 hg hp HU;go_wp2;go_ret;have hbE:Below w2.heap.size w2 (World.alloc w2 (.cells #[.func (.func g) #[] lb] 202)):=by exact zaG
  have hs2:=hbE.size;have hs3:=hb2.size;have hl1:=Arr.lt HC3.out dQ;refine⟨_,_,rfl,E2.out,HQ.out _ _ g lb _ _ _ _ _ ⟨waJ _,by omega⟩ ⟨by omega,by simp⟩ hs1 hs2 (waJ _) ?_ ?_ HG.out (HP.out.later (KpI.of_below hbE (waJ _))),?_⟩
  ·exact Arr.below HC3.out (Arr.lt HC3.out dQ) hbE
  ·simp[go_sem]
  ·exact zai hb2 hbE hb2.size
theorem zmi (w:World) (cs:Array Value) (t:TypeId):∀j v,cs[j]?=some v→(w.alloc (.cells cs t)).cell? ⟨w.heap.size,j,none⟩=some v:=fun j v hj=>zaa rfl hj
def shA (n:Int):Array Value:=#[.int .i64 (shN n (yD n) (mD n) (dD n) 0),.int .i64 (shN n (yD n) (mD n) (dD n) 1),.int .i64 (shN n (yD n) (mD n) (dD n) 2),.int .i64 (shN n (yD n) (mD n) (dD n) 3),.int .i64 (shN n (yD n) (mD n) (dD n) 4),.int .i64 (shN n (yD n) (mD n) (dD n) 5),.int .i64 (shN n (yD n) (mD n) (dD n) 6),.int .i64 (shN n (yD n) (mD n) (dD n) 7),.int .i64 (shN n (yD n) (mD n) (dD n) 8),.int .i64 (shN n (yD n) (mD n) (dD n) 9)]
def zrA (c:Cl) (t:Int):Bool:=
 inC t&&(ze7 c zbv&&(decide (zaE c.f c.t≤t∧t≤zat c.f c.t)&&(zcB (t%86400) (c.m 2) (c.m 1) (c.m 0)&&(onU c.u c.s c.a t&&zj1 c (t / 86400)))))
def zg0 (c:Cl):List Value:=(clA c).toList
abbrev zbx (w:World) (A:Option Addr) (n:Nat) (l:List Cl):Prop:=Rd 30 zg0 w A n l
theorem zbx.at_ {w:World} {A:Option Addr} {n:Nat} {l:List Cl} (h:zbx w A n l) {i:Nat} (hi:i<n):
 ∃b o c,A=some ⟨b,o,none⟩∧b<w.heap.size∧l[i]?=some c∧∀j v,(clA c)[j]?=some v→w.cell? ⟨b,o+i * 30+j,none⟩=some v:=by
 obtain⟨b,o,hA,hb,hc⟩:=h.2 oQ;have hx:l[i]?=some (l[i]'(by have:=h.1;omega)):=waE _
 exact⟨b,o,_,hA,hb,hx,fun j v hv=>hc i _ hx j v (by unfold zg0;simpa using hv)⟩
def ztN (g:Nat) (lb:Array Value) (p:Cl→Bool) (l:List Cl) (w:World):Prop:=
 ∀(W:World) (c:Cl),c∈l→Below w.heap.size w W→Calls prog g (#[.agg (clA c)]++lb) W (Ret (.bool (p c)) W)
theorem zhP (A:Option Addr) (n c:Nat) (l:List Cl) (g:Nat) (lb:Array Value) (p:Cl→Bool) (w:World) (hA:zbx w A n l) (hn:n≤9223372036854775807)
 (eg:∀args w,(callFunc g args).run prog w=.ok (.enter g args) w) (hp:ztN g lb p l w):
 Calls prog 153 #[.slice A n c,.func (.func g) #[] lb] w (Ret (.int .i64 (zs6 p l)) w):=by
 have HL:Hid (l.length=n):=hA.1;go_enter func153,ntmps153;go_wp2
 go_loopw [8] (fun i wr=>∃k:Nat,k≤n∧i=.int .i64 k∧Hid (∀j x,j<k→l[j]?=some x→p x=false)∧Below w.heap.size w wr) (fun i _=>n - (intOf i).toNat)
 case atStart=>exact⟨0,waK _,rfl,fun j _ h=>absurd h (Nat.not_lt_zero _),waC _ _⟩
 case round=>
  obtain⟨k,hk,rfl,H,hb⟩:=hrel;have hsz:=hb.size
  by_cases hlt:k<n
  ·obtain⟨b,o,x,rfl,hbl,hx,hcl⟩:=zbx.at_ (hA.below hb (waJ _)) hlt
   have hlt':(k:Int)<(n:Int):=by omega
   have Hx:=waV hx;have hcall:=waV (hp wr x (List.mem_of_getElem? hx) hb);have HI:=waV (zbZ x);have HCl:=waV hcl;clear hx hcl hp;generalize clA x=cs at *;cases hm:p x with
   |true=>
    have Hm:=waV hm;rw[hm] at hcall;clear hm
    go_wp2_with (first|(refine zah (by rfl) 61 _ rfl cs b (o+k * 30) rfl underlying61 rfl HI.out HCl.out ?_)|(go_at_fn g;refine hcall.out.mono ?_;rintro e w1 ⟨rfl,hb1⟩))
    go_ret;exact⟨zaN (zry H.out Hx.out Hm.out).symm,zai hb hb1 hsz⟩
   |false=>
    have Hm:=waV hm;rw[hm] at hcall;clear hm
    go_wp2_with (first|(refine zah (by rfl) 61 _ rfl cs b (o+k * 30) rfl underlying61 rfl HI.out HCl.out ?_)|(go_at_fn g;refine hcall.out.mono ?_;rintro e w1 ⟨rfl,hb1⟩))
    go_roundw
    case rel=>exact⟨k+1,by omega,by go_num,zpq H.out Hx.out Hm.out,zai hb hb1 hsz⟩
    case measure=>simp [intOf];omega
  ·obtain rfl:k=n:=by omega
   go_wp2;go_ret;exact⟨zaN (zpp (HL.out▸H.out)).symm,hb⟩
theorem zfQ (A:Option Addr) (n c:Nat) (l:List Cl) (g:Nat) (lb:Array Value) (p:Cl→Bool) (w:World) (hA:zbx w A n l) (hn:n≤9223372036854775807)
 (eg:∀args w,(callFunc g args).run prog w=.ok (.enter g args) w) (hp:ztN g lb p l w):
 Calls prog 99 #[.slice A n c,.func (.func g) #[] lb] w (Ret (.bool (l.any p)) w):=by
 have HC:=waV (zhP A n c l g lb p w hA hn eg hp);rw[←zrz];generalize zs6 p l=q at HC ⊢;clear hp hA eg;go_enter func99,ntmps99
 go_wp2_with (go_at_call 153;refine HC.out.mono ?_;rintro e w1 ⟨rfl,hb1⟩)
 go_ret;exact⟨rfl,hb1⟩
theorem znt (l:List Cl) (w:World):ztN 100 #[] (fun c=>!ze7 c zbv) l w:=by
 intro W c _ _;have HM:=waV (fun W=>zgZ c W)
 have HI:=waV (zbZ c);have HL:=waV (zmi W (clA c) 61);show Calls _ _ _ _ (Ret (.bool (!ze7 c zbv)) W);generalize ze7 c zbv=B at *;generalize clA c=cs at *;go_enter func100,ntmps100
 go_wp2_with (refine zah (by rfl) 61 _ rfl cs W.heap.size 0 rfl underlying61 rfl HI.out (zcx HL.out) ?_)
 refine(HM.out _).mono ?_;rintro e w1 ⟨rfl,hb1⟩;go_wp2;go_ret;exact⟨rfl,((waC _ W).alloc (waJ _) _).trans (hb1.mono (by simp))⟩
def zeW (l:List Cl):Bool:=decide (l.length≤8)&&l.all fun c=>ze7 c zbv
theorem zps (A:Option Addr) (n c:Nat) (l:List Cl) (w:World) (hA:zbx w A n l) (hn:n≤9223372036854775807):Calls prog 50 #[.slice A n c] w (Ret (.bool (zeW l)) w):=by
 have eg:∀args w,(callFunc 100 args).run prog w=.ok (.enter 100 args) w:=enters_of func100 kQ rfl;have HC:=waV (fun W (hb:Below w.heap.size w W)=>zfQ A n c l 100 #[] (fun c=>!ze7 c zbv) W (hA.below hb (waJ _)) hn eg (znt l W))
 have hL:l.length=n:=hA.1;have hS:Hid (zeW l=(decide (n≤8)&&!(l.any fun c=>!ze7 c zbv))):=by
  show _=_;unfold zeW;rw[hL];congr 1;rw[List.not_any_eq_all_not];simp
 rw[hS.out];clear hS hA eg hL;generalize (l.any fun c=>!ze7 c zbv)=B at *
 by_cases h:n≤8
 ·have h':(n:Int)≤8:=by omega
  rw[waP h];clear h;go_enter func50,ntmps50;go_wp2_with fail;refine(HC.out _ (by exact zaG)).mono ?_
  rintro e w1 ⟨rfl,hb1⟩;go_wp2;go_ret;exact⟨zak (by simp),hb1⟩
 ·have h':¬(n:Int)≤8:=by omega
  rw[waO h];clear h;go_enter func50,ntmps50;go_wp2;go_ret;exact⟨rfl,by exact zaG⟩
def zrB (l:List Cl) (t:Int):Bool:=zeW l&&l.any fun c=>zrA c t
def spF (c:Cl):Int:=zaE c.f c.t
def spU (c:Cl):Int:=zat c.f c.t
def zop (c:Cl) (n:Int):Bool:=decide (spF c≤spU c∧spF c / 86400≤n∧n≤spU c / 86400)&&zj1 c n
def zhQ (c:Cl) (n:Int):Int:=if n=spF c / 86400 then spF c%86400 else 0
def zeR (c:Cl) (n:Int):Int:=if n=spU c / 86400 then spU c%86400 else 86399
def zbR (c:Cl) (n:Int):Int:=if 1<c.s∧0<zav c.u then(c.a / zav c.u - n * 86400 / zav c.u)%c.s else 0
structure LSt where
 act:Bool
 fr:Int
 un:Int
 ph:Int
def stZ:LSt:=⟨false,0,0,0⟩
def zlf (c:Cl) (n:Int):LSt:=if zop c n then⟨true,zhQ c n,zeR c n,zbR c n⟩ else stZ
def zfR (c:Cl) (x:LSt) (s:Int):Bool:=
 decide (x.act=true∧0≤x.ph∧ze7 c zbv=true)&&(decide (x.fr≤s∧s≤x.un)&&(zcB s (c.m 2) (c.m 1) (c.m 0)&&
  (!decide (0<zav c.u∧(1<c.s∨0<x.ph))||decide (x.ph≤s / zav c.u∧(s / zav c.u - x.ph)%c.s=0))))
theorem zg1 (u:Int):zav u=1∨zav u=60∨zav u=3600∨zav u=0:=by
 unfold zav;split
 ·exact .inl rfl
 ·split
  ·exact .inr (.inl rfl)
  ·split
   ·exact .inr (.inr (.inl rfl))
   ·exact .inr (.inr (.inr rfl))
theorem zg2 {c:Cl} (h:ze7 c zbv=true):1≤c.s∧inC c.a=true∧0≤c.u∧c.u<7:=by
 unfold ze7 at h;simp only[waN,waM,Bool.not_eq_true'] at h;obtain⟨_,_,_,hu,hs,ha⟩:=h;refine⟨hs,ha,?_⟩;have h1:unT c.u≠[]:=by intro e;rw[e] at hu;cases hu
 rw[ne_eq,zs4,Decidable.not_not] at h1;exact h1
theorem zrC {x b p s:Int} (hs:1≤s) (hx:0≤x) (hp:p=b%s):(p≤x∧(x - p)%s=0)↔(x - b)%s=0:=by
 have e:(x - p)%s=(x - b)%s:=by rw[hp,Int.sub_emod,Int.emod_emod_of_dvd _ (Int.dvd_refl s),←Int.sub_emod]
 constructor
 ·rintro ⟨_,h⟩;rw[←e];exact h
 ·intro h;rw[←e] at h;refine⟨?_,h⟩;have h1:p<s:=by rw[hp];exact Int.emod_lt_of_pos _ (by omega)
  obtain⟨k,hk⟩:=Int.dvd_of_emod_eq_zero h;have hk0:0≤k:=by
   false_or_by_contra
   have:s * k≤s * (-1):=Int.mul_le_mul_of_nonneg_left oQ oQ;omega
  have:=Int.mul_nonneg (show 0≤s by omega) hk0
  omega
theorem zrD {c:Cl} {n:Int} (h:zj1 c n=true):zjv c.u c.s c.a n=true:=by
 unfold zj1 zuI at h;simp only[waN] at h;exact h.2.2.2.2.2.2
theorem ztO {n s z:Int} (hz:z=1∨z=60∨z=3600) (hs:0≤s):(n * 86400+s) / z=n * 86400 / z+s / z:=by
 rcases hz with rfl|rfl|rfl<;>omega
theorem zpt (c:Cl) {n s:Int} (h0:0≤n) (h1:n<146097) (s0:0≤s) (s1:s<86400):zfR c (zlf c n) s=zrA c (n * 86400+s):=by
 have ht:(n * 86400+s) / 86400=n:=by omega
 have hm:(n * 86400+s)%86400=s:=by omega
 have hi:inC (n * 86400+s)=true:=waP oQ;unfold zrA;rw[ht,hm,hi,Bool.true_and];unfold zlf;cases hmay:ze7 c zbv with
 |false=>
  rw[Bool.false_and];have:zop c n=false:=by unfold zop zj1;rw[hmay];simp
  rw[this];rfl
 |true=>
  rw[Bool.true_and];obtain⟨hs,ha,hu0,hu1⟩:=zg2 hmay;cases hd:zj1 c n with
  |false=>
   have:zop c n=false:=by unfold zop;rw[hd];simp
   rw[this];simp only[Bool.and_false];rfl
  |true=>
   have hst:=zrD hd;have hact:zop c n=decide (spF c≤spU c∧spF c / 86400≤n∧n≤spU c / 86400):=by unfold zop;rw[hd,Bool.and_true]
   rw[hact];have hon:onU c.u c.s c.a (n * 86400+s)=decide (0<zav c.u∧1<c.s→(s / zav c.u - zbR c n)%c.s=0∧zbR c n≤s / zav c.u):=by
    unfold onU;rw[wbH];have hoa:okU c.u c.a=true:=waP ⟨ha,hu0,hu1⟩;have hot:okU c.u (n * 86400+s)=true:=waP ⟨hi,hu0,hu1⟩
    by_cases hz:0<zav c.u
    ·have hw:∀t,zbq c.u t=t / zav c.u:=fun t=>if_pos hz
     have hz3:zav c.u=1∨zav c.u=60∨zav c.u=3600:=by
      rcases zg1 c.u with h|h|h|h
      ·exact .inl h
      ·exact .inr (.inl h)
      ·exact .inr (.inr h)
      ·omega
     rw[hw,hw,ztO hz3 s0];have hx:0≤s / zav c.u:=Int.ediv_nonneg s0 oQ
     by_cases h1s:1<c.s
     ·have hp:zbR c n=(c.a / zav c.u - n * 86400 / zav c.u)%c.s:=if_pos ⟨h1s,hz⟩;have:=zrC hs hx hp;have e:n * 86400 / zav c.u+s / zav c.u - c.a / zav c.u=s / zav c.u - (c.a / zav c.u - n * 86400 / zav c.u):=by omega
      rw[e];constructor
      ·rintro ⟨_,_,_,h⟩ _;exact(this.2 h).symm
      ·intro h;exact⟨hoa,hot,hs,this.1 (h ⟨hz,h1s⟩).symm⟩
     ·have e1:c.s=1:=by omega
      constructor
      ·rintro _ ⟨_,h⟩;exact absurd h h1s
      ·intro _;rw[e1];exact⟨hoa,hot,by omega,Int.emod_one _⟩
    ·have hw:∀t,zbq c.u t=zb9 c.u (t / 86400):=fun t=>if_neg hz
     constructor
     ·rintro _ ⟨h,_⟩;exact absurd h hz
     ·intro _;refine⟨hoa,hot,hs,?_⟩;unfold zjv at hst;obtain⟨_,_,h⟩:=waA hst;rcases h with h|h|h
      ·exact absurd h hz
      ·rw[h];exact Int.emod_one _
      ·rw[hw (n * 86400+s),ht];exact h
   rw[hon,Bool.and_true];have hph0:0≤zbR c n:=by
    unfold zbR;split
    ·exact Int.emod_nonneg _ oQ
    ·exact Int.le_refl _
   have hphz:¬(1<c.s∧0<zav c.u)→zbR c n=0:=fun h=>if_neg h
   have hsp:(decide (zaE c.f c.t≤n * 86400+s∧n * 86400+s≤zat c.f c.t))=(decide (spF c≤spU c∧spF c / 86400≤n∧n≤spU c / 86400)&&decide (zhQ c n≤s∧s≤zeR c n)):=by
    show decide (spF c≤n * 86400+s∧n * 86400+s≤spU c)=_;rw[waQ,waN,waM,waM,waM];unfold zhQ zeR;generalize spF c=F;generalize spU c=U;constructor
    ·intro h;refine⟨by omega,?_,?_⟩
     ·split<;>omega
     ·split<;>omega
    ·rintro ⟨⟨h2,h3,h4⟩,h5,h6⟩;constructor
     ·split at h5<;>omega
     ·split at h6<;>omega
   rw[hsp];cases hA:decide (spF c≤spU c∧spF c / 86400≤n∧n≤spU c / 86400) with
   |false=>
    rw[if_neg (by decide)]
    simp only[Bool.false_and];rfl
   |true=>
    rw[if_pos rfl,Bool.true_and];unfold zfR;dsimp only;have e1:decide (True∧0≤zbR c n∧ze7 c zbv=true)=true:=waP ⟨trivial,hph0,hmay⟩;have e2:decide ((true:Bool)=true∧0≤zbR c n∧ze7 c zbv=true)=true:=waP ⟨rfl,hph0,hmay⟩;rw[e2,Bool.true_and];congr 1;congr 1
    by_cases hz:0<zav c.u∧1<c.s
    ·have d1:decide (0<zav c.u∧(1<c.s∨0<zbR c n))=true:=waP ⟨hz.1,.inl hz.2⟩;rw[d1,Bool.not_true,Bool.false_or,wbH];exact⟨fun h _=>⟨h.2,h.1⟩,fun h=>⟨(h hz).2,(h hz).1⟩⟩
    ·have hp0:=hphz (fun h=>hz ⟨h.2,h.1⟩)
     have d1:decide (0<zav c.u∧(1<c.s∨0<zbR c n))=false:=waO (by
      rintro ⟨h2,h3|h3⟩
      ·exact hz ⟨h2,h3⟩
      ·omega)
     rw[d1,Bool.not_false,Bool.true_or];exact(waP (fun h=>absurd h hz)).symm
def zu6:Cl:={m:=fun _=>0,or:=false,oi:=0,ob:=false,od:=fun _=>0,y:=fun _=>0,u:=0,s:=0,a:=0,f:=0,t:=0}
theorem ztP:(prog.info? 61).map (fun i=>(i.zero,i.size,i.bytes))=some (some (.agg (clA zu6)),30,240):=by kernel_rfl
theorem zfm (c:Cl):(zg0 c).length=30:=rfl
theorem zpu (c:Cl):(zg0 c).all (·.oneCell')=true:=by kernel_rfl
theorem zlg (l:List Cl):∀u∈l.flatMap zg0,u.oneCell'=true:=by
 intro u hu;obtain⟨x,_,h⟩:=List.mem_flatMap.1 hu;exact List.all_eq_true.1 (zpu x) u h
end Go.Proofs.YtgedndlifiihkaaGreatDoor
