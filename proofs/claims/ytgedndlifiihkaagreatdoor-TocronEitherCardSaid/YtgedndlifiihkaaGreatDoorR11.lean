/- A part of the proof: WClX WClZ WCronread4 WOwn WCronread7 RBack RLives WCronread9 LCread LClow4 WSpn WSpn2 -/
import Derived.Test.YtgedndlifiihkaaGreatDoorR08
import Derived.Test.YtgedndlifiihkaaGreatDoorR09
import Derived.Test.YtgedndlifiihkaaGreatDoorR10
import Derived.Test.YtgedndlifiihkaaGreatDoorR05
import Derived.Test.YtgedndlifiihkaaGreatDoorR02
import Derived.Test.YtgedndlifiihkaaGreatDoorR00
import Derived.Test.YtgedndlifiihkaaGreatDoorR01
import Derived.Test.YtgedndlifiihkaaGreatDoorR04
set_option maxHeartbeats 80000000
set_option maxRecDepth 100000
set_option linter.unusedSimpArgs false
set_option linter.unusedVariables false
namespace Go.Proofs.YtgedndlifiihkaaGreatDoor
open Go.Proofs.Tryz
open Go.RowKit
theorem zhb {w:World} {B:Nat} {A:Nat→Option Addr} {n c:Nat→Nat} (h:zbd w B 0 A n c):w.cell? ⟨B,0,none⟩=some (.slice (A 0) (n 0) (c 0))∧w.cell? ⟨B,1,none⟩=some (.slice (A 1) (n 1) (c 1))∧w.cell? ⟨B,2,none⟩=some (.slice (A 2) (n 2) (c 2))∧w.cell? ⟨B,3,none⟩=some (.slice (A 3) (n 3) (c 3))∧w.cell? ⟨B,4,none⟩=some (.slice (A 4) (n 4) (c 4)):=by
 obtain⟨h0,h1,h2,h3,h4⟩:=h;simp only[waH] at h1 h2 h3 h4;exact⟨h0,h1,h2,h3,h4⟩
structure LowS (w W:World) (b:Nat) (A:Nat→Option Addr) (n c:Nat→Nat) (g:Nat→Value):Prop where
 line:zbd W w.heap.size 0 A n c
 arr:Arr W b 30 g
 out:W.there (w.heap.size+1) 0 30
 lt:w.heap.size+1<b
 below:Below w.heap.size w W
theorem LowS.later {w W W':World} {b:Nat} {A:Nat→Option Addr} {n c:Nat→Nat} {g:Nat→Value} (h:LowS w W b A n c g) (hb:Below W.heap.size W W'):LowS w W' b A n c g:=
 have hl:=Arr.lt h.arr dQ
 ⟨zbd.below h.line (fun o=>hb.cell (p:=⟨_,o,none⟩) (by show w.heap.size<_;have:=h.lt;omega)),Arr.below h.arr hl hb,zaK h.out (by have:=h.lt;omega) hb,h.lt,zai h.below hb h.below.size⟩
theorem LowS.updG {w W:World} {b:Nat} {A:Nat→Option Addr} {n c:Nat→Nat} {g:Nat→Value} (h:LowS w W b A n c g) (i:Nat) (hi:i<30) (v:Value):LowS w (W.setCell ⟨b,i,none⟩ v) b A n c (updG g i v):=
 ⟨zbd.below h.line (fun o=>waU _ _ _ _ (by intro e;injection e with e1;have:=h.lt;omega)),Arr.updG h.arr i hi v,zpN h.out (by have:=h.lt;omega),h.lt,h.below.setCell (by show w.heap.size≤b;have:=h.lt;omega) _⟩
theorem zc8 (k:Nat) (hk:k<5) (b:Nat) (A:Nat→Option Addr) (n c:Nat→Nat) (l:Nat→List It) (W:World) (hL:zbd W b 0 A n c) (hA:zb0 W A n l) (hn:n k≤100000) (hnil:A k=none→n k=0):
 Calls prog 65 #[.int .i64 (k:Int),.pointer (some ⟨b,0,none⟩)] W (Ret (.int .u64 (zan (zao (l k) (cLo k) (cHi k)))) W):=by
 have HB:=waV (fun W=>zfb k hk W)
 have HF:=waV (fun W' (hb:Below W.heap.size W W')=>zmk k hk A n c l W' (hA.below hb (waJ _)) oQ hnil)
 have HM:=waV (fun A' c' W' (h:zcA W' A' (n k) (l k))=>zj6 (cLo k) (cHi k) A' (n k) c' (l k) W' h hn)
 have hbl:=waR _ _ hL.1;have HL:=waV hL;clear hA hL;generalize cLo k=lo at *;generalize cHi k=hi at *;generalize zan (zao (l k) lo hi)=M at *;go_enter func65,ntmps65;go_wp2_with fail;refine(HB.out _).mono ?_;rintro e w1 ⟨rfl,hb1⟩;have HL1:=waV (zbd.below HL.out (fun o=>hb1.cell (p:=⟨_,o,none⟩) hbl))
 obtain⟨l0,l1,l2,l3,l4⟩:=zhb HL1.out;go_wp2_with fail;refine(HF.out _ hb1).mono ?_;rintro e w2 ⟨A',c',rfl,hr,hb2⟩;have hbW:=zai hb1 hb2 hb1.size;clear l0 l1 l2 l3 l4 HL1 hb1 hb2;go_wp2_with fail;refine(HM.out _ _ _ hr).mono ?_;rintro e w3 ⟨rfl,hb3⟩;go_wp2;go_ret;exact⟨rfl,zai hbW hb3 hbW.size⟩
theorem zi2 (A:Nat→Option Addr) (n c:Nat→Nat) (l:Nat→List It) (w:World) (hA:zb0 w A n l) (hn:∀k,n k≤9223372036854775807) (h:(chk l).2≠0):
 Calls prog 25 #[crV A n c] w (Ret (.tuple #[.agg (clA zgi),.int .i64 (chk l).2]) w):=by
 have HK:=waV (fun W (hb:Below w.heap.size w W)=>zgL A n c l W (hA.below hb (waJ _)) hn)
 have HI:=waV (zbZ zgi);have H1:=waV (zdr zgi);have he:((chk l).2 !=0)=true:=by simpa using h
 clear hA hn h;generalize (chk l).1=f at *;generalize (chk l).2=e at *;have HZ:Hid (Value.agg (clA zgi)=.agg #[.int .u64 0,.int .u64 0,.int .u64 0,.int .u64 0,.int .u64 0,.int .u64 0,.int .u64 0,.bool false,.int .i64 0,.bool false,.int .u64 0,.int .u64 0,.int .u64 0,.int .u64 0,.int .u64 0,.int .u64 0,.int .u64 0,.int .u64 0,.int .u64 0,.int .u64 0,.int .u64 0,.int .u64 0,.int .u64 0,.int .u64 0,.int .u64 0,.int .i64 0,.int .i64 0,.int .i64 0,.int .i64 0,.int .i64 0]):=rfl;rw[HZ.out];clear HZ HI H1;go_enter func25,ntmps25;go_wp2_with fail;refine(HK.out _ (by exact zaG)).mono ?_
 rintro x w1 ⟨rfl,hb1⟩;have hbW:Below w.heap.size w w1:=(((waC _ w).alloc (waJ _) _).alloc (by simp) _).trans (hb1.mono (by simp;omega))
 have hT:=zaK (zb8 (w.alloc (.cells #[.slice (A 0) (n 0) (c 0),.slice (A 1) (n 1) (c 1),.slice (A 2) (n 2) (c 2),.slice (A 3) (n 3) (c 3),.slice (A 4) (n 4) (c 4)] 24)) #[.int .u64 0,.int .u64 0,.int .u64 0,.int .u64 0,.int .u64 0,.int .u64 0,.int .u64 0,.bool false,.int .i64 0,.bool false,.int .u64 0,.int .u64 0,.int .u64 0,.int .u64 0,.int .u64 0,.int .u64 0,.int .u64 0,.int .u64 0,.int .u64 0,.int .u64 0,.int .u64 0,.int .u64 0,.int .u64 0,.int .u64 0,.int .u64 0,.int .i64 0,.int .i64 0,.int .i64 0,.int .i64 0,.int .i64 0] 61) (by simp) hb1
 rw[show (w.alloc (.cells #[.slice (A 0) (n 0) (c 0),.slice (A 1) (n 1) (c 1),.slice (A 2) (n 2) (c 2),.slice (A 3) (n 3) (c 3),.slice (A 4) (n 4) (c 4)] 24)).heap.size=w.heap.size+1 by simp] at hT
 clear hb1
 go_wp2_with (refine zdH (w:=w) rfl 61 _ _ rfl #[.int .u64 0,.int .u64 0,.int .u64 0,.int .u64 0,.int .u64 0,.int .u64 0,.int .u64 0,.bool false,.int .i64 0,.bool false,.int .u64 0,.int .u64 0,.int .u64 0,.int .u64 0,.int .u64 0,.int .u64 0,.int .u64 0,.int .u64 0,.int .u64 0,.int .u64 0,.int .u64 0,.int .u64 0,.int .u64 0,.int .u64 0,.int .u64 0,.int .i64 0,.int .i64 0,.int .i64 0,.int .i64 0,.int .i64 0] (w.heap.size+1) oQ rfl rfl underlying61 rfl kQ kQ hbW hT ?_;intro W' hLd hbE)
 (try simp only[Exit.inBlock,Exit.then])
 refine waY (v:=.tuple #[.agg #[.int .u64 0,.int .u64 0,.int .u64 0,.int .u64 0,.int .u64 0,.int .u64 0,.int .u64 0,.bool false,.int .i64 0,.bool false,.int .u64 0,.int .u64 0,.int .u64 0,.int .u64 0,.int .u64 0,.int .u64 0,.int .u64 0,.int .u64 0,.int .u64 0,.int .u64 0,.int .u64 0,.int .u64 0,.int .u64 0,.int .u64 0,.int .u64 0,.int .i64 0,.int .i64 0,.int .i64 0,.int .i64 0,.int .i64 0],.int .i64 e]) ?_ rfl ⟨rfl,hbE⟩;rw[zaz rfl];show((loadVar 61 ⟨w.heap.size+1,0,none⟩).run prog W').andThen (fun v w₂=>Result.ok (Value.tuple #[v,Value.int .i64 e]) w₂)=_
 rw[hLd.out];rfl
def mkC (a0 a1 a2 a3 a4 a6:Int) (E:Bool):Cl:={m:=fun i=>if i=0 then a0 else if i=1 then a1 else if i=2 then a2 else if i=3 then a3 else if i=4 then a4 else if i=5 then zaL 1 31 else a6,or:=E,oi:=0,ob:=false,od:=fun _=>0,y:=zcj,u:=0,s:=1,a:=0,f:=0,t:=12622780799}
theorem zrS (a0 a1 a2 a3 a4 a6:Int) (E:Bool):∀j,j<30→updG (updG (updG (updG (updG (updG (updG (fun j=>(clA zbv).getD j undef) 0 (.int .u64 a0)) 1 (.int .u64 a1)) 2 (.int .u64 a2)) 4 (.int .u64 a4)) 3 (.int .u64 a3)) 6 (.int .u64 a6)) 7 (.bool E) j=(clA (mkC a0 a1 a2 a3 a4 a6 E)).getD j undef:=by
 intro j hj;obtain rfl|rfl|rfl|rfl|rfl|rfl|rfl|rfl|rfl|rfl|rfl|rfl|rfl|rfl|rfl|rfl|rfl|rfl|rfl|rfl|rfl|rfl|rfl|rfl|rfl|rfl|rfl|rfl|rfl|rfl:j=0∨j=1∨j=2∨j=3∨j=4∨j=5∨j=6∨j=7∨j=8∨j=9∨j=10∨j=11∨j=12∨j=13∨j=14∨j=15∨j=16∨j=17∨j=18∨j=19∨j=20∨j=21∨j=22∨j=23∨j=24∨j=25∨j=26∨j=27∨j=28∨j=29:=by omega
 all_goals rfl
theorem zrT (l:Nat→List It):zaV l=mkC 1 (zan (zao (l 0) 0 59)) (zan (zao (l 1) 0 23)) (zan (zao (l 3) 1 12)) (zan (zao (l 2) 1 31)) (zan (wkL (zao (l 4) 0 7))) (zbE l):=rfl
theorem zkf (A:Nat→Option Addr) (n c:Nat→Nat) (l:Nat→List It) (w:World) (hA:zb0 w A n l) (hn:∀k,n k≤100000) (hnil:∀k,A k=none→n k=0) (h:(chk l).2=0):
 Calls prog 25 #[crV A n c] w (Ret (.tuple #[.agg (clA (zaV l)),.int .i64 0]) w):=by
 have HK:=waV (fun W (hb:Below w.heap.size w W)=>zgL A n c l W (hA.below hb (waJ _)) (fun k=>by have:=hn k;omega))
 rw[h] at HK;have HF:=waV (fun W=>zjZ W)
 have HO:=waV (fun b W h=>zdk (some ⟨b,0,none⟩) 1 1 [0] W h dQ)
 rw[←ziT] at HO;have eg:∀args w,(callFunc 65 args).run prog w=.ok (.enter 65 args) w:=enters_of func65 kQ rfl;have H0:=waV (fun b W (hb:Below w.heap.size w W) (h:zbd W b 0 A n c)=>zc8 0 dQ b A n c l W h (hA.below hb (waJ _)) (hn 0) (hnil 0))
 have H1:=waV (fun b W (hb:Below w.heap.size w W) (h:zbd W b 0 A n c)=>zc8 1 dQ b A n c l W h (hA.below hb (waJ _)) (hn 1) (hnil 1))
 have H2:=waV (fun b W (hb:Below w.heap.size w W) (h:zbd W b 0 A n c)=>zc8 2 dQ b A n c l W h (hA.below hb (waJ _)) (hn 2) (hnil 2))
 have H3:=waV (fun b W (hb:Below w.heap.size w W) (h:zbd W b 0 A n c)=>zc8 3 dQ b A n c l W h (hA.below hb (waJ _)) (hn 3) (hnil 3))
 have HW:=waV (fun W (hb:Below w.heap.size w W)=>zea (A 4) (n 4) (c 4) (l 4) W ((hA 4 dQ).below hb (waJ _)) (hn 4))
 have HE:=waV (fun W (hb:Below w.heap.size w W)=>zfV A n c l W (hA.below hb (waJ _)))
 have HI:=waV (zbZ zbv);have HC:=waV (zdr zbv);have HI2:=waV (zbZ (zaV l));have HC2:=waV (zdr (zaV l));have hsz:(clA zbv).size=30:=rfl;have HG:Hid (∀j,j<30→updG (updG (updG (updG (updG (updG (updG (fun j=>(clA zbv).getD j undef) 0 (.int .u64 1)) 1 (.int .u64 (zan (zao (l 0) 0 59)))) 2 (.int .u64 (zan (zao (l 1) 0 23)))) 4 (.int .u64 (zan (zao (l 2) 1 31)))) 3 (.int .u64 (zan (zao (l 3) 1 12)))) 6 (.int .u64 (zan (wkL (zao (l 4) 0 7))))) 7 (.bool (zbE l)) j=(clA (zaV l)).getD j undef):=by
  show ∀j,_;rw[zrT];exact zrS _ _ _ _ _ _ _
 have e0:zan (zao (l 0) (cLo (0:Nat)) (cHi (0:Nat)))=zan (zao (l 0) 0 59):=by rw[show cLo ((0:Nat):Int)=0 from rfl,show cHi ((0:Nat):Int)=59 from rfl]
 have e1:zan (zao (l 1) (cLo (1:Nat)) (cHi (1:Nat)))=zan (zao (l 1) 0 23):=by rw[show cLo ((1:Nat):Int)=0 from rfl,show cHi ((1:Nat):Int)=23 from rfl]
 have e2:zan (zao (l 2) (cLo (2:Nat)) (cHi (2:Nat)))=zan (zao (l 2) 1 31):=by rw[show cLo ((2:Nat):Int)=1 from rfl,show cHi ((2:Nat):Int)=31 from rfl]
 have e3:zan (zao (l 3) (cLo (3:Nat)) (cHi (3:Nat)))=zan (zao (l 3) 1 12):=by rw[show cLo ((3:Nat):Int)=1 from rfl,show cHi ((3:Nat):Int)=12 from rfl]
 rw[e0] at H0;rw[e1] at H1;rw[e2] at H2;rw[e3] at H3;have HZs:Hid (30=(clA zbv).size∧(clA zbv).size=30):=⟨rfl,rfl⟩;have HS30:Hid ((clA (zaV l)).size=30):=rfl;clear hA hn hnil h hsz e0 e1 e2 e3;generalize clA zbv=cs at *;generalize clA (zaV l)=zs at *;generalize zan (zao (l 0) 0 59)=M0 at *;generalize zan (zao (l 1) 0 23)=M1 at *;generalize zan (zao (l 2) 1 31)=M2 at *;generalize zan (zao (l 3) 1 12)=M3 at *;generalize zan (wkL (zao (l 4) 0 7))=M4 at *;generalize zbE l=E at *;generalize (chk l).1=fd at *;go_enter func25,ntmps25;go_wp2_with fail;refine(HK.out _ (by exact zaG)).mono ?_
 rintro x w1 ⟨rfl,hq1⟩;have hb1:Below w.heap.size w w1:=(((waC _ w).alloc (waJ _) _).alloc (by simp) _).trans (hq1.mono (by simp;omega))
 have hT:=zaK (zb8 (w.alloc (.cells #[.slice (A 0) (n 0) (c 0),.slice (A 1) (n 1) (c 1),.slice (A 2) (n 2) (c 2),.slice (A 3) (n 3) (c 3),.slice (A 4) (n 4) (c 4)] 24)) #[.int .u64 0,.int .u64 0,.int .u64 0,.int .u64 0,.int .u64 0,.int .u64 0,.int .u64 0,.bool false,.int .i64 0,.bool false,.int .u64 0,.int .u64 0,.int .u64 0,.int .u64 0,.int .u64 0,.int .u64 0,.int .u64 0,.int .u64 0,.int .u64 0,.int .u64 0,.int .u64 0,.int .u64 0,.int .u64 0,.int .u64 0,.int .u64 0,.int .i64 0,.int .i64 0,.int .i64 0,.int .i64 0,.int .i64 0] 61) (by simp) hq1
 rw[show (w.alloc (.cells #[.slice (A 0) (n 0) (c 0),.slice (A 1) (n 1) (c 1),.slice (A 2) (n 2) (c 2),.slice (A 3) (n 3) (c 3),.slice (A 4) (n 4) (c 4)] 24)).heap.size=w.heap.size+1 by simp] at hT
 have hL:zbd ((w.alloc (.cells #[.slice (A 0) (n 0) (c 0),.slice (A 1) (n 1) (c 1),.slice (A 2) (n 2) (c 2),.slice (A 3) (n 3) (c 3),.slice (A 4) (n 4) (c 4)] 24)).alloc (.cells #[.int .u64 0,.int .u64 0,.int .u64 0,.int .u64 0,.int .u64 0,.int .u64 0,.int .u64 0,.bool false,.int .i64 0,.bool false,.int .u64 0,.int .u64 0,.int .u64 0,.int .u64 0,.int .u64 0,.int .u64 0,.int .u64 0,.int .u64 0,.int .u64 0,.int .u64 0,.int .u64 0,.int .u64 0,.int .u64 0,.int .u64 0,.int .u64 0,.int .i64 0,.int .i64 0,.int .i64 0,.int .i64 0,.int .i64 0] 61)) w.heap.size 0 A n c:=⟨by simp[go_sem],by simp[go_sem],by simp[go_sem],by simp[go_sem],by simp[go_sem]⟩
 have HL1:=waV (zbd.below hL (fun o=>hq1.cell (p:=⟨_,o,none⟩) (by simp;omega)))
 have HT1:=waV hT;have hz1:w.heap.size+2≤w1.heap.size:=by have:=hq1.size;simp at this;omega
 clear hq1 hT hL HK;go_wp2_with fail;refine(HF.out _).mono ?_;rintro x w2 ⟨rfl,hq2⟩;have hb2:=zai hb1 hq2 hb1.size;have HL2:=waV (zbd.below HL1.out (fun o=>hq2.cell (p:=⟨_,o,none⟩) (by show w.heap.size<w1.heap.size;omega)))
 have HT2:=waV (zaK HT1.out oQ hq2);have hz2:w.heap.size+2≤w2.heap.size:=by have:=hq2.size;omega
 clear HL1 HT1 hb1 hq2 hz1 HF
 go_wp2_with (refine zaR (by rfl) 61 _ _ rfl cs _ rfl rfl HI.out HC.out HZs.out.1 ?_;intro w3 hq3 HA3 hz3)
 have HS3:Hid (LowS w w3 w2.heap.size A n c (fun j=>cs.getD j undef)):=
  ⟨zbd.below HL2.out (fun o=>hq3.cell (p:=⟨_,o,none⟩) (by show w.heap.size<w2.heap.size;omega)),by rw[←HZs.out.2];exact HA3,zaK HT2.out (by omega) hq3,by omega,zai hb2 hq3 hb2.size⟩
 have hz3':w2.heap.size<w3.heap.size:=by omega
 clear hq3 HA3 HL2 HT2 hb2;have HS4:=waV (HS3.out.later ((waC _ w3).alloc (waJ _) (.cells #[.int .i64 0] 3)));generalize hB:w2.heap.size=B at *;refine(HO.out _ _ ?_).mono ?_
 ·refine zfO _ _ 0 ?_ ?_
  ·rw[←hz3];simp
  ·rw[←hz3];exact zaa rfl rfl
 rintro x w4 ⟨rfl,rfl⟩;clear HS3 hz3 hz3' HO;generalize World.alloc w3 _=w4 at *;have c0:=HS4.out.arr.1 0 dQ;have f0:=HS4.out.arr.2 0;go_wp2_with fail;have HS5:=waV (HS4.out.updG 0 dQ (.int .u64 1));clear HS4 c0 f0;generalize World.setCell w4 _ _=w5 at *;refine(H0.out _ _ HS5.out.below HS5.out.line).mono ?_;rintro x w6 ⟨rfl,hq⟩;have HS6:=waV (HS5.out.later hq);clear HS5 hq H0;go_wp2_with fail;refine(H1.out _ _ HS6.out.below HS6.out.line).mono ?_;rintro x w7 ⟨rfl,hq⟩;have HS7:=waV (HS6.out.later hq);clear HS6 hq H1;go_wp2_with fail;refine(H2.out _ _ HS7.out.below HS7.out.line).mono ?_;rintro x w8 ⟨rfl,hq⟩;have HS8:=waV (HS7.out.later hq);clear HS7 hq H2;go_wp2_with fail;refine(H3.out _ _ HS8.out.below HS8.out.line).mono ?_;rintro x w9 ⟨rfl,hq⟩;have HS9:=waV (HS8.out.later hq);clear HS8 hq H3;have c1:=HS9.out.arr.1 1 dQ;have c2:=HS9.out.arr.1 2 dQ;have c3:=HS9.out.arr.1 3 dQ;have c4:=HS9.out.arr.1 4 dQ;have f1:=HS9.out.arr.2 1;have f2:=HS9.out.arr.2 2;have f3:=HS9.out.arr.2 3;have f4:=HS9.out.arr.2 4;obtain⟨l0,l1,l2,l3,l4⟩:=zhb HS9.out.line;have hlt1:w.heap.size<B:=by have:=HS9.out.lt;omega
 go_wp2_with fail;have HS10:=waV ((((HS9.out.updG 1 dQ (.int .u64 M0)).updG 2 dQ (.int .u64 M1)).updG 4 dQ (.int .u64 M2)).updG 3 dQ (.int .u64 M3));clear HS9 c1 c2 c3 c4 f1 f2 f3 f4 l0 l1 l2 l3 l4;generalize World.setCell (World.setCell (World.setCell (World.setCell w9 _ _) _ _) _ _) _ _=w10 at *;refine(HW.out _ HS10.out.below).mono ?_;rintro x w11 ⟨rfl,hq⟩;have HS11:=waV (HS10.out.later hq);clear HS10 hq HW;have c6:=HS11.out.arr.1 6 dQ;have f6:=HS11.out.arr.2 6;obtain⟨l0,l1,l2,l3,l4⟩:=zhb HS11.out.line;go_wp2_with fail;have HS12:=waV (HS11.out.updG 6 dQ (.int .u64 M4));clear HS11 c6 f6 l0 l1 l2 l3 l4;generalize World.setCell w11 _ _=w12 at *;refine(HE.out _ HS12.out.below).mono ?_;rintro x w13 ⟨rfl,hq⟩;have HS13:=waV (HS12.out.later hq);clear HS12 hq HE;have c7:=HS13.out.arr.1 7 dQ;have f7:=HS13.out.arr.2 7;have HS14:=waV (HS13.out.updG 7 dQ (.bool E));clear HS13;have HZ14:Hid (∀j v,zs[j]?=some v→(w13.setCell ⟨B,7,none⟩ (.bool E)).cell? ⟨B,0+j,none⟩=some v):=fun j v hj=>by
  have hl:j<30:=by rw[←HS30.out];exact(waL.1 hj).1
  rw[waH,HS14.out.arr.1 j hl,HG.out j hl,wbL,hj];rfl
 have HT14:Hid ((w13.setCell ⟨B,7,none⟩ (.bool E)).there (w.heap.size+1) 0 zs.size):=by show World.there _ _ _ _;rw[HS30.out];exact HS14.out.out
 have HB14:=waV HS14.out.below;clear HG HS14
 go_wp2_with (first
  |(refine zah (by rfl) 61 _ rfl zs B 0 rfl underlying61 rfl HI2.out HZ14.out ?_)
  |(refine zdH (w:=w) rfl 61 _ _ rfl zs (w.heap.size+1) oQ rfl rfl underlying61 rfl HI2.out HC2.out HB14.out HT14.out ?_;intro W' hLd hbE))
 (try simp only[Exit.inBlock,Exit.then])
 refine waY (v:=.tuple #[.agg zs,.int .i64 0]) ?_ rfl ⟨rfl,hbE⟩;rw[zaz rfl];show((loadVar 61 ⟨w.heap.size+1,0,none⟩).run prog W').andThen (fun v w₂=>Result.ok (Value.tuple #[v,Value.int .i64 0]) w₂)=_
 rw[hLd.out];rfl
theorem zi3 (A:Nat→Option Addr) (n c:Nat→Nat) (l:Nat→List It) (w:World) (hA:zb0 w A n l) (hn:∀k,n k≤100000) (hnil:∀k,A k=none→n k=0) (h:(chk l).2=0):
 Calls prog 8 #[crV A n c] w (zrR (zaV l) w):=by
 have HC:=waV (fun W (hb:Below w.heap.size w W)=>zkf A n c l W (hA.below hb (waJ _)) hn hnil h)
 have HI:=waV (zbZ (zaV l));have H1:=waV (zdr (zaV l));have Hs:Hid (30=(clA (zaV l)).size):=rfl;have HR:=waV (fun w t=>zke w (zaV l) t)
 clear hA hn hnil h;generalize clA (zaV l)=cs at *;generalize zaV l=K at *;go_enter func8,ntmps8;go_wp2_with fail;refine(HC.out _ (by exact zaG)).mono ?_
 rintro x w1 ⟨rfl,hq1⟩;have hb1:Below w.heap.size w w1:=((waC _ w).alloc (waJ _) _).trans (hq1.mono (by simp))
 clear hq1 HC;have hcs:cs.size=30:=Hs.out.symm
 go_wp2_with (first
  |(refine zaR (by rfl) 61 _ _ rfl cs _ rfl rfl HI.out H1.out Hs.out ?_;intro w2 hq2 HS2 hz2)
  |(refine zah (by rfl) 61 _ rfl cs w1.heap.size 0 rfl underlying61 rfl HI.out (zcx (ziM HS2)) ?_))
 have hb2:=zai hb1 hq2 hb1.size;have hbE:Below w.heap.size w (w2.alloc (.cells cs 61)):=hb2.alloc hb2.size _;rw[zms cs _ 30 rfl hcs,←hz2];refine waY (wbM rfl _ _ _) rfl ?_;exact⟨_,rfl,HR.out _ _,hbE⟩
theorem zkg (A:Nat→Option Addr) (n c:Nat→Nat) (l:Nat→List It) (w:World) (hA:zb0 w A n l) (hn:∀k,n k≤9223372036854775807) (h:(chk l).2≠0):
 Calls prog 8 #[crV A n c] w (Ret (.tuple #[.slice none 0 0,.int .i64 (chk l).2]) w):=by
 have HC:=waV (fun W (hb:Below w.heap.size w W)=>zi2 A n c l W (hA.below hb (waJ _)) hn h)
 have HI:=waV (zbZ zgi);have H1:=waV (zdr zgi);have Hs:Hid (30=(clA zgi).size):=rfl;have he:((chk l).2 !=0)=true:=by simpa using h
 clear hA hn h;generalize (chk l).2=e at *;generalize clA zgi=cs at *;go_enter func8,ntmps8;go_wp2_with fail;refine(HC.out _ (by exact zaG)).mono ?_
 rintro x w1 ⟨rfl,hq1⟩;have hb1:Below w.heap.size w w1:=((waC _ w).alloc (waJ _) _).trans (hq1.mono (by simp))
 clear hq1 HC
 go_wp2_with (refine zaR (by rfl) 61 _ _ rfl cs _ rfl rfl HI.out H1.out Hs.out ?_;intro w2 hq2 HS2 hz2)
 refine waY (wbM rfl _ _ _) rfl ?_;exact⟨rfl,zai hb1 hq2 hb1.size⟩
def Box (w:World) (B b:Nat) (f:Int):Prop:=w.cell? ⟨B,0,none⟩=some (.pointer (some ⟨b,0,none⟩))∧w.cell? ⟨B,1,none⟩=some (.int .i64 f)
section
variable {w w' : World} {B b : Nat} {f : Int}
theorem Box.lt (h:Box w B b f):B<w.heap.size:=waR w _ h.1
theorem Box.chg (h:Box w B b f) (hg:Chg b w w') (hne:B≠b):Box w' B b f:=⟨hg.cell hne h.1,hg.cell hne h.2⟩
theorem Box.below (h:Box w B b f) (hb:Below w.heap.size w w'):Box w' B b f:=⟨(hb.cell (p:=⟨B,0,none⟩) h.lt).trans h.1,(hb.cell (p:=⟨B,1,none⟩) h.lt).trans h.2⟩
theorem Box.alloc (h:Box w B b f) (o:Obj):Box (w.alloc o) B b f:=h.below ((waC _ _).alloc (waJ _) _)
theorem Box.set (h:Box w B b f) {C o:Nat} (hne:C≠B) (v:Value):Box (w.setCell ⟨C,o,none⟩ v) B b f:=
 ⟨by rw[waU _ _ _ _ (by intro e;injection e with e1;exact hne e1)];exact h.1,by rw[waU _ _ _ _ (by intro e;injection e with e1;exact hne e1)];exact h.2⟩
end
theorem zlo (w:World) (b:Nat) (f:Int) (t:TypeId):Box (w.alloc (.cells #[.pointer (some ⟨b,0,none⟩),.int .i64 f] t)) w.heap.size b f:=⟨zaa rfl rfl,zaa rfl rfl⟩
abbrev rdV (b:Nat) (f:Int):Value:=.agg #[.pointer (some ⟨b,0,none⟩),.int .i64 f]
theorem zpO {w:World} {b:Nat} {s:ByteArray} {l:List UInt8} (h:zcK w b s l):Calls prog 56 #[.pointer (some ⟨b,0,none⟩)] w (zbU (.int .i64 (zfi s l.length)) w):=by
 obtain⟨k,hk,rfl,hr⟩:=h;have hp:zfi s (s.data.toList.drop k).length=(k:Int):=by
  unfold zfi;rw[List.length_drop,zdF];omega
 rw[hp];exact zo0 b s k 0 0 w hr
def Fr (w:World) (B R b:Nat) (f:Int):Prop:=Box w B b f∧zjO w R ⟨0,0,0,0⟩
section
variable {w w' : World} {B R b : Nat} {f : Int}
theorem Fr.chg (h:Fr w B R b f) (hg:Chg b w w') (h1:B≠b) (h2:R≠b):Fr w' B R b f:=⟨h.1.chg hg h1,Arr.chg h.2 dQ hg h2⟩
theorem Fr.alloc (h:Fr w B R b f) (o:Obj):Fr (w.alloc o) B R b f:=⟨h.1.alloc o,Arr.alloc h.2 (Arr.lt h.2 dQ) o⟩
theorem Fr.set (h:Fr w B R b f) {C o:Nat} (h1:C≠B) (h2:C≠R) (v:Value):Fr (w.setCell ⟨C,o,none⟩ v) B R b f:=⟨h.1.set h1 v,Arr.other h.2 h2⟩
end
theorem zta (w:World) (b:Nat) (f:Int) (t t':TypeId):Fr ((w.alloc (.cells #[.pointer (some ⟨b,0,none⟩),.int .i64 f] t)).alloc (.cells #[.int .i64 0,.int .i64 0,.int .i64 0,.int .i64 0] t')) w.heap.size (w.heap.size+1) b f:=
 ⟨(zlo w b f t).alloc _,by have:=zfk (w.alloc (.cells #[.pointer (some ⟨b,0,none⟩),.int .i64 f] t)) 0 0 0 0 t';simpa using this⟩
theorem zcK.set4 {w:World} {b R:Nat} {s:ByteArray} {l:List UInt8} (h:zcK w b s l) (hR:R≠b) (v0 v1 v2 v3:Value):zcK ((((w.setCell ⟨R,0,none⟩ v0).setCell ⟨R,1,none⟩ v1).setCell ⟨R,2,none⟩ v2).setCell ⟨R,3,none⟩ v3) b s l:=
 (((h.set hR v0).set hR v1).set hR v2).set hR v3
theorem zfZ (b f:Nat) (hf:f<5) (s:ByteArray) (hs:s.size≤1000000) (l l1:List UInt8) (w:World) (h:zcK w b s l) (hp:pIs [42] l=some l1) (hp1:pIs [47] l1=none):
 Calls prog 58 #[rdV b f] w (zme (itV ⟨0,0,0,1⟩) b s l1 w):=by
 have hs9:s.size≤9223372036854775807:=by omega
 have hlt:=h.lt;have hne:w.heap.size≠b:=by omega
 have hne1:w.heap.size+1≠b:=by omega
 have H:=waV h;have HP:=waV (hp);have HP1:=waV (hp1);clear h hp hp1;go_enter func58,ntmps58;go_wp2_with fail;refine(zs3 hs9 (((H.out.alloc _).alloc _).alloc _) (zuG (c:=42) (zaa (by simp) rfl)) dQ HP.out).mono ?_
 rintro e w1 ⟨rfl,h1,g1⟩;have F1:=waV (((zta w b (f:Int) 104 81).alloc _).chg g1 hne hne1);have hg1:=((((Chg.refl b w).alloc _).alloc _).alloc _).trans g1;have hz1:=g1.size
 (try simp at hz1)
 have hzA1:w.heap.size<w1.heap.size:=by omega
 have hzB1:w.heap.size+1<w1.heap.size:=by omega
 obtain⟨c0,c1⟩:=F1.out.1;have hneI:w1.heap.size≠b:=by omega
 go_wp2_with fail;refine(zrq hs9 ((h1.alloc _).alloc _) (zuG (c:=47) (zaa (by simp) rfl)) dQ HP1.out).mono ?_
 rintro e w2 ⟨rfl,h2,g2⟩;have F2:=waV (((F1.out.alloc _).alloc _).chg g2 hne hne1);have I2:=waV (Arr.chg (Arr.alloc (zfk w1 0 0 0 1 81) (Arr.lt (zfk w1 0 0 0 1 81) dQ) _) dQ g2 hneI);have hg2:=((hg1.alloc _).alloc _).trans g2;have hz2:=g2.size
 (try simp at hz2)
 have hzA2:w.heap.size<w2.heap.size:=by omega
 have hzB2:w.heap.size+1<w2.heap.size:=by omega
 have hzI2:w1.heap.size<w2.heap.size:=by omega
 clear c0 c1;obtain⟨c0,c1⟩:=F2.out.1;obtain⟨i0,i1,i2,i3,ifz⟩:=zjO.cells I2.out;obtain⟨r0,r1,r2,r3,rfz⟩:=zjO.cells F2.out.2;go_wp2
 (try simp only[Exit.inBlock,Exit.then])
 refine waY (v:=itV ⟨0,0,0,1⟩) ?_ rfl ⟨rfl,?_,?_⟩
 ·rw[zag rfl]
  go_simp
 ·exact h2.set4 hne1 _ _ _ _
 ·exact hg2.set4 oQ _ _ _ _
section
variable {w w' wr : World} {b : Nat}
theorem Chg.grown {row:Option Nat} (h:Chg b w wr) (hg:wr.grownBy w' row) (hrow:∀k,row=some k→w.heap.size≤k):Chg b w w':=
 ⟨hg.os.trans h.os,hg.tape.trans h.tape,hg.output.trans h.output,waW h.size hg.size,fun k hk hn=>(hg.block k (waD hk h.size) (fun e=>by have:=hrow k e.symm;omega)).trans (h.block k hk hn)⟩
theorem ztb {B n k:Nat} {v:Value} {t:TypeId} {xs:List Value} (h:w.ownsRow B t k v n xs):∀g,v.ownBlock=some g→B≤g:=by
 intro g hg;rcases zbr h with ⟨rfl,_⟩|⟨g',cap,rfl,h2,_⟩
 ·simp[Value.ownBlock] at hg
 ·simp[Value.ownBlock] at hg;omega
theorem zdJ {B n k:Nat} {v:Value} {t:TypeId} {xs:List Value} (h:w.ownsRow B t k v n xs) (hg:Chg b w w') (hb:b<B):w'.ownsRow B t k v n xs:=
 h.kept hg (by
  cases e:v.ownBlock with
  |none=>exact .inl rfl
  |some g=>right;have:=ztb h g e;intro h2;cases h2;omega)
end
theorem own_set {w:World} {B R o n k:Nat} {v x:Value} {t:TypeId} {xs:List Value} (h:w.ownsRow B t k v n xs) (hR:R<B):(w.setCell ⟨R,o,none⟩ x).ownsRow B t k v n xs:=
 zdJ h ((Chg.refl R w).set o x) hR
theorem zrU {w:World} {B n k:Nat} {v:Value} {t:TypeId} {xs:List Value} (h:w.ownsRow B t k v n xs):w.drew.ownsRow B t k v n xs:=h
theorem zvd {w:World} {B n k:Nat} {v:Value} {t:TypeId} {xs:List Value} (h:w.ownsRow B t k v n xs):∃A m c,v=.slice A m c:=by
 rcases zbr h with ⟨rfl,_⟩|⟨g,cap,rfl,_⟩
 ·exact⟨_,_,_,rfl⟩
 ·exact⟨_,_,_,rfl⟩
section
variable {w w' w'' : World} {b C : Nat}
end
def zt1 (L:List It) (b:Nat) (s:ByteArray) (r:List UInt8) (w:World) (x:Ending) (w':World):Prop:=∃v,x=.returned v∧zau w' w.heap.size v L∧zcK w' b s r∧Chg b w w'
section
variable {w w' wr : World} {b : Nat} {s : ByteArray} {l : List UInt8} {a c : Int}
theorem zcK.grown {row:Option Nat} (h:zcK w b s l) (hg:w.grownBy w' row) (hrow:row≠some b):zcK w' b s l:=by
 obtain⟨k,hk,hl,hr⟩:=h;exact⟨k,hk,hl,(hg.block b hr.lt (Ne.symm hrow)).trans hr⟩
theorem Box.grown {B:Nat} {f:Int} {row:Option Nat} (h:Box w B b f) (hg:w.grownBy w' row) (hrow:row≠some B):Box w' B b f:=
 ⟨hg.cell h.1 (Ne.symm hrow),hg.cell h.2 (Ne.symm hrow)⟩
end
section
variable (b : Nat) (s : ByteArray) (hs : s.size ≤ 9223372036854775807) (l : List UInt8) (w : World)
include hs
theorem znD (h:zcK w b s l) (hp:l.takeWhile zbQ≠[]):Calls prog 59 #[.pointer (some ⟨b,0,none⟩)] w (zme (.tuple #[]) b s (l.dropWhile zbQ) w):=by
 have HB:=waV (zeV hs h);have hn:(((l.takeWhile zbQ).length:Int)==0)=false:=by
  have:(l.takeWhile zbQ).length≠0:=fun e=>hp (List.length_eq_zero_iff.1 e)
  simp;exact hp
 generalize (l.takeWhile zbQ).length=q at HB hn;clear h hp;go_enter func59,ntmps59;go_wp2_with fail;refine HB.out.mono ?_;rintro e w1 ⟨rfl,h1,g1⟩;go_wp2
 first|go_end0|(refine waY (results_none rfl _ _ _) rfl ?_)
 exact⟨rfl,h1,g1⟩
end
def upd {α:Type} (f:Nat→α) (k:Nat) (x:α) (j:Nat):α:=if j=k then x else f j
def zkh (A:Nat→Option Addr) (n c:Nat→Nat) (j:Nat):Value:=.slice (A j) (n j) (c j)
theorem zmt {A:Nat→Option Addr} {n c:Nat→Nat} {k:Nat} {A':Option Addr} {n' c':Nat}:zkh (upd A k A') (upd n k n') (upd c k c') k=.slice A' n' c':=by simp[zkh,upd]
theorem zpP {A:Nat→Option Addr} {n c:Nat→Nat} {k j:Nat} {A':Option Addr} {n' c':Nat} (h:j≠k):zkh (upd A k A') (upd n k n') (upd c k c') j=zkh A n c j:=by simp[zkh,upd,h]
theorem znE (s:ByteArray):zfi s 0=(s.size:Int):=by unfold zfi;omega
def nil5 (_:Nat):Value:=.slice none 0 0
theorem zi4 (w:World) (t:TypeId) (v0 v1 v2 v3 v4:Value) (g:Nat→Value) (h0:g 0=v0) (h1:g 1=v1) (h2:g 2=v2) (h3:g 3=v3) (h4:g 4=v4):Arr (w.alloc (.cells #[v0,v1,v2,v3,v4] t)) w.heap.size 5 g:=
 zd3 w #[v0,v1,v2,v3,v4] t g (by
  intro j hj;obtain rfl|rfl|rfl|rfl|rfl:j=0∨j=1∨j=2∨j=3∨j=4:=by simp at hj;omega
  ·rw[h0];rfl
  ·rw[h1];rfl
  ·rw[h2];rfl
  ·rw[h3];rfl
  ·rw[h4];rfl)
theorem arr5 {w:World} {b:Nat} {g:Nat→Value} (h:Arr w b 5 g):w.cell? ⟨b,0,none⟩=some (g 0)∧w.cell? ⟨b,1,none⟩=some (g 1)∧w.cell? ⟨b,2,none⟩=some (g 2)∧w.cell? ⟨b,3,none⟩=some (g 3)∧w.cell? ⟨b,4,none⟩=some (g 4)∧∀j,w.frozen? ⟨b,j,none⟩=false:=
 ⟨h.1 0 dQ,h.1 1 dQ,h.1 2 dQ,h.1 3 dQ,h.1 4 dQ,h.2⟩
theorem zt2 {w:World} {B R n k:Nat} {v x0 x1 x2 x3 x4:Value} {t:TypeId} {xs:List Value} (h:w.ownsRow B t k v n xs) (hR:R<B):
 ((((((w.setCell ⟨R,0,none⟩ x0).setCell ⟨R,1,none⟩ x1).setCell ⟨R,2,none⟩ x2).setCell ⟨R,3,none⟩ x3).setCell ⟨R,4,none⟩ x4).drew).ownsRow B t k v n xs:=
 zrU (own_set (own_set (own_set (own_set (own_set h hR) hR) hR) hR) hR)
theorem zlp {f:Nat} {is:List It} (h:zaD f is=0):is≠[]∧is.length≤64∧∀i∈is,i.k≠3∧zq5 i (cLo f) (cHi f):=by
 unfold zaD at h;split at h
 ·cases h
 ·split at h
  ·cases h
  ·split at h
   ·cases h
   ·rename_i h1 h2 h3;refine⟨by rintro rfl;exact h1 rfl,by omega,fun i hi=>?_⟩
    rw[Bool.not_eq_true,List.any_eq_false] at h3;have:=h3 i hi;simp only[wbF,Bool.not_eq_true',beq_iff_eq,not_or,Bool.not_eq_false] at this;exact⟨this.1,waA this.2⟩
theorem zhc (l:Nat→List It) (t:Int):zrB [zaV l] t=zgg l t:=by
 unfold zrB zeW;simp[zgA,zrM]
theorem znF {F G:Nat→List It} (h:∀k,k<5→F k=G k) (t:Int):zgg F t=zgg G t:=by
 unfold zgg;rw[h 0 (by decide),h 1 (by decide),h 2 (by decide),h 3 (by decide),h 4 (by decide)]
theorem ztc (l:Nat→List It):chk l=(5,0)∧(∀k,k<5→zaD k (l k)=0)∨(chk l).2≠0:=by
 by_cases h:∀k,k<5→zaD k (l k)=0
 ·exact .inl ⟨zit h,h⟩
 ·right;have h0:zaD 0 (l 0)≠0∨zaD 1 (l 1)≠0∨zaD 2 (l 2)≠0∨zaD 3 (l 3)≠0∨zaD 4 (l 4)≠0:=by
   refine Classical.byContradiction fun hh=>h fun k hk=>?_
   simp only[not_or,Decidable.not_not] at hh;obtain⟨a0,a1,a2,a3,a4⟩:=hh;obtain rfl|rfl|rfl|rfl|rfl:k=0∨k=1∨k=2∨k=3∨k=4:=by omega
   all_goals assumption
  unfold chk zlZ zlZ zlZ zlZ zlZ zlZ;simp only[Nat.sub_self,Nat.reduceSub];split
  ·split
   ·split
    ·split
     ·split
      ·simp_all
      ·assumption
     ·assumption
    ·assumption
   ·assumption
  ·assumption
theorem zki (w:World):Calls prog 225 #[] w (Ret (.agg #[.int .i64 0,.int .i64 (-1)]) w):=by
 go_enter func225,ntmps225;go_wp2
 (try simp only[Exit.inBlock,Exit.then])
 refine waY (v:=.agg #[.int .i64 0,.int .i64 (-1)]) ?_ rfl ⟨rfl,by exact zaG⟩
 rw[zag rfl]
 go_simp
theorem zlq (a b:Int) (ha:-1000000000000000≤a) (ha1:a≤1000000000000000) (hb:1≤b) (hb1:b≤9223372036854775807) (w:World):Calls prog 185 #[.int .i64 a,.int .i64 b] w (zbU (.int .i64 (a%b)) w):=by
 have hq:¬b<1:=by omega
 have hb0:(b==0)=false:=by simp;omega
 have hd:a.tmod b=if a.tmod b<0 then a%b - b else a%b:=by
  have h0:=Int.emod_nonneg a (b:=b) oQ;have h2:=Int.emod_lt_of_pos a (b:=b) oQ
  by_cases h:0≤a
  ·rw[Int.tmod_eq_emod_of_nonneg h,if_neg (by omega)]
  ·have e:=Int.tmod_eq_emod (a:=a) (b:=b)
   by_cases hd:0≤a∨b ∣ a
   ·rw[if_pos hd] at e;rw[if_neg (by omega)];omega
   ·rw[if_neg hd] at e;have hna:((b.natAbs:Nat):Int)=b:=by omega
    rw[if_pos (by omega)];omega
 have g0:=Int.emod_nonneg a (b:=b) oQ;have g1:=Int.emod_lt_of_pos a (b:=b) oQ
 by_cases hn:a.tmod b<0
 ·rw[if_pos hn] at hd;generalize a%b=r at *;have e:r=a.tmod b+b:=by omega
  have hl:-1000000000000000≤a.tmod b:=by
   have h1:=Int.natAbs_tmod a b;have h2:=Nat.mod_le a.natAbs b.natAbs;omega
  have hu:a.tmod b+b≤9223372036854775807:=by omega
  rw[e];clear hd e g0 g1;have hne1:(b==-1)=false:=by rw[wbE];omega
  go_enter func185,ntmps185;go_wp2;go_ret;exact⟨rfl,rfl⟩
 ·rw[if_neg hn] at hd;rw[←hd] at g0 g1 ⊢;clear hd;have hne1:(b==-1)=false:=by rw[wbE];omega
  go_enter func185,ntmps185;go_wp2;go_ret;exact⟨rfl,rfl⟩
theorem zmu (d s:Int) (h0:0≤s) (h1:s<86400) (w:World):Calls prog 223 #[.int .i64 d,.int .i64 s] w (zbU (.tuple #[.int .i64 (if 0≤d∧d<146097 then d * 86400+s else 0),.bool (decide (0≤d∧d<146097))]) w):=by
 have h2:¬s<0:=by omega
 have h3:¬86400≤s:=by omega
 by_cases hd0:d<0
 ·rw[if_neg (by omega),waO (by omega)]
  go_enter func223,ntmps223;go_wp2
  (try simp only[Exit.inBlock,Exit.then])
  refine waY (wbM rfl _ _ _) rfl ?_;exact⟨rfl,rfl⟩
 ·by_cases hd1:d<146097
  ·have hd2:¬146097≤d:=by omega
   rw[if_pos (by omega),waP (by omega)]
   go_enter func223,ntmps223;go_wp2
   (try simp only[Exit.inBlock,Exit.then])
   refine waY (wbM rfl _ _ _) rfl ?_;exact⟨rfl,rfl⟩
  ·have hd2:146097≤d:=by omega
   rw[if_neg (by omega),waO (by omega)]
   go_enter func223,ntmps223;go_wp2
   (try simp only[Exit.inBlock,Exit.then])
   refine waY (wbM rfl _ _ _) rfl ?_;exact⟨rfl,rfl⟩
def zq2 (d:Int):Int:=if 0≤d∧d<146097 then d * 86400 else 0
def zq3 (d:Int):Int:=if 0≤d∧d<146097 then d * 86400+86399 else -1
theorem zrV (d:Int) (w:World):Calls prog 221 #[.int .i64 d] w (Ret (.agg #[.int .i64 (zq2 d),.int .i64 (zq3 d)]) w):=by
 have HJ:=waV (fun W=>zmu d 0 dQ dQ W)
 have HN:=waV (fun W=>zki W)
 by_cases h:0≤d∧d<146097
 ·rw[if_pos h,waP h] at HJ;have HR:Hid (zq2 d=d * 86400∧zq3 d=d * 86400+86399):=⟨if_pos h,if_pos h⟩;rw[HR.out.1,HR.out.2];obtain⟨k0,k1⟩:=h;go_enter func221,ntmps221;go_wp2_with fail;refine(HJ.out _).mono ?_;rintro e w1 ⟨rfl,rfl⟩;go_wp2
  (try simp only[Exit.inBlock,Exit.then])
  refine waY (v:=.agg #[.int .i64 (d * 86400),.int .i64 (d * 86400+86399)]) ?_ rfl ⟨rfl,by exact zaG⟩
  rw[zag rfl]
  go_simp
  all_goals (try omega)
 ·rw[if_neg h,waO h] at HJ;have HR:Hid (zq2 d=0∧zq3 d=-1):=⟨if_neg h,if_neg h⟩;rw[HR.out.1,HR.out.2];clear h;go_enter func221,ntmps221;go_wp2_with fail;refine(HJ.out _).mono ?_;rintro e w1 ⟨rfl,rfl⟩;go_wp2_with fail;refine(HN.out _).mono ?_;rintro e w1 ⟨rfl,hb1⟩;obtain⟨hc,hf⟩:=zad hb1;have hz1:w.heap.size<w1.heap.size:=by have:=hb1.size;simp at this;omega
  have hbw:Below w.heap.size w w1:=((waC _ w).alloc (waJ _) _).trans (hb1.mono (by simp))
  have f0:∀j,w1.frozen? ⟨w.heap.size,j,none⟩=false:=fun j=>by rw[hf _ _ (by simp)];go_simp
  have c0:∃v,w1.cell? ⟨w.heap.size,0,none⟩=some v:=⟨_,by rw[hc _ _ (by simp)];exact zaa rfl rfl⟩
  have c1:∃v,w1.cell? ⟨w.heap.size,1,none⟩=some v:=⟨_,by rw[hc _ _ (by simp)];exact zaa rfl rfl⟩
  obtain⟨v0,c0⟩:=c0;obtain⟨v1,c1⟩:=c1;clear hb1 hc hf;go_wp2
  (try simp only[Exit.inBlock,Exit.then])
  refine waY (v:=.agg #[.int .i64 0,.int .i64 (-1)]) ?_ rfl ⟨rfl,by exact zaG⟩
  rw[zag rfl]
  go_simp
theorem zee (f u:Int):(zaE f u=0∧zat f u=-1)∨(0≤zaE f u∧zaE f u≤zat f u∧zat f u≤12622780799):=by
 unfold zaE zat
 (repeat' split)<;>omega
theorem zic (f u:Int) (w:World):Calls prog 182 #[.agg #[.int .i64 f,.int .i64 u]] w (Ret (.bool (decide (zat f u<0))) w):=by
 have HH:=waV (fun W=>zd8 f u W)
 have HN:=waV (fun W=>zki W)
 have hr:=zee f u;generalize zaE f u=F at *;generalize zat f u=U at *;have HR:Hid (decide (U<0)=(F==0&&U==-1)):=by
  show _=_;rw[waQ,waM];simp only[waN,beq_iff_eq];omega
 rw[HR.out];clear hr;go_enter func182,ntmps182;go_wp2_with fail;refine(HH.out _).mono ?_;rintro e w1 ⟨rfl,hb1⟩;go_wp2_with fail;refine(HN.out _).mono ?_;rintro e w2 ⟨rfl,hb2⟩;have hbw:Below w.heap.size w w2:=(((waC _ w).alloc (waJ _) _).trans (hb1.mono (by simp))).trans (hb2.mono (by have:=hb1.size;simp at this;omega))
 clear hb1 hb2;go_wp2
 all_goals go_ret
 all_goals refine⟨zak ?_,by exact zaG⟩
 all_goals (first|rfl|(simp;done)|simp[*])
def zkj (f u:Int):Value:=if zat f u<0 then .tuple #[.int .i64 0,.int .i64 0,.bool false] else .tuple #[.int .i64 (zaE f u / 86400),.int .i64 (zat f u / 86400),.bool true]
theorem zhd (f u:Int) (w:World):Calls prog 173 #[.agg #[.int .i64 f,.int .i64 u]] w (Ret (zkj f u) w):=by
 have HH:=waV (fun W=>zd8 f u W)
 have hr:=zee f u;unfold zkj;generalize zaE f u=F at *;generalize zat f u=U at *;have iF:inC F=true:=waP oQ;have HF:=waV (fun W=>zez F iF W)
 by_cases hn:U<0
 ·have iU:inC U=false:=waO oQ;have HU:=waV (fun W=>zgS U iU W)
  rw[if_pos hn];generalize F / 86400=F1 at *;generalize F%86400=F2 at *;clear hr hn iF iU;go_enter func173,ntmps173;go_wp2_with fail;refine(HH.out _).mono ?_;rintro e w1 ⟨rfl,hb1⟩;obtain⟨hc,hf⟩:=zad hb1;have hz1:w.heap.size<w1.heap.size:=by have:=hb1.size;simp at this;omega
  have hbw:Below w.heap.size w w1:=((waC _ w).alloc (waJ _) _).trans (hb1.mono (by simp))
  have c0:w1.cell? ⟨w.heap.size,0,none⟩=some (.int .i64 f):=by rw[hc _ _ (by simp)];exact zaa rfl rfl
  have c1:w1.cell? ⟨w.heap.size,1,none⟩=some (.int .i64 u):=by rw[hc _ _ (by simp)];exact zaa rfl rfl
  have f0:∀j,w1.frozen? ⟨w.heap.size,j,none⟩=false:=fun j=>by rw[hf _ _ (by simp)];go_simp
  clear hb1 hc hf;go_wp2_with fail;refine(HF.out _).mono ?_;rintro e w2 ⟨rfl,rfl⟩;go_wp2_with fail;refine(HU.out _).mono ?_;rintro e w2 ⟨rfl,rfl⟩;go_wp2
  (try simp only[Exit.inBlock,Exit.then])
  refine waY (results_tmp3 rfl _ _ _) rfl ?_;exact⟨rfl,by exact zaG⟩
 ·have iU:inC U=true:=waP oQ;have HU:=waV (fun W=>zez U iU W)
  rw[if_neg hn];generalize F / 86400=F1 at *;generalize F%86400=F2 at *;generalize U / 86400=U1 at *;generalize U%86400=U2 at *;clear hr hn iF iU;go_enter func173,ntmps173;go_wp2_with fail;refine(HH.out _).mono ?_;rintro e w1 ⟨rfl,hb1⟩;obtain⟨hc,hf⟩:=zad hb1;have hz1:w.heap.size<w1.heap.size:=by have:=hb1.size;simp at this;omega
  have hbw:Below w.heap.size w w1:=((waC _ w).alloc (waJ _) _).trans (hb1.mono (by simp))
  have c0:w1.cell? ⟨w.heap.size,0,none⟩=some (.int .i64 f):=by rw[hc _ _ (by simp)];exact zaa rfl rfl
  have c1:w1.cell? ⟨w.heap.size,1,none⟩=some (.int .i64 u):=by rw[hc _ _ (by simp)];exact zaa rfl rfl
  have f0:∀j,w1.frozen? ⟨w.heap.size,j,none⟩=false:=fun j=>by rw[hf _ _ (by simp)];go_simp
  clear hb1 hc hf;go_wp2_with fail;refine(HF.out _).mono ?_;rintro e w2 ⟨rfl,rfl⟩;go_wp2_with fail;refine(HU.out _).mono ?_;rintro e w2 ⟨rfl,rfl⟩;go_wp2
  (try simp only[Exit.inBlock,Exit.then])
  refine waY (results_tmp3 rfl _ _ _) rfl ?_;exact⟨rfl,by exact zaG⟩
end Go.Proofs.YtgedndlifiihkaaGreatDoor
