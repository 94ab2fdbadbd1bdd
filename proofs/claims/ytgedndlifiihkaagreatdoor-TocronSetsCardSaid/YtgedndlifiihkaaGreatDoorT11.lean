/- A part of the proof: WClX WClZ WCronread4 WOwn WCronread7 RBack RLives WCronread9 LCread LClow4 WSpn WSpn2 WSpn3 -/
import Derived.Test.YtgedndlifiihkaaGreatDoorT08
import Derived.Test.YtgedndlifiihkaaGreatDoorT09
import Derived.Test.YtgedndlifiihkaaGreatDoorT10
import Derived.Test.YtgedndlifiihkaaGreatDoorT04
import Derived.Test.YtgedndlifiihkaaGreatDoorT02
import Derived.Test.YtgedndlifiihkaaGreatDoorT00
import Derived.Test.YtgedndlifiihkaaGreatDoorT01
import Derived.Test.YtgedndlifiihkaaGreatDoorT05
set_option maxHeartbeats 80000000
set_option maxRecDepth 100000
set_option linter.unusedSimpArgs false
set_option linter.unusedVariables false
namespace Go.Proofs.YtgedndlifiihkaaGreatDoor
open Go.Proofs.Tryz
open Go.RowKit
theorem zhj {w:World} {B:Nat} {A:Nat→Option Addr} {n c:Nat→Nat} (h:zbb w B 0 A n c):w.cell? ⟨B,0,none⟩=some (.slice (A 0) (n 0) (c 0))∧w.cell? ⟨B,1,none⟩=some (.slice (A 1) (n 1) (c 1))∧w.cell? ⟨B,2,none⟩=some (.slice (A 2) (n 2) (c 2))∧w.cell? ⟨B,3,none⟩=some (.slice (A 3) (n 3) (c 3))∧w.cell? ⟨B,4,none⟩=some (.slice (A 4) (n 4) (c 4)):=by
 obtain⟨h0,h1,h2,h3,h4⟩:=h;simp only[waH] at h1 h2 h3 h4;exact⟨h0,h1,h2,h3,h4⟩
structure LowS (w W:World) (b:Nat) (A:Nat→Option Addr) (n c:Nat→Nat) (g:Nat→Value):Prop where
 line:zbb W w.heap.size 0 A n c
 arr:Arr W b 30 g
 out:W.there (w.heap.size+1) 0 30
 lt:w.heap.size+1<b
 below:Below w.heap.size w W
theorem LowS.later {w W W':World} {b:Nat} {A:Nat→Option Addr} {n c:Nat→Nat} {g:Nat→Value} (h:LowS w W b A n c g) (hb:Below W.heap.size W W'):LowS w W' b A n c g:=
 have hl:=Arr.lt h.arr dQ
 ⟨zbb.below h.line (fun o=>hb.cell (p:=⟨_,o,none⟩) (by show w.heap.size<_;have:=h.lt;omega)),Arr.below h.arr hl hb,zaL h.out (by have:=h.lt;omega) hb,h.lt,zak h.below hb h.below.size⟩
theorem LowS.updG {w W:World} {b:Nat} {A:Nat→Option Addr} {n c:Nat→Nat} {g:Nat→Value} (h:LowS w W b A n c g) (i:Nat) (hi:i<30) (v:Value):LowS w (W.setCell ⟨b,i,none⟩ v) b A n c (updG g i v):=
 ⟨zbb.below h.line (fun o=>waU _ _ _ _ (by intro e;injection e with e1;have:=h.lt;omega)),Arr.updG h.arr i hi v,zpW h.out (by have:=h.lt;omega),h.lt,h.below.setCell (by show w.heap.size≤b;have:=h.lt;omega) _⟩
theorem zdb (k:Nat) (hk:k<5) (b:Nat) (A:Nat→Option Addr) (n c:Nat→Nat) (l:Nat→List It) (W:World) (hL:zbb W b 0 A n c) (hA:zcm W A n l) (hn:n k≤100000) (hnil:A k=none→n k=0):
 Calls prog 65 #[.int .i64 (k:Int),.pointer (some ⟨b,0,none⟩)] W (Ret (.int .u64 (zal (zaD (l k) (cLo k) (cHi k)))) W):=by
 have HB:=waV (fun W=>zfh k hk W)
 have HF:=waV (fun W' (hb:Below W.heap.size W W')=>zmw k hk A n c l W' (hA.below hb (waJ _)) oQ hnil)
 have HM:=waV (fun A' c' W' (h:zcK W' A' (n k) (l k))=>zke (cLo k) (cHi k) A' (n k) c' (l k) W' h hn)
 have hbl:=waR _ _ hL.1;have HL:=waV hL;clear hA hL;generalize cLo k=lo at *;generalize cHi k=hi at *;generalize zal (zaD (l k) lo hi)=M at *;go_enter func65,ntmps65;go_wp2_with fail;refine(HB.out _).mono ?_;rintro e w1 ⟨rfl,hb1⟩;have HL1:=waV (zbb.below HL.out (fun o=>hb1.cell (p:=⟨_,o,none⟩) hbl))
 obtain⟨l0,l1,l2,l3,l4⟩:=zhj HL1.out;go_wp2_with fail;refine(HF.out _ hb1).mono ?_;rintro e w2 ⟨A',c',rfl,hr,hb2⟩;have hbW:=zak hb1 hb2 hb1.size;clear l0 l1 l2 l3 l4 HL1 hb1 hb2;go_wp2_with fail;refine(HM.out _ _ _ hr).mono ?_;rintro e w3 ⟨rfl,hb3⟩;go_wp2;go_ret;exact⟨rfl,zak hbW hb3 hbW.size⟩
theorem zjd (A:Nat→Option Addr) (n c:Nat→Nat) (l:Nat→List It) (w:World) (hA:zcm w A n l) (hn:∀k,n k≤9223372036854775807) (h:(chk l).2≠0):
 Calls prog 25 #[crV A n c] w (Ret (.tuple #[.agg (clA zgm),.int .i64 (chk l).2]) w):=by
 have HK:=waV (fun W (hb:Below w.heap.size w W)=>zgQ A n c l W (hA.below hb (waJ _)) hn)
 have HI:=waV (zbN zgm);have H1:=waV (zdu zgm);have he:((chk l).2 !=0)=true:=by simpa using h
 clear hA hn h;generalize (chk l).1=f at *;generalize (chk l).2=e at *;have HZ:Hid (Value.agg (clA zgm)=.agg #[.int .u64 0,.int .u64 0,.int .u64 0,.int .u64 0,.int .u64 0,.int .u64 0,.int .u64 0,.bool false,.int .i64 0,.bool false,.int .u64 0,.int .u64 0,.int .u64 0,.int .u64 0,.int .u64 0,.int .u64 0,.int .u64 0,.int .u64 0,.int .u64 0,.int .u64 0,.int .u64 0,.int .u64 0,.int .u64 0,.int .u64 0,.int .u64 0,.int .i64 0,.int .i64 0,.int .i64 0,.int .i64 0,.int .i64 0]):=rfl;rw[HZ.out];clear HZ HI H1;go_enter func25,ntmps25;go_wp2_with fail;refine(HK.out _ (by exact zaI)).mono ?_
 rintro x w1 ⟨rfl,hb1⟩;have hbW:Below w.heap.size w w1:=(((waC _ w).alloc (waJ _) _).alloc (by simp) _).trans (hb1.mono (by simp;omega))
 have hT:=zaL (zb8 (w.alloc (.cells #[.slice (A 0) (n 0) (c 0),.slice (A 1) (n 1) (c 1),.slice (A 2) (n 2) (c 2),.slice (A 3) (n 3) (c 3),.slice (A 4) (n 4) (c 4)] 24)) #[.int .u64 0,.int .u64 0,.int .u64 0,.int .u64 0,.int .u64 0,.int .u64 0,.int .u64 0,.bool false,.int .i64 0,.bool false,.int .u64 0,.int .u64 0,.int .u64 0,.int .u64 0,.int .u64 0,.int .u64 0,.int .u64 0,.int .u64 0,.int .u64 0,.int .u64 0,.int .u64 0,.int .u64 0,.int .u64 0,.int .u64 0,.int .u64 0,.int .i64 0,.int .i64 0,.int .i64 0,.int .i64 0,.int .i64 0] 61) (by simp) hb1
 rw[show (w.alloc (.cells #[.slice (A 0) (n 0) (c 0),.slice (A 1) (n 1) (c 1),.slice (A 2) (n 2) (c 2),.slice (A 3) (n 3) (c 3),.slice (A 4) (n 4) (c 4)] 24)).heap.size=w.heap.size+1 by simp] at hT
 clear hb1
 go_wp2_with (refine zdM (w:=w) rfl 61 _ _ rfl #[.int .u64 0,.int .u64 0,.int .u64 0,.int .u64 0,.int .u64 0,.int .u64 0,.int .u64 0,.bool false,.int .i64 0,.bool false,.int .u64 0,.int .u64 0,.int .u64 0,.int .u64 0,.int .u64 0,.int .u64 0,.int .u64 0,.int .u64 0,.int .u64 0,.int .u64 0,.int .u64 0,.int .u64 0,.int .u64 0,.int .u64 0,.int .u64 0,.int .i64 0,.int .i64 0,.int .i64 0,.int .i64 0,.int .i64 0] (w.heap.size+1) oQ rfl rfl underlying61 rfl kQ kQ hbW hT ?_;intro W' hLd hbE)
 (try simp only[Exit.inBlock,Exit.then])
 refine waY (v:=.tuple #[.agg #[.int .u64 0,.int .u64 0,.int .u64 0,.int .u64 0,.int .u64 0,.int .u64 0,.int .u64 0,.bool false,.int .i64 0,.bool false,.int .u64 0,.int .u64 0,.int .u64 0,.int .u64 0,.int .u64 0,.int .u64 0,.int .u64 0,.int .u64 0,.int .u64 0,.int .u64 0,.int .u64 0,.int .u64 0,.int .u64 0,.int .u64 0,.int .u64 0,.int .i64 0,.int .i64 0,.int .i64 0,.int .i64 0,.int .i64 0],.int .i64 e]) ?_ rfl ⟨rfl,hbE⟩;rw[zay rfl];show((loadVar 61 ⟨w.heap.size+1,0,none⟩).run prog W').andThen (fun v w₂=>Result.ok (Value.tuple #[v,Value.int .i64 e]) w₂)=_
 rw[hLd.out];rfl
def mkC (a0 a1 a2 a3 a4 a6:Int) (E:Bool):Cl:={m:=fun i=>if i=0 then a0 else if i=1 then a1 else if i=2 then a2 else if i=3 then a3 else if i=4 then a4 else if i=5 then zaC 1 31 else a6,or:=E,oi:=0,ob:=false,od:=fun _=>0,y:=zca,u:=0,s:=1,a:=0,f:=0,t:=12622780799}
theorem zse (a0 a1 a2 a3 a4 a6:Int) (E:Bool):∀j,j<30→updG (updG (updG (updG (updG (updG (updG (fun j=>(clA zbm).getD j undef) 0 (.int .u64 a0)) 1 (.int .u64 a1)) 2 (.int .u64 a2)) 4 (.int .u64 a4)) 3 (.int .u64 a3)) 6 (.int .u64 a6)) 7 (.bool E) j=(clA (mkC a0 a1 a2 a3 a4 a6 E)).getD j undef:=by
 intro j hj;obtain rfl|rfl|rfl|rfl|rfl|rfl|rfl|rfl|rfl|rfl|rfl|rfl|rfl|rfl|rfl|rfl|rfl|rfl|rfl|rfl|rfl|rfl|rfl|rfl|rfl|rfl|rfl|rfl|rfl|rfl:j=0∨j=1∨j=2∨j=3∨j=4∨j=5∨j=6∨j=7∨j=8∨j=9∨j=10∨j=11∨j=12∨j=13∨j=14∨j=15∨j=16∨j=17∨j=18∨j=19∨j=20∨j=21∨j=22∨j=23∨j=24∨j=25∨j=26∨j=27∨j=28∨j=29:=by omega
 all_goals rfl
theorem zsf (l:Nat→List It):zaT l=mkC 1 (zal (zaD (l 0) 0 59)) (zal (zaD (l 1) 0 23)) (zal (zaD (l 3) 1 12)) (zal (zaD (l 2) 1 31)) (zal (wkL (zaD (l 4) 0 7))) (zf0 l):=rfl
theorem zkn (A:Nat→Option Addr) (n c:Nat→Nat) (l:Nat→List It) (w:World) (hA:zcm w A n l) (hn:∀k,n k≤100000) (hnil:∀k,A k=none→n k=0) (h:(chk l).2=0):
 Calls prog 25 #[crV A n c] w (Ret (.tuple #[.agg (clA (zaT l)),.int .i64 0]) w):=by
 have HK:=waV (fun W (hb:Below w.heap.size w W)=>zgQ A n c l W (hA.below hb (waJ _)) (fun k=>by have:=hn k;omega))
 rw[h] at HK;have HF:=waV (fun W=>zj8 W)
 have HO:=waV (fun b W h=>zdn (some ⟨b,0,none⟩) 1 1 [0] W h dQ)
 rw[←zi7] at HO;have eg:∀args w,(callFunc 65 args).run prog w=.ok (.enter 65 args) w:=enters_of func65 kQ rfl;have H0:=waV (fun b W (hb:Below w.heap.size w W) (h:zbb W b 0 A n c)=>zdb 0 dQ b A n c l W h (hA.below hb (waJ _)) (hn 0) (hnil 0))
 have H1:=waV (fun b W (hb:Below w.heap.size w W) (h:zbb W b 0 A n c)=>zdb 1 dQ b A n c l W h (hA.below hb (waJ _)) (hn 1) (hnil 1))
 have H2:=waV (fun b W (hb:Below w.heap.size w W) (h:zbb W b 0 A n c)=>zdb 2 dQ b A n c l W h (hA.below hb (waJ _)) (hn 2) (hnil 2))
 have H3:=waV (fun b W (hb:Below w.heap.size w W) (h:zbb W b 0 A n c)=>zdb 3 dQ b A n c l W h (hA.below hb (waJ _)) (hn 3) (hnil 3))
 have HW:=waV (fun W (hb:Below w.heap.size w W)=>zkf (A 4) (n 4) (c 4) (l 4) W ((hA 4 dQ).below hb (waJ _)) (hn 4))
 have HE:=waV (fun W (hb:Below w.heap.size w W)=>znS A n c l W (hA.below hb (waJ _)))
 have HI:=waV (zbN zbm);have HC:=waV (zdu zbm);have HI2:=waV (zbN (zaT l));have HC2:=waV (zdu (zaT l));have hsz:(clA zbm).size=30:=rfl;have HG:Hid (∀j,j<30→updG (updG (updG (updG (updG (updG (updG (fun j=>(clA zbm).getD j undef) 0 (.int .u64 1)) 1 (.int .u64 (zal (zaD (l 0) 0 59)))) 2 (.int .u64 (zal (zaD (l 1) 0 23)))) 4 (.int .u64 (zal (zaD (l 2) 1 31)))) 3 (.int .u64 (zal (zaD (l 3) 1 12)))) 6 (.int .u64 (zal (wkL (zaD (l 4) 0 7))))) 7 (.bool (zf0 l)) j=(clA (zaT l)).getD j undef):=by
  show ∀j,_;rw[zsf];exact zse _ _ _ _ _ _ _
 have e0:zal (zaD (l 0) (cLo (0:Nat)) (cHi (0:Nat)))=zal (zaD (l 0) 0 59):=by rw[show cLo ((0:Nat):Int)=0 from rfl,show cHi ((0:Nat):Int)=59 from rfl]
 have e1:zal (zaD (l 1) (cLo (1:Nat)) (cHi (1:Nat)))=zal (zaD (l 1) 0 23):=by rw[show cLo ((1:Nat):Int)=0 from rfl,show cHi ((1:Nat):Int)=23 from rfl]
 have e2:zal (zaD (l 2) (cLo (2:Nat)) (cHi (2:Nat)))=zal (zaD (l 2) 1 31):=by rw[show cLo ((2:Nat):Int)=1 from rfl,show cHi ((2:Nat):Int)=31 from rfl]
 have e3:zal (zaD (l 3) (cLo (3:Nat)) (cHi (3:Nat)))=zal (zaD (l 3) 1 12):=by rw[show cLo ((3:Nat):Int)=1 from rfl,show cHi ((3:Nat):Int)=12 from rfl]
 rw[e0] at H0;rw[e1] at H1;rw[e2] at H2;rw[e3] at H3;have HZs:Hid (30=(clA zbm).size∧(clA zbm).size=30):=⟨rfl,rfl⟩;have HS30:Hid ((clA (zaT l)).size=30):=rfl;clear hA hn hnil h hsz e0 e1 e2 e3;generalize clA zbm=cs at *;generalize clA (zaT l)=zs at *;generalize zal (zaD (l 0) 0 59)=M0 at *;generalize zal (zaD (l 1) 0 23)=M1 at *;generalize zal (zaD (l 2) 1 31)=M2 at *;generalize zal (zaD (l 3) 1 12)=M3 at *;generalize zal (wkL (zaD (l 4) 0 7))=M4 at *;generalize zf0 l=E at *;generalize (chk l).1=fd at *;go_enter func25,ntmps25;go_wp2_with fail;refine(HK.out _ (by exact zaI)).mono ?_
 rintro x w1 ⟨rfl,hq1⟩;have hb1:Below w.heap.size w w1:=(((waC _ w).alloc (waJ _) _).alloc (by simp) _).trans (hq1.mono (by simp;omega))
 have hT:=zaL (zb8 (w.alloc (.cells #[.slice (A 0) (n 0) (c 0),.slice (A 1) (n 1) (c 1),.slice (A 2) (n 2) (c 2),.slice (A 3) (n 3) (c 3),.slice (A 4) (n 4) (c 4)] 24)) #[.int .u64 0,.int .u64 0,.int .u64 0,.int .u64 0,.int .u64 0,.int .u64 0,.int .u64 0,.bool false,.int .i64 0,.bool false,.int .u64 0,.int .u64 0,.int .u64 0,.int .u64 0,.int .u64 0,.int .u64 0,.int .u64 0,.int .u64 0,.int .u64 0,.int .u64 0,.int .u64 0,.int .u64 0,.int .u64 0,.int .u64 0,.int .u64 0,.int .i64 0,.int .i64 0,.int .i64 0,.int .i64 0,.int .i64 0] 61) (by simp) hq1
 rw[show (w.alloc (.cells #[.slice (A 0) (n 0) (c 0),.slice (A 1) (n 1) (c 1),.slice (A 2) (n 2) (c 2),.slice (A 3) (n 3) (c 3),.slice (A 4) (n 4) (c 4)] 24)).heap.size=w.heap.size+1 by simp] at hT
 have hL:zbb ((w.alloc (.cells #[.slice (A 0) (n 0) (c 0),.slice (A 1) (n 1) (c 1),.slice (A 2) (n 2) (c 2),.slice (A 3) (n 3) (c 3),.slice (A 4) (n 4) (c 4)] 24)).alloc (.cells #[.int .u64 0,.int .u64 0,.int .u64 0,.int .u64 0,.int .u64 0,.int .u64 0,.int .u64 0,.bool false,.int .i64 0,.bool false,.int .u64 0,.int .u64 0,.int .u64 0,.int .u64 0,.int .u64 0,.int .u64 0,.int .u64 0,.int .u64 0,.int .u64 0,.int .u64 0,.int .u64 0,.int .u64 0,.int .u64 0,.int .u64 0,.int .u64 0,.int .i64 0,.int .i64 0,.int .i64 0,.int .i64 0,.int .i64 0] 61)) w.heap.size 0 A n c:=⟨by simp[go_sem],by simp[go_sem],by simp[go_sem],by simp[go_sem],by simp[go_sem]⟩
 have HL1:=waV (zbb.below hL (fun o=>hq1.cell (p:=⟨_,o,none⟩) (by simp;omega)))
 have HT1:=waV hT;have hz1:w.heap.size+2≤w1.heap.size:=by have:=hq1.size;simp at this;omega
 clear hq1 hT hL HK;go_wp2_with fail;refine(HF.out _).mono ?_;rintro x w2 ⟨rfl,hq2⟩;have hb2:=zak hb1 hq2 hb1.size;have HL2:=waV (zbb.below HL1.out (fun o=>hq2.cell (p:=⟨_,o,none⟩) (by show w.heap.size<w1.heap.size;omega)))
 have HT2:=waV (zaL HT1.out oQ hq2);have hz2:w.heap.size+2≤w2.heap.size:=by have:=hq2.size;omega
 clear HL1 HT1 hb1 hq2 hz1 HF
 go_wp2_with (refine zaQ (by rfl) 61 _ _ rfl cs _ rfl rfl HI.out HC.out HZs.out.1 ?_;intro w3 hq3 HA3 hz3)
 have HS3:Hid (LowS w w3 w2.heap.size A n c (fun j=>cs.getD j undef)):=
  ⟨zbb.below HL2.out (fun o=>hq3.cell (p:=⟨_,o,none⟩) (by show w.heap.size<w2.heap.size;omega)),by rw[←HZs.out.2];exact HA3,zaL HT2.out (by omega) hq3,by omega,zak hb2 hq3 hb2.size⟩
 have hz3':w2.heap.size<w3.heap.size:=by omega
 clear hq3 HA3 HL2 HT2 hb2;have HS4:=waV (HS3.out.later ((waC _ w3).alloc (waJ _) (.cells #[.int .i64 0] 3)));generalize hB:w2.heap.size=B at *;refine(HO.out _ _ ?_).mono ?_
 ·refine zfU _ _ 0 ?_ ?_
  ·rw[←hz3];simp
  ·rw[←hz3];exact zaa rfl rfl
 rintro x w4 ⟨rfl,rfl⟩;clear HS3 hz3 hz3' HO;generalize World.alloc w3 _=w4 at *;have c0:=HS4.out.arr.1 0 dQ;have f0:=HS4.out.arr.2 0;go_wp2_with fail;have HS5:=waV (HS4.out.updG 0 dQ (.int .u64 1));clear HS4 c0 f0;generalize World.setCell w4 _ _=w5 at *;refine(H0.out _ _ HS5.out.below HS5.out.line).mono ?_;rintro x w6 ⟨rfl,hq⟩;have HS6:=waV (HS5.out.later hq);clear HS5 hq H0;go_wp2_with fail;refine(H1.out _ _ HS6.out.below HS6.out.line).mono ?_;rintro x w7 ⟨rfl,hq⟩;have HS7:=waV (HS6.out.later hq);clear HS6 hq H1;go_wp2_with fail;refine(H2.out _ _ HS7.out.below HS7.out.line).mono ?_;rintro x w8 ⟨rfl,hq⟩;have HS8:=waV (HS7.out.later hq);clear HS7 hq H2;go_wp2_with fail;refine(H3.out _ _ HS8.out.below HS8.out.line).mono ?_;rintro x w9 ⟨rfl,hq⟩;have HS9:=waV (HS8.out.later hq);clear HS8 hq H3;have c1:=HS9.out.arr.1 1 dQ;have c2:=HS9.out.arr.1 2 dQ;have c3:=HS9.out.arr.1 3 dQ;have c4:=HS9.out.arr.1 4 dQ;have f1:=HS9.out.arr.2 1;have f2:=HS9.out.arr.2 2;have f3:=HS9.out.arr.2 3;have f4:=HS9.out.arr.2 4;obtain⟨l0,l1,l2,l3,l4⟩:=zhj HS9.out.line;have hlt1:w.heap.size<B:=by have:=HS9.out.lt;omega
 go_wp2_with fail;have HS10:=waV ((((HS9.out.updG 1 dQ (.int .u64 M0)).updG 2 dQ (.int .u64 M1)).updG 4 dQ (.int .u64 M2)).updG 3 dQ (.int .u64 M3));clear HS9 c1 c2 c3 c4 f1 f2 f3 f4 l0 l1 l2 l3 l4;generalize World.setCell (World.setCell (World.setCell (World.setCell w9 _ _) _ _) _ _) _ _=w10 at *;refine(HW.out _ HS10.out.below).mono ?_;rintro x w11 ⟨rfl,hq⟩;have HS11:=waV (HS10.out.later hq);clear HS10 hq HW;have c6:=HS11.out.arr.1 6 dQ;have f6:=HS11.out.arr.2 6;obtain⟨l0,l1,l2,l3,l4⟩:=zhj HS11.out.line;go_wp2_with fail;have HS12:=waV (HS11.out.updG 6 dQ (.int .u64 M4));clear HS11 c6 f6 l0 l1 l2 l3 l4;generalize World.setCell w11 _ _=w12 at *;refine(HE.out _ HS12.out.below).mono ?_;rintro x w13 ⟨rfl,hq⟩;have HS13:=waV (HS12.out.later hq);clear HS12 hq HE;have c7:=HS13.out.arr.1 7 dQ;have f7:=HS13.out.arr.2 7;have HS14:=waV (HS13.out.updG 7 dQ (.bool E));clear HS13;have HZ14:Hid (∀j v,zs[j]?=some v→(w13.setCell ⟨B,7,none⟩ (.bool E)).cell? ⟨B,0+j,none⟩=some v):=fun j v hj=>by
  have hl:j<30:=by rw[←HS30.out];exact(waL.1 hj).1
  rw[waH,HS14.out.arr.1 j hl,HG.out j hl,wbL,hj];rfl
 have HT14:Hid ((w13.setCell ⟨B,7,none⟩ (.bool E)).there (w.heap.size+1) 0 zs.size):=by show World.there _ _ _ _;rw[HS30.out];exact HS14.out.out
 have HB14:=waV HS14.out.below;clear HG HS14
 go_wp2_with (first
  |(refine zai (by rfl) 61 _ rfl zs B 0 rfl underlying61 rfl HI2.out HZ14.out ?_)
  |(refine zdM (w:=w) rfl 61 _ _ rfl zs (w.heap.size+1) oQ rfl rfl underlying61 rfl HI2.out HC2.out HB14.out HT14.out ?_;intro W' hLd hbE))
 (try simp only[Exit.inBlock,Exit.then])
 refine waY (v:=.tuple #[.agg zs,.int .i64 0]) ?_ rfl ⟨rfl,hbE⟩;rw[zay rfl];show((loadVar 61 ⟨w.heap.size+1,0,none⟩).run prog W').andThen (fun v w₂=>Result.ok (Value.tuple #[v,Value.int .i64 0]) w₂)=_
 rw[hLd.out];rfl
theorem zje (A:Nat→Option Addr) (n c:Nat→Nat) (l:Nat→List It) (w:World) (hA:zcm w A n l) (hn:∀k,n k≤100000) (hnil:∀k,A k=none→n k=0) (h:(chk l).2=0):
 Calls prog 8 #[crV A n c] w (zmE (zaT l) w):=by
 have HC:=waV (fun W (hb:Below w.heap.size w W)=>zkn A n c l W (hA.below hb (waJ _)) hn hnil h)
 have HI:=waV (zbN (zaT l));have H1:=waV (zdu (zaT l));have Hs:Hid (30=(clA (zaT l)).size):=rfl;have HR:=waV (fun w t=>zkm w (zaT l) t)
 clear hA hn hnil h;generalize clA (zaT l)=cs at *;generalize zaT l=K at *;go_enter func8,ntmps8;go_wp2_with fail;refine(HC.out _ (by exact zaI)).mono ?_
 rintro x w1 ⟨rfl,hq1⟩;have hb1:Below w.heap.size w w1:=((waC _ w).alloc (waJ _) _).trans (hq1.mono (by simp))
 clear hq1 HC;have hcs:cs.size=30:=Hs.out.symm
 go_wp2_with (first
  |(refine zaQ (by rfl) 61 _ _ rfl cs _ rfl rfl HI.out H1.out Hs.out ?_;intro w2 hq2 HS2 hz2)
  |(refine zai (by rfl) 61 _ rfl cs w1.heap.size 0 rfl underlying61 rfl HI.out (zcH (zi0 HS2)) ?_))
 have hb2:=zak hb1 hq2 hb1.size;have hbE:Below w.heap.size w (w2.alloc (.cells cs 61)):=hb2.alloc hb2.size _;rw[zmD cs _ 30 rfl hcs,←hz2];refine waY (wbM rfl _ _ _) rfl ?_;exact⟨_,rfl,HR.out _ _,hbE⟩
theorem zpX (A:Nat→Option Addr) (n c:Nat→Nat) (l:Nat→List It) (w:World) (hA:zcm w A n l) (hn:∀k,n k≤9223372036854775807) (h:(chk l).2≠0):
 Calls prog 8 #[crV A n c] w (Ret (.tuple #[.slice none 0 0,.int .i64 (chk l).2]) w):=by
 have HC:=waV (fun W (hb:Below w.heap.size w W)=>zjd A n c l W (hA.below hb (waJ _)) hn h)
 have HI:=waV (zbN zgm);have H1:=waV (zdu zgm);have Hs:Hid (30=(clA zgm).size):=rfl;have he:((chk l).2 !=0)=true:=by simpa using h
 clear hA hn h;generalize (chk l).2=e at *;generalize clA zgm=cs at *;go_enter func8,ntmps8;go_wp2_with fail;refine(HC.out _ (by exact zaI)).mono ?_
 rintro x w1 ⟨rfl,hq1⟩;have hb1:Below w.heap.size w w1:=((waC _ w).alloc (waJ _) _).trans (hq1.mono (by simp))
 clear hq1 HC
 go_wp2_with (refine zaQ (by rfl) 61 _ _ rfl cs _ rfl rfl HI.out H1.out Hs.out ?_;intro w2 hq2 HS2 hz2)
 refine waY (wbM rfl _ _ _) rfl ?_;exact⟨rfl,zak hb1 hq2 hb1.size⟩
def Box (w:World) (B b:Nat) (f:Int):Prop:=w.cell? ⟨B,0,none⟩=some (.pointer (some ⟨b,0,none⟩))∧w.cell? ⟨B,1,none⟩=some (.int .i64 f)
section
variable {w w' : World} {B b : Nat} {f : Int}
theorem Box.lt (h:Box w B b f):B<w.heap.size:=waR w _ h.1
theorem Box.chg (h:Box w B b f) (hg:Chg b w w') (hne:B≠b):Box w' B b f:=⟨hg.cell hne h.1,hg.cell hne h.2⟩
theorem Box.below (h:Box w B b f) (hb:Below w.heap.size w w'):Box w' B b f:=⟨(hb.cell (p:=⟨B,0,none⟩) h.lt).trans h.1,(hb.cell (p:=⟨B,1,none⟩) h.lt).trans h.2⟩
theorem Box.alloc (h:Box w B b f) (o:Obj):Box (w.alloc o) B b f:=h.below ((waC _ _).alloc (waJ _) _)
theorem Box.set (h:Box w B b f) {C o:Nat} (hne:C≠B) (v:Value):Box (w.setCell ⟨C,o,none⟩ v) B b f:=
 ⟨by rw[waU _ _ _ _ (by intro e;injection e with e1;exact hne e1)];exact h.1,by rw[waU _ _ _ _ (by intro e;injection e with e1;exact hne e1)];exact h.2⟩
end
theorem zlz (w:World) (b:Nat) (f:Int) (t:TypeId):Box (w.alloc (.cells #[.pointer (some ⟨b,0,none⟩),.int .i64 f] t)) w.heap.size b f:=⟨zaa rfl rfl,zaa rfl rfl⟩
abbrev rdV (b:Nat) (f:Int):Value:=.agg #[.pointer (some ⟨b,0,none⟩),.int .i64 f]
theorem zpY {w:World} {b:Nat} {s:ByteArray} {l:List UInt8} (h:zcV w b s l):Calls prog 56 #[.pointer (some ⟨b,0,none⟩)] w (zbO (.int .i64 (zfq s l.length)) w):=by
 obtain⟨k,hk,rfl,hr⟩:=h;have hp:zfq s (s.data.toList.drop k).length=(k:Int):=by
  unfold zfq;rw[List.length_drop,zdL];omega
 rw[hp];exact zph b s k 0 0 w hr
def Fr (w:World) (B R b:Nat) (f:Int):Prop:=Box w B b f∧zjY w R ⟨0,0,0,0⟩
section
variable {w w' : World} {B R b : Nat} {f : Int}
theorem Fr.chg (h:Fr w B R b f) (hg:Chg b w w') (h1:B≠b) (h2:R≠b):Fr w' B R b f:=⟨h.1.chg hg h1,Arr.chg h.2 dQ hg h2⟩
theorem Fr.alloc (h:Fr w B R b f) (o:Obj):Fr (w.alloc o) B R b f:=⟨h.1.alloc o,Arr.alloc h.2 (Arr.lt h.2 dQ) o⟩
theorem Fr.set (h:Fr w B R b f) {C o:Nat} (h1:C≠B) (h2:C≠R) (v:Value):Fr (w.setCell ⟨C,o,none⟩ v) B R b f:=⟨h.1.set h1 v,Arr.other h.2 h2⟩
end
theorem ztF (w:World) (b:Nat) (f:Int) (t t':TypeId):Fr ((w.alloc (.cells #[.pointer (some ⟨b,0,none⟩),.int .i64 f] t)).alloc (.cells #[.int .i64 0,.int .i64 0,.int .i64 0,.int .i64 0] t')) w.heap.size (w.heap.size+1) b f:=
 ⟨(zlz w b f t).alloc _,by have:=zfs (w.alloc (.cells #[.pointer (some ⟨b,0,none⟩),.int .i64 f] t)) 0 0 0 0 t';simpa using this⟩
theorem zcV.set4 {w:World} {b R:Nat} {s:ByteArray} {l:List UInt8} (h:zcV w b s l) (hR:R≠b) (v0 v1 v2 v3:Value):zcV ((((w.setCell ⟨R,0,none⟩ v0).setCell ⟨R,1,none⟩ v1).setCell ⟨R,2,none⟩ v2).setCell ⟨R,3,none⟩ v3) b s l:=
 (((h.set hR v0).set hR v1).set hR v2).set hR v3
theorem zf3 (b f:Nat) (hf:f<5) (s:ByteArray) (hs:s.size≤1000000) (l l1:List UInt8) (w:World) (h:zcV w b s l) (hp:pIs [42] l=some l1) (hp1:pIs [47] l1=none):
 Calls prog 58 #[rdV b f] w (zmr (itV ⟨0,0,0,1⟩) b s l1 w):=by
 have hs9:s.size≤9223372036854775807:=by omega
 have hlt:=h.lt;have hne:w.heap.size≠b:=by omega
 have hne1:w.heap.size+1≠b:=by omega
 have H:=waV h;have HP:=waV (hp);have HP1:=waV (hp1);clear h hp hp1;go_enter func58,ntmps58;go_wp2_with fail;refine(zty hs9 (((H.out.alloc _).alloc _).alloc _) (zvn (c:=42) (zaa (by simp) rfl)) dQ HP.out).mono ?_
 rintro e w1 ⟨rfl,h1,g1⟩;have F1:=waV (((ztF w b (f:Int) 104 81).alloc _).chg g1 hne hne1);have hg1:=((((Chg.refl b w).alloc _).alloc _).alloc _).trans g1;have hz1:=g1.size
 (try simp at hz1)
 have hzA1:w.heap.size<w1.heap.size:=by omega
 have hzB1:w.heap.size+1<w1.heap.size:=by omega
 obtain⟨c0,c1⟩:=F1.out.1;have hneI:w1.heap.size≠b:=by omega
 go_wp2_with fail;refine(zrI hs9 ((h1.alloc _).alloc _) (zvn (c:=47) (zaa (by simp) rfl)) dQ HP1.out).mono ?_
 rintro e w2 ⟨rfl,h2,g2⟩;have F2:=waV (((F1.out.alloc _).alloc _).chg g2 hne hne1);have I2:=waV (Arr.chg (Arr.alloc (zfs w1 0 0 0 1 81) (Arr.lt (zfs w1 0 0 0 1 81) dQ) _) dQ g2 hneI);have hg2:=((hg1.alloc _).alloc _).trans g2;have hz2:=g2.size
 (try simp at hz2)
 have hzA2:w.heap.size<w2.heap.size:=by omega
 have hzB2:w.heap.size+1<w2.heap.size:=by omega
 have hzI2:w1.heap.size<w2.heap.size:=by omega
 clear c0 c1;obtain⟨c0,c1⟩:=F2.out.1;obtain⟨i0,i1,i2,i3,ifz⟩:=zjY.cells I2.out;obtain⟨r0,r1,r2,r3,rfz⟩:=zjY.cells F2.out.2;go_wp2
 (try simp only[Exit.inBlock,Exit.then])
 refine waY (v:=itV ⟨0,0,0,1⟩) ?_ rfl ⟨rfl,?_,?_⟩
 ·rw[zah rfl]
  go_simp
 ·exact h2.set4 hne1 _ _ _ _
 ·exact hg2.set4 oQ _ _ _ _
section
variable {w w' wr : World} {b : Nat}
theorem Chg.grown {row:Option Nat} (h:Chg b w wr) (hg:wr.grownBy w' row) (hrow:∀k,row=some k→w.heap.size≤k):Chg b w w':=
 ⟨hg.os.trans h.os,hg.tape.trans h.tape,hg.output.trans h.output,waW h.size hg.size,fun k hk hn=>(hg.block k (waD hk h.size) (fun e=>by have:=hrow k e.symm;omega)).trans (h.block k hk hn)⟩
theorem ztG {B n k:Nat} {v:Value} {t:TypeId} {xs:List Value} (h:w.ownsRow B t k v n xs):∀g,v.ownBlock=some g→B≤g:=by
 intro g hg;rcases zbq h with ⟨rfl,_⟩|⟨g',cap,rfl,h2,_⟩
 ·simp[Value.ownBlock] at hg
 ·simp[Value.ownBlock] at hg;omega
theorem zdN {B n k:Nat} {v:Value} {t:TypeId} {xs:List Value} (h:w.ownsRow B t k v n xs) (hg:Chg b w w') (hb:b<B):w'.ownsRow B t k v n xs:=
 h.kept hg (by
  cases e:v.ownBlock with
  |none=>exact .inl rfl
  |some g=>right;have:=ztG h g e;intro h2;cases h2;omega)
end
theorem own_set {w:World} {B R o n k:Nat} {v x:Value} {t:TypeId} {xs:List Value} (h:w.ownsRow B t k v n xs) (hR:R<B):(w.setCell ⟨R,o,none⟩ x).ownsRow B t k v n xs:=
 zdN h ((Chg.refl R w).set o x) hR
theorem zsg {w:World} {B n k:Nat} {v:Value} {t:TypeId} {xs:List Value} (h:w.ownsRow B t k v n xs):w.drew.ownsRow B t k v n xs:=h
theorem zvZ {w:World} {B n k:Nat} {v:Value} {t:TypeId} {xs:List Value} (h:w.ownsRow B t k v n xs):∃A m c,v=.slice A m c:=by
 rcases zbq h with ⟨rfl,_⟩|⟨g,cap,rfl,_⟩
 ·exact⟨_,_,_,rfl⟩
 ·exact⟨_,_,_,rfl⟩
section
variable {w w' w'' : World} {b C : Nat}
end
def zuy (L:List It) (b:Nat) (s:ByteArray) (r:List UInt8) (w:World) (x:Ending) (w':World):Prop:=∃v,x=.returned v∧zat w' w.heap.size v L∧zcV w' b s r∧Chg b w w'
section
variable {w w' wr : World} {b : Nat} {s : ByteArray} {l : List UInt8} {a c : Int}
theorem zcV.grown {row:Option Nat} (h:zcV w b s l) (hg:w.grownBy w' row) (hrow:row≠some b):zcV w' b s l:=by
 obtain⟨k,hk,hl,hr⟩:=h;exact⟨k,hk,hl,(hg.block b hr.lt (Ne.symm hrow)).trans hr⟩
theorem Box.grown {B:Nat} {f:Int} {row:Option Nat} (h:Box w B b f) (hg:w.grownBy w' row) (hrow:row≠some B):Box w' B b f:=
 ⟨hg.cell h.1 (Ne.symm hrow),hg.cell h.2 (Ne.symm hrow)⟩
end
section
variable (b : Nat) (s : ByteArray) (hs : s.size ≤ 9223372036854775807) (l : List UInt8) (w : World)
include hs
theorem znW (h:zcV w b s l) (hp:l.takeWhile zbS≠[]):Calls prog 59 #[.pointer (some ⟨b,0,none⟩)] w (zmr (.tuple #[]) b s (l.dropWhile zbS) w):=by
 have HB:=waV (ze0 hs h);have hn:(((l.takeWhile zbS).length:Int)==0)=false:=by
  have:(l.takeWhile zbS).length≠0:=fun e=>hp (List.length_eq_zero_iff.1 e)
  simp;exact hp
 generalize (l.takeWhile zbS).length=q at HB hn;clear h hp;go_enter func59,ntmps59;go_wp2_with fail;refine HB.out.mono ?_;rintro e w1 ⟨rfl,h1,g1⟩;go_wp2
 first|go_end0|(refine waY (results_none rfl _ _ _) rfl ?_)
 exact⟨rfl,h1,g1⟩
end
def upd {α:Type} (f:Nat→α) (k:Nat) (x:α) (j:Nat):α:=if j=k then x else f j
def zko (A:Nat→Option Addr) (n c:Nat→Nat) (j:Nat):Value:=.slice (A j) (n j) (c j)
theorem zmF {A:Nat→Option Addr} {n c:Nat→Nat} {k:Nat} {A':Option Addr} {n' c':Nat}:zko (upd A k A') (upd n k n') (upd c k c') k=.slice A' n' c':=by simp[zko,upd]
theorem zpZ {A:Nat→Option Addr} {n c:Nat→Nat} {k j:Nat} {A':Option Addr} {n' c':Nat} (h:j≠k):zko (upd A k A') (upd n k n') (upd c k c') j=zko A n c j:=by simp[zko,upd,h]
theorem znX (s:ByteArray):zfq s 0=(s.size:Int):=by unfold zfq;omega
def nil5 (_:Nat):Value:=.slice none 0 0
theorem zjf (w:World) (t:TypeId) (v0 v1 v2 v3 v4:Value) (g:Nat→Value) (h0:g 0=v0) (h1:g 1=v1) (h2:g 2=v2) (h3:g 3=v3) (h4:g 4=v4):Arr (w.alloc (.cells #[v0,v1,v2,v3,v4] t)) w.heap.size 5 g:=
 zdG w #[v0,v1,v2,v3,v4] t g (by
  intro j hj;obtain rfl|rfl|rfl|rfl|rfl:j=0∨j=1∨j=2∨j=3∨j=4:=by simp at hj;omega
  ·rw[h0];rfl
  ·rw[h1];rfl
  ·rw[h2];rfl
  ·rw[h3];rfl
  ·rw[h4];rfl)
theorem arr5 {w:World} {b:Nat} {g:Nat→Value} (h:Arr w b 5 g):w.cell? ⟨b,0,none⟩=some (g 0)∧w.cell? ⟨b,1,none⟩=some (g 1)∧w.cell? ⟨b,2,none⟩=some (g 2)∧w.cell? ⟨b,3,none⟩=some (g 3)∧w.cell? ⟨b,4,none⟩=some (g 4)∧∀j,w.frozen? ⟨b,j,none⟩=false:=
 ⟨h.1 0 dQ,h.1 1 dQ,h.1 2 dQ,h.1 3 dQ,h.1 4 dQ,h.2⟩
theorem zuz {w:World} {B R n k:Nat} {v x0 x1 x2 x3 x4:Value} {t:TypeId} {xs:List Value} (h:w.ownsRow B t k v n xs) (hR:R<B):
 ((((((w.setCell ⟨R,0,none⟩ x0).setCell ⟨R,1,none⟩ x1).setCell ⟨R,2,none⟩ x2).setCell ⟨R,3,none⟩ x3).setCell ⟨R,4,none⟩ x4).drew).ownsRow B t k v n xs:=
 zsg (own_set (own_set (own_set (own_set (own_set h hR) hR) hR) hR) hR)
theorem zlA {f:Nat} {is:List It} (h:zaM f is=0):is≠[]∧is.length≤64∧∀i∈is,i.k≠3∧zvk i (cLo f) (cHi f):=by
 unfold zaM at h;split at h
 ·cases h
 ·split at h
  ·cases h
  ·split at h
   ·cases h
   ·rename_i h1 h2 h3;refine⟨by rintro rfl;exact h1 rfl,by omega,fun i hi=>?_⟩
    rw[Bool.not_eq_true,List.any_eq_false] at h3;have:=h3 i hi;simp only[wbF,Bool.not_eq_true',beq_iff_eq,not_or,Bool.not_eq_false] at this;exact⟨this.1,waA this.2⟩
theorem zkp (l:Nat→List It) (t:Int):zrU [zaT l] t=zgk l t:=by
 unfold zrU zdF;simp[zgB,zr5]
theorem znY {F G:Nat→List It} (h:∀k,k<5→F k=G k) (t:Int):zgk F t=zgk G t:=by
 unfold zgk;rw[h 0 (by decide),h 1 (by decide),h 2 (by decide),h 3 (by decide),h 4 (by decide)]
theorem ztH (l:Nat→List It):chk l=(5,0)∧(∀k,k<5→zaM k (l k)=0)∨(chk l).2≠0:=by
 by_cases h:∀k,k<5→zaM k (l k)=0
 ·exact .inl ⟨ziI h,h⟩
 ·right;have h0:zaM 0 (l 0)≠0∨zaM 1 (l 1)≠0∨zaM 2 (l 2)≠0∨zaM 3 (l 3)≠0∨zaM 4 (l 4)≠0:=by
   refine Classical.byContradiction fun hh=>h fun k hk=>?_
   simp only[not_or,Decidable.not_not] at hh;obtain⟨a0,a1,a2,a3,a4⟩:=hh;obtain rfl|rfl|rfl|rfl|rfl:k=0∨k=1∨k=2∨k=3∨k=4:=by omega
   all_goals assumption
  unfold chk zmd zmd zmd zmd zmd zmd;simp only[Nat.sub_self,Nat.reduceSub];split
  ·split
   ·split
    ·split
     ·split
      ·simp_all
      ·assumption
     ·assumption
    ·assumption
   ·assumption
  ·assumption
theorem zkq (w:World):Calls prog 225 #[] w (Ret (.agg #[.int .i64 0,.int .i64 (-1)]) w):=by
 go_enter func225,ntmps225;go_wp2
 (try simp only[Exit.inBlock,Exit.then])
 refine waY (v:=.agg #[.int .i64 0,.int .i64 (-1)]) ?_ rfl ⟨rfl,by exact zaI⟩
 rw[zah rfl]
 go_simp
theorem zlB (a b:Int) (ha:-1000000000000000≤a) (ha1:a≤1000000000000000) (hb:1≤b) (hb1:b≤9223372036854775807) (w:World):Calls prog 185 #[.int .i64 a,.int .i64 b] w (zbO (.int .i64 (a%b)) w):=by
 have hq:¬b<1:=by omega
 have hb0:(b==0)=false:=by simp;omega
 have hd:a.tmod b=if a.tmod b<0 then a%b - b else a%b:=by
  have h0:=Int.emod_nonneg a (b:=b) oQ;have h2:=Int.emod_lt_of_pos a (b:=b) oQ
  by_cases h:0≤a
  ·rw[Int.tmod_eq_emod_of_nonneg h,if_neg (by omega)]
  ·have e:=Int.tmod_eq_emod (a:=a) (b:=b)
   by_cases hd:0≤a∨b ∣ a
   ·rw[if_pos hd] at e;rw[if_neg (by omega)];omega
   ·rw[if_neg hd] at e;have hna:((b.natAbs:Nat):Int)=b:=by omega
    rw[if_pos (by omega)];omega
 have g0:=Int.emod_nonneg a (b:=b) oQ;have g1:=Int.emod_lt_of_pos a (b:=b) oQ
 by_cases hn:a.tmod b<0
 ·rw[if_pos hn] at hd;generalize a%b=r at *;have e:r=a.tmod b+b:=by omega
  have hl:-1000000000000000≤a.tmod b:=by
   have h1:=Int.natAbs_tmod a b;have h2:=Nat.mod_le a.natAbs b.natAbs;omega
  have hu:a.tmod b+b≤9223372036854775807:=by omega
  rw[e];clear hd e g0 g1;have hne1:(b==-1)=false:=by rw[wbE];omega
  go_enter func185,ntmps185;go_wp2;go_ret;exact⟨rfl,rfl⟩
 ·rw[if_neg hn] at hd;rw[←hd] at g0 g1 ⊢;clear hd;have hne1:(b==-1)=false:=by rw[wbE];omega
  go_enter func185,ntmps185;go_wp2;go_ret;exact⟨rfl,rfl⟩
theorem zmG (d s:Int) (h0:0≤s) (h1:s<86400) (w:World):Calls prog 223 #[.int .i64 d,.int .i64 s] w (zbO (.tuple #[.int .i64 (if 0≤d∧d<146097 then d * 86400+s else 0),.bool (decide (0≤d∧d<146097))]) w):=by
 have h2:¬s<0:=by omega
 have h3:¬86400≤s:=by omega
 by_cases hd0:d<0
 ·rw[if_neg (by omega),waO (by omega)]
  go_enter func223,ntmps223;go_wp2
  (try simp only[Exit.inBlock,Exit.then])
  refine waY (wbM rfl _ _ _) rfl ?_;exact⟨rfl,rfl⟩
 ·by_cases hd1:d<146097
  ·have hd2:¬146097≤d:=by omega
   rw[if_pos (by omega),waP (by omega)]
   go_enter func223,ntmps223;go_wp2
   (try simp only[Exit.inBlock,Exit.then])
   refine waY (wbM rfl _ _ _) rfl ?_;exact⟨rfl,rfl⟩
  ·have hd2:146097≤d:=by omega
   rw[if_neg (by omega),waO (by omega)]
   go_enter func223,ntmps223;go_wp2
   (try simp only[Exit.inBlock,Exit.then])
   refine waY (wbM rfl _ _ _) rfl ?_;exact⟨rfl,rfl⟩
def zrk (d:Int):Int:=if 0≤d∧d<146097 then d * 86400 else 0
def zrl (d:Int):Int:=if 0≤d∧d<146097 then d * 86400+86399 else -1
theorem zsh (d:Int) (w:World):Calls prog 221 #[.int .i64 d] w (Ret (.agg #[.int .i64 (zrk d),.int .i64 (zrl d)]) w):=by
 have HJ:=waV (fun W=>zmG d 0 dQ dQ W)
 have HN:=waV (fun W=>zkq W)
 by_cases h:0≤d∧d<146097
 ·rw[if_pos h,waP h] at HJ;have HR:Hid (zrk d=d * 86400∧zrl d=d * 86400+86399):=⟨if_pos h,if_pos h⟩;rw[HR.out.1,HR.out.2];obtain⟨k0,k1⟩:=h;go_enter func221,ntmps221;go_wp2_with fail;refine(HJ.out _).mono ?_;rintro e w1 ⟨rfl,rfl⟩;go_wp2
  (try simp only[Exit.inBlock,Exit.then])
  refine waY (v:=.agg #[.int .i64 (d * 86400),.int .i64 (d * 86400+86399)]) ?_ rfl ⟨rfl,by exact zaI⟩
  rw[zah rfl]
  go_simp
  all_goals (try omega)
 ·rw[if_neg h,waO h] at HJ;have HR:Hid (zrk d=0∧zrl d=-1):=⟨if_neg h,if_neg h⟩;rw[HR.out.1,HR.out.2];clear h;go_enter func221,ntmps221;go_wp2_with fail;refine(HJ.out _).mono ?_;rintro e w1 ⟨rfl,rfl⟩;go_wp2_with fail;refine(HN.out _).mono ?_;rintro e w1 ⟨rfl,hb1⟩;obtain⟨hc,hf⟩:=zad hb1;have hz1:w.heap.size<w1.heap.size:=by have:=hb1.size;simp at this;omega
  have hbw:Below w.heap.size w w1:=((waC _ w).alloc (waJ _) _).trans (hb1.mono (by simp))
  have f0:∀j,w1.frozen? ⟨w.heap.size,j,none⟩=false:=fun j=>by rw[hf _ _ (by simp)];go_simp
  have c0:∃v,w1.cell? ⟨w.heap.size,0,none⟩=some v:=⟨_,by rw[hc _ _ (by simp)];exact zaa rfl rfl⟩
  have c1:∃v,w1.cell? ⟨w.heap.size,1,none⟩=some v:=⟨_,by rw[hc _ _ (by simp)];exact zaa rfl rfl⟩
  obtain⟨v0,c0⟩:=c0;obtain⟨v1,c1⟩:=c1;clear hb1 hc hf;go_wp2
  (try simp only[Exit.inBlock,Exit.then])
  refine waY (v:=.agg #[.int .i64 0,.int .i64 (-1)]) ?_ rfl ⟨rfl,by exact zaI⟩
  rw[zah rfl]
  go_simp
theorem zeg (f u:Int):(zaE f u=0∧zas f u=-1)∨(0≤zaE f u∧zaE f u≤zas f u∧zas f u≤12622780799):=by
 unfold zaE zas
 (repeat' split)<;>omega
theorem zim (f u:Int) (w:World):Calls prog 182 #[.agg #[.int .i64 f,.int .i64 u]] w (Ret (.bool (decide (zas f u<0))) w):=by
 have HH:=waV (fun W=>zeb f u W)
 have HN:=waV (fun W=>zkq W)
 have hr:=zeg f u;generalize zaE f u=F at *;generalize zas f u=U at *;have HR:Hid (decide (U<0)=(F==0&&U==-1)):=by
  show _=_;rw[waQ,waM];simp only[waN,beq_iff_eq];omega
 rw[HR.out];clear hr;go_enter func182,ntmps182;go_wp2_with fail;refine(HH.out _).mono ?_;rintro e w1 ⟨rfl,hb1⟩;go_wp2_with fail;refine(HN.out _).mono ?_;rintro e w2 ⟨rfl,hb2⟩;have hbw:Below w.heap.size w w2:=(((waC _ w).alloc (waJ _) _).trans (hb1.mono (by simp))).trans (hb2.mono (by have:=hb1.size;simp at this;omega))
 clear hb1 hb2;go_wp2
 all_goals go_ret
 all_goals refine⟨zaf ?_,by exact zaI⟩
 all_goals (first|rfl|(simp;done)|simp[*])
def zkr (f u:Int):Value:=if zas f u<0 then .tuple #[.int .i64 0,.int .i64 0,.bool false] else .tuple #[.int .i64 (zaE f u / 86400),.int .i64 (zas f u / 86400),.bool true]
theorem zhk (f u:Int) (w:World):Calls prog 173 #[.agg #[.int .i64 f,.int .i64 u]] w (Ret (zkr f u) w):=by
 have HH:=waV (fun W=>zeb f u W)
 have hr:=zeg f u;unfold zkr;generalize zaE f u=F at *;generalize zas f u=U at *;have iF:inC F=true:=waP oQ;have HF:=waV (fun W=>zez F iF W)
 by_cases hn:U<0
 ·have iU:inC U=false:=waO oQ;have HU:=waV (fun W=>zgW U iU W)
  rw[if_pos hn];generalize F / 86400=F1 at *;generalize F%86400=F2 at *;clear hr hn iF iU;go_enter func173,ntmps173;go_wp2_with fail;refine(HH.out _).mono ?_;rintro e w1 ⟨rfl,hb1⟩;obtain⟨hc,hf⟩:=zad hb1;have hz1:w.heap.size<w1.heap.size:=by have:=hb1.size;simp at this;omega
  have hbw:Below w.heap.size w w1:=((waC _ w).alloc (waJ _) _).trans (hb1.mono (by simp))
  have c0:w1.cell? ⟨w.heap.size,0,none⟩=some (.int .i64 f):=by rw[hc _ _ (by simp)];exact zaa rfl rfl
  have c1:w1.cell? ⟨w.heap.size,1,none⟩=some (.int .i64 u):=by rw[hc _ _ (by simp)];exact zaa rfl rfl
  have f0:∀j,w1.frozen? ⟨w.heap.size,j,none⟩=false:=fun j=>by rw[hf _ _ (by simp)];go_simp
  clear hb1 hc hf;go_wp2_with fail;refine(HF.out _).mono ?_;rintro e w2 ⟨rfl,rfl⟩;go_wp2_with fail;refine(HU.out _).mono ?_;rintro e w2 ⟨rfl,rfl⟩;go_wp2
  (try simp only[Exit.inBlock,Exit.then])
  refine waY (results_tmp3 rfl _ _ _) rfl ?_;exact⟨rfl,by exact zaI⟩
 ·have iU:inC U=true:=waP oQ;have HU:=waV (fun W=>zez U iU W)
  rw[if_neg hn];generalize F / 86400=F1 at *;generalize F%86400=F2 at *;generalize U / 86400=U1 at *;generalize U%86400=U2 at *;clear hr hn iF iU;go_enter func173,ntmps173;go_wp2_with fail;refine(HH.out _).mono ?_;rintro e w1 ⟨rfl,hb1⟩;obtain⟨hc,hf⟩:=zad hb1;have hz1:w.heap.size<w1.heap.size:=by have:=hb1.size;simp at this;omega
  have hbw:Below w.heap.size w w1:=((waC _ w).alloc (waJ _) _).trans (hb1.mono (by simp))
  have c0:w1.cell? ⟨w.heap.size,0,none⟩=some (.int .i64 f):=by rw[hc _ _ (by simp)];exact zaa rfl rfl
  have c1:w1.cell? ⟨w.heap.size,1,none⟩=some (.int .i64 u):=by rw[hc _ _ (by simp)];exact zaa rfl rfl
  have f0:∀j,w1.frozen? ⟨w.heap.size,j,none⟩=false:=fun j=>by rw[hf _ _ (by simp)];go_simp
  clear hb1 hc hf;go_wp2_with fail;refine(HF.out _).mono ?_;rintro e w2 ⟨rfl,rfl⟩;go_wp2_with fail;refine(HU.out _).mono ?_;rintro e w2 ⟨rfl,rfl⟩;go_wp2
  (try simp only[Exit.inBlock,Exit.then])
  refine waY (results_tmp3 rfl _ _ _) rfl ?_;exact⟨rfl,by exact zaI⟩
def mxI (a b:Int):Int:=if a<b then b else a
def mnI (a b:Int):Int:=if b<a then b else a
def zeh (f1 f2:Int) (k:Nat):Int:=if k=0 then 0 else if k=1 then mxI 0 f1 else mxI (mxI 0 f1) f2
def zei (u1 u2:Int) (k:Nat):Int:=if k=0 then 12622780799 else if k=1 then mnI 12622780799 u1 else mnI (mnI 12622780799 u1) u2
theorem ze3 (a b:Int):mxI a b=max a b:=by unfold mxI;split<;>omega
theorem ze4 (a b:Int):mnI a b=min a b:=by unfold mnI;split<;>omega
theorem zv0 (f1 f2:Int):zeh f1 f2 1=max (zeh f1 f2 0) f1:=ze3 _ _
theorem zv1 (f1 f2:Int):zeh f1 f2 2=max (zeh f1 f2 1) f2:=ze3 _ _
theorem zv2 (f1 f2:Int):zei f1 f2 1=min (zei f1 f2 0) f1:=ze4 _ _
theorem zv3 (f1 f2:Int):zei f1 f2 2=min (zei f1 f2 1) f2:=ze4 _ _
theorem znZ {a b c d:Int} (h1:a=max b 0) (h2:c=min d 12622780799):zaE a c=zaE b d∧zas a c=zas b d:=by
 subst h1 h2;unfold zaE zas;constructor<;>((repeat' split)<;>omega)
theorem zp0 (f1 u1 f2 u2:Int):zaE (zeh f1 f2 2) (zei u1 u2 2)=zaE (mxI f1 f2) (mnI u1 u2)∧zas (zeh f1 f2 2) (zei u1 u2 2)=zas (mxI f1 f2) (mnI u1 u2):=by
 refine znZ ?_ ?_
 ·show mxI (mxI 0 f1) f2=_;rw[ze3,ze3,ze3];omega
 ·show mnI (mnI _ u1) u2=_;rw[ze4,ze4,ze4];omega
theorem zej {W:World} {b:Nat} {a0 a1 x y:Value} (o:Obj) (h0:W.cell? ⟨b,0,none⟩=some a0) (h1:W.cell? ⟨b,1,none⟩=some a1):
 (((W.setCell ⟨b,0,none⟩ x).setCell ⟨b,1,none⟩ y).alloc o).cell? ⟨b,0,none⟩=some x∧(((W.setCell ⟨b,0,none⟩ x).setCell ⟨b,1,none⟩ y).alloc o).cell? ⟨b,1,none⟩=some y:=by
 have hl:b<((W.setCell ⟨b,0,none⟩ x).setCell ⟨b,1,none⟩ y).heap.size:=by
  simp only[World.size_setCell];exact waR W _ h0
 have hk:=(zad ((waC ((W.setCell ⟨b,0,none⟩ x).setCell ⟨b,1,none⟩ y).heap.size ((W.setCell ⟨b,0,none⟩ x).setCell ⟨b,1,none⟩ y)).alloc (waJ _) o)).1;constructor
 ·rw[hk _ _ hl,waU _ _ _ _ (by simp)]
  exact World.cell?_setCell_same' _ _ _ (by rw[h0];rfl)
 ·rw[hk _ _ hl];refine World.cell?_setCell_same' _ _ _ ?_;rw[waU _ _ _ _ (by simp),h1];rfl
theorem zp1 (f1 u1 f2 u2:Int) (B c:Nat) (w:World)
 (c0:w.cell? ⟨B,0,none⟩=some (.int .i64 f1)) (c1:w.cell? ⟨B,1,none⟩=some (.int .i64 u1)) (c2:w.cell? ⟨B,2,none⟩=some (.int .i64 f2)) (c3:w.cell? ⟨B,3,none⟩=some (.int .i64 u2)):
 Calls prog 220 #[.slice (some ⟨B,0,none⟩) 2 c] w (Ret (.agg #[.int .i64 (zaE (mxI f1 f2) (mnI u1 u2)),.int .i64 (zas (mxI f1 f2) (mnI u1 u2))]) w):=by
 have HW:=waV (fun W=>zib W)
 have HH:=waV (fun f u W=>zeb f u W)
 have hB:=waR w _ c0;have HE:Hid (zaE (zeh f1 f2 2) (zei u1 u2 2)=zaE (mxI f1 f2) (mnI u1 u2)∧zas (zeh f1 f2 2) (zei u1 u2 2)=zas (mxI f1 f2) (mnI u1 u2)):=zp0 f1 u1 f2 u2;go_enter func220,ntmps220;go_wp2_with fail;refine(HW.out _).mono ?_;rintro e w1 ⟨rfl,hb1⟩;have hz1:w.heap.size<w1.heap.size:=by have:=hb1.size;simp at this;omega
 have hbw:Below w.heap.size w w1:=((waC _ w).alloc (waJ _) _).trans (hb1.mono (by simp))
 have g0:∀j,w1.frozen? ⟨w.heap.size,j,none⟩=false:=fun j=>by rw[(zad hb1).2 _ _ (by simp)];go_simp
 have k0:∃v,w1.cell? ⟨w.heap.size,0,none⟩=some v:=⟨_,by rw[(zad hb1).1 _ _ (by simp)];exact zaa rfl rfl⟩
 have k1:∃v,w1.cell? ⟨w.heap.size,1,none⟩=some v:=⟨_,by rw[(zad hb1).1 _ _ (by simp)];exact zaa rfl rfl⟩
 clear hb1;go_wp2
 go_loopw [9] (fun i V=>∃k:Nat,k≤2∧i=.int .i64 k∧V.cell? ⟨w1.heap.size,0,none⟩=some (.int .i64 (zeh f1 f2 k))∧V.cell? ⟨w1.heap.size,1,none⟩=some (.int .i64 (zei u1 u2 k))∧Hid (∀j,V.frozen? ⟨w1.heap.size,j,none⟩=false)∧Below w1.heap.size w1 V∧w1.heap.size<V.heap.size) (fun i _=>2 - (intOf i).toNat)
 case atStart=>exact⟨0,by omega,rfl,zaa rfl rfl,zaa rfl rfl,fun j=>by go_simp,by exact zaI,by simp⟩
 case round=>
  obtain⟨k,hk,rfl,r0,r1,r2,r3,r4⟩:=hrel;obtain⟨v0,k0⟩:=k0;obtain⟨v1,k1⟩:=k1;have q0:=(zad r3).1 _ 0 hz1;have q1:=(zad r3).1 _ 1 hz1;have qf:=(zad r3).2 _ 0 hz1;rw[k0] at q0;rw[k1] at q1;rw[g0] at qf;have F0:∀j,wr.frozen? ⟨w.heap.size,j,none⟩=false:=fun j=>by rw[(zad r3).2 _ _ hz1,g0]
  have hbV:Below w.heap.size w wr:=hbw.trans (r3.mono oQ)
  by_cases h2:k=2
  ·subst h2;clear HW;have HHx:=waV (fun W=>HH.out (zeh f1 f2 2) (zei u1 u2 2) W)
   rw[HE.out.1,HE.out.2] at HHx;have HF0:=r2.out;generalize zeh f1 f2 2=A at *;generalize zei u1 u2 2=U at *;generalize zaE (mxI f1 f2) (mnI u1 u2)=RF at *;generalize zas (mxI f1 f2) (mnI u1 u2)=RU at *;go_wp2_with fail;refine(HHx.out _).mono ?_;rintro e w2 ⟨rfl,hb2⟩;have y0:=(zad hb2).1 w.heap.size 0 oQ;have y1:=(zad hb2).1 w.heap.size 1 oQ;have yf:∀j,w2.frozen? ⟨w.heap.size,j,none⟩=false:=fun j=>by rw[(zad hb2).2 _ _ (by omega)];exact F0 j
   rw[q0] at y0;rw[q1] at y1;have hz2:w.heap.size<w2.heap.size:=by have:=hb2.size;omega
   have hbW:Below w.heap.size w w2:=hbV.trans (hb2.mono oQ);clear hb2;go_wp2
   (try simp only[Exit.inBlock,Exit.then])
   refine waY (v:=.agg #[.int .i64 RF,.int .i64 RU]) ?_ rfl ⟨rfl,by exact zaI⟩
   rw[zah rfl]
   go_simp
  ·have hbB:B<w1.heap.size:=by omega
   have b0:wr.cell? ⟨B,0,none⟩=some (.int .i64 f1):=by rw[(zad hbV).1 _ _ hB];exact c0
   have b1:wr.cell? ⟨B,1,none⟩=some (.int .i64 u1):=by rw[(zad hbV).1 _ _ hB];exact c1
   have b2:wr.cell? ⟨B,2,none⟩=some (.int .i64 f2):=by rw[(zad hbV).1 _ _ hB];exact c2
   have b3:wr.cell? ⟨B,3,none⟩=some (.int .i64 u2):=by rw[(zad hbV).1 _ _ hB];exact c3
   have HF0:=r2.out;have n1:w1.heap.size≠B:=by omega
   obtain rfl|rfl:k=0∨k=1:=by omega
   ·clear HW HH HE;go_wp2;go_roundw
    case rel=>exact⟨1,by omega,rfl,(by first|exact(zej _ r0 r1).1|(rw[zv0];exact(zej _ r0 r1).1)),(by first|exact(zej _ r0 r1).2|(rw[zv2];exact(zej _ r0 r1).2)),fun j=>by go_simp,by exact zaI,by simp;omega⟩
    case measure=>simp [intOf]
   ·clear HW HH HE;go_wp2;go_roundw
    case rel=>exact⟨2,by omega,rfl,(by first|exact(zej _ r0 r1).1|(rw[zv1];exact(zej _ r0 r1).1)),(by first|exact(zej _ r0 r1).2|(rw[zv3];exact(zej _ r0 r1).2)),fun j=>by go_simp,by exact zaI,by simp;omega⟩
    case measure=>simp [intOf]
end Go.Proofs.YtgedndlifiihkaaGreatDoor
