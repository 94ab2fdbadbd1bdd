/- A part of the proof: WClX WClZ WCronread4 WOwn WCronread7 RBack RLives -/
import Derived.Test.YtadefhkaejjfmaaGreatDoorQ08
import Derived.Test.YtadefhkaejjfmaaGreatDoorQ30
import Derived.Test.YtadefhkaejjfmaaGreatDoorQ34
import Derived.Test.YtadefhkaejjfmaaGreatDoorQ33
import Derived.Test.YtadefhkaejjfmaaGreatDoorQ04
import Derived.Test.YtadefhkaejjfmaaGreatDoorQ28
import Derived.Test.YtadefhkaejjfmaaGreatDoorQ00
import Derived.Test.YtadefhkaejjfmaaGreatDoorQ01
import Derived.Test.YtadefhkaejjfmaaGreatDoorQ03
set_option maxHeartbeats 80000000
set_option maxRecDepth 100000
set_option linter.unusedSimpArgs false
set_option linter.unusedVariables false
namespace Go.Proofs.YtadefhkaejjfmaaGreatDoor
open Go.Proofs.Tryz
open Go.RowKit
theorem zhL {w:World} {B:Nat} {A:Nat→Option Addr} {n c:Nat→Nat} (h:zbf w B 0 A n c):w.cell? ⟨B,0,none⟩=some (.slice (A 0) (n 0) (c 0))∧w.cell? ⟨B,1,none⟩=some (.slice (A 1) (n 1) (c 1))∧w.cell? ⟨B,2,none⟩=some (.slice (A 2) (n 2) (c 2))∧w.cell? ⟨B,3,none⟩=some (.slice (A 3) (n 3) (c 3))∧w.cell? ⟨B,4,none⟩=some (.slice (A 4) (n 4) (c 4)):=by
 obtain⟨h0,h1,h2,h3,h4⟩:=h;simp only[waH] at h1 h2 h3 h4;exact⟨h0,h1,h2,h3,h4⟩
structure LowS (w W:World) (b:Nat) (A:Nat→Option Addr) (n c:Nat→Nat) (g:Nat→Value):Prop where
 line:zbf W w.heap.size 0 A n c
 arr:Arr W b 30 g
 out:W.there (w.heap.size+1) 0 30
 lt:w.heap.size+1<b
 below:Below w.heap.size w W
theorem LowS.later {w W W':World} {b:Nat} {A:Nat→Option Addr} {n c:Nat→Nat} {g:Nat→Value} (h:LowS w W b A n c g) (hb:Below W.heap.size W W'):LowS w W' b A n c g:=
 have hl:=Arr.lt h.arr dQ
 ⟨zbf.below h.line (fun o=>hb.cell (p:=⟨_,o,none⟩) (by show w.heap.size<_;have:=h.lt;omega)),Arr.below h.arr hl hb,zaM h.out (by have:=h.lt;omega) hb,h.lt,zai h.below hb h.below.size⟩
theorem LowS.updG {w W:World} {b:Nat} {A:Nat→Option Addr} {n c:Nat→Nat} {g:Nat→Value} (h:LowS w W b A n c g) (i:Nat) (hi:i<30) (v:Value):LowS w (W.setCell ⟨b,i,none⟩ v) b A n c (updG g i v):=
 ⟨zbf.below h.line (fun o=>waU _ _ _ _ (by intro e;injection e with e1;have:=h.lt;omega)),Arr.updG h.arr i hi v,zqY h.out (by have:=h.lt;omega),h.lt,h.below.setCell (by show w.heap.size≤b;have:=h.lt;omega) _⟩
theorem zdf (k:Nat) (hk:k<5) (b:Nat) (A:Nat→Option Addr) (n c:Nat→Nat) (l:Nat→List It) (W:World) (hL:zbf W b 0 A n c) (hA:zbp W A n l) (hn:n k≤100000) (hnil:A k=none→n k=0):
 Calls prog 147 #[.int .i64 (k:Int),.pointer (some ⟨b,0,none⟩)] W (Ret (.int .u64 (zao (zaG (l k) (cLo k) (cHi k)))) W):=by
 have HB:=waV (fun W=>zfG k hk W)
 have HF:=waV (fun W' (hb:Below W.heap.size W W')=>zm9 k hk A n c l W' (hA.below hb (waJ _)) oQ hnil)
 have HM:=waV (fun A' c' W' (h:zcH W' A' (n k) (l k))=>zkT (cLo k) (cHi k) A' (n k) c' (l k) W' h hn)
 have hbl:=waR _ _ hL.1;have HL:=waV hL;clear hA hL;generalize cLo k=lo at *;generalize cHi k=hi at *;generalize zao (zaG (l k) lo hi)=M at *;go_enter func147,ntmps147;go_wp2_with fail;refine(HB.out _).mono ?_;rintro e w1 ⟨rfl,hb1⟩;have HL1:=waV (zbf.below HL.out (fun o=>hb1.cell (p:=⟨_,o,none⟩) hbl))
 obtain⟨l0,l1,l2,l3,l4⟩:=zhL HL1.out;go_wp2_with fail;refine(HF.out _ hb1).mono ?_;rintro e w2 ⟨A',c',rfl,hr,hb2⟩;have hbW:=zai hb1 hb2 hb1.size;clear l0 l1 l2 l3 l4 HL1 hb1 hb2;go_wp2_with fail;refine(HM.out _ _ _ hr).mono ?_;rintro e w3 ⟨rfl,hb3⟩;go_wp2;go_ret;exact⟨rfl,zai hbW hb3 hbW.size⟩
theorem zjF (A:Nat→Option Addr) (n c:Nat→Nat) (l:Nat→List It) (w:World) (hA:zbp w A n l) (hn:∀k,n k≤9223372036854775807) (h:(chk l).2≠0):
 Calls prog 65 #[crV A n c] w (Ret (.tuple #[.agg (clA zgv),.int .i64 (chk l).2]) w):=by
 have HK:=waV (fun W (hb:Below w.heap.size w W)=>zhx A n c l W (hA.below hb (waJ _)) hn)
 have HI:=waV (zb3 zgv);have H1:=waV (zdC zgv);have he:((chk l).2 !=0)=true:=by simpa using h
 clear hA hn h;generalize (chk l).1=f at *;generalize (chk l).2=e at *;have HZ:Hid (Value.agg (clA zgv)=.agg #[.int .u64 0,.int .u64 0,.int .u64 0,.int .u64 0,.int .u64 0,.int .u64 0,.int .u64 0,.bool false,.int .i64 0,.bool false,.int .u64 0,.int .u64 0,.int .u64 0,.int .u64 0,.int .u64 0,.int .u64 0,.int .u64 0,.int .u64 0,.int .u64 0,.int .u64 0,.int .u64 0,.int .u64 0,.int .u64 0,.int .u64 0,.int .u64 0,.int .i64 0,.int .i64 0,.int .i64 0,.int .i64 0,.int .i64 0]):=rfl;rw[HZ.out];clear HZ HI H1;go_enter func65,ntmps65;go_wp2_with fail;refine(HK.out _ (by exact zaI)).mono ?_
 rintro x w1 ⟨rfl,hb1⟩;have hbW:Below w.heap.size w w1:=(((waC _ w).alloc (waJ _) _).alloc (by simp) _).trans (hb1.mono (by simp;omega))
 have hT:=zaM (zcb (w.alloc (.cells #[.slice (A 0) (n 0) (c 0),.slice (A 1) (n 1) (c 1),.slice (A 2) (n 2) (c 2),.slice (A 3) (n 3) (c 3),.slice (A 4) (n 4) (c 4)] 60)) #[.int .u64 0,.int .u64 0,.int .u64 0,.int .u64 0,.int .u64 0,.int .u64 0,.int .u64 0,.bool false,.int .i64 0,.bool false,.int .u64 0,.int .u64 0,.int .u64 0,.int .u64 0,.int .u64 0,.int .u64 0,.int .u64 0,.int .u64 0,.int .u64 0,.int .u64 0,.int .u64 0,.int .u64 0,.int .u64 0,.int .u64 0,.int .u64 0,.int .i64 0,.int .i64 0,.int .i64 0,.int .i64 0,.int .i64 0] 81) (by simp) hb1
 rw[show (w.alloc (.cells #[.slice (A 0) (n 0) (c 0),.slice (A 1) (n 1) (c 1),.slice (A 2) (n 2) (c 2),.slice (A 3) (n 3) (c 3),.slice (A 4) (n 4) (c 4)] 60)).heap.size=w.heap.size+1 by simp] at hT
 clear hb1
 go_wp2_with (refine zdK (w:=w) rfl 81 _ _ rfl #[.int .u64 0,.int .u64 0,.int .u64 0,.int .u64 0,.int .u64 0,.int .u64 0,.int .u64 0,.bool false,.int .i64 0,.bool false,.int .u64 0,.int .u64 0,.int .u64 0,.int .u64 0,.int .u64 0,.int .u64 0,.int .u64 0,.int .u64 0,.int .u64 0,.int .u64 0,.int .u64 0,.int .u64 0,.int .u64 0,.int .u64 0,.int .u64 0,.int .i64 0,.int .i64 0,.int .i64 0,.int .i64 0,.int .i64 0] (w.heap.size+1) oQ rfl rfl underlying81 rfl kQ kQ hbW hT ?_;intro W' hLd hbE)
 (try simp only[Exit.inBlock,Exit.then])
 refine waY (v:=.tuple #[.agg #[.int .u64 0,.int .u64 0,.int .u64 0,.int .u64 0,.int .u64 0,.int .u64 0,.int .u64 0,.bool false,.int .i64 0,.bool false,.int .u64 0,.int .u64 0,.int .u64 0,.int .u64 0,.int .u64 0,.int .u64 0,.int .u64 0,.int .u64 0,.int .u64 0,.int .u64 0,.int .u64 0,.int .u64 0,.int .u64 0,.int .u64 0,.int .u64 0,.int .i64 0,.int .i64 0,.int .i64 0,.int .i64 0,.int .i64 0],.int .i64 e]) ?_ rfl ⟨rfl,hbE⟩;rw[zaz rfl];show((loadVar 81 ⟨w.heap.size+1,0,none⟩).run prog W').andThen (fun v w₂=>Result.ok (Value.tuple #[v,Value.int .i64 e]) w₂)=_
 rw[hLd.out];rfl
def mkC (a0 a1 a2 a3 a4 a6:Int) (E:Bool):Cl:={m:=fun i=>if i=0 then a0 else if i=1 then a1 else if i=2 then a2 else if i=3 then a3 else if i=4 then a4 else if i=5 then zaN 1 31 else a6,or:=E,oi:=0,ob:=false,od:=fun _=>0,y:=zcp,u:=0,s:=1,a:=0,f:=0,t:=12622780799}
theorem zs9 (a0 a1 a2 a3 a4 a6:Int) (E:Bool):∀j,j<30→updG (updG (updG (updG (updG (updG (updG (fun j=>(clA zbA).getD j undef) 0 (.int .u64 a0)) 1 (.int .u64 a1)) 2 (.int .u64 a2)) 4 (.int .u64 a4)) 3 (.int .u64 a3)) 6 (.int .u64 a6)) 7 (.bool E) j=(clA (mkC a0 a1 a2 a3 a4 a6 E)).getD j undef:=by
 intro j hj;obtain rfl|rfl|rfl|rfl|rfl|rfl|rfl|rfl|rfl|rfl|rfl|rfl|rfl|rfl|rfl|rfl|rfl|rfl|rfl|rfl|rfl|rfl|rfl|rfl|rfl|rfl|rfl|rfl|rfl|rfl:j=0∨j=1∨j=2∨j=3∨j=4∨j=5∨j=6∨j=7∨j=8∨j=9∨j=10∨j=11∨j=12∨j=13∨j=14∨j=15∨j=16∨j=17∨j=18∨j=19∨j=20∨j=21∨j=22∨j=23∨j=24∨j=25∨j=26∨j=27∨j=28∨j=29:=by omega
 all_goals rfl
theorem zta (l:Nat→List It):zaD l=mkC 1 (zao (zaG (l 0) 0 59)) (zao (zaG (l 1) 0 23)) (zao (zaG (l 3) 1 12)) (zao (zaG (l 2) 1 31)) (zao (wkL (zaG (l 4) 0 7))) (zga l):=rfl
theorem zk6 (A:Nat→Option Addr) (n c:Nat→Nat) (l:Nat→List It) (w:World) (hA:zbp w A n l) (hn:∀k,n k≤100000) (hnil:∀k,A k=none→n k=0) (h:(chk l).2=0):
 Calls prog 65 #[crV A n c] w (Ret (.tuple #[.agg (clA (zaD l)),.int .i64 0]) w):=by
 have HK:=waV (fun W (hb:Below w.heap.size w W)=>zhx A n c l W (hA.below hb (waJ _)) (fun k=>by have:=hn k;omega))
 rw[h] at HK;have HF:=waV (fun W=>zkc W)
 have HO:=waV (fun b W h=>zdn (some ⟨b,0,none⟩) 1 1 [0] W h dQ)
 rw[←zjr] at HO;have eg:∀args w,(callFunc 147 args).run prog w=.ok (.enter 147 args) w:=enters_of func147 kQ rfl;have H0:=waV (fun b W (hb:Below w.heap.size w W) (h:zbf W b 0 A n c)=>zdf 0 dQ b A n c l W h (hA.below hb (waJ _)) (hn 0) (hnil 0))
 have H1:=waV (fun b W (hb:Below w.heap.size w W) (h:zbf W b 0 A n c)=>zdf 1 dQ b A n c l W h (hA.below hb (waJ _)) (hn 1) (hnil 1))
 have H2:=waV (fun b W (hb:Below w.heap.size w W) (h:zbf W b 0 A n c)=>zdf 2 dQ b A n c l W h (hA.below hb (waJ _)) (hn 2) (hnil 2))
 have H3:=waV (fun b W (hb:Below w.heap.size w W) (h:zbf W b 0 A n c)=>zdf 3 dQ b A n c l W h (hA.below hb (waJ _)) (hn 3) (hnil 3))
 have HW:=waV (fun W (hb:Below w.heap.size w W)=>zkV (A 4) (n 4) (c 4) (l 4) W ((hA 4 dQ).below hb (waJ _)) (hn 4))
 have HE:=waV (fun W (hb:Below w.heap.size w W)=>zok A n c l W (hA.below hb (waJ _)))
 have HI:=waV (zb3 zbA);have HC:=waV (zdC zbA);have HI2:=waV (zb3 (zaD l));have HC2:=waV (zdC (zaD l));have hsz:(clA zbA).size=30:=rfl;have HG:Hid (∀j,j<30→updG (updG (updG (updG (updG (updG (updG (fun j=>(clA zbA).getD j undef) 0 (.int .u64 1)) 1 (.int .u64 (zao (zaG (l 0) 0 59)))) 2 (.int .u64 (zao (zaG (l 1) 0 23)))) 4 (.int .u64 (zao (zaG (l 2) 1 31)))) 3 (.int .u64 (zao (zaG (l 3) 1 12)))) 6 (.int .u64 (zao (wkL (zaG (l 4) 0 7))))) 7 (.bool (zga l)) j=(clA (zaD l)).getD j undef):=by
  show ∀j,_;rw[zta];exact zs9 _ _ _ _ _ _ _
 have e0:zao (zaG (l 0) (cLo (0:Nat)) (cHi (0:Nat)))=zao (zaG (l 0) 0 59):=by rw[show cLo ((0:Nat):Int)=0 from rfl,show cHi ((0:Nat):Int)=59 from rfl]
 have e1:zao (zaG (l 1) (cLo (1:Nat)) (cHi (1:Nat)))=zao (zaG (l 1) 0 23):=by rw[show cLo ((1:Nat):Int)=0 from rfl,show cHi ((1:Nat):Int)=23 from rfl]
 have e2:zao (zaG (l 2) (cLo (2:Nat)) (cHi (2:Nat)))=zao (zaG (l 2) 1 31):=by rw[show cLo ((2:Nat):Int)=1 from rfl,show cHi ((2:Nat):Int)=31 from rfl]
 have e3:zao (zaG (l 3) (cLo (3:Nat)) (cHi (3:Nat)))=zao (zaG (l 3) 1 12):=by rw[show cLo ((3:Nat):Int)=1 from rfl,show cHi ((3:Nat):Int)=12 from rfl]
 rw[e0] at H0;rw[e1] at H1;rw[e2] at H2;rw[e3] at H3;have HZs:Hid (30=(clA zbA).size∧(clA zbA).size=30):=⟨rfl,rfl⟩;have HS30:Hid ((clA (zaD l)).size=30):=rfl;clear hA hn hnil h hsz e0 e1 e2 e3;generalize clA zbA=cs at *;generalize clA (zaD l)=zs at *;generalize zao (zaG (l 0) 0 59)=M0 at *;generalize zao (zaG (l 1) 0 23)=M1 at *;generalize zao (zaG (l 2) 1 31)=M2 at *;generalize zao (zaG (l 3) 1 12)=M3 at *;generalize zao (wkL (zaG (l 4) 0 7))=M4 at *;generalize zga l=E at *;generalize (chk l).1=fd at *;go_enter func65,ntmps65;go_wp2_with fail;refine(HK.out _ (by exact zaI)).mono ?_
 rintro x w1 ⟨rfl,hq1⟩;have hb1:Below w.heap.size w w1:=(((waC _ w).alloc (waJ _) _).alloc (by simp) _).trans (hq1.mono (by simp;omega))
 have hT:=zaM (zcb (w.alloc (.cells #[.slice (A 0) (n 0) (c 0),.slice (A 1) (n 1) (c 1),.slice (A 2) (n 2) (c 2),.slice (A 3) (n 3) (c 3),.slice (A 4) (n 4) (c 4)] 60)) #[.int .u64 0,.int .u64 0,.int .u64 0,.int .u64 0,.int .u64 0,.int .u64 0,.int .u64 0,.bool false,.int .i64 0,.bool false,.int .u64 0,.int .u64 0,.int .u64 0,.int .u64 0,.int .u64 0,.int .u64 0,.int .u64 0,.int .u64 0,.int .u64 0,.int .u64 0,.int .u64 0,.int .u64 0,.int .u64 0,.int .u64 0,.int .u64 0,.int .i64 0,.int .i64 0,.int .i64 0,.int .i64 0,.int .i64 0] 81) (by simp) hq1
 rw[show (w.alloc (.cells #[.slice (A 0) (n 0) (c 0),.slice (A 1) (n 1) (c 1),.slice (A 2) (n 2) (c 2),.slice (A 3) (n 3) (c 3),.slice (A 4) (n 4) (c 4)] 60)).heap.size=w.heap.size+1 by simp] at hT
 have hL:zbf ((w.alloc (.cells #[.slice (A 0) (n 0) (c 0),.slice (A 1) (n 1) (c 1),.slice (A 2) (n 2) (c 2),.slice (A 3) (n 3) (c 3),.slice (A 4) (n 4) (c 4)] 60)).alloc (.cells #[.int .u64 0,.int .u64 0,.int .u64 0,.int .u64 0,.int .u64 0,.int .u64 0,.int .u64 0,.bool false,.int .i64 0,.bool false,.int .u64 0,.int .u64 0,.int .u64 0,.int .u64 0,.int .u64 0,.int .u64 0,.int .u64 0,.int .u64 0,.int .u64 0,.int .u64 0,.int .u64 0,.int .u64 0,.int .u64 0,.int .u64 0,.int .u64 0,.int .i64 0,.int .i64 0,.int .i64 0,.int .i64 0,.int .i64 0] 81)) w.heap.size 0 A n c:=⟨by simp[go_sem],by simp[go_sem],by simp[go_sem],by simp[go_sem],by simp[go_sem]⟩
 have HL1:=waV (zbf.below hL (fun o=>hq1.cell (p:=⟨_,o,none⟩) (by simp;omega)))
 have HT1:=waV hT;have hz1:w.heap.size+2≤w1.heap.size:=by have:=hq1.size;simp at this;omega
 clear hq1 hT hL HK;go_wp2_with fail;refine(HF.out _).mono ?_;rintro x w2 ⟨rfl,hq2⟩;have hb2:=zai hb1 hq2 hb1.size;have HL2:=waV (zbf.below HL1.out (fun o=>hq2.cell (p:=⟨_,o,none⟩) (by show w.heap.size<w1.heap.size;omega)))
 have HT2:=waV (zaM HT1.out oQ hq2);have hz2:w.heap.size+2≤w2.heap.size:=by have:=hq2.size;omega
 clear HL1 HT1 hb1 hq2 hz1 HF
 go_wp2_with (refine zaU (by rfl) 81 _ _ rfl cs _ rfl rfl HI.out HC.out HZs.out.1 ?_;intro w3 hq3 HA3 hz3)
 have HS3:Hid (LowS w w3 w2.heap.size A n c (fun j=>cs.getD j undef)):=
  ⟨zbf.below HL2.out (fun o=>hq3.cell (p:=⟨_,o,none⟩) (by show w.heap.size<w2.heap.size;omega)),by rw[←HZs.out.2];exact HA3,zaM HT2.out (by omega) hq3,by omega,zai hb2 hq3 hb2.size⟩
 have hz3':w2.heap.size<w3.heap.size:=by omega
 clear hq3 HA3 HL2 HT2 hb2;have HS4:=waV (HS3.out.later ((waC _ w3).alloc (waJ _) (.cells #[.int .i64 0] 3)));generalize hB:w2.heap.size=B at *;refine(HO.out _ _ ?_).mono ?_
 ·refine zf7 _ _ 0 ?_ ?_
  ·rw[←hz3];simp
  ·rw[←hz3];exact zaa rfl rfl
 rintro x w4 ⟨rfl,rfl⟩;clear HS3 hz3 hz3' HO;generalize World.alloc w3 _=w4 at *;have c0:=HS4.out.arr.1 0 dQ;have f0:=HS4.out.arr.2 0;go_wp2_with fail;have HS5:=waV (HS4.out.updG 0 dQ (.int .u64 1));clear HS4 c0 f0;generalize World.setCell w4 _ _=w5 at *;refine(H0.out _ _ HS5.out.below HS5.out.line).mono ?_;rintro x w6 ⟨rfl,hq⟩;have HS6:=waV (HS5.out.later hq);clear HS5 hq H0;go_wp2_with fail;refine(H1.out _ _ HS6.out.below HS6.out.line).mono ?_;rintro x w7 ⟨rfl,hq⟩;have HS7:=waV (HS6.out.later hq);clear HS6 hq H1;go_wp2_with fail;refine(H2.out _ _ HS7.out.below HS7.out.line).mono ?_;rintro x w8 ⟨rfl,hq⟩;have HS8:=waV (HS7.out.later hq);clear HS7 hq H2;go_wp2_with fail;refine(H3.out _ _ HS8.out.below HS8.out.line).mono ?_;rintro x w9 ⟨rfl,hq⟩;have HS9:=waV (HS8.out.later hq);clear HS8 hq H3;have c1:=HS9.out.arr.1 1 dQ;have c2:=HS9.out.arr.1 2 dQ;have c3:=HS9.out.arr.1 3 dQ;have c4:=HS9.out.arr.1 4 dQ;have f1:=HS9.out.arr.2 1;have f2:=HS9.out.arr.2 2;have f3:=HS9.out.arr.2 3;have f4:=HS9.out.arr.2 4;obtain⟨l0,l1,l2,l3,l4⟩:=zhL HS9.out.line;have hlt1:w.heap.size<B:=by have:=HS9.out.lt;omega
 go_wp2_with fail;have HS10:=waV ((((HS9.out.updG 1 dQ (.int .u64 M0)).updG 2 dQ (.int .u64 M1)).updG 4 dQ (.int .u64 M2)).updG 3 dQ (.int .u64 M3));clear HS9 c1 c2 c3 c4 f1 f2 f3 f4 l0 l1 l2 l3 l4;generalize World.setCell (World.setCell (World.setCell (World.setCell w9 _ _) _ _) _ _) _ _=w10 at *;refine(HW.out _ HS10.out.below).mono ?_;rintro x w11 ⟨rfl,hq⟩;have HS11:=waV (HS10.out.later hq);clear HS10 hq HW;have c6:=HS11.out.arr.1 6 dQ;have f6:=HS11.out.arr.2 6;obtain⟨l0,l1,l2,l3,l4⟩:=zhL HS11.out.line;go_wp2_with fail;have HS12:=waV (HS11.out.updG 6 dQ (.int .u64 M4));clear HS11 c6 f6 l0 l1 l2 l3 l4;generalize World.setCell w11 _ _=w12 at *;refine(HE.out _ HS12.out.below).mono ?_;rintro x w13 ⟨rfl,hq⟩;have HS13:=waV (HS12.out.later hq);clear HS12 hq HE;have c7:=HS13.out.arr.1 7 dQ;have f7:=HS13.out.arr.2 7;have HS14:=waV (HS13.out.updG 7 dQ (.bool E));clear HS13;have HZ14:Hid (∀j v,zs[j]?=some v→(w13.setCell ⟨B,7,none⟩ (.bool E)).cell? ⟨B,0+j,none⟩=some v):=fun j v hj=>by
  have hl:j<30:=by rw[←HS30.out];exact(waL.1 hj).1
  rw[waH,HS14.out.arr.1 j hl,HG.out j hl,wbL,hj];rfl
 have HT14:Hid ((w13.setCell ⟨B,7,none⟩ (.bool E)).there (w.heap.size+1) 0 zs.size):=by show World.there _ _ _ _;rw[HS30.out];exact HS14.out.out
 have HB14:=waV HS14.out.below;clear HG HS14
 go_wp2_with (first
  |(refine zad (by rfl) 81 _ rfl zs B 0 rfl underlying81 rfl HI2.out HZ14.out ?_)
  |(refine zdK (w:=w) rfl 81 _ _ rfl zs (w.heap.size+1) oQ rfl rfl underlying81 rfl HI2.out HC2.out HB14.out HT14.out ?_;intro W' hLd hbE))
 (try simp only[Exit.inBlock,Exit.then])
 refine waY (v:=.tuple #[.agg zs,.int .i64 0]) ?_ rfl ⟨rfl,hbE⟩;rw[zaz rfl];show((loadVar 81 ⟨w.heap.size+1,0,none⟩).run prog W').andThen (fun v w₂=>Result.ok (Value.tuple #[v,Value.int .i64 0]) w₂)=_
 rw[hLd.out];rfl
theorem zfP (A:Nat→Option Addr) (n c:Nat→Nat) (l:Nat→List It) (w:World) (hA:zbp w A n l) (hn:∀k,n k≤100000) (hnil:∀k,A k=none→n k=0) (h:(chk l).2=0):
 Calls prog 24 #[crV A n c] w (zs1 (zaD l) w):=by
 have HC:=waV (fun W (hb:Below w.heap.size w W)=>zk6 A n c l W (hA.below hb (waJ _)) hn hnil h)
 have HI:=waV (zb3 (zaD l));have H1:=waV (zdC (zaD l));have Hs:Hid (30=(clA (zaD l)).size):=rfl;have HR:=waV (fun w t=>zk2 w (zaD l) t)
 clear hA hn hnil h;generalize clA (zaD l)=cs at *;generalize zaD l=K at *;go_enter func24,ntmps24;go_wp2_with fail;refine(HC.out _ (by exact zaI)).mono ?_
 rintro x w1 ⟨rfl,hq1⟩;have hb1:Below w.heap.size w w1:=((waC _ w).alloc (waJ _) _).trans (hq1.mono (by simp))
 clear hq1 HC;have hcs:cs.size=30:=Hs.out.symm
 go_wp2_with (first
  |(refine zaU (by rfl) 81 _ _ rfl cs _ rfl rfl HI.out H1.out Hs.out ?_;intro w2 hq2 HS2 hz2)
  |(refine zad (by rfl) 81 _ rfl cs w1.heap.size 0 rfl underlying81 rfl HI.out (zcw (zi0 HS2)) ?_))
 have hb2:=zai hb1 hq2 hb1.size;have hbE:Below w.heap.size w (w2.alloc (.cells cs 81)):=hb2.alloc hb2.size _;rw[zne cs _ 30 rfl hcs,←hz2];refine waY (wbM rfl _ _ _) rfl ?_;exact⟨_,rfl,HR.out _ _,hbE⟩
theorem zfQ (A:Nat→Option Addr) (n c:Nat→Nat) (l:Nat→List It) (w:World) (hA:zbp w A n l) (hn:∀k,n k≤9223372036854775807) (h:(chk l).2≠0):
 Calls prog 24 #[crV A n c] w (Ret (.tuple #[.slice none 0 0,.int .i64 (chk l).2]) w):=by
 have HC:=waV (fun W (hb:Below w.heap.size w W)=>zjF A n c l W (hA.below hb (waJ _)) hn h)
 have HI:=waV (zb3 zgv);have H1:=waV (zdC zgv);have Hs:Hid (30=(clA zgv).size):=rfl;have he:((chk l).2 !=0)=true:=by simpa using h
 clear hA hn h;generalize (chk l).2=e at *;generalize clA zgv=cs at *;go_enter func24,ntmps24;go_wp2_with fail;refine(HC.out _ (by exact zaI)).mono ?_
 rintro x w1 ⟨rfl,hq1⟩;have hb1:Below w.heap.size w w1:=((waC _ w).alloc (waJ _) _).trans (hq1.mono (by simp))
 clear hq1 HC
 go_wp2_with (refine zaU (by rfl) 81 _ _ rfl cs _ rfl rfl HI.out H1.out Hs.out ?_;intro w2 hq2 HS2 hz2)
 refine waY (wbM rfl _ _ _) rfl ?_;exact⟨rfl,zai hb1 hq2 hb1.size⟩
def Box (w:World) (B b:Nat) (f:Int):Prop:=w.cell? ⟨B,0,none⟩=some (.pointer (some ⟨b,0,none⟩))∧w.cell? ⟨B,1,none⟩=some (.int .i64 f)
section
variable {w w' : World} {B b : Nat} {f : Int}
theorem Box.lt (h:Box w B b f):B<w.heap.size:=waR w _ h.1
theorem Box.chg (h:Box w B b f) (hg:Chg b w w') (hne:B≠b):Box w' B b f:=⟨hg.cell hne h.1,hg.cell hne h.2⟩
theorem Box.below (h:Box w B b f) (hb:Below w.heap.size w w'):Box w' B b f:=⟨(hb.cell (p:=⟨B,0,none⟩) h.lt).trans h.1,(hb.cell (p:=⟨B,1,none⟩) h.lt).trans h.2⟩
theorem Box.alloc (h:Box w B b f) (o:Obj):Box (w.alloc o) B b f:=h.below ((waC _ _).alloc (waJ _) _)
theorem Box.set (h:Box w B b f) {C o:Nat} (hne:C≠B) (v:Value):Box (w.setCell ⟨C,o,none⟩ v) B b f:=
 ⟨by rw[waU _ _ _ _ (by intro e;injection e with e1;exact hne e1)];exact h.1,by rw[waU _ _ _ _ (by intro e;injection e with e1;exact hne e1)];exact h.2⟩
end
theorem zjG (w:World) (b:Nat) (f:Int) (t:TypeId):Box (w.alloc (.cells #[.pointer (some ⟨b,0,none⟩),.int .i64 f] t)) w.heap.size b f:=⟨zaa rfl rfl,zaa rfl rfl⟩
abbrev rdV (b:Nat) (f:Int):Value:=.agg #[.pointer (some ⟨b,0,none⟩),.int .i64 f]
theorem zuW (b:Nat) (f:Int) (s:ByteArray) (hs:s.size≤9223372036854775807) (l r:List UInt8) (n:Int) (w:World) (h:zcn w b s l) (hp:zrQ l=.ok (n,r)):
 Calls prog 223 #[rdV b f] w (zlr (.int .i64 n) b s r w):=by
 have hq:ztw 3 l=.ok (n,r)∧n≠0:=by
  unfold zrQ at hp;split at hp
  ·split at hp
   ·cases hp
   ·cases hp;exact⟨by assumption,by assumption⟩
  ·cases hp
 have hn0:(n==0)=false:=by simpa using hq.2
 have hlt:=h.lt;have hne:w.heap.size≠b:=by omega
 have HA:=waV (zlt (h.alloc (.cells #[.pointer (some ⟨b,0,none⟩),.int .i64 f] 226)));have HN:=waV (fun W (h:zcn W b s l)=>zj0 hs (most:=3) dQ h hq.1)
 clear hq h;go_enter func223,ntmps223;go_wp2_with fail;refine HA.out.mono ?_;rintro e w1 ⟨rfl,h1,g1⟩;have hB:=(zjG w b f 226).chg g1 hne;obtain⟨c0,c1⟩:=hB;go_wp2_with fail;refine(HN.out _ h1).mono ?_;rintro e w2 ⟨rfl,h2,g2⟩;go_wp2;go_ret;exact⟨rfl,h2,(((Chg.refl b w).alloc _).trans g1).trans g2⟩
theorem zrc {w:World} {b:Nat} {s:ByteArray} {l:List UInt8} (h:zcn w b s l):Calls prog 127 #[.pointer (some ⟨b,0,none⟩)] w (zb4 (.int .i64 (zea s l.length)) w):=by
 obtain⟨k,hk,rfl,hr⟩:=h;have hp:zea s (s.data.toList.drop k).length=(k:Int):=by
  unfold zea;rw[List.length_drop,zcO];omega
 rw[hp];exact zpe b s k 0 0 w hr
def zfd (f:Nat) (A:Option Addr) (n:Nat) (w:World):Prop:=
 A=none∧n=0∧zdp f=[]∨∃B,A=some ⟨B,0,none⟩∧n=(zdp f).length∧zdp f≠[]∧∀j,j<(zdp f).length→w.cell? ⟨B,0+j,none⟩=some (.string (((zdp f).map zcS).getD j ByteArray.empty))
def ztb (f:Nat) (w:World) (x:Ending) (w':World):Prop:=∃A n,x=.returned (.slice A n n)∧zfd f A n w'∧Below w.heap.size w w'∧∀B o,A=some ⟨B,o,none⟩→w.heap.size≤B
theorem zfd.below {f n:Nat} {A:Option Addr} {w w':World} (h:zfd f A n w) (hb:Below w.heap.size w w'):zfd f A n w':=by
 rcases h with h|⟨B,h1,h2,h3,h4⟩
 ·exact .inl h
 ·exact .inr ⟨B,h1,h2,h3,fun j hj=>(hb.cell (p:=⟨B,_,none⟩) (waR w _ (h4 j hj))).trans (h4 j hj)⟩
theorem zfd.chg {f n b:Nat} {A:Option Addr} {w w':World} (h:zfd f A n w) (hg:Chg b w w') (hne:∀B o,A=some ⟨B,o,none⟩→B≠b):zfd f A n w':=by
 rcases h with h|⟨B,h1,h2,h3,h4⟩
 ·exact .inl h
 ·exact .inr ⟨B,h1,h2,h3,fun j hj=>hg.cell (hne B 0 h1) (h4 j hj)⟩
theorem znj (w:World) (C:Array Value) (t:TypeId) (zs:List ByteArray) (h:C=(zs.map Value.string).toArray) (j:Nat) (hj:j<zs.length):(w.alloc (.cells C t)).cell? ⟨w.heap.size,0+j,none⟩=some (.string (zs.getD j ByteArray.empty)):=by
 subst h;refine zaa rfl ?_;simp[hj]
theorem zrd (f:Nat) (w:World):Calls prog 298 #[.int .i64 (f:Int)] w (ztb f w):=by
 by_cases h3:f=3
 ·subst h3;go_enter func298,ntmps298;go_wp2;go_ret;refine⟨_,_,rfl,.inr ⟨w.heap.size,rfl,rfl,by decide,fun j hj=>?_⟩,(waC _ w).alloc (waJ _) _,fun B o h=>by cases h;exact waJ _⟩
  exact znj w _ _ ((zdp 3).map zcS) rfl j (by simpa using hj)
 ·by_cases h4:f=4
  ·subst h4;go_enter func298,ntmps298;go_wp2;go_ret;refine⟨_,_,rfl,.inr ⟨w.heap.size,rfl,rfl,by decide,fun j hj=>?_⟩,(waC _ w).alloc (waJ _) _,fun B o h=>by cases h;exact waJ _⟩
   exact znj w _ _ ((zdp 4).map zcS) rfl j (by simpa using hj)
  ·have e3:((f:Int)==3)=false:=by simp;omega
   have e4:((f:Int)==4)=false:=by simp;omega
   have hc:zdp f=[]:=by unfold zdp;rw[if_neg h3,if_neg h4]
   have HC:=waV hc;clear h3 h4 hc;go_enter func298,ntmps298;go_wp2;go_ret;exact⟨_,_,rfl,.inl ⟨rfl,rfl,HC.out⟩,waC _ _,fun B o h=>by cases h⟩
def zhM (c:Int):Bool:=decide ((97≤c∧c≤122)∨(65≤c∧c≤90))
theorem zk7 (l:List UInt8):zhM (zls l)=zlq zcJ l:=by
 cases l with
 |nil=>rfl
 |cons x l=>
  show decide _=zcJ x;unfold zcJ zls;rw[waQ];simp only[waM];omega
theorem zow (c:Int) (w:World):Calls prog 299 #[.int .u8 c] w (zb4 (.bool (zhM c)) w):=by
 generalize hq:zhM c=q;have HQ:=waV hq;clear hq;go_enter func299,ntmps299;go_wp2
 all_goals go_ret
 all_goals (refine⟨zap ?_,rfl⟩;rw[←HQ.out];((try simp only[beq_iff_eq,wbE,bne_iff_ne,ne_eq,zhM,waM,decide_eq_false_iff_not,waN,wbF,Bool.not_eq_true',Bool.not_eq_false',Bool.and_eq_false_iff,Bool.or_eq_false_iff] at *)
                                            rw[waQ]
                                            (try simp only[zhM,waM,beq_iff_eq,bne_iff_ne,ne_eq,waN,wbF,Bool.not_eq_true',Bool.not_eq_false',wbE,decide_eq_false_iff_not,iff_true,true_iff,Bool.false_eq_true,false_iff,iff_false,reduceCtorEq])
                                            omega))
def Fr (w:World) (B R b:Nat) (f:Int):Prop:=Box w B b f∧zgE w R ⟨0,0,0,0⟩
section
variable {w w' : World} {B R b : Nat} {f : Int}
theorem Fr.chg (h:Fr w B R b f) (hg:Chg b w w') (h1:B≠b) (h2:R≠b):Fr w' B R b f:=⟨h.1.chg hg h1,Arr.chg h.2 dQ hg h2⟩
theorem Fr.alloc (h:Fr w B R b f) (o:Obj):Fr (w.alloc o) B R b f:=⟨h.1.alloc o,Arr.alloc h.2 (Arr.lt h.2 dQ) o⟩
theorem Fr.below (h:Fr w B R b f) (hb:Below w.heap.size w w'):Fr w' B R b f:=⟨h.1.below hb,Arr.below h.2 (Arr.lt h.2 dQ) hb⟩
theorem Fr.set (h:Fr w B R b f) {C o:Nat} (h1:C≠B) (h2:C≠R) (v:Value):Fr (w.setCell ⟨C,o,none⟩ v) B R b f:=⟨h.1.set h1 v,Arr.other h.2 h2⟩
end
theorem ztR (w:World) (b:Nat) (f:Int) (t t':TypeId):Fr ((w.alloc (.cells #[.pointer (some ⟨b,0,none⟩),.int .i64 f] t)).alloc (.cells #[.int .i64 0,.int .i64 0,.int .i64 0,.int .i64 0] t')) w.heap.size (w.heap.size+1) b f:=
 ⟨(zjG w b f t).alloc _,by have:=zfn (w.alloc (.cells #[.pointer (some ⟨b,0,none⟩),.int .i64 f] t)) 0 0 0 0 t';simpa using this⟩
theorem zcn.set4 {w:World} {b R:Nat} {s:ByteArray} {l:List UInt8} (h:zcn w b s l) (hR:R≠b) (v0 v1 v2 v3:Value):zcn ((((w.setCell ⟨R,0,none⟩ v0).setCell ⟨R,1,none⟩ v1).setCell ⟨R,2,none⟩ v2).setCell ⟨R,3,none⟩ v3) b s l:=
 (((h.set hR v0).set hR v1).set hR v2).set hR v3
theorem zhV.set4 {w:World} {b R:Nat} {s:ByteArray} {a c:Int} (h:zhV w b s a c) (hR:R≠b) (v0 v1 v2 v3:Value):zhV ((((w.setCell ⟨R,0,none⟩ v0).setCell ⟨R,1,none⟩ v1).setCell ⟨R,2,none⟩ v2).setCell ⟨R,3,none⟩ v3) b s a c:=
 (((h.set hR v0).set hR v1).set hR v2).set hR v3
theorem zox (b f:Nat) (hf:f<5) (s:ByteArray) (hs:s.size≤1000000) (l l1 l2 r:List UInt8) (n:Int) (w:World) (h:zcn w b s l) (hp:pIs [42] l=some l1) (hp1:pIs [47] l1=some l2) (hp2:zrQ l2=.ok (n,r)):
 Calls prog 129 #[rdV b f] w (zlr (itV ⟨0,0,0,n⟩) b s r w):=by
 have hs9:s.size≤9223372036854775807:=by omega
 have hlt:=h.lt;have hne:w.heap.size≠b:=by omega
 have hne1:w.heap.size+1≠b:=by omega
 have H:=waV h;have HP:=waV (hp);have HP1:=waV (hp1);have HS:=waV (fun W (h:zcn W b s l2)=>zuW b f s hs9 l2 r n W h hp2)
 clear h hp hp1 hp2;go_enter func129,ntmps129;go_wp2_with fail;refine(zpo hs9 (((H.out.alloc _).alloc _).alloc _) (zve (c:=42) (zaa (by simp) rfl)) dQ HP.out).mono ?_
 rintro e w1 ⟨rfl,h1,g1⟩;have F1:=waV (((ztR w b (f:Int) 226 85).alloc _).chg g1 hne hne1);have hg1:=((((Chg.refl b w).alloc _).alloc _).alloc _).trans g1;have hz1:=g1.size
 (try simp at hz1)
 have hzA1:w.heap.size<w1.heap.size:=by omega
 have hzB1:w.heap.size+1<w1.heap.size:=by omega
 obtain⟨c0,c1⟩:=F1.out.1;have hneI:w1.heap.size≠b:=by omega
 go_wp2_with fail;refine(zpo hs9 ((h1.alloc _).alloc _) (zve (c:=47) (zaa (by simp) rfl)) dQ HP1.out).mono ?_
 rintro e w2 ⟨rfl,h2,g2⟩;have F2:=waV (((F1.out.alloc _).alloc _).chg g2 hne hne1);have I2:=waV (Arr.chg (Arr.alloc (zfn w1 0 0 0 1 85) (Arr.lt (zfn w1 0 0 0 1 85) dQ) _) dQ g2 hneI);have hg2:=((hg1.alloc _).alloc _).trans g2;have hz2:=g2.size
 (try simp at hz2)
 have hzA2:w.heap.size<w2.heap.size:=by omega
 have hzB2:w.heap.size+1<w2.heap.size:=by omega
 have hzI2:w1.heap.size<w2.heap.size:=by omega
 clear c0 c1;obtain⟨c0,c1⟩:=F2.out.1;obtain⟨i0,i1,i2,i3,ifz⟩:=zgE.cells I2.out;go_wp2_with fail;refine(HS.out _ h2).mono ?_;rintro e w3 ⟨rfl,h3,g3⟩;have F3:=waV (F2.out.chg g3 hne hne1);have I3:=waV (Arr.chg I2.out dQ g3 hneI);have hg3:=hg2.trans g3;have hz3:=g3.size
 (try simp at hz3)
 have hzA3:w.heap.size<w3.heap.size:=by omega
 have hzB3:w.heap.size+1<w3.heap.size:=by omega
 have hzI3:w1.heap.size<w3.heap.size:=by omega
 clear c0 c1 i0 i1 i2 i3 ifz;obtain⟨c0,c1⟩:=F3.out.1;obtain⟨i0,i1,i2,i3,ifz⟩:=zgE.cells I3.out;obtain⟨r0,r1,r2,r3,rfz⟩:=zgE.cells F3.out.2;go_wp2
 (try simp only[Exit.inBlock,Exit.then])
 refine waY (v:=itV ⟨0,0,0,n⟩) ?_ rfl ⟨rfl,?_,?_⟩
 ·rw[zah rfl]
  go_simp
 ·exact(h3.set hneI (.int .i64 n)).set4 hne1 _ _ _ _
 ·exact(hg3.setNew oQ).set4 oQ _ _ _ _
section
variable {w w' wr : World} {b : Nat}
theorem Chg.grown {row:Option Nat} (h:Chg b w wr) (hg:wr.grownBy w' row) (hrow:∀k,row=some k→w.heap.size≤k):Chg b w w':=
 ⟨hg.os.trans h.os,hg.tape.trans h.tape,hg.output.trans h.output,waW h.size hg.size,fun k hk hn=>(hg.block k (waD hk h.size) (fun e=>by have:=hrow k e.symm;omega)).trans (h.block k hk hn)⟩
theorem ztS {B n k:Nat} {v:Value} {t:TypeId} {xs:List Value} (h:w.ownsRow B t k v n xs):∀g,v.ownBlock=some g→B≤g:=by
 intro g hg;rcases zbt h with ⟨rfl,_⟩|⟨g',cap,rfl,h2,_⟩
 ·simp[Value.ownBlock] at hg
 ·simp[Value.ownBlock] at hg;omega
theorem zdU {B n k:Nat} {v:Value} {t:TypeId} {xs:List Value} (h:w.ownsRow B t k v n xs) (hg:Chg b w w') (hb:b<B):w'.ownsRow B t k v n xs:=
 h.kept hg (by
  cases e:v.ownBlock with
  |none=>exact .inl rfl
  |some g=>right;have:=ztS h g e;intro h2;cases h2;omega)
end
theorem own_set {w:World} {B R o n k:Nat} {v x:Value} {t:TypeId} {xs:List Value} (h:w.ownsRow B t k v n xs) (hR:R<B):(w.setCell ⟨R,o,none⟩ x).ownsRow B t k v n xs:=
 zdU h ((Chg.refl R w).set o x) hR
theorem ztc {w:World} {B n k:Nat} {v:Value} {t:TypeId} {xs:List Value} (h:w.ownsRow B t k v n xs):w.drew.ownsRow B t k v n xs:=h
theorem zwa {w:World} {B n k:Nat} {v:Value} {t:TypeId} {xs:List Value} (h:w.ownsRow B t k v n xs):∃A m c,v=.slice A m c:=by
 rcases zbt h with ⟨rfl,_⟩|⟨g,cap,rfl,_⟩
 ·exact⟨_,_,_,rfl⟩
 ·exact⟨_,_,_,rfl⟩
structure Chg2 (b C:Nat) (w w':World):Prop where
 os:w'.os=w.os
 tape:w'.tape=w.tape
 output:w'.output=w.output
 size:w.heap.size≤w'.heap.size
 block:∀k,k<w.heap.size→k≠b→k≠C→w'.heap[k]?=w.heap[k]?
section
variable {w w' w'' : World} {b C : Nat}
theorem Chg.two (h:Chg b w w') (C:Nat):Chg2 b C w w':=⟨h.os,h.tape,h.output,h.size,fun k hk hb _=>h.block k hk (fun e=>hb (by injection e))⟩
theorem Chg2.trans (h:Chg2 b C w w') (g:Chg2 b C w' w''):Chg2 b C w w'':=
 ⟨g.os.trans h.os,g.tape.trans h.tape,g.output.trans h.output,waW h.size g.size,fun k hk hb hc=>(g.block k (waD hk h.size) hb hc).trans (h.block k hk hb hc)⟩
theorem Chg2.then (h:Chg2 b C w w') (g:Chg b w' w''):Chg2 b C w w'':=h.trans (g.two C)
theorem Chg2.set (h:Chg2 b C w w') (o:Nat) (v:Value):Chg2 b C w (w'.setCell ⟨C,o,none⟩ v):=
 h.trans ⟨rfl,rfl,rfl,by simp[World.setCell],fun k _ _ hc=>wbJ _ _ _ _ (fun e=>hc (by simp[e]))⟩
theorem Chg2.alloc (h:Chg2 b C w w') (o:Obj):Chg2 b C w (w'.alloc o):=h.then ((Chg.refl b w').alloc o)
theorem Chg2.cell {B o:Nat} {v:Value} (h:Chg2 b C w w') (hb:B≠b) (hC:B≠C) (hc:w.cell? ⟨B,o,none⟩=some v):w'.cell? ⟨B,o,none⟩=some v:=
 (wbK (h.block B (waR w _ hc) hb hC)).trans hc
theorem Chg2.frozen {B o:Nat} (h:Chg2 b C w w') (hb:B≠b) (hC:B≠C) (hlt:B<w.heap.size):w'.frozen? ⟨B,o,none⟩=w.frozen? ⟨B,o,none⟩:=by
 have:=h.block B hlt hb hC;unfold World.frozen?;rw[this]
theorem Chg2.below {B:Nat} {w0:World} (h:Below B w0 w) (g:Chg2 b C w w') (hb:B≤b) (hC:B≤C) (hs:B≤w.heap.size):Below B w0 w':=
 h.trans ⟨g.os,g.tape,g.output,g.size,fun k hk=>g.block k oQ oQ oQ⟩
end
def zuX (L:List It) (b:Nat) (s:ByteArray) (r:List UInt8) (w:World) (x:Ending) (w':World):Prop:=∃v,x=.returned v∧zav w' w.heap.size v L∧zcn w' b s r∧Chg b w w'
section
variable {w w' wr : World} {b : Nat} {s : ByteArray} {l : List UInt8} {a c : Int}
theorem zcn.grown {row:Option Nat} (h:zcn w b s l) (hg:w.grownBy w' row) (hrow:row≠some b):zcn w' b s l:=by
 obtain⟨k,hk,hl,hr⟩:=h;exact⟨k,hk,hl,(hg.block b hr.lt (Ne.symm hrow)).trans hr⟩
theorem zhV.grown {row:Option Nat} (h:zhV w b s a c) (hg:w.grownBy w' row) (hrow:row≠some b):zhV w' b s a c:=by
 obtain⟨he,k,hk,hr⟩:=h;exact⟨he,k,hk,(hg.block b hr.lt (Ne.symm hrow)).trans hr⟩
theorem Box.grown {B:Nat} {f:Int} {row:Option Nat} (h:Box w B b f) (hg:w.grownBy w' row) (hrow:row≠some B):Box w' B b f:=
 ⟨hg.cell h.1 (Ne.symm hrow),hg.cell h.2 (Ne.symm hrow)⟩
end
section
variable (b : Nat) (s : ByteArray) (hs : s.size ≤ 9223372036854775807) (l : List UInt8) (w : World)
include hs
theorem zoy (h:zcn w b s l) (hp:l.takeWhile zbz≠[]):Calls prog 130 #[.pointer (some ⟨b,0,none⟩)] w (zlr (.tuple #[]) b s (l.dropWhile zbz) w):=by
 have HB:=waV (ze1 hs h);have hn:(((l.takeWhile zbz).length:Int)==0)=false:=by
  have:(l.takeWhile zbz).length≠0:=fun e=>hp (List.length_eq_zero_iff.1 e)
  simp;exact hp
 generalize (l.takeWhile zbz).length=q at HB hn;clear h hp;go_enter func130,ntmps130;go_wp2_with fail;refine HB.out.mono ?_;rintro e w1 ⟨rfl,h1,g1⟩;go_wp2
 first|go_end0|(refine waY (results_none rfl _ _ _) rfl ?_)
 exact⟨rfl,h1,g1⟩
end
def contR (s:ByteArray) (acc:List (List It)) (q k:Nat) (l:List UInt8):Except (Int×Int) (List (List It)):=match zpn q k l with
 | .error (m,c)=>.error (zea s m,c)
 | .ok (rest,l1)=>if l1.dropWhile zbz=[] then .ok (acc++rest) else .error (zea s (l1.dropWhile zbz).length,3)
def ziE (w:World) (b:Nat) (s:ByteArray) (acc:List (List It)) (k:Nat) (O:Except (Int×Int) (List (List It))):Prop:=
 (∃l,zcn w b s l∧contR s acc (5 - k) k l=O)∨∃a c,zhV w b s a c∧O=.error (a,c)
theorem ziE.below {w w':World} {b k:Nat} {s:ByteArray} {acc:List (List It)} {O:Except (Int×Int) (List (List It))} (h:ziE w b s acc k O) (hb:Below w.heap.size w w'):ziE w' b s acc k O:=by
 rcases h with ⟨l,h1,h2⟩|⟨a,c,h1,h2⟩
 ·exact .inl ⟨l,h1.below hb,h2⟩
 ·exact .inr ⟨a,c,h1.below hb,h2⟩
theorem ziE.set {w:World} {b k B o:Nat} {s:ByteArray} {acc:List (List It)} {O:Except (Int×Int) (List (List It))} (h:ziE w b s acc k O) (hB:B≠b) (v:Value):ziE (w.setCell ⟨B,o,none⟩ v) b s acc k O:=by
 rcases h with ⟨l,h1,h2⟩|⟨a,c,h1,h2⟩
 ·exact .inl ⟨l,h1.set hB v,h2⟩
 ·exact .inr ⟨a,c,h1.set hB v,h2⟩
def upd {α:Type} (f:Nat→α) (k:Nat) (x:α) (j:Nat):α:=if j=k then x else f j
def zk8 (A:Nat→Option Addr) (n c:Nat→Nat) (j:Nat):Value:=.slice (A j) (n j) (c j)
theorem znk {A:Nat→Option Addr} {n c:Nat→Nat} {k:Nat} {A':Option Addr} {n' c':Nat}:zk8 (upd A k A') (upd n k n') (upd c k c') k=.slice A' n' c':=by simp[zk8,upd]
theorem zre {A:Nat→Option Addr} {n c:Nat→Nat} {k j:Nat} {A':Option Addr} {n' c':Nat} (h:j≠k):zk8 (upd A k A') (upd n k n') (upd c k c') j=zk8 A n c j:=by simp[zk8,upd,h]
theorem zoz (s:ByteArray):zea s 0=(s.size:Int):=by unfold zea;omega
def nil5 (_:Nat):Value:=.slice none 0 0
theorem zjH (w:World) (t:TypeId) (v0 v1 v2 v3 v4:Value) (g:Nat→Value) (h0:g 0=v0) (h1:g 1=v1) (h2:g 2=v2) (h3:g 3=v3) (h4:g 4=v4):Arr (w.alloc (.cells #[v0,v1,v2,v3,v4] t)) w.heap.size 5 g:=
 zd6 w #[v0,v1,v2,v3,v4] t g (by
  intro j hj;obtain rfl|rfl|rfl|rfl|rfl:j=0∨j=1∨j=2∨j=3∨j=4:=by simp at hj;omega
  ·rw[h0];rfl
  ·rw[h1];rfl
  ·rw[h2];rfl
  ·rw[h3];rfl
  ·rw[h4];rfl)
theorem arr5 {w:World} {b:Nat} {g:Nat→Value} (h:Arr w b 5 g):w.cell? ⟨b,0,none⟩=some (g 0)∧w.cell? ⟨b,1,none⟩=some (g 1)∧w.cell? ⟨b,2,none⟩=some (g 2)∧w.cell? ⟨b,3,none⟩=some (g 3)∧w.cell? ⟨b,4,none⟩=some (g 4)∧∀j,w.frozen? ⟨b,j,none⟩=false:=
 ⟨h.1 0 dQ,h.1 1 dQ,h.1 2 dQ,h.1 3 dQ,h.1 4 dQ,h.2⟩
theorem zuY {w:World} {B R n k:Nat} {v x0 x1 x2 x3 x4:Value} {t:TypeId} {xs:List Value} (h:w.ownsRow B t k v n xs) (hR:R<B):
 ((((((w.setCell ⟨R,0,none⟩ x0).setCell ⟨R,1,none⟩ x1).setCell ⟨R,2,none⟩ x2).setCell ⟨R,3,none⟩ x3).setCell ⟨R,4,none⟩ x4).drew).ownsRow B t k v n xs:=
 ztc (own_set (own_set (own_set (own_set (own_set h hR) hR) hR) hR) hR)
theorem zhN {f:Nat} {is:List It} (h:zaJ f is=0):is≠[]∧is.length≤64∧∀i∈is,i.k≠3∧zvb i (cLo f) (cHi f):=by
 unfold zaJ at h;split at h
 ·cases h
 ·split at h
  ·cases h
  ·split at h
   ·cases h
   ·rename_i h1 h2 h3;refine⟨by rintro rfl;exact h1 rfl,by omega,fun i hi=>?_⟩
    rw[Bool.not_eq_true,List.any_eq_false] at h3;have:=h3 i hi;simp only[wbF,Bool.not_eq_true',beq_iff_eq,not_or,Bool.not_eq_false] at this;exact⟨this.1,waA this.2⟩
end Go.Proofs.YtadefhkaejjfmaaGreatDoor
