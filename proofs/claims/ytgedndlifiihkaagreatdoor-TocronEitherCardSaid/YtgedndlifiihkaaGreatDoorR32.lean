/- A part of the proof: WTc5 RWhole -/
import Derived.Test.YtgedndlifiihkaaGreatDoorR31
import Derived.Test.YtgedndlifiihkaaGreatDoorR09
import Derived.Test.YtgedndlifiihkaaGreatDoorR21
import Derived.Test.YtgedndlifiihkaaGreatDoorR22
set_option maxHeartbeats 80000000
set_option maxRecDepth 100000
set_option linter.unusedSimpArgs false
set_option linter.unusedVariables false
namespace Go.Proofs.YtgedndlifiihkaaGreatDoor
open Go.Proofs.Tryz
open Go.RowKit
open Go.Maps
def za3 (w:World) (B:Nat) (v:Value) (l:Nat→List It):Prop:=∃v0 v1 v2 v3 v4,v=.agg #[v0,v1,v2,v3,v4]∧zau w B v0 (l 0)∧zau w B v1 (l 1)∧zau w B v2 (l 2)∧zau w B v3 (l 3)∧zau w B v4 (l 4)
theorem zau.rd {w:World} {B:Nat} {v:Value} {l:List It} (h:zau w B v l):∃A c,v=.slice A l.length c∧l.length≤c∧c≤maxLen∧zcA w A l.length l∧(A=none→l.length=0):=by
 obtain⟨A,c,h1,h2,h3,h4,_⟩:=Rd.of_own zdi h rfl;refine⟨A,c,h1,h2,h3,h4,?_⟩;rintro rfl
 false_or_by_contra
 rename_i hn;obtain⟨b,o,e,_⟩:=h4.2 oQ;cases e
theorem za3.rd {w:World} {B:Nat} {v:Value} {l:Nat→List It} (h:za3 w B v l):∃A n c,v=crV A n c∧zb0 w A n l∧(∀k,A k=none→n k=0)∧(∀k,n k=if k<5 then(l k).length else 0)∧∀k,n k≤c k∧c k≤maxLen:=by
 obtain⟨v0,v1,v2,v3,v4,rfl,h0,h1,h2,h3,h4⟩:=h;obtain⟨A0,c0,rfl,a0,b0,r0,z0⟩:=h0.rd;obtain⟨A1,c1,rfl,a1,b1,r1,z1⟩:=h1.rd;obtain⟨A2,c2,rfl,a2,b2,r2,z2⟩:=h2.rd;obtain⟨A3,c3,rfl,a3,b3,r3,z3⟩:=h3.rd;obtain⟨A4,c4,rfl,a4,b4,r4,z4⟩:=h4.rd;refine⟨fun k=>if k=0 then A0 else if k=1 then A1 else if k=2 then A2 else if k=3 then A3 else if k=4 then A4 else none,fun k=>if k<5 then(l k).length else 0,fun k=>if k=0 then c0 else if k=1 then c1 else if k=2 then c2 else if k=3 then c3 else if k=4 then c4 else 0,rfl,fun k hk=>?_,fun k hk=>?_,fun k=>rfl,fun k=>?_⟩
 ·obtain rfl|rfl|rfl|rfl|rfl:k=0∨k=1∨k=2∨k=3∨k=4:=by omega
  ·exact r0
  ·exact r1
  ·exact r2
  ·exact r3
  ·exact r4
 ·dsimp only at hk ⊢
  by_cases h5:k<5
  ·rw[if_pos h5];obtain rfl|rfl|rfl|rfl|rfl:k=0∨k=1∨k=2∨k=3∨k=4:=by omega
   ·exact z0 hk
   ·exact z1 hk
   ·exact z2 hk
   ·exact z3 hk
   ·exact z4 hk
  ·rw[if_neg h5]
 ·dsimp only
  by_cases h5:k<5
  ·rw[if_pos h5];obtain rfl|rfl|rfl|rfl|rfl:k=0∨k=1∨k=2∨k=3∨k=4:=by omega
   ·exact⟨a0,b0⟩
   ·exact⟨a1,b1⟩
   ·exact⟨a2,b2⟩
   ·exact⟨a3,b3⟩
   ·exact⟨a4,b4⟩
  ·rw[if_neg h5];exact⟨waK _,by(repeat' split)<;>first|assumption|decide⟩
theorem za3.below {w w':World} {B:Nat} {v:Value} {l:Nat→List It} (h:za3 w B v l) (hb:Below w.heap.size w w'):za3 w' B v l:=by
 obtain⟨v0,v1,v2,v3,v4,e,h0,h1,h2,h3,h4⟩:=h;exact⟨v0,v1,v2,v3,v4,e,zae h0 hb,zae h1 hb,zae h2 hb,zae h3 hb,zae h4 hb⟩
theorem za3.base {w:World} {B B':Nat} {v:Value} {l:Nat→List It} (h:za3 w B v l) (hB:B'≤B):za3 w B' v l:=by
 obtain⟨v0,v1,v2,v3,v4,e,h0,h1,h2,h3,h4⟩:=h;exact⟨v0,v1,v2,v3,v4,e,zaq h0 hB,zaq h1 hB,zaq h2 hB,zaq h3 hB,zaq h4 hB⟩
def RetLn (l:Nat→List It) (w:World) (e:Ending) (w':World):Prop:=∃v,e=.returned v∧za3 w' w.heap.size v l∧Below w.heap.size w w'
theorem zqK (w:World):Calls prog 39 #[] w (RetLn ztW w):=by
 have eg:∀args w,(callFunc 80 args).run prog w=.ok (.enter 80 args) w:=enters_of func80 kQ rfl;have HN:=waV (fun n V=>zqC n V)
 have HSt:=waV (fun V=>zkO 1 V)
 go_enter func39,ntmps39;go_wp2_with fail;have hb0:Below w.heap.size w (w.alloc (.cells #[.slice none 0 0,.slice none 0 0,.slice none 0 0,.slice none 0 0,.slice none 0 0] 24)):=(waC _ w).alloc (waJ _) _;have hc0:(w.alloc (.cells #[.slice none 0 0,.slice none 0 0,.slice none 0 0,.slice none 0 0,.slice none 0 0] 24)).heap[w.heap.size]?=some (.cells #[.slice none 0 0,.slice none 0 0,.slice none 0 0,.slice none 0 0,.slice none 0 0] 24 (0,0)):=World.alloc_heap_new w _;generalize (w.alloc (.cells #[.slice none 0 0,.slice none 0 0,.slice none 0 0,.slice none 0 0,.slice none 0 0] 24))=V0 at *;refine(HN.out 0 _).mono ?_;rintro e V1 ⟨v0,rfl,hov,hq⟩;have O0:Hid (zau V1 w.heap.size v0 [⟨1,0,0,0⟩]):=zaq hov hb0.size;replace hc0:=(hq.block _ (waL.1 hc0).1).trans hc0;replace hb0:=hb0.trans (hq.mono hb0.size);clear hov hq;go_wp2_with fail;refine(HN.out 0 _).mono ?_;rintro e V2 ⟨v1,rfl,hov,hq⟩;have O1:Hid (zau V2 w.heap.size v1 [⟨1,0,0,0⟩]):=zaq hov hb0.size;replace O0:=waV (zae O0.out hq);replace hc0:=(hq.block _ (waL.1 hc0).1).trans hc0;replace hb0:=hb0.trans (hq.mono hb0.size);clear hov hq;go_wp2_with fail;refine(HN.out 30 _).mono ?_;rintro e V3 ⟨v2,rfl,hov,hq⟩;have O2:Hid (zau V3 w.heap.size v2 [⟨1,30,0,0⟩]):=zaq hov hb0.size;replace O0:=waV (zae O0.out hq);replace O1:=waV (zae O1.out hq);replace hc0:=(hq.block _ (waL.1 hc0).1).trans hc0;replace hb0:=hb0.trans (hq.mono hb0.size);clear hov hq;go_wp2_with fail;refine(HN.out 2 _).mono ?_;rintro e V4 ⟨v3,rfl,hov,hq⟩;have O3:Hid (zau V4 w.heap.size v3 [⟨1,2,0,0⟩]):=zaq hov hb0.size;replace O0:=waV (zae O0.out hq);replace O1:=waV (zae O1.out hq);replace O2:=waV (zae O2.out hq);replace hc0:=(hq.block _ (waL.1 hc0).1).trans hc0;replace hb0:=hb0.trans (hq.mono hb0.size);clear hov hq;go_wp2_with fail;refine(HSt.out _).mono ?_;rintro e V5 ⟨rfl,hq⟩;replace O0:=waV (zae O0.out hq);replace O1:=waV (zae O1.out hq);replace O2:=waV (zae O2.out hq);replace O3:=waV (zae O3.out hq);replace hc0:=(hq.block _ (waL.1 hc0).1).trans hc0;replace hb0:=hb0.trans (hq.mono hb0.size);clear hq;obtain⟨S0,d0,rfl⟩:=zaC O0.out;obtain⟨S1,d1,rfl⟩:=zaC O1.out;obtain⟨S2,d2,rfl⟩:=zaC O2.out;obtain⟨S3,d3,rfl⟩:=zaC O3.out;have y0:V5.cell? ⟨w.heap.size,0,none⟩=some (.slice none 0 0):=by rw[World.cell?_of_heap hc0];rfl
 have y1:V5.cell? ⟨w.heap.size,1,none⟩=some (.slice none 0 0):=by rw[World.cell?_of_heap hc0];rfl
 have y2:V5.cell? ⟨w.heap.size,2,none⟩=some (.slice none 0 0):=by rw[World.cell?_of_heap hc0];rfl
 have y3:V5.cell? ⟨w.heap.size,3,none⟩=some (.slice none 0 0):=by rw[World.cell?_of_heap hc0];rfl
 have y4:V5.cell? ⟨w.heap.size,4,none⟩=some (.slice none 0 0):=by rw[World.cell?_of_heap hc0];rfl
 have f0:∀j,V5.frozen? ⟨w.heap.size,j,none⟩=false:=fun j=>by simp[World.frozen?,hc0]
 have lf:=(waL.1 hc0).1;have HC:=waV hc0;have HB:=waV hb0;unfold itV;clear hc0 hb0 HN HSt;go_wp2_with fail
 (try simp only[Exit.inBlock,Exit.then])
 refine waY (v:=.agg #[.slice S0 1 d0,.slice S1 1 d1,.slice S2 1 d2,.slice S3 1 d3,.slice (some ⟨V5.heap.size,0,none⟩) 1 1]) (by rw[zag rfl];go_simp) rfl ?_
 have hr:=zcG (V:=V5) w.heap.size (.slice S0 1 d0) (.slice S1 1 d1) (.slice S2 1 d2) (.slice S3 1 d3) (.slice (some ⟨V5.heap.size,0,none⟩) 1 1);have hsz:(((((V5.setCell ⟨w.heap.size,0,none⟩ (.slice S0 1 d0)).setCell ⟨w.heap.size,1,none⟩ (.slice S1 1 d1)).setCell ⟨w.heap.size,2,none⟩ (.slice S2 1 d2)).setCell ⟨w.heap.size,3,none⟩ (.slice S3 1 d3)).setCell ⟨w.heap.size,4,none⟩ (.slice (some ⟨V5.heap.size,0,none⟩) 1 1)).heap.size=V5.heap.size:=by simp
 generalize (World.setCell _ _ _)=X at hr hsz ⊢;have hS:=zbY HC.out;have h4:=zdC X #[.int .i64 0,.int .i64 0,.int .i64 0,.int .i64 1] 81 4 1 dQ rfl;have hbA:Below X.heap.size X (X.alloc (.cells #[.int .i64 0,.int .i64 0,.int .i64 0,.int .i64 1] 81)):=(waC _ X).alloc (waJ _) _;have hbX:Below w.heap.size w X:=hr.to_below' HB.out;rw[hsz] at h4;exact⟨_,rfl,⟨_,_,_,_,_,rfl,zae (zaw O0.out hr hS) hbA,zae (zaw O1.out hr hS) hbA,zae (zaw O2.out hr hS) hbA,zae (zaw O3.out hr hS) hbA,zaq h4 HB.out.size⟩,hbX.alloc hbX.size _⟩
end Go.Proofs.YtgedndlifiihkaaGreatDoor
namespace Go.Proofs.YtgedndlifiihkaaGreatDoor
open Go.Proofs.Tryz
theorem zev {a b c:Nat} (ha:a<18446744073709551616) (hb:b<18446744073709551616) (hc:c<18446744073709551616) (h:∀k,k<64→(c.testBit k=true↔a.testBit k=true∧b.testBit k=false)):bits .andNot .u64 (a:Int) (b:Int)=(c:Int):=by
 rw[u64_andNot_nat a b ha hb];congr 1;have hlt:∀m:Nat,m<18446744073709551616→∀k,64≤k→m.testBit k=false:=fun m hm k hk=>waX (waD (show m<2^64 from hm) (Nat.pow_le_pow_right dQ hk))
 refine Nat.eq_of_testBit_eq fun k=>?_
 rw[Nat.testBit_and,show(18446744073709551615 - b:Nat)=2^64 - (b+1) by omega,Nat.testBit_two_pow_sub_succ hb]
 by_cases hk:k<64
 ·have:=h k hk;rw[waP hk,Bool.true_and,waQ,this];simp
 ·rw[waO hk,Bool.false_and,Bool.and_false,hlt c hc k (by omega)]
structure WhI (P:Int→Nat→Bool) (mo th la off:Nat) (pre:List Int):Prop where
 t:∀k,th.testBit k=true↔∃n∈pre,mo.testBit (mD n).toNat=true∧(dD n).toNat=k
 l:∀k,la.testBit k=true↔∃n∈pre,mo.testBit (mD n).toNat=true∧¬zbL P n∧(dD n).toNat=k
 o:∀k,off.testBit k=true↔∃n∈pre,mo.testBit (mD n).toNat=true∧¬zbL P n∧(wdD n).toNat=k
theorem WhI.nil (P:Int→Nat→Bool) (mo:Nat):WhI P mo 0 0 0 []:=⟨fun k=>by simp,fun k=>by simp,fun k=>by simp⟩
theorem zeJ (a x k:Nat):(a|||2^x).testBit k=true↔a.testBit k=true∨x=k:=by
 rw[Nat.testBit_or,wbF,Nat.testBit_two_pow,waM]
theorem zdQ {α:Type} {Q:α→Prop} {pre:List α} {x:α}:(∃n∈pre++[x],Q n)↔(∃n∈pre,Q n)∨Q x:=by
 constructor
 ·rintro ⟨n,hn,h⟩;rcases wbB.1 hn with hn|hn
  ·exact .inl ⟨n,hn,h⟩
  ·rw[wbC.1 hn] at h;exact .inr h
 ·rintro (⟨n,hn,h⟩|h)
  ·exact⟨n,by simp[hn],h⟩
  ·exact⟨x,by simp,h⟩
section
variable {P : Int → Nat → Bool} {mo th la off : Nat} {pre : List Int} {x : Int}
theorem WhI.skip (h:WhI P mo th la off pre) (hx:mo.testBit (mD x).toNat=false):WhI P mo th la off (pre++[x]):=
 ⟨fun k=>by rw[h.t,zdQ,hx];simp,fun k=>by rw[h.l,zdQ,hx];simp,fun k=>by rw[h.o,zdQ,hx];simp⟩
theorem WhI.live (h:WhI P mo th la off pre) (hx:mo.testBit (mD x).toNat=true) (hl:zbL P x):WhI P mo (th|||2^(dD x).toNat) la off (pre++[x]):=
 ⟨fun k=>by rw[zeJ,h.t,zdQ,hx];simp,fun k=>by rw[h.l,zdQ];simp[hl],fun k=>by rw[h.o,zdQ];simp[hl]⟩
theorem WhI.dead (h:WhI P mo th la off pre) (hx:mo.testBit (mD x).toNat=true) (hl:¬zbL P x):WhI P mo (th|||2^(dD x).toNat) (la|||2^(dD x).toNat) (off|||2^(wdD x).toNat) (pre++[x]):=
 ⟨fun k=>by rw[zeJ,h.t,zdQ,hx];simp,fun k=>by rw[zeJ,h.l,zdQ,hx];simp[hl],fun k=>by rw[zeJ,h.o,zdQ,hx];simp[hl]⟩
theorem WhI.lt (h:WhI P mo th la off pre) (hp:∀n∈pre,0≤n∧n<146097):th<18446744073709551616∧la<18446744073709551616∧off<18446744073709551616:=by
 refine⟨zeG fun k hk=>?_,zeG fun k hk=>?_,zeG fun k hk=>?_⟩
 ·obtain⟨n,hn,_,rfl⟩:=(h.t k).1 hk;have:=za4 (hp n hn).1 (hp n hn).2;omega
 ·obtain⟨n,hn,_,_,rfl⟩:=(h.l k).1 hk;have:=za4 (hp n hn).1 (hp n hn).2;omega
 ·obtain⟨n,hn,_,_,rfl⟩:=(h.o k).1 hk;have:=zcm n;omega
theorem zgb {n:Int} (h0:0≤n) (h1:n<146097):(zaY P).testBit (mD n).toNat=true↔∃n',zbL P n'∧mD n'=mD n:=by
 have:=za4 h0 h1;unfold zaY;rw[zfS];constructor
 ·rintro ⟨_,n',hl,e⟩;exact⟨n',hl,by omega⟩
 ·rintro ⟨n',hl,e⟩;exact⟨by omega,n',hl,by omega⟩
theorem WhI.dom (h:WhI P (zaY P) th la off (zcy 0 146096)):bits .andNot .u64 (th:Int) (la:Int)=(domW P:Int):=by
 obtain⟨b1,b2,b3⟩:=h.lt (fun n hn=>by have:=zaS.1 hn;omega)
 refine zev b1 b2 (zbN _) fun k hk=>?_
 rw[show (domW P).testBit k=true↔_ from zfS _ k,h.t k,Bool.eq_false_iff,ne_eq,h.l k]
 constructor
 ·rintro ⟨_,⟨n,h0,h1,hm,e⟩,hall⟩;refine⟨⟨n,zaS.2 oQ,(zgb h0 h1).2 hm,by omega⟩,?_⟩
  rintro ⟨n',hn',hm',hl',e'⟩;have hd:=zaS.1 hn';have hb:=za4 hd.1 (show n'<146097 by omega)
  exact hl' (hall n' hd.1 oQ ((zgb hd.1 oQ).1 hm') oQ)
 ·rintro ⟨⟨n,hn,hm,e⟩,hno⟩;have hd:=zaS.1 hn;have hb:=za4 hd.1 (show n<146097 by omega)
  refine⟨hk,⟨n,hd.1,by omega,(zgb hd.1 oQ).1 hm,by omega⟩,fun n' h0 h1 hm' e'=>?_⟩
  false_or_by_contra
  rename_i hl;exact hno ⟨n',zaS.2 oQ,(zgb h0 h1).2 hm',hl,by omega⟩
theorem WhI.wk (h:WhI P (zaY P) th la off (zcy 0 146096)):bits .andNot .u64 (zaL 1 7) (off:Int)=(wkW P:Int):=by
 obtain⟨b1,b2,b3⟩:=h.lt (fun n hn=>by have:=zaS.1 hn;omega)
 have e7:zaL 1 7=((254:Nat):Int):=by decide+kernel
 rw[e7];refine zev dQ b3 (zbN _) fun k hk=>?_
 have h254:(254:Nat).testBit k=true↔1≤k∧k≤7:=by
  have:∀k,k<64→((254:Nat).testBit k=decide (1≤k∧k≤7)):=by decide
  rw[this k hk,waM]
 rw[show (wkW P).testBit k=true↔_ from zfS _ k,h254,Bool.eq_false_iff,ne_eq,h.o k]
 constructor
 ·rintro ⟨_,hr,hall⟩;refine⟨hr,?_⟩;rintro ⟨n',hn',hm',hl',e'⟩;have hd:=zaS.1 hn';have hb:=zcm n';exact hl' (hall n' hd.1 oQ ((zgb hd.1 oQ).1 hm') oQ)
 ·rintro ⟨hr,hno⟩;refine⟨hk,hr,fun n' h0 h1 hm' e'=>?_⟩
  false_or_by_contra
  rename_i hl;exact hno ⟨n',zaS.2 oQ,(zgb h0 h1).2 hm',hl,by omega⟩
end
end Go.Proofs.YtgedndlifiihkaaGreatDoor
