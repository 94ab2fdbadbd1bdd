/- A part of the proof: WMeet4 WMeet5 -/
import Derived.Test.YtgedndlifiihkaaGreatDoorT23
set_option maxHeartbeats 80000000
set_option maxRecDepth 100000
set_option linter.unusedSimpArgs false
set_option linter.unusedVariables false
namespace Go.Proofs.YtgedndlifiihkaaGreatDoor
open Go.Proofs.Tryz
open Go.RowKit
open Go.Maps
def zbA (n:Nat) (L:List Cl):Int:=if 8<n then 5 else if zdF L=true then 0 else 1
def hF (L:List Cl):Int:=zaE (zaH L).1 (zaH L).2
def hU (L:List Cl):Int:=zas (zaH L).1 (zaH L).2
def zm6 (g n1 n2:Nat) (L1 L2:List Cl) (h:Bool→Bool→Bool) (W:World) (e:Ending) (W':World):Prop:=
 Below W.heap.size W W'∧((zbA n1 L1≠0∧e=.returned (.tuple #[.pointer none,.int .i64 (zbA n1 L1)]))∨(zbA n1 L1=0∧zbA n2 L2≠0∧e=.returned (.tuple #[.pointer none,.int .i64 (zbA n2 L2)]))∨
  (zbA n1 L1=0∧zbA n2 L2=0∧∃x:AskD,e=.returned (.tuple #[.pointer (some ⟨x.b,0,none⟩),.int .i64 0])∧x.g=g∧W.heap.size≤x.b∧W.heap.size≤x.fm∧x.D=W'.heap.size∧W.heap.size≤x.lo1∧W.heap.size≤x.lo2∧MeetAt W' x L1 L2 h (hF L1) (hU L1) (hF L2) (hU L2)))
theorem zhE.err {n:Nat} {L:List Cl} {W W':World} {e:Ending} (h:zhE n L W e W'):Below W.heap.size W W'∧((zbA n L≠0∧e=.returned (.tuple #[.pointer none,.int .i64 (zbA n L)]))∨(zbA n L=0∧n≤8∧zdF L=true∧∃rd:RollD,e=.returned (.tuple #[.pointer (some ⟨rd.b,0,none⟩),.int .i64 0])∧
 ∀(V:World) (D:Nat) (S:Nat→Prop),RlS S W' V→(∀k,S k→k<W.heap.size∧k≠0)→W'.heap.size≤D→D≤V.heap.size→RollAt V rd L W.heap.size W'.heap.size D)):=by
 obtain⟨hb,(⟨h1,h2⟩|⟨h1,h2,h3⟩|⟨h1,h2,h3⟩)⟩:=h
 ·refine⟨hb,.inl ?_⟩;have:zbA n L=5:=if_pos h1;rw[this];exact⟨by decide,h2⟩
 ·refine⟨hb,.inl ?_⟩;have:zbA n L=1:=by unfold zbA;rw[if_neg (by omega),if_neg (by rw[h2];decide)]
  rw[this];exact⟨by decide,h3⟩
 ·refine⟨hb,.inr ⟨?_,h1,h2,h3⟩⟩;unfold zbA;rw[if_neg (by omega),if_pos h2]
structure BegR (W V:World) (b fm g:Nat) (v0 v1 z5 z6 z7 z8:Value):Prop where
 bl:Below W.heap.size W V
 bb:W.heap.size≤b∧W.heap.size≤fm∧b≠fm
 c0:V.cell? ⟨b,0,none⟩=some v0
 c1:V.cell? ⟨b,1,none⟩=some v1
 c2:V.cell? ⟨b,2,none⟩=some (.func (.func g) #[] #[])
 c3:V.cell? ⟨b,3,none⟩=some (.map (some fm))
 c4:V.cell? ⟨b,4,none⟩=some (.int .i64 0)
 c5:V.cell? ⟨b,5,none⟩=some z5
 c6:V.cell? ⟨b,6,none⟩=some z6
 c7:V.cell? ⟨b,7,none⟩=some z7
 c8:V.cell? ⟨b,8,none⟩=some z8
 fz:∀j,V.frozen? ⟨b,j,none⟩=false
 fn:V.heap[fm]?=some (.map #[] 0)
theorem BegR.below {W V V':World} {b fm g:Nat} {v0 v1 z5 z6 z7 z8:Value} (k:BegR W V b fm g v0 v1 z5 z6 z7 z8) (hb:Below V.heap.size V V'):BegR W V' b fm g v0 v1 z5 z6 z7 z8:=by
 have hr:RlS (fun _=>False) V V':=(RlS.refl _ V).below hb (waJ _)
 have nf:¬False:=fun g=>g
 have hlt:=waR V _ k.c0;exact⟨k.bl.trans (hb.mono k.bl.size),k.bb,hr.cell k.c0 nf,hr.cell k.c1 nf,hr.cell k.c2 nf,hr.cell k.c3 nf,hr.cell k.c4 nf,hr.cell k.c5 nf,hr.cell k.c6 nf,hr.cell k.c7 nf,hr.cell k.c8 nf,fun j=>(za6 hr hlt nf).trans (k.fz j),(hr.block _ (waL.1 k.fn).1 nf).trans k.fn⟩
theorem BegR.lt {W V:World} {b fm g:Nat} {v0 v1 z5 z6 z7 z8:Value} (k:BegR W V b fm g v0 v1 z5 z6 z7 z8):b<V.heap.size∧fm<V.heap.size:=⟨waR V _ k.c0,(waL.1 k.fn).1⟩
theorem BegR.setBl {W V:World} {b fm g:Nat} {v0 v1 z5 z6 z7 z8:Value} (k:BegR W V b fm g v0 v1 z5 z6 z7 z8) (j:Nat) (v:Value):Below W.heap.size W (V.setCell ⟨b,j,none⟩ v):=k.bl.setCell (p:=⟨b,j,none⟩) k.bb.1 v
theorem BegR.setFz {W V:World} {b fm g:Nat} {v0 v1 z5 z6 z7 z8:Value} (k:BegR W V b fm g v0 v1 z5 z6 z7 z8) (i:Nat) (v:Value) (j:Nat):(V.setCell ⟨b,i,none⟩ v).frozen? ⟨b,j,none⟩=false:=by
 simp[k.fz j]
theorem BegR.setFn {W V:World} {b fm g:Nat} {v0 v1 z5 z6 z7 z8:Value} (k:BegR W V b fm g v0 v1 z5 z6 z7 z8) (i:Nat) (v:Value):(V.setCell ⟨b,i,none⟩ v).heap[fm]?=some (.map #[] 0):=by
 have hr:RlS (·=b) V (V.setCell ⟨b,i,none⟩ v):=(RlS.refl (·=b) V).set ⟨b,i,none⟩ v rfl;exact(hr.block _ k.lt.2 (fun g=>k.bb.2.2 (Eq.symm g))).trans k.fn
theorem BegR.set0 {W V:World} {b fm g:Nat} {v0 v1 z5 z6 z7 z8:Value} (k:BegR W V b fm g v0 v1 z5 z6 z7 z8) (v:Value):BegR W (V.setCell ⟨b,0,none⟩ v) b fm g v v1 z5 z6 z7 z8:=by
 have o:∀j,j≠0→∀{u},V.cell? ⟨b,j,none⟩=some u→(V.setCell ⟨b,0,none⟩ v).cell? ⟨b,j,none⟩=some u:=fun j hj u hu=>(waU _ _ _ _ (by first|(simp;done)|(simp;omega))).trans hu
 exact⟨k.setBl 0 v,k.bb,waT _ _ _ k.c0,o 1 dQ k.c1,o 2 dQ k.c2,o 3 dQ k.c3,o 4 dQ k.c4,o 5 dQ k.c5,o 6 dQ k.c6,o 7 dQ k.c7,o 8 dQ k.c8,k.setFz 0 v,k.setFn 0 v⟩
theorem BegR.set1 {W V:World} {b fm g:Nat} {v0 v1 z5 z6 z7 z8:Value} (k:BegR W V b fm g v0 v1 z5 z6 z7 z8) (v:Value):BegR W (V.setCell ⟨b,1,none⟩ v) b fm g v0 v z5 z6 z7 z8:=by
 have o:∀j,j≠1→∀{u},V.cell? ⟨b,j,none⟩=some u→(V.setCell ⟨b,1,none⟩ v).cell? ⟨b,j,none⟩=some u:=fun j hj u hu=>(waU _ _ _ _ (by first|(simp;done)|(simp;omega))).trans hu
 exact⟨k.setBl 1 v,k.bb,o 0 dQ k.c0,waT _ _ _ k.c1,o 2 dQ k.c2,o 3 dQ k.c3,o 4 dQ k.c4,o 5 dQ k.c5,o 6 dQ k.c6,o 7 dQ k.c7,o 8 dQ k.c8,k.setFz 1 v,k.setFn 1 v⟩
theorem BegR.set5 {W V:World} {b fm g:Nat} {v0 v1 z5 z6 z7 z8:Value} (k:BegR W V b fm g v0 v1 z5 z6 z7 z8) (v:Value):BegR W (V.setCell ⟨b,5,none⟩ v) b fm g v0 v1 v z6 z7 z8:=by
 have o:∀j,j≠5→∀{u},V.cell? ⟨b,j,none⟩=some u→(V.setCell ⟨b,5,none⟩ v).cell? ⟨b,j,none⟩=some u:=fun j hj u hu=>(waU _ _ _ _ (by first|(simp;done)|(simp;omega))).trans hu
 exact⟨k.setBl 5 v,k.bb,o 0 dQ k.c0,o 1 dQ k.c1,o 2 dQ k.c2,o 3 dQ k.c3,o 4 dQ k.c4,waT _ _ _ k.c5,o 6 dQ k.c6,o 7 dQ k.c7,o 8 dQ k.c8,k.setFz 5 v,k.setFn 5 v⟩
theorem BegR.set6 {W V:World} {b fm g:Nat} {v0 v1 z5 z6 z7 z8:Value} (k:BegR W V b fm g v0 v1 z5 z6 z7 z8) (v:Value):BegR W (V.setCell ⟨b,6,none⟩ v) b fm g v0 v1 z5 v z7 z8:=by
 have o:∀j,j≠6→∀{u},V.cell? ⟨b,j,none⟩=some u→(V.setCell ⟨b,6,none⟩ v).cell? ⟨b,j,none⟩=some u:=fun j hj u hu=>(waU _ _ _ _ (by first|(simp;done)|(simp;omega))).trans hu
 exact⟨k.setBl 6 v,k.bb,o 0 dQ k.c0,o 1 dQ k.c1,o 2 dQ k.c2,o 3 dQ k.c3,o 4 dQ k.c4,o 5 dQ k.c5,waT _ _ _ k.c6,o 7 dQ k.c7,o 8 dQ k.c8,k.setFz 6 v,k.setFn 6 v⟩
theorem BegR.set7 {W V:World} {b fm g:Nat} {v0 v1 z5 z6 z7 z8:Value} (k:BegR W V b fm g v0 v1 z5 z6 z7 z8) (v:Value):BegR W (V.setCell ⟨b,7,none⟩ v) b fm g v0 v1 z5 z6 v z8:=by
 have o:∀j,j≠7→∀{u},V.cell? ⟨b,j,none⟩=some u→(V.setCell ⟨b,7,none⟩ v).cell? ⟨b,j,none⟩=some u:=fun j hj u hu=>(waU _ _ _ _ (by first|(simp;done)|(simp;omega))).trans hu
 exact⟨k.setBl 7 v,k.bb,o 0 dQ k.c0,o 1 dQ k.c1,o 2 dQ k.c2,o 3 dQ k.c3,o 4 dQ k.c4,o 5 dQ k.c5,o 6 dQ k.c6,waT _ _ _ k.c7,o 8 dQ k.c8,k.setFz 7 v,k.setFn 7 v⟩
theorem BegR.set8 {W V:World} {b fm g:Nat} {v0 v1 z5 z6 z7 z8:Value} (k:BegR W V b fm g v0 v1 z5 z6 z7 z8) (v:Value):BegR W (V.setCell ⟨b,8,none⟩ v) b fm g v0 v1 z5 z6 z7 v:=by
 have o:∀j,j≠8→∀{u},V.cell? ⟨b,j,none⟩=some u→(V.setCell ⟨b,8,none⟩ v).cell? ⟨b,j,none⟩=some u:=fun j hj u hu=>(waU _ _ _ _ (by first|(simp;done)|(simp;omega))).trans hu
 exact⟨k.setBl 8 v,k.bb,o 0 dQ k.c0,o 1 dQ k.c1,o 2 dQ k.c2,o 3 dQ k.c3,o 4 dQ k.c4,o 5 dQ k.c5,o 6 dQ k.c6,o 7 dQ k.c7,waT _ _ _ k.c8,k.setFz 8 v,k.setFn 8 v⟩
theorem zqI (A1 A2:Option Addr) (n1 n2 k1 k2 g:Nat) (L1 L2:List Cl) (h:Bool→Bool→Bool) (W:World) (hA1:zbd W A1 n1 L1) (hn1:n1≤4294967296) (hl1:A1=none→n1=0) (hbit1:∀c,c∈L1→zbD c∧c.s≤9223372036854775807)
 (hA2:zbd W A2 n2 L2) (hn2:n2≤4294967296) (hl2:A2=none→n2=0) (hbit2:∀c,c∈L2→zbD c∧c.s≤9223372036854775807) (hw:Tz W) (hf:zsF g h):
 Calls prog 87 #[.slice A1 n1 k1,.slice A2 n2 k2,.func (.func g) #[] #[]] W (zm6 g n1 n2 L1 L2 h W):=by
 have HN1:=waV (fun V (hV:Below W.heap.size W V)=>zfK A1 n1 k1 L1 V (hA1.below hV (waJ _)) hn1 hl1 hbit1 (hw.below hV))
 have HN2:=waV (fun V (hV:Below W.heap.size W V)=>zfK A2 n2 k2 L2 V (hA2.below hV (waJ _)) hn2 hl2 hbit2 (hw.below hV))
 have HH1:=waV (fun V (hV:Below W.heap.size W V)=>zjs A1 n1 k1 L1 V (hA1.below hV (waJ _)) oQ)
 have HH2:=waV (fun V (hV:Below W.heap.size W V)=>zjs A2 n2 k2 L2 V (hA2.below hV (waJ _)) oQ)
 have htz:0<W.heap.size:=waR W _ (hw 0 dQ);have HF:=waV hf;clear hA1 hA2 hn1 hn2 hl1 hl2 hbit1 hbit2 hw hf;have hmm:=@run_makeMap prog;have HS:Hid (∀V0,V0=(W.alloc (.map #[] 0)).alloc (.cells #[.pointer none,.pointer none,.func (.func g) #[] #[],.map (some W.heap.size),.int .i64 0,.int .i64 0,.int .i64 0,.int .i64 0,.int .i64 0] 157)→BegR W V0 (W.heap.size+1) W.heap.size g (.pointer none) (.pointer none) (.int .i64 0) (.int .i64 0) (.int .i64 0) (.int .i64 0)):=fun V0 hV0=>by
  subst hV0;have h1:(W.alloc (.map #[] 0)).heap.size=W.heap.size+1:=by simp
  refine⟨((waC _ W).alloc (waJ _) _).alloc (by simp) _,⟨by omega,waJ _,by omega⟩,?_,?_,?_,?_,?_,?_,?_,?_,?_,fun j=>?_,(Below.heap_alloc _ _ _ (by simp)).trans (World.alloc_heap_new W _)⟩
  all_goals first|(rw[←h1];exact zaa rfl rfl)|skip
  unfold World.frozen?;rw[show W.heap.size+1=(W.alloc (.map #[] 0)).heap.size by simp,World.alloc_heap_new]
  simp
 go_enter func87,ntmps87;go_wp2_with fail;have HB:=waV (HS.out _ rfl);have hbl:=HB.out.bl;have hlt:=HB.out.lt;have c0:=HB.out.c0;have hfz:=HB.out.fz;clear HS;generalize ((W.alloc (.map #[] 0)).alloc (.cells #[.pointer none,.pointer none,.func (.func g) #[] #[],.map (some W.heap.size),.int .i64 0,.int .i64 0,.int .i64 0,.int .i64 0,.int .i64 0] 157))=V0 at *;generalize hbb:W.heap.size+1=b at *;have HE1:=waV (fun w' e (h:zhE n1 L1 V0 e w')=>h.err)
 refine(HN1.out _ hbl).mono ?_;intro e w1 hr1;obtain⟨hb1,hr1⟩:=HE1.out _ _ hr1;clear HE1 HN1;have HB1:=waV (HB.out.below hb1);obtain(⟨he,rfl⟩|⟨he1,hn1,hs1,d1,rfl,hR1⟩):=hr1
 ·have ct:=HB1.out.c0;have hfz1:=HB1.out.fz;generalize hz:zbA n1 L1=z at *;go_wp2
  (try simp only[Exit.inBlock,Exit.then])
  refine waY (wbM rfl _ _ _) rfl ?_;subst hz;exact⟨(HB1.out.set0 _).bl,.inl ⟨he,rfl⟩⟩
 ·have HR1:=waV hR1;clear hR1;have ct:=HB1.out.c0;have hfz1:=HB1.out.fz;go_wp2_with fail;have hl1:=HB1.out.lt;have hB1:=HB1.out.set0 (.pointer (some ⟨d1.b,0,none⟩));have HBa:=waV hB1;have hra:RlS (·=b) w1 (w1.setCell ⟨b,0,none⟩ (.pointer (some ⟨d1.b,0,none⟩))):=(RlS.refl (·=b) w1).set ⟨b,0,none⟩ _ rfl;have HRa:=waV hra;clear hra hB1;have hbla:=HBa.out.bl;have hza:(w1.setCell ⟨b,0,none⟩ (.pointer (some ⟨d1.b,0,none⟩))).heap.size=w1.heap.size:=by simp
  generalize (w1.setCell ⟨b,0,none⟩ (.pointer (some ⟨d1.b,0,none⟩)))=V1 at *;have HE2:=waV (fun w' e (h:zhE n2 L2 V1 e w')=>h.err)
  refine(HN2.out _ hbla).mono ?_;intro e w2 hr2;obtain⟨hb2,hr2⟩:=HE2.out _ _ hr2;clear HE2 HN2;have HB2:=waV (HBa.out.below hb2);have ct:=HB2.out.c1;have hfz2:=HB2.out.fz;obtain(⟨he,rfl⟩|⟨he2,hn2,hs2,d2,rfl,hR2⟩):=hr2
  ·generalize hz:zbA n2 L2=z at *;go_wp2
   (try simp only[Exit.inBlock,Exit.then])
   refine waY (wbM rfl _ _ _) rfl ?_;subst hz;exact⟨(HB2.out.set1 _).bl,.inr (.inl ⟨he1,he,rfl⟩)⟩
  ·have HR2:=waV hR2;clear hR2;go_wp2_with fail;have hl2:=HB2.out.lt;have hB2:=HB2.out.set1 (.pointer (some ⟨d2.b,0,none⟩));have HBb:=waV hB2;have hrb:RlS (·=b) w2 (w2.setCell ⟨b,1,none⟩ (.pointer (some ⟨d2.b,0,none⟩))):=(RlS.refl (·=b) w2).set ⟨b,1,none⟩ _ rfl;have HRb:=waV hrb;clear hrb hB2;have hblb:=HBb.out.bl;have hzb:(w2.setCell ⟨b,1,none⟩ (.pointer (some ⟨d2.b,0,none⟩))).heap.size=w2.heap.size:=by simp
   generalize (w2.setCell ⟨b,1,none⟩ (.pointer (some ⟨d2.b,0,none⟩)))=V2 at *;refine(HH1.out _ hblb).mono ?_;rintro e w3 ⟨rfl,hb3⟩;have HB3:=waV (HBb.out.below hb3);have hbl3:=HB3.out.bl;go_wp2_with fail;refine(HH2.out _ hbl3).mono ?_;rintro e w4 ⟨rfl,hb4⟩;have HB4:=waV (HB3.out.below hb4);have c5:=HB4.out.c5;have c6:=HB4.out.c6;have c7:=HB4.out.c7;have c8:=HB4.out.c8;have hfz4:=HB4.out.fz;have hl4:=HB4.out.lt;go_wp2_with fail
   (try simp only[Exit.inBlock,Exit.then])
   refine waY (wbM rfl _ _ _) rfl ?_;have hB5:=(((HB4.out.set5 (.int .i64 (hF L1))).set6 (.int .i64 (hU L1))).set7 (.int .i64 (hF L2))).set8 (.int .i64 (hU L2));have hr5:RlS (·=b) w4 ((((w4.setCell ⟨b,5,none⟩ (.int .i64 (hF L1))).setCell ⟨b,6,none⟩ (.int .i64 (hU L1))).setCell ⟨b,7,none⟩ (.int .i64 (hF L2))).setCell ⟨b,8,none⟩ (.int .i64 (hU L2))):=((((RlS.refl (·=b) w4).set ⟨b,5,none⟩ _ rfl).set ⟨b,6,none⟩ _ rfl).set ⟨b,7,none⟩ _ rfl).set ⟨b,8,none⟩ _ rfl;show zm6 g n1 n2 L1 L2 h W _ ((((w4.setCell ⟨b,5,none⟩ (.int .i64 (hF L1))).setCell ⟨b,6,none⟩ (.int .i64 (hU L1))).setCell ⟨b,7,none⟩ (.int .i64 (hF L2))).setCell ⟨b,8,none⟩ (.int .i64 (hU L2)));have hz5:((((w4.setCell ⟨b,5,none⟩ (.int .i64 (hF L1))).setCell ⟨b,6,none⟩ (.int .i64 (hU L1))).setCell ⟨b,7,none⟩ (.int .i64 (hF L2))).setCell ⟨b,8,none⟩ (.int .i64 (hU L2))).heap.size=w4.heap.size:=by simp
   generalize ((((w4.setCell ⟨b,5,none⟩ (.int .i64 (hF L1))).setCell ⟨b,6,none⟩ (.int .i64 (hU L1))).setCell ⟨b,7,none⟩ (.int .i64 (hF L2))).setCell ⟨b,8,none⟩ (.int .i64 (hU L2)))=V5 at *;have z1:=hb1.size;have z2:=hb2.size;have z3:=hb3.size;have z4:=hb4.size;have r25:RlS (·=b) w2 V5:=((HRb.out.below hb3 oQ).below hb4 oQ).trans hr5;have r15:RlS (·=b) w1 V5:=(HRa.out.below hb2 oQ).trans r25;have hlo:b<V0.heap.size:=hlt.1;have hbz:0<b:=by omega
   refine⟨hB5.bl,.inr (.inr ⟨he1,he2,⟨b,W.heap.size,g,d1,d2,V0.heap.size,w1.heap.size,V1.heap.size,w2.heap.size,V5.heap.size⟩,rfl,rfl,by show W.heap.size≤b;omega,waJ _,rfl,by show W.heap.size≤V0.heap.size;omega,by show W.heap.size≤V1.heap.size;omega,?_⟩)⟩
   refine⟨hB5.c0,hB5.c1,hB5.c2,hB5.c3,⟨0,hB5.c4⟩,hB5.c5,hB5.c6,hB5.c7,hB5.c8,hB5.fz,?_,?_,by show w1.heap.size≤V1.heap.size;omega,⟨hB5.bb.2.2.symm.symm,hlo,hlt.2,by show V0.heap.size≤w1.heap.size;omega,hbz,htz⟩,⟨#[],0,hB5.fn,FineE.nil _ _ _⟩,HF.out⟩
   ·exact HR1.out V5 V5.heap.size (·=b) r15 (fun k hk=>by have:k=b:=hk;omega) oQ (waJ _)
   ·exact HR2.out V5 V5.heap.size (·=b) r25 (fun k hk=>by have:k=b:=hk;omega) oQ (waJ _)
end Go.Proofs.YtgedndlifiihkaaGreatDoor
namespace Go.Proofs.YtgedndlifiihkaaGreatDoor
open Go.Proofs.Tryz
open Go.RowKit
open Go.Maps
attribute [local go_sem] Oper.semAt_some
theorem FineE.imp {W V:World} {D:Nat} {h:Bool→Bool→Bool} {es:List MapEntry} (k:FineE W D h es) (hd:∀e p,DiscAt W e p→DiscAt V e p):FineE V D h es:=⟨k.one,fun q hq=>by
 obtain⟨v1,v2,p1,p2,h1,h2,h3,h4,h5⟩:=k.all q hq;exact⟨v1,v2,p1,p2,h1,h2,h3.imp hd,h4.imp hd,h5⟩⟩
theorem MeetAt.rl00 {B:Nat} {V W:World} {x:AskD} {L1 L2:List Cl} {h:Bool→Bool→Bool} {f1 u1 f2 u2:Int} (k:MeetAt W x L1 L2 h f1 u1 f2 u2) (hr:Rl 0 0 B W V) (hB:x.D≤B):MeetAt V x L1 L2 h f1 u1 f2 u2:=by
 have hdw:=k.r1.dw;have hm:=(k.mb x.fm (.inr (.inl rfl))).1;have hb:=(k.mb x.b (.inl rfl)).1;have hblk:∀j,j<x.D→V.heap[j]?=W.heap[j]? :=fun j hj=>by
  rw[hr.block j _ (wbI (show j<W.heap.size by omega)) (.inr (waK _)) (.inl (by omega)),wbI (show j<W.heap.size by omega)]
 have hrs:RlS (fun j=>x.D≤j) W V:=⟨hr.os,hr.tape,hr.output,hr.size,fun i hi hs=>hblk i oQ⟩
 have nb:¬x.D≤x.b:=by omega
 refine⟨hrs.cell k.c0 nb,hrs.cell k.c1 nb,hrs.cell k.c2 nb,hrs.cell k.c3 nb,?_,hrs.cell k.c5 nb,hrs.cell k.c6 nb,hrs.cell k.c7 nb,hrs.cell k.c8 nb,fun j=>(za6 hrs oQ nb).trans (k.fz j),k.r1.rl00 hr hB,k.r2.rl00 hr hB,k.ap,k.bf,?_,k.fnd⟩
 ·obtain⟨z,hz⟩:=k.c4;exact⟨z,hrs.cell hz nb⟩
 ·obtain⟨es,n,h1,h2⟩:=k.fine;exact⟨es,n,(hblk _ hm).trans h1,h2.imp fun e p g=>g.rl00 hr⟩
theorem KpM.of_meet {W V:World} {x:AskD} {L1 L2:List Cl} (hr:RlS (x.mv L1.length L2.length) W V):KpM (x.mv L1.length L2.length) W V:=⟨hr.size,fun k o hk _ hn=>(hr.block k (waL.1 hk).1 hn).trans hk⟩
theorem zdT {β:Type} {S:Nat→Prop} {w:World} {B:Nat} (hB:w.heap.size≤B):OwnFrom B (fun(_:β) W=>RlS S w W):=fun s X Y row hs hg hr=>
 ⟨hg.os.trans hs.os,hg.tape.trans hs.tape,hg.output.trans hs.output,waW hs.size hg.size,fun i hi hS=>(hg.block i (waD hi hs.size) (fun e=>by have:=(hr i e.symm).1;omega)).trans (hs.block i hi hS)⟩
theorem zhF {fn:Func} {p t:Tmp} {ty ty':TypeId} (h:fn.results=#[.cell p ty,.cell t ty']) (tmps:Array Value) (P:Program) (w:World):
 (results fn tmps).run P w=((asAddr (tmps.getD p undef)).run P w).andThen fun a w₁=>((loadVar ty a).run P w₁).andThen fun v w₂=>((asAddr (tmps.getD t undef)).run P w₂).andThen fun b w₃=>((loadVar ty' b).run P w₃).andThen fun v2 w₄=>.ok (.tuple #[v,v2]) w₄:=by
 simp only[results,h];simp[Sem.run_bind,Result.andThen]
def inW (f1 u1 f2 u2 n:Int):Bool:=zqH f1 u1 n||zqH f2 u2 n
def zvr (L1 L2:List Cl) (n:Int):Prop:=zdc (fun s=>zdg (zao L1 n s) (zao L2 n s)) 0
theorem zaF {S:Nat→Prop} {W V:World} {B:Nat} {t:TypeId} {v:Value} (k:Boxed W B t v) (h:RlS S W V) (hB:¬S B):Boxed V B t v:=(h.block B k.lt hB).trans k
theorem zer (n:Int):shV n=.agg (shA n):=rfl
theorem zes (n:Int):∃v0 v1 v2 v3 v4 v5 v6 v7 v8 v9,shV n=.agg #[.int .i64 v0,.int .i64 v1,.int .i64 v2,.int .i64 v3,.int .i64 v4,.int .i64 v5,.int .i64 v6,.int .i64 v7,.int .i64 v8,.int .i64 v9]:=⟨_,_,_,_,_,_,_,_,_,_,rfl⟩
theorem zaA {W V:World} {B:Nat} {t:TypeId} {v:Value} (h:Below W.heap.size W V) (k:Boxed W B t v):Boxed V B t v:=(h.block B k.lt).trans k
theorem mx0 {a:Int}:0≤mxI a 0:=by unfold mxI;split<;>omega
theorem zm7 (a f u:Int):ze7 a f u≤a:=by unfold ze7;split<;>omega
theorem zm8 (a f u:Int):a≤ze8 a f u:=by unfold ze8;split<;>omega
theorem mx1 {f1 u1 f2 u2:Int}:mxI (zhR f1 u1 f2 u2 2) 0≤9223372036854775807:=by
 have h1:=zm7 146097 f1 u1;have h2:=zm7 (ze7 146097 f1 u1) f2 u2;have h3:zhR f1 u1 f2 u2 2=ze7 (ze7 146097 f1 u1) f2 u2:=rfl;unfold mxI;split<;>omega
theorem mn0 {f1 u1 f2 u2:Int}:-9223372036854775808≤mnI (zhS f1 u1 f2 u2 2) 146096:=by
 have h1:=zm8 (-1) f1 u1;have h2:=zm8 (ze8 (-1) f1 u1) f2 u2;have h3:zhS f1 u1 f2 u2 2=ze8 (ze8 (-1) f1 u1) f2 u2:=rfl;unfold mnI;split<;>omega
theorem mn1 {a:Int}:mnI a 146096≤146096:=by unfold mnI;split<;>omega
def zsO (x:AskD) (L1 L2:List Cl) (f1 u1 f2 u2:Int) (W:World) (e:Ending) (W':World):Prop:=
 ((∃(n:Int) (s:Nat),e=.returned (.tuple #[.int .i64 (n * 86400+s),.bool true])∧0≤n∧n<146097∧zen (fun s=>zdg (zao L1 n s) (zao L2 n s)) 0 s)∨
   (e=.returned (.tuple #[.int .i64 0,.bool false])∧∀n,n∈zcI (mxI (zhR f1 u1 f2 u2 2) 0) (mnI (zhS f1 u1 f2 u2 2) 146096)→inW f1 u1 f2 u2 n=true→zvr L1 L2 n))∧
   MeetAt W' x L1 L2 zdg f1 u1 f2 u2∧RlS (x.mv L1.length L2.length) W W'
theorem zoh (x:AskD) (L1 L2:List Cl) (f1 u1 f2 u2:Int) (W:World) (hM:MeetAt W x L1 L2 zdg f1 u1 f2 u2) (hg:x.g=47):
 Calls prog 88 #[.pointer (some ⟨x.b,0,none⟩)] W (zsO x L1 L2 f1 u1 f2 u2 W):=by
 have HD:=waV (fun l' V (hV:MeetAt V x L1 L2 zdg f1 u1 f2 u2) n h0 h1=>zam (m:=2) (l':=l') (zsN x L1 L2 f1 u1 f2 u2 V hV hg n h0 h1))
 have HW:=waV (fun l' f u n V=>zam (m:=2) (l':=l') (zog f u n V))
 have HG:=waV (fun f u V=>wbP (n:=4).2 (zhB f u V))
 have HM:=waV hM;have HBd:=waV (fun V (hV:MeetAt V x L1 L2 zdg f1 u1 f2 u2)=>wbP (n:=4).2 (zlV x.b f1 u1 f2 u2 V hV.c5 hV.c6 hV.c7 hV.c8))
 have hDW:=hM.r1.dw;clear hM;refine(wbP (n:=5)).1 ?_;refine callsIn_of_wp_marks func88 rfl trivial ?_ rfl;simp only[ntmps88,wbQ,waG,List.length_nil,Nat.reduceAdd,Nat.reduceSub,wbR,wbS,List.push_toArray,List.append_toArray,wbN,wbT]
 gi_wp2
 have hb0:Below W.heap.size W (((W.alloc (.cells #[.pointer (some ⟨x.b,0,none⟩)] 147)).alloc (.cells #[.int .i64 0] 2)).alloc (.cells #[.bool false] 4)):=(((waC _ W).alloc (waJ _) _).alloc (by simp) _).alloc (by simp;omega) _
 have bx0:Boxed (((W.alloc (.cells #[.pointer (some ⟨x.b,0,none⟩)] 147)).alloc (.cells #[.int .i64 0] 2)).alloc (.cells #[.bool false] 4)) W.heap.size 147 (.pointer (some ⟨x.b,0,none⟩)):=((Boxed.new _ _ _).alloc _).alloc _;have ba0:Boxed (((W.alloc (.cells #[.pointer (some ⟨x.b,0,none⟩)] 147)).alloc (.cells #[.int .i64 0] 2)).alloc (.cells #[.bool false] 4)) (W.heap.size+1) 2 (.int .i64 0):=by
  have h:W.heap.size+1=(W.alloc (.cells #[.pointer (some ⟨x.b,0,none⟩)] 147)).heap.size:=by simp
  rw[h];exact(Boxed.new _ _ _).alloc _
 have bf0:Boxed (((W.alloc (.cells #[.pointer (some ⟨x.b,0,none⟩)] 147)).alloc (.cells #[.int .i64 0] 2)).alloc (.cells #[.bool false] 4)) (W.heap.size+2) 4 (.bool false):=by
  have h:W.heap.size+2=((W.alloc (.cells #[.pointer (some ⟨x.b,0,none⟩)] 147)).alloc (.cells #[.int .i64 0] 2)).heap.size:=by simp
  rw[h];exact Boxed.new _ _ _
 have hz0:(((W.alloc (.cells #[.pointer (some ⟨x.b,0,none⟩)] 147)).alloc (.cells #[.int .i64 0] 2)).alloc (.cells #[.bool false] 4)).heap.size=W.heap.size+3:=by simp
 generalize (((W.alloc (.cells #[.pointer (some ⟨x.b,0,none⟩)] 147)).alloc (.cells #[.int .i64 0] 2)).alloc (.cells #[.bool false] 4))=W0 at *;have hM0:=HM.out.below hb0;have hc0:=bx0.cell;apply zdv
 gi_wp2_with (refine⟨trivial,?_⟩;gi_at_call 147;refine(HBd.out _ hM0).mono ?_;rintro e w1 ⟨rfl,hb1⟩)
 apply wpIn_label;simp only[Exit.then]
 gi_wp2_with (refine⟨trivial,?_⟩;gi_at_call 74;refine(HG.out _ _ _).mono ?_;rintro e w2 ⟨b1,b2,rfl,hl1,hl2,hne,hd1,hd2,hb2⟩)
 have hb02:Below W0.heap.size W0 w2:=hb1.trans (hb2.mono hb1.size);have hbW2:Below W.heap.size W w2:=hb0.trans (hb02.mono hb0.size);have hM2:=hM0.below hb02;have bx2:=zaA hb02 bx0;have ba2:=zaA hb02 ba0;have bf2:=zaA hb02 bf0;have hz2:=hb02.size;have hl1':W.heap.size+3≤b1:=by have:=hb1.size;omega
 have hl2':W.heap.size+3≤b2:=by have:=hb1.size;omega
 have nM:∀k,W.heap.size≤k→¬x.mv L1.length L2.length k:=fun k h1 h2=>by have:=(HM.out.mb k h2).1;omega
 have eg:∀args w,(callFunc 128 args).run prog w=.ok (.enter 128 args) w:=enters_of func128 kQ rfl;refine wpIn_rangeFunc_ownH rfl oQ (gf:=128) (lb:=#[.pointer (some ⟨b1,0,none⟩),.pointer (some ⟨b2,0,none⟩)]) rfl trivial eg
  (ze6 (KpM (x.mv L1.length L2.length)) 4 b1 b2 (mxI (zhR f1 u1 f2 u2 2) 0) (mnI (zhS f1 u1 f2 u2 2) 146096) dQ mx0 mx1 mn0 mn1 (fun _ _ hk hc=>hk.cell hc (nM _ oQ)) w2 hd1 hd2)
  (fun h k=>h.trans k) (fun V l o o' _ hl ho _=>KpM.putObj o' hl ho) (waC _ _) (fun _=>rfl)
  (fun pre V=>((MeetAt V x L1 L2 zdg f1 u1 f2 u2∧∀d,d∈pre→inW f1 u1 f2 u2 d.1=true→zvr L1 L2 d.1)∧RlS (x.mv L1.length L2.length) w2 V)∧(Boxed V W.heap.size 147 (.pointer (some ⟨x.b,0,none⟩))∧Boxed V (W.heap.size+1) 2 (.int .i64 0))∧Boxed V (W.heap.size+2) 4 (.bool false))
  (fun c pre V=>∃(n:Int) (s:Nat),((MeetAt V x L1 L2 zdg f1 u1 f2 u2∧c=.ret∧0≤n∧n<146097∧zen (fun s=>zdg (zao L1 n s) (zao L2 n s)) 0 s)∧RlS (x.mv L1.length L2.length) W V)∧Boxed V (W.heap.size+1) 2 (.int .i64 (n * 86400+s))∧Boxed V (W.heap.size+2) 4 (.bool true))
  (OwnFrom.and (OwnFrom.and (zbc (lo:=0) (hi:=0) (fun _ X Y hs hr=>⟨hs.1.rl00 hr oQ,hs.2⟩)) (zdT (waJ _))) (OwnFrom.and (OwnFrom.and (Own.from (boxed_own _ _ (fun _=>_)) _) (Own.from (boxed_own _ _ (fun _=>_)) _)) (Own.from (boxed_own _ _ (fun _=>_)) _)))
  (fun c s X Y row hs hg hr=>by
    obtain⟨n,z,⟨⟨h1,h2⟩,h3⟩,h4,h5⟩:=hs;exact⟨n,z,⟨⟨zbc (lo:=0) (hi:=0) (B:=w2.heap.size) (J:=fun(_:Unit) V=>MeetAt V x L1 L2 zdg f1 u1 f2 u2) (fun _ X Y hs hr=>hs.rl00 hr oQ) () X Y row h1 hg hr,h2⟩,zdT hbW2.size () X Y row h3 hg hr⟩,Own.from (boxed_own _ _ (fun(_:Unit)=>_)) w2.heap.size () X Y row h4 hg hr,Own.from (boxed_own _ _ (fun(_:Unit)=>_)) w2.heap.size () X Y row h5 hg hr⟩)
  ⟨⟨⟨hM2,fun d hd=>by cases hd⟩,RlS.refl _ w2⟩,⟨bx2,ba2⟩,bf2⟩
  (fun d a' V=>∃Bs,w2.heap.size≤Bs∧V.heap[Bs]?=some (.cells (shA d.1) 125)∧a'={tmps:=#[.pointer (some ⟨x.b,0,none⟩),.pointer (some ⟨W.heap.size,0,none⟩),.pointer (some ⟨W.heap.size+1,0,none⟩),.pointer (some ⟨W.heap.size+1+1,0,none⟩),.int .i64 (zhR f1 u1 f2 u2 2),.int .i64 (zhS f1 u1 f2 u2 2),.pointer (some ⟨Bs,0,none⟩),undef,undef,undef,.tuple #[.int .i64 (zhR f1 u1 f2 u2 2),.int .i64 (zhS f1 u1 f2 u2 2)],.pointer (some ⟨x.b,0,none⟩),.tuple #[.int .i64 (zhR f1 u1 f2 u2 2),.int .i64 (zhS f1 u1 f2 u2 2)],.int .i64 (zhR f1 u1 f2 u2 2),.int .i64 (zhS f1 u1 f2 u2 2),.int .i64 (zhR f1 u1 f2 u2 2),.int .i64 (zhS f1 u1 f2 u2 2),.func (.func 128) #[] #[.pointer (some ⟨b1,0,none⟩),.pointer (some ⟨b2,0,none⟩)],shV d.1,undef,undef,undef,undef,undef,undef,undef,undef,undef,undef,undef,undef,undef,undef,undef,undef,undef,undef,undef,undef,undef,undef,undef,undef,undef,undef,undef,undef,undef,undef,undef,undef,undef,undef,undef,undef,undef,undef],defers:=[]})
  (fun d a' _ X Y row hs hg hr=>by
    obtain⟨Bs,e1,e2,e3⟩:=hs;refine⟨Bs,e1,(hg.block Bs (waL.1 e2).1 (fun e=>?_)).trans e2,e3⟩
    obtain⟨_,o,ho,hc⟩:=hr Bs e.symm;rw[e2] at ho;cases ho;cases hc)
  ?assign ?body ?done ?stop
 case assign=>
  rintro l1 pre d V K ⟨⟨⟨hm,hall⟩,hrl⟩,⟨hx,ha⟩,hf⟩ hK;obtain⟨v0,v1,v2,v3,v4,v5,v6,v7,v8,v9,hv⟩:=zes d.1;have hA:shA d.1=#[.int .i64 v0,.int .i64 v1,.int .i64 v2,.int .i64 v3,.int .i64 v4,.int .i64 v5,.int .i64 v6,.int .i64 v7,.int .i64 v8,.int .i64 v9]:=by have:=(zer d.1).symm.trans hv;injection this
  have HK:=waV hK;clear hK;rw[hv] at HK ⊢;rw[hA] at HK;have hsz:=hrl.size
  gi_wp2
  have hb:=(waC _ V).alloc (waJ _) (.cells #[.int .i64 v0,.int .i64 v1,.int .i64 v2,.int .i64 v3,.int .i64 v4,.int .i64 v5,.int .i64 v6,.int .i64 v7,.int .i64 v8,.int .i64 v9] 125);refine HK.out _ _ ((KeepsOthers.alloc _ _).from _) ((KpM.refl _ V).alloc _) ⟨⟨⟨hm.below hb,hall⟩,hrl.below hb hsz⟩,⟨zaA hb hx,zaA hb ha⟩,zaA hb hf⟩ ⟨V.heap.size,hsz,World.alloc_heap_new V _,rfl⟩
 case body=>
  rintro l1 pre d a' V hl1 ⟨r1,hr1⟩ ⟨⟨⟨hm,hall⟩,hrl⟩,⟨hx,ha⟩,hf⟩ ⟨Bs,hBs,hbs,rfl⟩ hlt;obtain⟨v0,v1,v2,v3,v4,v5,v6,v7,v8,v9,hv⟩:=zes d.1;have hA:shA d.1=#[.int .i64 v0,.int .i64 v1,.int .i64 v2,.int .i64 v3,.int .i64 v4,.int .i64 v5,.int .i64 v6,.int .i64 v7,.int .i64 v8,.int .i64 v9]:=by have:=(zer d.1).symm.trans hv;injection this
  have hv0:v0=d.1:=by have h:Value.int .i64 (shN d.1 (yD d.1) (mD d.1) (dD d.1) 0)=.int .i64 v0:=congrArg (fun a=>a.getD 0 undef) hA;injection h with _ h;exact h.symm
  subst hv0;have hn0:0≤d.1:=by have:=zaS.1 d.2;have:=@mx0 (zhR f1 u1 f2 u2 2);omega
  have hn1:d.1<146097:=by have:=zaS.1 d.2;have:=@mn1 (zhS f1 u1 f2 u2 2);omega
  have HDd:=waV (fun V hV=>HD.out l1 V hV d.1 hn0 hn1)
  have HAll:=waV hall;rw[hv] at HDd ⊢;rw[hA] at hbs;generalize hdn:d.1=n at *;have hsz:=hrl.size;have hcx:=hx.cell;have c5:=hm.c5;have c6:=hm.c6;have c7:=hm.c7;have c8:=hm.c8;obtain⟨z,c4⟩:=hm.c4;have hfz:=hm.fz;have cs0:V.cell? ⟨Bs,0,none⟩=some (.int .i64 n):=by simp[World.cell?,hbs]
  have HB:=waV (fun V' (hb:Below V.heap.size V V')=>(⟨⟨⟨hm.below hb,hall⟩,hrl.below hb hsz⟩,⟨zaA hb hx,zaA hb ha⟩,zaA hb hf⟩:((MeetAt V' x L1 L2 zdg f1 u1 f2 u2∧∀d,d∈pre→inW f1 u1 f2 u2 d.1=true→zvr L1 L2 d.1)∧RlS (x.mv L1.length L2.length) w2 V')∧(Boxed V' W.heap.size 147 (.pointer (some ⟨x.b,0,none⟩))∧Boxed V' (W.heap.size+1) 2 (.int .i64 0))∧Boxed V' (W.heap.size+2) 4 (.bool false)))
  have hxW:=hx.lt;have hmb:=(hm.mb x.b (.inl rfl)).1;have HC:=waV (fun V' (hb:Below V.heap.size V V')=>(⟨((zad hb).1 _ _ hxW).trans hcx,(hm.below hb).c4,(hm.below hb).fz,(hm.below hb).c7,(hm.below hb).c8,(hb.block Bs (waL.1 hbs).1).trans hbs⟩:V'.cell? ⟨W.heap.size,0,none⟩=some (.pointer (some ⟨x.b,0,none⟩))∧(∃z,V'.cell? ⟨x.b,4,none⟩=some (.int .i64 z))∧(∀j,V'.frozen? ⟨x.b,j,none⟩=false)∧V'.cell? ⟨x.b,7,none⟩=some (.int .i64 f2)∧V'.cell? ⟨x.b,8,none⟩=some (.int .i64 u2)∧
   V'.heap[Bs]?=some (.cells #[.int .i64 n,.int .i64 v1,.int .i64 v2,.int .i64 v3,.int .i64 v4,.int .i64 v5,.int .i64 v6,.int .i64 v7,.int .i64 v8,.int .i64 v9] 125)))
  cases hw1:zqH f1 u1 n with
  |false=>
   cases hw2:zqH f2 u2 n with
   |false=>
    have h1:=waV (fun V=>HW.out l1 f1 u1 n V)
    have h2:=waV (fun V=>HW.out l1 f2 u2 n V)
    rw[hw1] at h1;rw[hw2] at h2;have hin:inW f1 u1 f2 u2 n=false:=by unfold inW;rw[hw1,hw2];rfl
    clear hm hall hrl hx ha hf
    gi_wp2_with fail
    refine⟨trivial,?_⟩;refine(h1.out _).mono ?_;rintro e w3 ⟨rfl,hq3⟩;obtain⟨hcx3,_,_,c7,c8,_⟩:=HC.out w3 hq3
    gi_wp2_with fail
    refine⟨trivial,?_⟩;refine(h2.out _).mono ?_;rintro e w4 ⟨rfl,hq4⟩;have hb4:=hq3.trans (hq4.mono hq3.size)
    gi_wp2_with fail
    obtain⟨⟨⟨g1,g2⟩,g3⟩,g4,g5⟩:=HB.out w4 hb4;exact⟨⟨hb4.size,fun i o _ h2 _=>(hb4.block i (waL.1 h2).1).trans h2⟩,KpM.of_below hb4,⟨⟨g1,fun d' hd' hi'=>(wbB.1 hd').elim (fun h=>g2 d' h hi') (fun h=>by
     have e:=wbC.1 h;rw[e,hdn,hin] at hi';cases hi')⟩,g3⟩,g4,g5⟩
   |true=>
    have h1:=waV (fun V=>HW.out l1 f1 u1 n V)
    have h2:=waV (fun V=>HW.out l1 f2 u2 n V)
    rw[hw1] at h1;rw[hw2] at h2;clear hm hall hrl hx ha hf
    gi_wp2_with fail
    refine⟨trivial,?_⟩;refine(h1.out _).mono ?_;rintro e w3 ⟨rfl,hq3⟩;obtain⟨hcx3,_,_,c7,c8,_⟩:=HC.out w3 hq3
    gi_wp2_with fail
    refine⟨trivial,?_⟩;refine(h2.out _).mono ?_;rintro e w4 ⟨rfl,hq4⟩;have hb4:=hq3.trans (hq4.mono hq3.size);clear hcx3 c5 c6 c7 c8 hcx c4 hfz cs0 h1 h2;obtain⟨hcx,⟨z',c4⟩,hfz,_,_,hbs4⟩:=HC.out w4 hb4;have hl4:=waR w4 _ c4;have e0:(w4).cell? ⟨Bs,0,none⟩=some (.int .i64 n):=by simp[World.cell?,hbs4]
    have e1:(w4).cell? ⟨Bs,1,none⟩=some (.int .i64 v1):=by simp[World.cell?,hbs4]
    have e2:(w4).cell? ⟨Bs,2,none⟩=some (.int .i64 v2):=by simp[World.cell?,hbs4]
    have e3:(w4).cell? ⟨Bs,3,none⟩=some (.int .i64 v3):=by simp[World.cell?,hbs4]
    have e4:(w4).cell? ⟨Bs,4,none⟩=some (.int .i64 v4):=by simp[World.cell?,hbs4]
    have e5:(w4).cell? ⟨Bs,5,none⟩=some (.int .i64 v5):=by simp[World.cell?,hbs4]
    have e6:(w4).cell? ⟨Bs,6,none⟩=some (.int .i64 v6):=by simp[World.cell?,hbs4]
    have e7:(w4).cell? ⟨Bs,7,none⟩=some (.int .i64 v7):=by simp[World.cell?,hbs4]
    have e8:(w4).cell? ⟨Bs,8,none⟩=some (.int .i64 v8):=by simp[World.cell?,hbs4]
    have e9:(w4).cell? ⟨Bs,9,none⟩=some (.int .i64 v9):=by simp[World.cell?,hbs4]
    have hne1:¬x.b=Bs:=by omega
    have hne2:¬Bs=x.b:=by omega
    clear hbs4
    gi_wp2_with fail
    refine⟨trivial,?_⟩;refine(HDd.out _ ((HB.out w4 hb4).1.1.1.count _)).mono ?_;rintro e w5 ⟨hres,hm5,hr5⟩;have hrV:RlS (x.mv L1.length L2.length) V w5:=(((RlS.refl _ V).below hb4 (waJ _)).set ⟨x.b,4,none⟩ _ (.inl rfl)).trans hr5;have hkp:KpM (x.mv L1.length L2.length) V w5:=KpM.of_meet hrV;have hkf:KeepsFrom w2.heap.size V w5:=⟨hrV.size,fun i o h1 h2 _=>(hrV.block i (waL.1 h2).1 (nM _ (by have:=hbW2.size;omega))).trans h2⟩
    obtain⟨⟨⟨g1,g2⟩,g3⟩,⟨g4,g5⟩,g6⟩:=HB.out V (waC _ V);have g3':=g3.trans hrV;have g4':=zaF g4 hrV (nM _ oQ);have g5':=zaF g5 hrV (nM _ oQ);have g6':=zaF g6 hrV (nM _ oQ);clear g1 g3 g4 g5 g6 hrV HB HC HDd c4 e0 e1 e2 e3 e4 e5 e6 e7 e8 e9 hr5 hcx hfz;obtain(⟨s,rfl,hs⟩|⟨rfl,hs⟩):=hres
    ·have hs8:=hs.1;have ca:=g5'.cell;have cf:=g6'.cell;have fa:=g5'.frozen;have ff:=g6'.frozen;have lta:=g5'.lt;have ltf:=g6'.lt;have g3w:=((RlS.refl _ W).below hbW2 (waJ _)).trans g3'
     gi_wp2_with fail
     have hz2:=hbW2.size;have r1:RlS (·=W.heap.size+1) w5 (w5.setCell ⟨W.heap.size+1,0,none⟩ (.int .i64 (n * 86400+s))):=(RlS.refl (·=W.heap.size+1) w5).set _ _ rfl;have r2:RlS (·=W.heap.size+1+1) (w5.setCell ⟨W.heap.size+1,0,none⟩ (.int .i64 (n * 86400+s))) ((w5.setCell ⟨W.heap.size+1,0,none⟩ (.int .i64 (n * 86400+s))).setCell ⟨W.heap.size+1+1,0,none⟩ (.bool true)):=(RlS.refl (·=W.heap.size+1+1) _).set _ _ rfl;refine⟨⟨by simpa using hkf.size,fun k o h1 h2 h3=>?_⟩,n,s,⟨⟨(hm5.own r1 oQ ⟨_,_,_,g5',by decide⟩).own r2 oQ ⟨_,_,_,g6'.other oQ _,by decide⟩,rfl,by omega,by omega,hs⟩,?_⟩,(g5'.set _).other oQ _,(g6'.other oQ _).set _⟩
     ·rw[wbJ _ _ _ _ (by show k≠W.heap.size+1+1;omega),wbJ _ _ _ _ (by show k≠W.heap.size+1;omega)]
      exact hkf.same k o h1 h2 h3
     ·exact⟨g3w.os,g3w.tape,g3w.output,by simpa using g3w.size,fun i hi hS=>by
       rw[wbJ _ _ _ _ (by show i≠W.heap.size+1+1;omega),wbJ _ _ _ _ (by show i≠W.heap.size+1;omega)]
       exact g3w.block i hi hS⟩
    ·gi_wp2_with fail
     refine⟨hkf,hkp,⟨⟨hm5,fun d' hd' hi'=>(wbB.1 hd').elim (fun h=>g2 d' h hi') (fun h=>by
      have e:=wbC.1 h;rw[e,hdn];exact hs)⟩,g3'⟩,⟨g4',g5'⟩,g6'⟩
  |true=>
   have h1:=waV (fun V=>HW.out l1 f1 u1 n V)
   rw[hw1] at h1;clear hm hall hrl hx ha hf
   gi_wp2_with fail
   refine⟨trivial,?_⟩;refine(h1.out _).mono ?_;rintro e w3 ⟨rfl,hq3⟩;clear c5 c6 c7 c8 hcx c4 hfz cs0 h1
   gi_wp2_with fail
   refine⟨trivial,?_⟩;obtain⟨hcx,⟨z',c4⟩,hfz,_,_,hbs4⟩:=HC.out w3 hq3;have hl4:=waR w3 _ c4;have e0:(w3).cell? ⟨Bs,0,none⟩=some (.int .i64 n):=by simp[World.cell?,hbs4]
   have e1:(w3).cell? ⟨Bs,1,none⟩=some (.int .i64 v1):=by simp[World.cell?,hbs4]
   have e2:(w3).cell? ⟨Bs,2,none⟩=some (.int .i64 v2):=by simp[World.cell?,hbs4]
   have e3:(w3).cell? ⟨Bs,3,none⟩=some (.int .i64 v3):=by simp[World.cell?,hbs4]
   have e4:(w3).cell? ⟨Bs,4,none⟩=some (.int .i64 v4):=by simp[World.cell?,hbs4]
   have e5:(w3).cell? ⟨Bs,5,none⟩=some (.int .i64 v5):=by simp[World.cell?,hbs4]
   have e6:(w3).cell? ⟨Bs,6,none⟩=some (.int .i64 v6):=by simp[World.cell?,hbs4]
   have e7:(w3).cell? ⟨Bs,7,none⟩=some (.int .i64 v7):=by simp[World.cell?,hbs4]
   have e8:(w3).cell? ⟨Bs,8,none⟩=some (.int .i64 v8):=by simp[World.cell?,hbs4]
   have e9:(w3).cell? ⟨Bs,9,none⟩=some (.int .i64 v9):=by simp[World.cell?,hbs4]
   have hne1:¬x.b=Bs:=by omega
   have hne2:¬Bs=x.b:=by omega
   clear hbs4
   gi_wp2_with fail
   refine⟨trivial,?_⟩;refine(HDd.out _ ((HB.out w3 hq3).1.1.1.count _)).mono ?_;rintro e w5 ⟨hres,hm5,hr5⟩;have hrV:RlS (x.mv L1.length L2.length) V w5:=(((RlS.refl _ V).below hq3 (waJ _)).set ⟨x.b,4,none⟩ _ (.inl rfl)).trans hr5;have hkp:KpM (x.mv L1.length L2.length) V w5:=KpM.of_meet hrV;have hkf:KeepsFrom w2.heap.size V w5:=⟨hrV.size,fun i o h1 h2 _=>(hrV.block i (waL.1 h2).1 (nM _ (by have:=hbW2.size;omega))).trans h2⟩
   obtain⟨⟨⟨g1,g2⟩,g3⟩,⟨g4,g5⟩,g6⟩:=HB.out V (waC _ V);have g3':=g3.trans hrV;have g4':=zaF g4 hrV (nM _ oQ);have g5':=zaF g5 hrV (nM _ oQ);have g6':=zaF g6 hrV (nM _ oQ);clear g1 g3 g4 g5 g6 hrV HB HC HDd c4 e0 e1 e2 e3 e4 e5 e6 e7 e8 e9 hr5 hcx hfz;obtain(⟨s,rfl,hs⟩|⟨rfl,hs⟩):=hres
   ·have hs8:=hs.1;have ca:=g5'.cell;have cf:=g6'.cell;have fa:=g5'.frozen;have ff:=g6'.frozen;have lta:=g5'.lt;have ltf:=g6'.lt;have g3w:=((RlS.refl _ W).below hbW2 (waJ _)).trans g3'
    gi_wp2_with fail
    have hz2:=hbW2.size;have r1:RlS (·=W.heap.size+1) w5 (w5.setCell ⟨W.heap.size+1,0,none⟩ (.int .i64 (n * 86400+s))):=(RlS.refl (·=W.heap.size+1) w5).set _ _ rfl;have r2:RlS (·=W.heap.size+1+1) (w5.setCell ⟨W.heap.size+1,0,none⟩ (.int .i64 (n * 86400+s))) ((w5.setCell ⟨W.heap.size+1,0,none⟩ (.int .i64 (n * 86400+s))).setCell ⟨W.heap.size+1+1,0,none⟩ (.bool true)):=(RlS.refl (·=W.heap.size+1+1) _).set _ _ rfl;refine⟨⟨by simpa using hkf.size,fun k o h1 h2 h3=>?_⟩,n,s,⟨⟨(hm5.own r1 oQ ⟨_,_,_,g5',by decide⟩).own r2 oQ ⟨_,_,_,g6'.other oQ _,by decide⟩,rfl,by omega,by omega,hs⟩,?_⟩,(g5'.set _).other oQ _,(g6'.other oQ _).set _⟩
    ·rw[wbJ _ _ _ _ (by show k≠W.heap.size+1+1;omega),wbJ _ _ _ _ (by show k≠W.heap.size+1;omega)]
     exact hkf.same k o h1 h2 h3
    ·exact⟨g3w.os,g3w.tape,g3w.output,by simpa using g3w.size,fun i hi hS=>by
      rw[wbJ _ _ _ _ (by show i≠W.heap.size+1+1;omega),wbJ _ _ _ _ (by show i≠W.heap.size+1;omega)]
      exact g3w.block i hi hS⟩
   ·gi_wp2_with fail
    refine⟨hkf,hkp,⟨⟨hm5,fun d' hd' hi'=>(wbB.1 hd').elim (fun h=>g2 d' h hi') (fun h=>by
     have e:=wbC.1 h;rw[e,hdn];exact hs)⟩,g3'⟩,⟨g4',g5'⟩,g6'⟩
 case done=>
  rintro D xs V hD rfl ⟨⟨⟨hm,hall⟩,hrl⟩,⟨hx,ha⟩,hf⟩ hKd;have ca:=ha.cell;have cf:=hf.cell;have fa:=ha.frozen;have ff:=hf.frozen;have lta:=ha.lt;have ltf:=hf.lt;have hz2:=hbW2.size;have g3w:=((RlS.refl _ W).below hbW2 (waJ _)).trans hrl
  gi_wp2_with fail
  have r1:RlS (·=W.heap.size+1) V (V.setCell ⟨W.heap.size+1,0,none⟩ (.int .i64 0)):=(RlS.refl (·=W.heap.size+1) V).set _ _ rfl;have r2:RlS (·=W.heap.size+1+1) (V.setCell ⟨W.heap.size+1,0,none⟩ (.int .i64 0)) ((V.setCell ⟨W.heap.size+1,0,none⟩ (.int .i64 0)).setCell ⟨W.heap.size+1+1,0,none⟩ (.bool false)):=(RlS.refl (·=W.heap.size+1+1) _).set _ _ rfl;have hm':=(hm.own r1 oQ ⟨_,_,_,ha,by decide⟩).own r2 oQ ⟨_,_,_,hf.other oQ _,by decide⟩
  have ha':=(ha.set (.int .i64 0)).other (show W.heap.size+1≠W.heap.size+1+1 by omega) (.bool false)
  have hf':Boxed ((V.setCell ⟨W.heap.size+1,0,none⟩ (.int .i64 0)).setCell ⟨W.heap.size+1+1,0,none⟩ (.bool false)) (W.heap.size+2) 4 (.bool false):=(hf.other oQ (.int .i64 0)).set (.bool false);have hKd':((V.setCell ⟨W.heap.size+1,0,none⟩ (.int .i64 0)).setCell ⟨W.heap.size+1+1,0,none⟩ (.bool false)).heap[D]?=some (.deferred (some [])):=by
   rw[wbJ _ _ _ _ (by show D≠W.heap.size+1+1;omega),wbJ _ _ _ _ (by show D≠W.heap.size+1;omega)];exact hKd
  have g3v:RlS (x.mv L1.length L2.length) W ((V.setCell ⟨W.heap.size+1,0,none⟩ (.int .i64 0)).setCell ⟨W.heap.size+1+1,0,none⟩ (.bool false)):=⟨g3w.os,g3w.tape,g3w.output,by simpa using g3w.size,fun i hi hS=>by
   rw[wbJ _ _ _ _ (by show i≠W.heap.size+1+1;omega),wbJ _ _ _ _ (by show i≠W.heap.size+1;omega)]
   exact g3w.block i hi hS⟩
  clear hm ha hf hKd g3w r1 r2 ca cf fa ff hrl;generalize ((V.setCell ⟨W.heap.size+1,0,none⟩ (.int .i64 0)).setCell ⟨W.heap.size+1+1,0,none⟩ (.bool false))=V6 at *;have hall':∀n,n∈zcI (mxI (zhR f1 u1 f2 u2 2) 0) (mnI (zhS f1 u1 f2 u2 2) 146096)→inW f1 u1 f2 u2 n=true→zvr L1 L2 n:=fun n hn h=>hall ⟨n,hn⟩ (List.mem_attach _ _) h
  have HRes:Hid ((Ending.returned (.tuple #[.int .i64 0,.bool false])=.returned (.tuple #[.int .i64 0,.bool false]))∧∀n,n∈zcI (mxI (zhR f1 u1 f2 u2 2) 0) (mnI (zhS f1 u1 f2 u2 2) 146096)→inW f1 u1 f2 u2 n=true→zvr L1 L2 n):=⟨rfl,hall'⟩;clear hall hall';have hr:Rl 0 0 x.D V6 (V6.putObj D (.deferred none)):=(Rl.refl _ _ _ _).put _ hKd' rfl oQ;have HMf:=waV (hm'.rl00 hr (waJ _));have HRf:=waV (show RlS (x.mv L1.length L2.length) W (V6.putObj D (.deferred none)) from zdT hbW2.size () V6 _ (some D) g3v (grownBy_putObj' V6 D _) (fun r e=>by cases e;exact⟨hD,_,hKd',rfl⟩))
  have q1:=(show Boxed (V6.putObj D (.deferred none)) _ _ _ from hr.block _ _ ha' (.inr (waK _)) (.inr rfl)).cell
  have q2:=(show Boxed (V6.putObj D (.deferred none)) _ _ _ from hr.block _ _ hf' (.inr (waK _)) (.inr rfl)).cell
  refine⟨by simp,.inl ⟨_,_,rfl,run_takeDeferred hKd',?_⟩⟩
  refine⟨.tuple #[.int .i64 0,.bool false],?_,?_⟩
  ·rw[zhF rfl]
   go_simp
  exact⟨.inr HRes.out,HMf.out,HRf.out⟩
 case stop=>
  rintro D c pre V6 hD _ ⟨n,s,⟨⟨hm',rfl,hn0,hn1,hs⟩,g3v⟩,ha',hf'⟩ hKd';have hz2:=hbW2.size
  gi_wp2_with fail
  have HRes:Hid (∃(n':Int) (s':Nat),(Ending.returned (.tuple #[.int .i64 (n * 86400+s),.bool true])=.returned (.tuple #[.int .i64 (n' * 86400+s'),.bool true]))∧0≤n'∧n'<146097∧zen (fun s=>zdg (zao L1 n' s) (zao L2 n' s)) 0 s'):=⟨n,s,rfl,hn0,hn1,hs⟩
  have hr:Rl 0 0 x.D V6 (V6.putObj D (.deferred none)):=(Rl.refl _ _ _ _).put _ hKd' rfl oQ;have HMf:=waV (hm'.rl00 hr (waJ _));have HRf:=waV (show RlS (x.mv L1.length L2.length) W (V6.putObj D (.deferred none)) from zdT hbW2.size () V6 _ (some D) g3v (grownBy_putObj' V6 D _) (fun r e=>by cases e;exact⟨hD,_,hKd',rfl⟩))
  have q1:=(show Boxed (V6.putObj D (.deferred none)) _ _ _ from hr.block _ _ ha' (.inr (waK _)) (.inr rfl)).cell
  have q2:=(show Boxed (V6.putObj D (.deferred none)) _ _ _ from hr.block _ _ hf' (.inr (waK _)) (.inr rfl)).cell
  refine⟨by simp,.inl ⟨_,_,rfl,run_takeDeferred hKd',?_⟩⟩
  refine⟨.tuple #[.int .i64 (n * 86400+s),.bool true],?_,?_⟩
  ·rw[zhF rfl]
   go_simp
  exact⟨.inl HRes.out,HMf.out,HRf.out⟩
end Go.Proofs.YtgedndlifiihkaaGreatDoor
