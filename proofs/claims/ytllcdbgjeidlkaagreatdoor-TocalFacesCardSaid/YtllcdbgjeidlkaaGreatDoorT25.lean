/- A part of the proof: WMeet4 -/
import Derived.Test.YtllcdbgjeidlkaaGreatDoorT24
set_option maxHeartbeats 80000000
set_option maxRecDepth 100000
set_option linter.unusedSimpArgs false
set_option linter.unusedVariables false
namespace Go.Proofs.YtllcdbgjeidlkaaGreatDoor
open Go.Proofs.Tryz
open Go.RowKit
open Go.Maps
def zbI (n:Nat) (L:List Cl):Int:=if 8<n then 5 else if zeJ L=true then 0 else 1
def hF (L:List Cl):Int:=zaw (zax L).1 (zax L).2
def hU (L:List Cl):Int:=zao (zax L).1 (zax L).2
def zm9 (g n1 n2:Nat) (L1 L2:List Cl) (h:Bool->Bool->Bool) (W:World) (e:Ending) (W':World):Prop:=
 Below W.heap.size W W'/\((zbI n1 L1≠0/\e=.returned (.tuple #[.pointer none,.int .i64 (zbI n1 L1)]))\/(zbI n1 L1=0/\zbI n2 L2≠0/\e=.returned (.tuple #[.pointer none,.int .i64 (zbI n2 L2)]))\/
  (zbI n1 L1=0/\zbI n2 L2=0/\∃x:AskD,e=.returned (.tuple #[.pointer (some ⟨x.b,0,none⟩),.int .i64 0])/\x.g=g/\W.heap.size<=x.b/\W.heap.size<=x.fm/\x.D=W'.heap.size/\W.heap.size<=x.lo1/\W.heap.size<=x.lo2/\MeetAt W' x L1 L2 h (hF L1) (hU L1) (hF L2) (hU L2)))
theorem zg8.err {n:Nat} {L:List Cl} {W W':World} {e:Ending} (h:zg8 n L W e W'):Below W.heap.size W W'/\((zbI n L≠0/\e=.returned (.tuple #[.pointer none,.int .i64 (zbI n L)]))\/(zbI n L=0/\n<=8/\zeJ L=true/\∃rd:RollD,e=.returned (.tuple #[.pointer (some ⟨rd.b,0,none⟩),.int .i64 0])/\
 ∀(V:World) (D:Nat) (S:Nat->Prop),RlS S W' V->(∀k,S k->k<W.heap.size/\k≠0)->W'.heap.size<=D->D<=V.heap.size->RollAt V rd L W.heap.size W'.heap.size D)):=by
 obtain⟨hb,(⟨h1,h2⟩|⟨h1,h2,h3⟩|⟨h1,h2,h3⟩)⟩:=h
 ·refine⟨hb,.inl ?_⟩;have:zbI n L=5:=if_pos h1;rw[this];exact⟨by decide,h2⟩
 ·refine⟨hb,.inl ?_⟩;have:zbI n L=1:=by unfold zbI;rw[if_neg (by omega),if_neg (by rw[h2];decide)]
  rw[this];exact⟨by decide,h3⟩
 ·refine⟨hb,.inr ⟨?_,h1,h2,h3⟩⟩;unfold zbI;rw[if_neg (by omega),if_pos h2]
structure BegR (W V:World) (b fm g:Nat) (v0 v1 z5 z6 z7 z8:Value):Prop where
 bl:Below W.heap.size W V
 bb:W.heap.size<=b/\W.heap.size<=fm/\b≠fm
 c0:V.cell? ⟨b,0,none⟩=some v0
 c1:V.cell? ⟨b,1,none⟩=some v1
 c2:V.cell? ⟨b,2,none⟩=some (.func (.func g) #[] #[])
 c3:V.cell? ⟨b,3,none⟩=some (.map (some fm))
 c4:V.cell? ⟨b,4,none⟩=some (.int .i64 0)
 c5:V.cell? ⟨b,5,none⟩=some z5
 c6:V.cell? ⟨b,6,none⟩=some z6
 c7:V.cell? ⟨b,7,none⟩=some z7
 c8:V.cell? ⟨b,8,none⟩=some z8
 fz:∀j,V.frozen? ⟨b,j,none⟩=false
 fn:V.heap[fm]?=some (.map #[] 0)
theorem BegR.below {W V V':World} {b fm g:Nat} {v0 v1 z5 z6 z7 z8:Value} (k:BegR W V b fm g v0 v1 z5 z6 z7 z8) (hb:Below V.heap.size V V'):BegR W V' b fm g v0 v1 z5 z6 z7 z8:=by
 have hr:RlS (fun _=>False) V V':=(RlS.refl _ V).below hb (waJ _)
 have nf:¬False:=fun g=>g
 have hlt:=waR V _ k.c0;exact⟨k.bl.trans (hb.mono k.bl.size),k.bb,hr.cell k.c0 nf,hr.cell k.c1 nf,hr.cell k.c2 nf,hr.cell k.c3 nf,hr.cell k.c4 nf,hr.cell k.c5 nf,hr.cell k.c6 nf,hr.cell k.c7 nf,hr.cell k.c8 nf,fun j=>(zaX hr hlt nf).trans (k.fz j),(hr.block _ (waL.1 k.fn).1 nf).trans k.fn⟩
theorem BegR.lt {W V:World} {b fm g:Nat} {v0 v1 z5 z6 z7 z8:Value} (k:BegR W V b fm g v0 v1 z5 z6 z7 z8):b<V.heap.size/\fm<V.heap.size:=⟨waR V _ k.c0,(waL.1 k.fn).1⟩
theorem BegR.setBl {W V:World} {b fm g:Nat} {v0 v1 z5 z6 z7 z8:Value} (k:BegR W V b fm g v0 v1 z5 z6 z7 z8) (j:Nat) (v:Value):Below W.heap.size W (V.setCell ⟨b,j,none⟩ v):=k.bl.setCell (p:=⟨b,j,none⟩) k.bb.1 v
theorem BegR.setFz {W V:World} {b fm g:Nat} {v0 v1 z5 z6 z7 z8:Value} (k:BegR W V b fm g v0 v1 z5 z6 z7 z8) (i:Nat) (v:Value) (j:Nat):(V.setCell ⟨b,i,none⟩ v).frozen? ⟨b,j,none⟩=false:=by
 simp[k.fz j]
theorem BegR.setFn {W V:World} {b fm g:Nat} {v0 v1 z5 z6 z7 z8:Value} (k:BegR W V b fm g v0 v1 z5 z6 z7 z8) (i:Nat) (v:Value):(V.setCell ⟨b,i,none⟩ v).heap[fm]?=some (.map #[] 0):=by
 have hr:RlS (·=b) V (V.setCell ⟨b,i,none⟩ v):=(RlS.refl (·=b) V).set ⟨b,i,none⟩ v rfl;exact(hr.block _ k.lt.2 (fun g=>k.bb.2.2 (Eq.symm g))).trans k.fn
theorem BegR.set0 {W V:World} {b fm g:Nat} {v0 v1 z5 z6 z7 z8:Value} (k:BegR W V b fm g v0 v1 z5 z6 z7 z8) (v:Value):BegR W (V.setCell ⟨b,0,none⟩ v) b fm g v v1 z5 z6 z7 z8:=by
 have o:∀j,j≠0->∀{u},V.cell? ⟨b,j,none⟩=some u->(V.setCell ⟨b,0,none⟩ v).cell? ⟨b,j,none⟩=some u:=fun j hj u hu=>(waU _ _ _ _ (by first|(simp;done)|(simp;omega))).trans hu
 exact⟨k.setBl 0 v,k.bb,waT _ _ _ k.c0,o 1 dQ k.c1,o 2 dQ k.c2,o 3 dQ k.c3,o 4 dQ k.c4,o 5 dQ k.c5,o 6 dQ k.c6,o 7 dQ k.c7,o 8 dQ k.c8,k.setFz 0 v,k.setFn 0 v⟩
theorem BegR.set1 {W V:World} {b fm g:Nat} {v0 v1 z5 z6 z7 z8:Value} (k:BegR W V b fm g v0 v1 z5 z6 z7 z8) (v:Value):BegR W (V.setCell ⟨b,1,none⟩ v) b fm g v0 v z5 z6 z7 z8:=by
 have o:∀j,j≠1->∀{u},V.cell? ⟨b,j,none⟩=some u->(V.setCell ⟨b,1,none⟩ v).cell? ⟨b,j,none⟩=some u:=fun j hj u hu=>(waU _ _ _ _ (by first|(simp;done)|(simp;omega))).trans hu
 exact⟨k.setBl 1 v,k.bb,o 0 dQ k.c0,waT _ _ _ k.c1,o 2 dQ k.c2,o 3 dQ k.c3,o 4 dQ k.c4,o 5 dQ k.c5,o 6 dQ k.c6,o 7 dQ k.c7,o 8 dQ k.c8,k.setFz 1 v,k.setFn 1 v⟩
theorem BegR.set5 {W V:World} {b fm g:Nat} {v0 v1 z5 z6 z7 z8:Value} (k:BegR W V b fm g v0 v1 z5 z6 z7 z8) (v:Value):BegR W (V.setCell ⟨b,5,none⟩ v) b fm g v0 v1 v z6 z7 z8:=by
 have o:∀j,j≠5->∀{u},V.cell? ⟨b,j,none⟩=some u->(V.setCell ⟨b,5,none⟩ v).cell? ⟨b,j,none⟩=some u:=fun j hj u hu=>(waU _ _ _ _ (by first|(simp;done)|(simp;omega))).trans hu
 exact⟨k.setBl 5 v,k.bb,o 0 dQ k.c0,o 1 dQ k.c1,o 2 dQ k.c2,o 3 dQ k.c3,o 4 dQ k.c4,waT _ _ _ k.c5,o 6 dQ k.c6,o 7 dQ k.c7,o 8 dQ k.c8,k.setFz 5 v,k.setFn 5 v⟩
theorem BegR.set6 {W V:World} {b fm g:Nat} {v0 v1 z5 z6 z7 z8:Value} (k:BegR W V b fm g v0 v1 z5 z6 z7 z8) (v:Value):BegR W (V.setCell ⟨b,6,none⟩ v) b fm g v0 v1 z5 v z7 z8:=by
 have o:∀j,j≠6->∀{u},V.cell? ⟨b,j,none⟩=some u->(V.setCell ⟨b,6,none⟩ v).cell? ⟨b,j,none⟩=some u:=fun j hj u hu=>(waU _ _ _ _ (by first|(simp;done)|(simp;omega))).trans hu
 exact⟨k.setBl 6 v,k.bb,o 0 dQ k.c0,o 1 dQ k.c1,o 2 dQ k.c2,o 3 dQ k.c3,o 4 dQ k.c4,o 5 dQ k.c5,waT _ _ _ k.c6,o 7 dQ k.c7,o 8 dQ k.c8,k.setFz 6 v,k.setFn 6 v⟩
theorem BegR.set7 {W V:World} {b fm g:Nat} {v0 v1 z5 z6 z7 z8:Value} (k:BegR W V b fm g v0 v1 z5 z6 z7 z8) (v:Value):BegR W (V.setCell ⟨b,7,none⟩ v) b fm g v0 v1 z5 z6 v z8:=by
 have o:∀j,j≠7->∀{u},V.cell? ⟨b,j,none⟩=some u->(V.setCell ⟨b,7,none⟩ v).cell? ⟨b,j,none⟩=some u:=fun j hj u hu=>(waU _ _ _ _ (by first|(simp;done)|(simp;omega))).trans hu
 exact⟨k.setBl 7 v,k.bb,o 0 dQ k.c0,o 1 dQ k.c1,o 2 dQ k.c2,o 3 dQ k.c3,o 4 dQ k.c4,o 5 dQ k.c5,o 6 dQ k.c6,waT _ _ _ k.c7,o 8 dQ k.c8,k.setFz 7 v,k.setFn 7 v⟩
theorem BegR.set8 {W V:World} {b fm g:Nat} {v0 v1 z5 z6 z7 z8:Value} (k:BegR W V b fm g v0 v1 z5 z6 z7 z8) (v:Value):BegR W (V.setCell ⟨b,8,none⟩ v) b fm g v0 v1 z5 z6 z7 v:=by
 have o:∀j,j≠8->∀{u},V.cell? ⟨b,j,none⟩=some u->(V.setCell ⟨b,8,none⟩ v).cell? ⟨b,j,none⟩=some u:=fun j hj u hu=>(waU _ _ _ _ (by first|(simp;done)|(simp;omega))).trans hu
 exact⟨k.setBl 8 v,k.bb,o 0 dQ k.c0,o 1 dQ k.c1,o 2 dQ k.c2,o 3 dQ k.c3,o 4 dQ k.c4,o 5 dQ k.c5,o 6 dQ k.c6,o 7 dQ k.c7,waT _ _ _ k.c8,k.setFz 8 v,k.setFn 8 v⟩
theorem zqE (A1 A2:Option Addr) (n1 n2 k1 k2 g:Nat) (L1 L2:List Cl) (h:Bool->Bool->Bool) (W:World) (hA1:zbh W A1 n1 L1) (hn1:n1<=4294967296) (hl1:A1=none->n1=0) (hbit1:∀c,c∈L1->zbC c/\c.s<=9223372036854775807)
 (hA2:zbh W A2 n2 L2) (hn2:n2<=4294967296) (hl2:A2=none->n2=0) (hbit2:∀c,c∈L2->zbC c/\c.s<=9223372036854775807) (hw:Tz W) (hf:zqs g h):
 Calls prog 65 #[.slice A1 n1 k1,.slice A2 n2 k2,.func (.func g) #[] #[]] W (zm9 g n1 n2 L1 L2 h W):=by
 have HN1:=waV (fun V (hV:Below W.heap.size W V)=>zgr A1 n1 k1 L1 V (hA1.below hV (waJ _)) hn1 hl1 hbit1 (hw.below hV))
 have HN2:=waV (fun V (hV:Below W.heap.size W V)=>zgr A2 n2 k2 L2 V (hA2.below hV (waJ _)) hn2 hl2 hbit2 (hw.below hV))
 have HH1:=waV (fun V (hV:Below W.heap.size W V)=>zjd A1 n1 k1 L1 V (hA1.below hV (waJ _)) oQ)
 have HH2:=waV (fun V (hV:Below W.heap.size W V)=>zjd A2 n2 k2 L2 V (hA2.below hV (waJ _)) oQ)
 have htz:0<W.heap.size:=waR W _ (hw 0 dQ);have HF:=waV hf;clear hA1 hA2 hn1 hn2 hl1 hl2 hbit1 hbit2 hw hf;have hmm:=@run_makeMap prog;have HS:Hid (∀V0,V0=(W.alloc (.map #[] 0)).alloc (.cells #[.pointer none,.pointer none,.func (.func g) #[] #[],.map (some W.heap.size),.int .i64 0,.int .i64 0,.int .i64 0,.int .i64 0,.int .i64 0] 132)->BegR W V0 (W.heap.size+1) W.heap.size g (.pointer none) (.pointer none) (.int .i64 0) (.int .i64 0) (.int .i64 0) (.int .i64 0)):=fun V0 hV0=>by
  subst hV0;have h1:(W.alloc (.map #[] 0)).heap.size=W.heap.size+1:=by simp
  refine⟨((waC _ W).alloc (waJ _) _).alloc (by simp) _,⟨by omega,waJ _,by omega⟩,?_,?_,?_,?_,?_,?_,?_,?_,?_,fun j=>?_,(Below.heap_alloc _ _ _ (by simp)).trans (World.alloc_heap_new W _)⟩
  all_goals first|(rw[<-h1];exact zaa rfl rfl)|skip
  unfold World.frozen?;rw[show W.heap.size+1=(W.alloc (.map #[] 0)).heap.size by simp,World.alloc_heap_new]
  simp
 go_enter func65,ntmps65;go_wp2_with fail;have HB:=waV (HS.out _ rfl);have hbl:=HB.out.bl;have hlt:=HB.out.lt;have c0:=HB.out.c0;have hfz:=HB.out.fz;clear HS;generalize ((W.alloc (.map #[] 0)).alloc (.cells #[.pointer none,.pointer none,.func (.func g) #[] #[],.map (some W.heap.size),.int .i64 0,.int .i64 0,.int .i64 0,.int .i64 0,.int .i64 0] 132))=V0 at *;generalize hbb:W.heap.size+1=b at *;have HE1:=waV (fun w' e (h:zg8 n1 L1 V0 e w')=>h.err)
 refine(HN1.out _ hbl).mono ?_;intro e w1 hr1;obtain⟨hb1,hr1⟩:=HE1.out _ _ hr1;clear HE1 HN1;have HB1:=waV (HB.out.below hb1);obtain(⟨he,rfl⟩|⟨he1,hn1,hs1,d1,rfl,hR1⟩):=hr1
 ·have ct:=HB1.out.c0;have hfz1:=HB1.out.fz;generalize hz:zbI n1 L1=z at *;go_wp2
  (try simp only[Exit.inBlock,Exit.then])
  refine waY (wbM rfl _ _ _) rfl ?_;subst hz;exact⟨(HB1.out.set0 _).bl,.inl ⟨he,rfl⟩⟩
 ·have HR1:=waV hR1;clear hR1;have ct:=HB1.out.c0;have hfz1:=HB1.out.fz;go_wp2_with fail;have hl1:=HB1.out.lt;have hB1:=HB1.out.set0 (.pointer (some ⟨d1.b,0,none⟩));have HBa:=waV hB1;have hra:RlS (·=b) w1 (w1.setCell ⟨b,0,none⟩ (.pointer (some ⟨d1.b,0,none⟩))):=(RlS.refl (·=b) w1).set ⟨b,0,none⟩ _ rfl;have HRa:=waV hra;clear hra hB1;have hbla:=HBa.out.bl;have hza:(w1.setCell ⟨b,0,none⟩ (.pointer (some ⟨d1.b,0,none⟩))).heap.size=w1.heap.size:=by simp
  generalize (w1.setCell ⟨b,0,none⟩ (.pointer (some ⟨d1.b,0,none⟩)))=V1 at *;have HE2:=waV (fun w' e (h:zg8 n2 L2 V1 e w')=>h.err)
  refine(HN2.out _ hbla).mono ?_;intro e w2 hr2;obtain⟨hb2,hr2⟩:=HE2.out _ _ hr2;clear HE2 HN2;have HB2:=waV (HBa.out.below hb2);have ct:=HB2.out.c1;have hfz2:=HB2.out.fz;obtain(⟨he,rfl⟩|⟨he2,hn2,hs2,d2,rfl,hR2⟩):=hr2
  ·generalize hz:zbI n2 L2=z at *;go_wp2
   (try simp only[Exit.inBlock,Exit.then])
   refine waY (wbM rfl _ _ _) rfl ?_;subst hz;exact⟨(HB2.out.set1 _).bl,.inr (.inl ⟨he1,he,rfl⟩)⟩
  ·have HR2:=waV hR2;clear hR2;go_wp2_with fail;have hl2:=HB2.out.lt;have hB2:=HB2.out.set1 (.pointer (some ⟨d2.b,0,none⟩));have HBb:=waV hB2;have hrb:RlS (·=b) w2 (w2.setCell ⟨b,1,none⟩ (.pointer (some ⟨d2.b,0,none⟩))):=(RlS.refl (·=b) w2).set ⟨b,1,none⟩ _ rfl;have HRb:=waV hrb;clear hrb hB2;have hblb:=HBb.out.bl;have hzb:(w2.setCell ⟨b,1,none⟩ (.pointer (some ⟨d2.b,0,none⟩))).heap.size=w2.heap.size:=by simp
   generalize (w2.setCell ⟨b,1,none⟩ (.pointer (some ⟨d2.b,0,none⟩)))=V2 at *;refine(HH1.out _ hblb).mono ?_;rintro e w3 ⟨rfl,hb3⟩;have HB3:=waV (HBb.out.below hb3);have hbl3:=HB3.out.bl;go_wp2_with fail;refine(HH2.out _ hbl3).mono ?_;rintro e w4 ⟨rfl,hb4⟩;have HB4:=waV (HB3.out.below hb4);have c5:=HB4.out.c5;have c6:=HB4.out.c6;have c7:=HB4.out.c7;have c8:=HB4.out.c8;have hfz4:=HB4.out.fz;have hl4:=HB4.out.lt;go_wp2_with fail
   (try simp only[Exit.inBlock,Exit.then])
   refine waY (wbM rfl _ _ _) rfl ?_;have hB5:=(((HB4.out.set5 (.int .i64 (hF L1))).set6 (.int .i64 (hU L1))).set7 (.int .i64 (hF L2))).set8 (.int .i64 (hU L2));have hr5:RlS (·=b) w4 ((((w4.setCell ⟨b,5,none⟩ (.int .i64 (hF L1))).setCell ⟨b,6,none⟩ (.int .i64 (hU L1))).setCell ⟨b,7,none⟩ (.int .i64 (hF L2))).setCell ⟨b,8,none⟩ (.int .i64 (hU L2))):=((((RlS.refl (·=b) w4).set ⟨b,5,none⟩ _ rfl).set ⟨b,6,none⟩ _ rfl).set ⟨b,7,none⟩ _ rfl).set ⟨b,8,none⟩ _ rfl;show zm9 g n1 n2 L1 L2 h W _ ((((w4.setCell ⟨b,5,none⟩ (.int .i64 (hF L1))).setCell ⟨b,6,none⟩ (.int .i64 (hU L1))).setCell ⟨b,7,none⟩ (.int .i64 (hF L2))).setCell ⟨b,8,none⟩ (.int .i64 (hU L2)));have hz5:((((w4.setCell ⟨b,5,none⟩ (.int .i64 (hF L1))).setCell ⟨b,6,none⟩ (.int .i64 (hU L1))).setCell ⟨b,7,none⟩ (.int .i64 (hF L2))).setCell ⟨b,8,none⟩ (.int .i64 (hU L2))).heap.size=w4.heap.size:=by simp
   generalize ((((w4.setCell ⟨b,5,none⟩ (.int .i64 (hF L1))).setCell ⟨b,6,none⟩ (.int .i64 (hU L1))).setCell ⟨b,7,none⟩ (.int .i64 (hF L2))).setCell ⟨b,8,none⟩ (.int .i64 (hU L2)))=V5 at *;have z1:=hb1.size;have z2:=hb2.size;have z3:=hb3.size;have z4:=hb4.size;have r25:RlS (·=b) w2 V5:=((HRb.out.below hb3 oQ).below hb4 oQ).trans hr5;have r15:RlS (·=b) w1 V5:=(HRa.out.below hb2 oQ).trans r25;have hlo:b<V0.heap.size:=hlt.1;have hbz:0<b:=by omega
   refine⟨hB5.bl,.inr (.inr ⟨he1,he2,⟨b,W.heap.size,g,d1,d2,V0.heap.size,w1.heap.size,V1.heap.size,w2.heap.size,V5.heap.size⟩,rfl,rfl,by show W.heap.size<=b;omega,waJ _,rfl,by show W.heap.size<=V0.heap.size;omega,by show W.heap.size<=V1.heap.size;omega,?_⟩)⟩
   refine⟨hB5.c0,hB5.c1,hB5.c2,hB5.c3,⟨0,hB5.c4⟩,hB5.c5,hB5.c6,hB5.c7,hB5.c8,hB5.fz,?_,?_,by show w1.heap.size<=V1.heap.size;omega,⟨hB5.bb.2.2.symm.symm,hlo,hlt.2,by show V0.heap.size<=w1.heap.size;omega,hbz,htz⟩,⟨#[],0,hB5.fn,FineE.nil _ _ _⟩,HF.out⟩
   ·exact HR1.out V5 V5.heap.size (·=b) r15 (fun k hk=>by have:k=b:=hk;omega) oQ (waJ _)
   ·exact HR2.out V5 V5.heap.size (·=b) r25 (fun k hk=>by have:k=b:=hk;omega) oQ (waJ _)
end Go.Proofs.YtllcdbgjeidlkaaGreatDoor
