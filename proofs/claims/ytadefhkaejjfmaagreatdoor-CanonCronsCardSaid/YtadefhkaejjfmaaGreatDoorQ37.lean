/- A part of the proof: WTc4 WTc5 RWhole -/
import Derived.Test.YtadefhkaejjfmaaGreatDoorQ31
import Derived.Test.YtadefhkaejjfmaaGreatDoorQ36
import Derived.Test.YtadefhkaejjfmaaGreatDoorQ15
import Derived.Test.YtadefhkaejjfmaaGreatDoorQ28
import Derived.Test.YtadefhkaejjfmaaGreatDoorQ30
import Derived.Test.YtadefhkaejjfmaaGreatDoorQ21
set_option maxHeartbeats 80000000
set_option maxRecDepth 100000
set_option linter.unusedSimpArgs false
set_option linter.unusedVariables false
namespace Go.Proofs.YtadefhkaejjfmaaGreatDoor
open Go.Proofs.Tryz
open Go.RowKit
def zbd:Array Value:=#[.slice none 0 0,.slice none 0 0,.slice none 0 0,.slice none 0 0,.slice none 0 0]
structure TmS (W w':World) (g:Nat→Value):Prop where
 b:Below W.heap.size W w'
 f:w'.heap[W.heap.size]?=some (.cells (za5 g) 43 (0,0))
 c:w'.heap[W.heap.size+1]?=some (.cells zbd 60 (0,0))
theorem TmS.below {W w' w'':World} {g:Nat→Value} (h:TmS W w' g) (hb:Below w'.heap.size w' w''):TmS W w'' g:=
 ⟨h.b.trans (hb.mono h.b.size),(hb.block _ (waL.1 h.f).1).trans h.f,(hb.block _ (waL.1 h.c).1).trans h.c⟩
theorem TmS.cell {W w':World} {g:Nat→Value} (h:TmS W w' g) (i:Nat) {v:Value} (hi:(za5 g)[i]?=some v):w'.cell? ⟨W.heap.size,i,none⟩=some v:=by simp[World.cell?,h.f,hi]
theorem TmS.ld {W w':World} {g:Nat→Value} (h:TmS W w' g):∀j v,(za5 g)[j]?=some v→w'.cell? ⟨W.heap.size,j,none⟩=some v:=fun j v hj=>h.cell j hj
theorem TmS.line {W w':World} {g:Nat→Value} (h:TmS W w' g):(∀i,i<5→w'.cell? ⟨W.heap.size+1,i,none⟩=some (.slice none 0 0))∧(∀i,w'.frozen? ⟨W.heap.size+1,i,none⟩=false)∧W.heap.size+1<w'.heap.size:=by
 refine⟨fun i hi=>?_,fun i=>by simp[World.frozen?,h.c],(waL.1 h.c).1⟩
 obtain rfl|rfl|rfl|rfl|rfl:i=0∨i=1∨i=2∨i=3∨i=4:=by omega
 all_goals simp[World.cell?,h.c,zbd]
def zv5 (mi ho mo:Nat) (w:World) (e:Ending) (w':World):Prop:=∃v0 v1 v3,e=.returned (.agg #[v0,v1,.slice none 0 0,v3,.slice none 0 0])∧zav w' w.heap.size v0 (zab 0 59 (zay mi) true)∧zav w' w.heap.size v1 (zab 0 23 (zay ho) true)∧zav w' w.heap.size v3 (zab 1 12 (zay mo) true)∧Below w.heap.size w w'
theorem zaC {w:World} {B:Nat} {v:Value} {l:List It} (h:zav w B v l):∃A c,v=.slice A l.length c:=by
 rcases zbt h with ⟨h1,h2⟩|⟨g,cap,h1,_⟩
 ·exact⟨none,0,by rw[h1,h2]⟩
 ·exact⟨_,cap,h1⟩
theorem zar {S:Nat→Prop} {V V':World} {B:Nat} {v:Value} {l:List It} (h:zav V B v l) (hr:RlS S V V') (hS:∀g cur,V.heap[g]?=some (.cells cur 85)→¬S g):zav V' B v l:=by
 refine⟨h.1,?_⟩;rcases h.2 with h|⟨g,cap,cur,hv,hb,hg,hrest⟩
 ·exact .inl h
 ·exact .inr ⟨g,cap,cur,hv,hb,(hr.block g (waL.1 hg).1 (hS g cur hg)).trans hg,hrest⟩
theorem zcG {V:World} (b:Nat) (v0 v1 v2 v3 v4:Value):RlS (·=b) V (((((V.setCell ⟨b,0,none⟩ v0).setCell ⟨b,1,none⟩ v1).setCell ⟨b,2,none⟩ v2).setCell ⟨b,3,none⟩ v3).setCell ⟨b,4,none⟩ v4):=
 (((((RlS.refl (·=b) V).set ⟨b,0,none⟩ v0 rfl).set ⟨b,1,none⟩ v1 rfl).set ⟨b,2,none⟩ v2 rfl).set ⟨b,3,none⟩ v3 rfl).set ⟨b,4,none⟩ v4 rfl
theorem zbT {V:World} {c:Nat} {X:Array Value} {z:Nat×Nat} (hc:V.heap[c]?=some (.cells X 60 z)):∀g cur,V.heap[g]?=some (.cells cur 85)→¬(g=c):=by
 rintro g cur hg rfl;rw[hc] at hg
 injection hg with hg
 injection hg with _ hg
 exact absurd hg dQ
theorem zk4 (g:Nat→Value) (mi ho mo:Nat) (e1:g 1=.int .u64 (mi:Int)) (e2:g 2=.int .u64 (ho:Int)) (e3:g 3=.int .u64 (mo:Int)) (b1:mi<18446744073709551616) (b2:ho<18446744073709551616) (b3:mo<18446744073709551616) (w:World) (hw:Tz w):
 Calls prog 248 #[.agg (za5 g)] w (zv5 mi ho mo w):=by
 have HL:=waV (fun m (hm:m<18446744073709551616) V (hV:Below w.heap.size w V)=>zgc m hm V (hw.below hV))
 have HO:=waV (fun lo hi A n c m V (h:zba V A n (zay m)) hnc hc=>zfV lo hi A n c (zay m) true V h (by have:=h.1;have:=zjt m;omega) hnc hc)
 have E1:=waV (show(za5 g)[1]?=some (.int .u64 (mi:Int)) by rw[←e1];rfl)
 have E2:=waV (show(za5 g)[2]?=some (.int .u64 (ho:Int)) by rw[←e2];rfl)
 have E3:=waV (show(za5 g)[3]?=some (.int .u64 (mo:Int)) by rw[←e3];rfl)
 have B1:=waV b1;have B2:=waV b2;have B3:=waV b3;clear hw e1 e2 e3 b1 b2 b3;obtain⟨cs,hcs⟩:∃cs,za5 g=cs:=⟨_,rfl⟩;have hHeld:∀cs,za5 g=cs→Hid (TmS w ((w.alloc (.cells cs 43)).alloc (.cells #[.slice none 0 0,.slice none 0 0,.slice none 0 0,.slice none 0 0,.slice none 0 0] 60)).drew g):=fun cs hc=>by
  subst hc;exact⟨(((waC _ w).alloc (waJ _) _).alloc (by simp) _).drew,(Below.heap_alloc _ _ _ (by simp)).trans (World.alloc_heap_new w _),by
   have h:w.heap.size+1=(w.alloc (.cells (za5 g) 43)).heap.size:=by simp
   show((w.alloc (.cells (za5 g) 43)).alloc (.cells zbd 60)).heap[w.heap.size+1]?=_;rw[h];exact World.alloc_heap_new _ _⟩
 replace hHeld:=hHeld cs hcs;rw[hcs];go_enter func248,ntmps248;go_wp2_with fail;refine zan 13 (fun w'=>Hid (TmS w w' g)) kQ ?_
 generalize (World.alloc (World.alloc w _) _).drew=V0 at *;refine(kP 0 3 (h:=(kR 1 4 (fun w_ hSw_=>hSw_.out.cell 1 E1.out) (h:=(kP 4 7 (h:=(kR 5 8 (fun w_ hSw_=>hSw_.out.cell 2 E2.out) (h:=(kP 8 11 (h:=(kR 9 12 (fun w_ hSw_=>hSw_.out.cell 3 E3.out) (h:=?_))))))))))))
 simp only[Act.put,za1,za2,za3];refine zac (i:=2) kQ fun o_ ho_ K_ hK_=>?_
 obtain rfl:=waB ho_;have HK_:=waV hK_;clear hK_ ho_;go_wp2_with fail;refine(HL.out mi B1.out _ hHeld.out.b).mono ?_;rintro e V1 ⟨A0,n0,c0,rfl,hr,hnc,hcm,hq,hn⟩;replace hHeld:Hid (TmS w V1 g):=hHeld.out.below hq;have HOr:=waV (HO.out 0 59 A0 n0 c0 mi V1 hr hnc hcm);clear hr hnc hcm hn hq;go_wp2_with fail;refine HK_.out _ _ hHeld ?_;clear HK_;refine zac (i:=3) kQ fun o_ ho_ K_ hK_=>?_
 obtain rfl:=waB ho_;have HK_:=waV hK_;clear hK_ ho_;go_wp2_with fail;refine HOr.out.mono ?_;rintro e V2 ⟨v0,rfl,hov,hq⟩;have O0:Hid (zav V2 w.heap.size v0 (zab 0 59 (zay mi) true)):=zaq hov hHeld.out.b.size;replace hHeld:Hid (TmS w V2 g):=hHeld.out.below hq;clear hov hq HOr;go_wp2_with fail;refine HK_.out _ _ hHeld ?_;clear HK_;refine zac (i:=6) kQ fun o_ ho_ K_ hK_=>?_
 obtain rfl:=waB ho_;have HK_:=waV hK_;clear hK_ ho_;go_wp2_with fail;refine(HL.out ho B2.out _ hHeld.out.b).mono ?_;rintro e V3 ⟨A1,n1,c1,rfl,hr,hnc,hcm,hq,hn⟩;replace hHeld:Hid (TmS w V3 g):=hHeld.out.below hq;have HOr:=waV (HO.out 0 23 A1 n1 c1 ho V3 hr hnc hcm);replace O0:=waV (zaf O0.out hq);clear hr hnc hcm hn hq;go_wp2_with fail;refine HK_.out _ _ hHeld ?_;clear HK_;refine zac (i:=7) kQ fun o_ ho_ K_ hK_=>?_
 obtain rfl:=waB ho_;have HK_:=waV hK_;clear hK_ ho_;go_wp2_with fail;refine HOr.out.mono ?_;rintro e V4 ⟨v1,rfl,hov,hq⟩;have O1:Hid (zav V4 w.heap.size v1 (zab 0 23 (zay ho) true)):=zaq hov hHeld.out.b.size;replace O0:=waV (zaf O0.out hq);replace hHeld:Hid (TmS w V4 g):=hHeld.out.below hq;clear hov hq HOr;go_wp2_with fail;refine HK_.out _ _ hHeld ?_;clear HK_;refine zac (i:=10) kQ fun o_ ho_ K_ hK_=>?_
 obtain rfl:=waB ho_;have HK_:=waV hK_;clear hK_ ho_;go_wp2_with fail;refine(HL.out mo B3.out _ hHeld.out.b).mono ?_;rintro e V5 ⟨A3,n3,c3,rfl,hr,hnc,hcm,hq,hn⟩;replace hHeld:Hid (TmS w V5 g):=hHeld.out.below hq;have HOr:=waV (HO.out 1 12 A3 n3 c3 mo V5 hr hnc hcm);replace O0:=waV (zaf O0.out hq);replace O1:=waV (zaf O1.out hq);clear hr hnc hcm hn hq;go_wp2_with fail;refine HK_.out _ _ hHeld ?_;clear HK_;refine zac (i:=11) kQ fun o_ ho_ K_ hK_=>?_
 obtain rfl:=waB ho_;have HK_:=waV hK_;clear hK_ ho_;go_wp2_with fail;refine HOr.out.mono ?_;rintro e V6 ⟨v3,rfl,hov,hq⟩;have O3:Hid (zav V6 w.heap.size v3 (zab 1 12 (zay mo) true)):=zaq hov hHeld.out.b.size;replace O0:=waV (zaf O0.out hq);replace O1:=waV (zaf O1.out hq);replace hHeld:Hid (TmS w V6 g):=hHeld.out.below hq;clear hov hq HOr;go_wp2_with fail;refine HK_.out _ _ hHeld ?_;clear HK_;obtain⟨S0,d0,rfl⟩:=zaC O0.out;obtain⟨S1,d1,rfl⟩:=zaC O1.out;obtain⟨S3,d3,rfl⟩:=zaC O3.out;have hli:=hHeld.out.line;have y0:=hli.1 0 dQ;have y1:=hli.1 1 dQ;have y2:=hli.1 2 dQ;have y3:=hli.1 3 dQ;have y4:=hli.1 4 dQ;have f0:=hli.2.1;have lf:=hli.2.2;refine(kP 12 15 (h:=?_));simp only[Act.put,za1,za2,za3];refine zag (j:=1) dQ (.inr rfl) dQ kQ ?_;simp only[wbQ,waG,List.length_nil,Nat.reduceAdd,Nat.reduceSub,waZ,wbA];have hTS:=waV hHeld.out;go_wp2_with fail
 (try simp only[Exit.inBlock,Exit.then])
 refine waY (v:=.agg #[.slice S0 (zab 0 59 (zay mi) true).length d0,.slice S1 (zab 0 23 (zay ho) true).length d1,.slice none 0 0,.slice S3 (zab 1 12 (zay mo) true).length d3,.slice none 0 0]) (by rw[zah rfl];go_simp) rfl ?_
 have hr:=zcG (V:=V6) (w.heap.size+1) (.slice S0 (zab 0 59 (zay mi) true).length d0) (.slice S1 (zab 0 23 (zay ho) true).length d1) (.slice none 0 0) (.slice S3 (zab 1 12 (zay mo) true).length d3) (.slice none 0 0);generalize (World.setCell _ _ _)=V7 at hr ⊢;have hS:=zbT hTS.out.c;exact⟨_,_,_,rfl,zar O0.out hr hS,zar O1.out hr hS,zar O3.out hr hS,hr.to_below' hTS.out.b (Nat.le_succ _)⟩
end Go.Proofs.YtadefhkaejjfmaaGreatDoor
namespace Go.Proofs.YtadefhkaejjfmaaGreatDoor
open Go.Proofs.Tryz
open Go.RowKit
open Go.Maps
def zaQ (w:World) (B:Nat) (v:Value) (l:Nat→List It):Prop:=∃v0 v1 v2 v3 v4,v=.agg #[v0,v1,v2,v3,v4]∧zav w B v0 (l 0)∧zav w B v1 (l 1)∧zav w B v2 (l 2)∧zav w B v3 (l 3)∧zav w B v4 (l 4)
theorem zav.rd {w:World} {B:Nat} {v:Value} {l:List It} (h:zav w B v l):∃A c,v=.slice A l.length c∧l.length≤c∧c≤maxLen∧zcH w A l.length l∧(A=none→l.length=0):=by
 obtain⟨A,c,h1,h2,h3,h4,_⟩:=Rd.of_own zdl h rfl;refine⟨A,c,h1,h2,h3,h4,?_⟩;rintro rfl
 false_or_by_contra
 rename_i hn;obtain⟨b,o,e,_⟩:=h4.2 oQ;cases e
theorem zaQ.rd {w:World} {B:Nat} {v:Value} {l:Nat→List It} (h:zaQ w B v l):∃A n c,v=crV A n c∧zbp w A n l∧(∀k,A k=none→n k=0)∧(∀k,n k=if k<5 then(l k).length else 0)∧∀k,n k≤c k∧c k≤maxLen:=by
 obtain⟨v0,v1,v2,v3,v4,rfl,h0,h1,h2,h3,h4⟩:=h;obtain⟨A0,c0,rfl,a0,b0,r0,z0⟩:=h0.rd;obtain⟨A1,c1,rfl,a1,b1,r1,z1⟩:=h1.rd;obtain⟨A2,c2,rfl,a2,b2,r2,z2⟩:=h2.rd;obtain⟨A3,c3,rfl,a3,b3,r3,z3⟩:=h3.rd;obtain⟨A4,c4,rfl,a4,b4,r4,z4⟩:=h4.rd;refine⟨fun k=>if k=0 then A0 else if k=1 then A1 else if k=2 then A2 else if k=3 then A3 else if k=4 then A4 else none,fun k=>if k<5 then(l k).length else 0,fun k=>if k=0 then c0 else if k=1 then c1 else if k=2 then c2 else if k=3 then c3 else if k=4 then c4 else 0,rfl,fun k hk=>?_,fun k hk=>?_,fun k=>rfl,fun k=>?_⟩
 ·obtain rfl|rfl|rfl|rfl|rfl:k=0∨k=1∨k=2∨k=3∨k=4:=by omega
  ·exact r0
  ·exact r1
  ·exact r2
  ·exact r3
  ·exact r4
 ·dsimp only at hk ⊢
  by_cases h5:k<5
  ·rw[if_pos h5];obtain rfl|rfl|rfl|rfl|rfl:k=0∨k=1∨k=2∨k=3∨k=4:=by omega
   ·exact z0 hk
   ·exact z1 hk
   ·exact z2 hk
   ·exact z3 hk
   ·exact z4 hk
  ·rw[if_neg h5]
 ·dsimp only
  by_cases h5:k<5
  ·rw[if_pos h5];obtain rfl|rfl|rfl|rfl|rfl:k=0∨k=1∨k=2∨k=3∨k=4:=by omega
   ·exact⟨a0,b0⟩
   ·exact⟨a1,b1⟩
   ·exact⟨a2,b2⟩
   ·exact⟨a3,b3⟩
   ·exact⟨a4,b4⟩
  ·rw[if_neg h5];exact⟨waK _,by(repeat' split)<;>first|assumption|decide⟩
theorem zaQ.below {w w':World} {B:Nat} {v:Value} {l:Nat→List It} (h:zaQ w B v l) (hb:Below w.heap.size w w'):zaQ w' B v l:=by
 obtain⟨v0,v1,v2,v3,v4,e,h0,h1,h2,h3,h4⟩:=h;exact⟨v0,v1,v2,v3,v4,e,zaf h0 hb,zaf h1 hb,zaf h2 hb,zaf h3 hb,zaf h4 hb⟩
theorem zaQ.base {w:World} {B B':Nat} {v:Value} {l:Nat→List It} (h:zaQ w B v l) (hB:B'≤B):zaQ w B' v l:=by
 obtain⟨v0,v1,v2,v3,v4,e,h0,h1,h2,h3,h4⟩:=h;exact⟨v0,v1,v2,v3,v4,e,zaq h0 hB,zaq h1 hB,zaq h2 hB,zaq h3 hB,zaq h4 hB⟩
def RetLn (l:Nat→List It) (w:World) (e:Ending) (w':World):Prop:=∃v,e=.returned v∧zaQ w' w.heap.size v l∧Below w.heap.size w w'
theorem zq1 (w:World):Calls prog 151 #[] w (RetLn zkW w):=by
 have eg:∀args w,(callFunc 246 args).run prog w=.ok (.enter 246 args) w:=enters_of func246 kQ rfl;have HN:=waV (fun n V=>zqP n V)
 have HSt:=waV (fun V=>zkX 1 V)
 go_enter func151,ntmps151;go_wp2_with fail;have hb0:Below w.heap.size w (w.alloc (.cells #[.slice none 0 0,.slice none 0 0,.slice none 0 0,.slice none 0 0,.slice none 0 0] 60)):=(waC _ w).alloc (waJ _) _;have hc0:(w.alloc (.cells #[.slice none 0 0,.slice none 0 0,.slice none 0 0,.slice none 0 0,.slice none 0 0] 60)).heap[w.heap.size]?=some (.cells #[.slice none 0 0,.slice none 0 0,.slice none 0 0,.slice none 0 0,.slice none 0 0] 60 (0,0)):=World.alloc_heap_new w _;generalize (w.alloc (.cells #[.slice none 0 0,.slice none 0 0,.slice none 0 0,.slice none 0 0,.slice none 0 0] 60))=V0 at *;refine(HN.out 0 _).mono ?_;rintro e V1 ⟨v0,rfl,hov,hq⟩;have O0:Hid (zav V1 w.heap.size v0 [⟨1,0,0,0⟩]):=zaq hov hb0.size;replace hc0:=(hq.block _ (waL.1 hc0).1).trans hc0;replace hb0:=hb0.trans (hq.mono hb0.size);clear hov hq;go_wp2_with fail;refine(HN.out 0 _).mono ?_;rintro e V2 ⟨v1,rfl,hov,hq⟩;have O1:Hid (zav V2 w.heap.size v1 [⟨1,0,0,0⟩]):=zaq hov hb0.size;replace O0:=waV (zaf O0.out hq);replace hc0:=(hq.block _ (waL.1 hc0).1).trans hc0;replace hb0:=hb0.trans (hq.mono hb0.size);clear hov hq;go_wp2_with fail;refine(HN.out 30 _).mono ?_;rintro e V3 ⟨v2,rfl,hov,hq⟩;have O2:Hid (zav V3 w.heap.size v2 [⟨1,30,0,0⟩]):=zaq hov hb0.size;replace O0:=waV (zaf O0.out hq);replace O1:=waV (zaf O1.out hq);replace hc0:=(hq.block _ (waL.1 hc0).1).trans hc0;replace hb0:=hb0.trans (hq.mono hb0.size);clear hov hq;go_wp2_with fail;refine(HN.out 2 _).mono ?_;rintro e V4 ⟨v3,rfl,hov,hq⟩;have O3:Hid (zav V4 w.heap.size v3 [⟨1,2,0,0⟩]):=zaq hov hb0.size;replace O0:=waV (zaf O0.out hq);replace O1:=waV (zaf O1.out hq);replace O2:=waV (zaf O2.out hq);replace hc0:=(hq.block _ (waL.1 hc0).1).trans hc0;replace hb0:=hb0.trans (hq.mono hb0.size);clear hov hq;go_wp2_with fail;refine(HSt.out _).mono ?_;rintro e V5 ⟨rfl,hq⟩;replace O0:=waV (zaf O0.out hq);replace O1:=waV (zaf O1.out hq);replace O2:=waV (zaf O2.out hq);replace O3:=waV (zaf O3.out hq);replace hc0:=(hq.block _ (waL.1 hc0).1).trans hc0;replace hb0:=hb0.trans (hq.mono hb0.size);clear hq;obtain⟨S0,d0,rfl⟩:=zaC O0.out;obtain⟨S1,d1,rfl⟩:=zaC O1.out;obtain⟨S2,d2,rfl⟩:=zaC O2.out;obtain⟨S3,d3,rfl⟩:=zaC O3.out;have y0:V5.cell? ⟨w.heap.size,0,none⟩=some (.slice none 0 0):=by rw[World.cell?_of_heap hc0];rfl
 have y1:V5.cell? ⟨w.heap.size,1,none⟩=some (.slice none 0 0):=by rw[World.cell?_of_heap hc0];rfl
 have y2:V5.cell? ⟨w.heap.size,2,none⟩=some (.slice none 0 0):=by rw[World.cell?_of_heap hc0];rfl
 have y3:V5.cell? ⟨w.heap.size,3,none⟩=some (.slice none 0 0):=by rw[World.cell?_of_heap hc0];rfl
 have y4:V5.cell? ⟨w.heap.size,4,none⟩=some (.slice none 0 0):=by rw[World.cell?_of_heap hc0];rfl
 have f0:∀j,V5.frozen? ⟨w.heap.size,j,none⟩=false:=fun j=>by simp[World.frozen?,hc0]
 have lf:=(waL.1 hc0).1;have HC:=waV hc0;have HB:=waV hb0;unfold itV;clear hc0 hb0 HN HSt;go_wp2_with fail
 (try simp only[Exit.inBlock,Exit.then])
 refine waY (v:=.agg #[.slice S0 1 d0,.slice S1 1 d1,.slice S2 1 d2,.slice S3 1 d3,.slice (some ⟨V5.heap.size,0,none⟩) 1 1]) (by rw[zah rfl];go_simp) rfl ?_
 have hr:=zcG (V:=V5) w.heap.size (.slice S0 1 d0) (.slice S1 1 d1) (.slice S2 1 d2) (.slice S3 1 d3) (.slice (some ⟨V5.heap.size,0,none⟩) 1 1);have hsz:(((((V5.setCell ⟨w.heap.size,0,none⟩ (.slice S0 1 d0)).setCell ⟨w.heap.size,1,none⟩ (.slice S1 1 d1)).setCell ⟨w.heap.size,2,none⟩ (.slice S2 1 d2)).setCell ⟨w.heap.size,3,none⟩ (.slice S3 1 d3)).setCell ⟨w.heap.size,4,none⟩ (.slice (some ⟨V5.heap.size,0,none⟩) 1 1)).heap.size=V5.heap.size:=by simp
 generalize (World.setCell _ _ _)=X at hr hsz ⊢;have hS:=zbT HC.out;have h4:=zdH X #[.int .i64 0,.int .i64 0,.int .i64 0,.int .i64 1] 85 4 1 dQ rfl;have hbA:Below X.heap.size X (X.alloc (.cells #[.int .i64 0,.int .i64 0,.int .i64 0,.int .i64 1] 85)):=(waC _ X).alloc (waJ _) _;have hbX:Below w.heap.size w X:=hr.to_below' HB.out;rw[hsz] at h4;exact⟨_,rfl,⟨_,_,_,_,_,rfl,zaf (zar O0.out hr hS) hbA,zaf (zar O1.out hr hS) hbA,zaf (zar O2.out hr hS) hbA,zaf (zar O3.out hr hS) hbA,zaq h4 HB.out.size⟩,hbX.alloc hbX.size _⟩
end Go.Proofs.YtadefhkaejjfmaaGreatDoor
namespace Go.Proofs.YtadefhkaejjfmaaGreatDoor
open Go.Proofs.Tryz
theorem zez {a b c:Nat} (ha:a<18446744073709551616) (hb:b<18446744073709551616) (hc:c<18446744073709551616) (h:∀k,k<64→(c.testBit k=true↔a.testBit k=true∧b.testBit k=false)):bits .andNot .u64 (a:Int) (b:Int)=(c:Int):=by
 rw[u64_andNot_nat a b ha hb];congr 1;have hlt:∀m:Nat,m<18446744073709551616→∀k,64≤k→m.testBit k=false:=fun m hm k hk=>waX (waD (show m<2^64 from hm) (Nat.pow_le_pow_right dQ hk))
 refine Nat.eq_of_testBit_eq fun k=>?_
 rw[Nat.testBit_and,show(18446744073709551615 - b:Nat)=2^64 - (b+1) by omega,Nat.testBit_two_pow_sub_succ hb]
 by_cases hk:k<64
 ·have:=h k hk;rw[waP hk,Bool.true_and,waQ,this];simp
 ·rw[waO hk,Bool.false_and,Bool.and_false,hlt c hc k (by omega)]
structure WhI (P:Int→Nat→Bool) (mo th la off:Nat) (pre:List Int):Prop where
 t:∀k,th.testBit k=true↔∃n∈pre,mo.testBit (mD n).toNat=true∧(dD n).toNat=k
 l:∀k,la.testBit k=true↔∃n∈pre,mo.testBit (mD n).toNat=true∧¬zbG P n∧(dD n).toNat=k
 o:∀k,off.testBit k=true↔∃n∈pre,mo.testBit (mD n).toNat=true∧¬zbG P n∧(wdD n).toNat=k
theorem WhI.nil (P:Int→Nat→Bool) (mo:Nat):WhI P mo 0 0 0 []:=⟨fun k=>by simp,fun k=>by simp,fun k=>by simp⟩
theorem zeN (a x k:Nat):(a|||2^x).testBit k=true↔a.testBit k=true∨x=k:=by
 rw[Nat.testBit_or,wbF,Nat.testBit_two_pow,waM]
theorem zdT {α:Type} {Q:α→Prop} {pre:List α} {x:α}:(∃n∈pre++[x],Q n)↔(∃n∈pre,Q n)∨Q x:=by
 constructor
 ·rintro ⟨n,hn,h⟩;rcases wbB.1 hn with hn|hn
  ·exact .inl ⟨n,hn,h⟩
  ·rw[wbC.1 hn] at h;exact .inr h
 ·rintro (⟨n,hn,h⟩|h)
  ·exact⟨n,by simp[hn],h⟩
  ·exact⟨x,by simp,h⟩
section
variable {P : Int → Nat → Bool} {mo th la off : Nat} {pre : List Int} {x : Int}
theorem WhI.skip (h:WhI P mo th la off pre) (hx:mo.testBit (mD x).toNat=false):WhI P mo th la off (pre++[x]):=
 ⟨fun k=>by rw[h.t,zdT,hx];simp,fun k=>by rw[h.l,zdT,hx];simp,fun k=>by rw[h.o,zdT,hx];simp⟩
theorem WhI.live (h:WhI P mo th la off pre) (hx:mo.testBit (mD x).toNat=true) (hl:zbG P x):WhI P mo (th|||2^(dD x).toNat) la off (pre++[x]):=
 ⟨fun k=>by rw[zeN,h.t,zdT,hx];simp,fun k=>by rw[h.l,zdT];simp[hl],fun k=>by rw[h.o,zdT];simp[hl]⟩
theorem WhI.dead (h:WhI P mo th la off pre) (hx:mo.testBit (mD x).toNat=true) (hl:¬zbG P x):WhI P mo (th|||2^(dD x).toNat) (la|||2^(dD x).toNat) (off|||2^(wdD x).toNat) (pre++[x]):=
 ⟨fun k=>by rw[zeN,h.t,zdT,hx];simp,fun k=>by rw[zeN,h.l,zdT,hx];simp[hl],fun k=>by rw[zeN,h.o,zdT,hx];simp[hl]⟩
theorem WhI.lt (h:WhI P mo th la off pre) (hp:∀n∈pre,0≤n∧n<146097):th<18446744073709551616∧la<18446744073709551616∧off<18446744073709551616:=by
 refine⟨zeI fun k hk=>?_,zeI fun k hk=>?_,zeI fun k hk=>?_⟩
 ·obtain⟨n,hn,_,rfl⟩:=(h.t k).1 hk;have:=za6 (hp n hn).1 (hp n hn).2;omega
 ·obtain⟨n,hn,_,_,rfl⟩:=(h.l k).1 hk;have:=za6 (hp n hn).1 (hp n hn).2;omega
 ·obtain⟨n,hn,_,_,rfl⟩:=(h.o k).1 hk;have:=zct n;omega
theorem zgh {n:Int} (h0:0≤n) (h1:n<146097):(zaV P).testBit (mD n).toNat=true↔∃n',zbG P n'∧mD n'=mD n:=by
 have:=za6 h0 h1;unfold zaV;rw[zf8];constructor
 ·rintro ⟨_,n',hl,e⟩;exact⟨n',hl,by omega⟩
 ·rintro ⟨n',hl,e⟩;exact⟨by omega,n',hl,by omega⟩
theorem WhI.dom (h:WhI P (zaV P) th la off (zcI 0 146096)):bits .andNot .u64 (th:Int) (la:Int)=(domW P:Int):=by
 obtain⟨b1,b2,b3⟩:=h.lt (fun n hn=>by have:=zaX.1 hn;omega)
 refine zez b1 b2 (zbU _) fun k hk=>?_
 rw[show (domW P).testBit k=true↔_ from zf8 _ k,h.t k,Bool.eq_false_iff,ne_eq,h.l k]
 constructor
 ·rintro ⟨_,⟨n,h0,h1,hm,e⟩,hall⟩;refine⟨⟨n,zaX.2 oQ,(zgh h0 h1).2 hm,by omega⟩,?_⟩
  rintro ⟨n',hn',hm',hl',e'⟩;have hd:=zaX.1 hn';have hb:=za6 hd.1 (show n'<146097 by omega)
  exact hl' (hall n' hd.1 oQ ((zgh hd.1 oQ).1 hm') oQ)
 ·rintro ⟨⟨n,hn,hm,e⟩,hno⟩;have hd:=zaX.1 hn;have hb:=za6 hd.1 (show n<146097 by omega)
  refine⟨hk,⟨n,hd.1,by omega,(zgh hd.1 oQ).1 hm,by omega⟩,fun n' h0 h1 hm' e'=>?_⟩
  false_or_by_contra
  rename_i hl;exact hno ⟨n',zaX.2 oQ,(zgh h0 h1).2 hm',hl,by omega⟩
theorem WhI.wk (h:WhI P (zaV P) th la off (zcI 0 146096)):bits .andNot .u64 (zaN 1 7) (off:Int)=(wkW P:Int):=by
 obtain⟨b1,b2,b3⟩:=h.lt (fun n hn=>by have:=zaX.1 hn;omega)
 have e7:zaN 1 7=((254:Nat):Int):=by decide+kernel
 rw[e7];refine zez dQ b3 (zbU _) fun k hk=>?_
 have h254:(254:Nat).testBit k=true↔1≤k∧k≤7:=by
  have:∀k,k<64→((254:Nat).testBit k=decide (1≤k∧k≤7)):=by decide
  rw[this k hk,waM]
 rw[show (wkW P).testBit k=true↔_ from zf8 _ k,h254,Bool.eq_false_iff,ne_eq,h.o k]
 constructor
 ·rintro ⟨_,hr,hall⟩;refine⟨hr,?_⟩;rintro ⟨n',hn',hm',hl',e'⟩;have hd:=zaX.1 hn';have hb:=zct n';exact hl' (hall n' hd.1 oQ ((zgh hd.1 oQ).1 hm') oQ)
 ·rintro ⟨hr,hno⟩;refine⟨hk,hr,fun n' h0 h1 hm' e'=>?_⟩
  false_or_by_contra
  rename_i hl;exact hno ⟨n',zaX.2 oQ,(zgh h0 h1).2 hm',hl,by omega⟩
end
end Go.Proofs.YtadefhkaejjfmaaGreatDoor
