/- A part of the proof: WMeet2 -/
import Derived.Test.YtllcdbgjeidlkaaGreatDoorT22
import Derived.Test.YtllcdbgjeidlkaaGreatDoorT09
set_option maxHeartbeats 80000000
set_option maxRecDepth 100000
set_option linter.unusedSimpArgs false
set_option linter.unusedVariables false
namespace Go.Proofs.YtllcdbgjeidlkaaGreatDoor
open Go.Proofs.Tryz
open Go.RowKit
open Go.Maps
abbrev xorB:Bool->Bool->Bool:=fun a b=>a^^b
def zxv (op:Bool->Bool->Bool) (x:AskD) (L1 L2:List Cl) (f1 u1 f2 u2:Int) (n:Int) (W:World) (e:Ending) (W':World):Prop:=
 ((∃s,e=.returned (.tuple #[.int .i64 (s:Nat),.bool true])/\zea (fun s=>op (zay L1 n s) (zay L2 n s)) 0 s)\/(e=.returned (.tuple #[.int .i64 0,.bool false])/\zcO (fun s=>op (zay L1 n s) (zay L2 n s)) 0))/\
   MeetAt W' x L1 L2 op f1 u1 f2 u2/\RlS (x.mv L1.length L2.length) W W'
theorem zvN (n:Int):∃sh,shV n=.agg sh/\sh.size=10:=⟨_,rfl,rfl⟩
theorem zbp.isPtr {W:World} {D:Nat} {v:Value} {p:Nat->Bool} (h:zbp W D v p):∃q,v=.pointer q:=by
 rcases h with ⟨h,_⟩|⟨b,h,_⟩
 ·exact⟨_,h⟩
 ·exact⟨_,h⟩
theorem zkw (W:World) (cs:Array Value):zcQ (W.alloc (.cells cs 286)) W.heap.size:=⟨_,_,_,World.alloc_heap_new W _,by decide⟩
structure PBox (W0 W:World) (B:Nat):Prop where
 b:W0.heap.size<=B
 f:zcQ W B
 c0:W.cell? ⟨B,0,none⟩=some (.pointer none)
 c1:W.cell? ⟨B,1,none⟩=some (.pointer none)
 fz:∀j,W.frozen? ⟨B,j,none⟩=false
theorem PBox.new {W0 W:World} (h:W0.heap.size<=W.heap.size):PBox W0 (W.alloc (.cells #[.pointer none,.pointer none] 286)) W.heap.size:=
 ⟨h,zkw _ _,zaa rfl rfl,zaa rfl rfl,fun j=>by go_simp⟩
theorem PBox.rls {S:Nat->Prop} {W0 W V:World} {B:Nat} (h:PBox W0 W B) (hr:RlS S W V) (hS:¬S B):PBox W0 V B:=
 ⟨h.b,h.f.rls hr hS,hr.cell h.c0 hS,hr.cell h.c1 hS,fun j=>(zaX hr (waR W _ h.c0) hS).trans (h.fz j)⟩
theorem PBox.pair {W0 W:World} {x:AskD} {L1 L2:List Cl} {h:Bool->Bool->Bool} {f1 u1 f2 u2:Int} {sh:Array Value} {n:Int} {v1 v2:Value} {B:Nat} (b:PBox W0 W B) (k:DayS W0 W x L1 L2 h f1 u1 f2 u2 sh) (d1:zbp W x.D v1 (zay L1 n)) (d2:zbp W x.D v2 (zay L2 n)):
 PairR W0 x L1 L2 h f1 u1 f2 u2 n v1 v2 B ((W.setCell ⟨B,0,none⟩ v1).setCell ⟨B,1,none⟩ v2):=PairR.mk' k d1 d2 b.b b.f b.c0 b.c1
theorem DayS.size {W0 W:World} {x:AskD} {L1 L2:List Cl} {h:Bool->Bool->Bool} {f1 u1 f2 u2:Int} {sh:Array Value} (k:DayS W0 W x L1 L2 h f1 u1 f2 u2 sh):W0.heap.size<=W.heap.size:=k.rl.size
theorem DayS.n1 {W0 W:World} {x:AskD} {L1 L2:List Cl} {h:Bool->Bool->Bool} {f1 u1 f2 u2:Int} {sh:Array Value} (k:DayS W0 W x L1 L2 h f1 u1 f2 u2 sh) {B:Nat} (hB:W0.heap.size<=B):¬x.d1.mv L1.length B:=fun g=>k.nS hB (.inr (.inr (.inl g)))
theorem DayS.n2 {W0 W:World} {x:AskD} {L1 L2:List Cl} {h:Bool->Bool->Bool} {f1 u1 f2 u2:Int} {sh:Array Value} (k:DayS W0 W x L1 L2 h f1 u1 f2 u2 sh) {B:Nat} (hB:W0.heap.size<=B):¬x.d2.mv L2.length B:=fun g=>k.nS hB (.inr (.inr (.inr g)))
theorem DayS.disc2 {W0 W V:World} {x:AskD} {L1 L2:List Cl} {h:Bool->Bool->Bool} {f1 u1 f2 u2:Int} {sh:Array Value} (k:DayS W0 W x L1 L2 h f1 u1 f2 u2 sh) {v:Value} {p:Nat->Bool} (d:zbp W x.D v p) (hr:RlS (x.d2.mv L2.length) W V):zbp V x.D v p:=d.rls hr fun j g=>(k.m.mb j (.inr (.inr (.inr g)))).1
theorem zbp.below {W V:World} {D:Nat} {v:Value} {p:Nat->Bool} (d:zbp W D v p) (hb:Below W.heap.size W V):zbp V D v p:=d.imp fun e p g=>g.below hb
theorem zqy {C:World->Prop} {Sv:World->Value->Prop} {m ck:Nat} {es:Array MapEntry} {T k e:TypeId} {z x:Value} (hT:prog.underlying T=some (.map k e)) (hz:∀w,(zeroValue e).run prog w=.ok z w) (hK:∀V,C V->KeyRun prog k V (Sv V)) (hx:∀V,C V->Sv V x) (hes:∀V,C V->∀q∈es.toList,Sv V q.key)
 (h1:zfm es.toList) (W:World) (hC:C W) (hW:W.heap[m]?=some (.map es ck)):
 (∃q∈es.toList,q.key=x/\∀V:World,C V->V.heap[m]?=some (.map es ck)->(Instr.lookup T (.map (some m)) x false).run prog V=.ok q.val V)\/
   ((∀q∈es.toList,q.key≠x)/\∀V:World,C V->V.heap[m]?=some (.map es ck)->(Instr.lookup T (.map (some m)) x false).run prog V=.ok z V):=by
 rcases zbo (w:=W) (z:=z) (x:=x) hT (hz W) hW (hK W hC) (hx W hC) (hes W hC) with ⟨q,hq,hk,_⟩|⟨hno,_⟩
 ·refine .inl ⟨q,hq,hk,fun V hCV hV=>?_⟩
  rcases zbo (w:=V) (z:=z) (x:=x) hT (hz V) hV (hK V hCV) (hx V hCV) (hes V hCV) with ⟨q',hq',hk',h⟩|⟨hno,_⟩
  ·rw[h false,if_neg (by decide),h1 q hq q' hq' (hk.trans hk'.symm)]
  ·exact absurd hk (hno q hq)
 ·refine .inr ⟨hno,fun V hCV hV=>?_⟩
  rcases zbo (w:=V) (z:=z) (x:=x) hT (hz V) hV (hK V hCV) (hx V hCV) (hes V hCV) with ⟨q',hq',hk',h⟩|⟨_,h⟩
  ·exact absurd hk' (hno q' hq')
  ·rw[h false,if_neg (by decide)]
theorem PairR.below {W0 W V:World} {x:AskD} {L1 L2:List Cl} {h:Bool->Bool->Bool} {f1 u1 f2 u2:Int} {n:Int} {v1 v2:Value} {B:Nat} (k:PairR W0 x L1 L2 h f1 u1 f2 u2 n v1 v2 B W) (hb:Below W.heap.size W V):PairR W0 x L1 L2 h f1 u1 f2 u2 n v1 v2 B V:=
 ⟨k.m.below hb,k.rl.trans ((RlS.refl _ W).below hb (waJ _)),k.d1.below hb,k.d2.below hb,⟨k.b.1,k.b.2.1,waD k.b.2.2 hb.size⟩,((zad hb).1 _ _ k.b.2.2).trans k.c0,((zad hb).1 _ _ k.b.2.2).trans k.c1⟩
theorem PairR.putF {W0 W:World} {x:AskD} {L1 L2:List Cl} {h:Bool->Bool->Bool} {f1 u1 f2 u2:Int} {n:Int} {v1 v2:Value} {B:Nat} (k:PairR W0 x L1 L2 h f1 u1 f2 u2 n v1 v2 B W) {es:Array MapEntry} {j:Nat} (hes:FineE W x.D h es.toList):PairR W0 x L1 L2 h f1 u1 f2 u2 n v1 v2 B (W.putObj x.fm (.map es j)):=by
 have hr:RlS (·=x.fm) W (W.putObj x.fm (.map es j)):=(RlS.refl _ W).put _ _ rfl;have hm:=(k.m.mb x.fm (.inr (.inl rfl))).1;have hb:=k.b;have nB:¬(B=x.fm):=by omega
 exact⟨k.m.putF hes,k.rl.trans (hr.mono fun i g=>.inr (.inl g)),k.d1.rls hr (fun i g=>by have:i=x.fm:=g;omega),k.d2.rls hr (fun i g=>by have:i=x.fm:=g;omega),⟨hb.1,hb.2.1,by simpa using hb.2.2⟩,hr.cell k.c0 nB,hr.cell k.c1 nB⟩
theorem zlC {p:Nat->Bool} {s x y:Nat} (h:zea p s x) (k:zea p s y):x=y:=by
 obtain⟨_,h2,h3,h4⟩:=h;obtain⟨_,k2,k3,k4⟩:=k;rcases Nat.lt_trichotomy x y with g|g|g
 ·rw[k4 x h2 g] at h3;cases h3
 ·exact g
 ·rw[h4 y k2 g] at k3;cases k3
theorem zm8 (p:Nat->Bool):∀N:Nat,(∃x,x<N/\p x=true/\∀y,y<x->p y=false)\/∀y,y<N->p y=false
 |0=>.inr fun y h=>by omega
 |N+1=>by
  rcases zm8 p N with ⟨x,h1,h2,h3⟩|h
  ·exact .inl ⟨x,by omega,h2,h3⟩
  ·cases hp:p N with
   |true=>exact .inl ⟨N,by omega,hp,h⟩
   |false=>
    refine .inr fun y hy=>?_
    by_cases e:y=N
    ·rw[e];exact hp
    ·exact h y oQ
theorem zvO (p:Nat->Bool):(∃x,zea p 0 x)\/zcO p 0:=by
 rcases zm8 p 86400 with ⟨x,h1,h2,h3⟩|h
 ·exact .inl ⟨x,h1,waK _,h2,fun y _ hy=>h3 y hy⟩
 ·exact .inr fun y _ hy=>h y hy
theorem ztb (op:Bool->Bool->Bool) (x:AskD) (L1 L2:List Cl) (f1 u1 f2 u2:Int) (W:World) (hM:MeetAt W x L1 L2 op f1 u1 f2 u2) (n:Int) (h0:0<=n) (h1:n<146097):
 Calls prog 128 #[.pointer (some ⟨x.b,0,none⟩),shV n] W (zxv op x L1 L2 f1 u1 f2 u2 n W):=by
 have HA1:=waV (fun V (hV:MeetAt V x L1 L2 op f1 u1 f2 u2)=>zm2 x.d1 L1 x.lo1 x.hi1 x.D V hV.r1 n h0 h1)
 have HA2:=waV (fun V (hV:MeetAt V x L1 L2 op f1 u1 f2 u2)=>zm2 x.d2 L2 x.lo2 x.hi2 x.D V hV.r2 n h0 h1)
 obtain⟨sh,hsh,hsz⟩:=zvN n;rw[hsh] at HA1 HA2 ⊢;have HM:=waV hM;have hDW:=hM.r1.dw;have c0:=hM.c0;have lb:=waR W _ c0;have hu:=underlying81;have hi':(prog.info? 81).map (·.size)=some sh.toList.length:=by
  rw[Array.length_toList,hsz];kernel_rfl
 have HSz:=waV hsz;clear hM hsh hsz;go_enter func128,ntmps128;go_wp2_with fail;have hD0:Hid (DayS W ((W.alloc (.cells sh 81)).drew) x L1 L2 op f1 u1 f2 u2 sh):=by
  have hb:Below W.heap.size W ((W.alloc (.cells sh 81)).drew):=((waC _ W).alloc (waJ _) _).drew;exact⟨HM.out.below hb,(RlS.refl _ W).below hb (waJ _),fun j v hj=>show(W.alloc (.cells sh 81)).cell? _=_ from zaa rfl hj,hDW⟩
 refine zm7 (α:=Value×Value×Nat) (fun y=>[(9,.pointer (some ⟨x.b,0,none⟩)),(10,.pointer (some ⟨x.b,0,none⟩)),(11,.pointer (some ⟨x.b,0,none⟩)),(12,.pointer (some ⟨x.d1.b,0,none⟩)),(13,.agg sh),(14,y.1),(15,.pointer (some ⟨x.b,0,none⟩)),(16,.pointer (some ⟨x.b,0,none⟩)),(17,.pointer (some ⟨x.b,1,none⟩)),(18,.pointer (some ⟨x.d2.b,0,none⟩)),(19,.agg sh),(20,y.2.1),(21,.agg #[y.1,y.2.1]),(6,.pointer (some ⟨y.2.2,0,none⟩))])
  (fun y w'=>PairR W x L1 L2 op f1 u1 f2 u2 n y.1 y.2.1 y.2.2 w') ?ways ?on
 case ways=>
  have hHeld:=hD0;refine zaB 14 (fun w'=>Hid (DayS W w' x L1 L2 op f1 u1 f2 u2 sh)) kQ ?_
  generalize (W.alloc (.cells sh 81)).drew=W1 at *;refine(kP 0 9 (h:=(kP 1 10 (h:=(kP 2 11 (h:=(kR 3 12 (fun w_ hSw_=>hSw_.out.m.c0) (h:=?_))))))))
  simp only[Act.put,zbj,zbk,zbl];refine zai (i:=4) (dst:=some 13) (v:=.agg sh.toList.toArray) (hy:=fun o_ ho_=>?_) (hS:=hHeld) (h:=?_)
  case refine_1=>(obtain rfl:=waB ho_;exact yieldsIf_load_mid (by rfl) 81 _ rfl W.heap.size 0 rfl sh.toList _ (fun w' hw'=>hw'.out.limbs) hu rfl hi')
  simp only[Act.put,zbj,zbk,zbl,Array.toArray_toList];refine(kP 6 15 (h:=(kP 7 16 (h:=(kP 8 17 (h:=(kR 9 18 (fun w_ hSw_=>hSw_.out.m.c1) (h:=?_))))))))
  simp only[Act.put,zbj,zbk,zbl];refine zai (i:=10) (dst:=some 19) (v:=.agg sh.toList.toArray) (hy:=fun o_ ho_=>?_) (hS:=hHeld) (h:=?_)
  case refine_1=>(obtain rfl:=waB ho_;exact yieldsIf_load_mid (by rfl) 81 _ rfl W.heap.size 0 rfl sh.toList _ (fun w' hw'=>hw'.out.limbs) hu rfl hi')
  simp only[Act.put,zbj,zbk,zbl,Array.toArray_toList];refine zbG (i:=5) (i':=13) kQ (fun o_ ho_ K_ hK_=>?_) (fun o_ ho_ K_ hK_=>?_)
  all_goals obtain rfl:=waB ho_
  all_goals have HK_:=waV hK_
  all_goals clear hK_ ho_
  ·go_wp2_with (go_at_call 81;refine(HA1.out _ hHeld.out.m).mono ?_;rintro e w3 ⟨v1,rfl,d1,hR1,hr1⟩)
   obtain⟨p1,rfl⟩:=d1.isPtr;refine HK_.out _ _ (hHeld.out.turn1 hr1 hR1) ?_;have hHeld:Hid (DayS W w3 x L1 L2 op f1 u1 f2 u2 sh):=hHeld.out.turn1 hr1 hR1;clear HK_;refine zbG (i:=11) (i':=13) kQ (fun o_ ho_ K_ hK_=>?_) (fun o_ ho_ K_ hK_=>?_)
   all_goals obtain rfl:=waB ho_
   all_goals have HK_:=waV hK_
   all_goals clear hK_ ho_
   ·go_wp2_with (go_at_call 81;refine(HA2.out _ hHeld.out.m).mono ?_;rintro e w4 ⟨v2,rfl,d2,hR2,hr2⟩)
    obtain⟨p2,rfl⟩:=d2.isPtr;refine HK_.out _ _ (hHeld.out.turn2 hr2 hR2) ?_;have d1:=hHeld.out.disc2 d1 hr2;have hHeld:Hid (DayS W w4 x L1 L2 op f1 u1 f2 u2 sh):=hHeld.out.turn2 hr2 hR2;clear HK_;refine(kP 12 21 (h:=?_));simp only[Act.put,zbj,zbk,zbl];refine zac (i:=13) kQ fun o_ ho_ K_ hK_=>?_
    obtain rfl:=waB ho_;have HK_:=waV hK_;clear hK_ ho_;have hP:=PBox.new (W0:=W) (W:=w4) hHeld.out.size;go_wp2;refine HK_.out _ _ (hHeld.out.below ((waC _ _).alloc (waJ _) _)) ?_;have hHeld:Hid (DayS W (World.alloc w4 (.cells #[.pointer none,.pointer none] 286)) x L1 L2 op f1 u1 f2 u2 sh):=hHeld.out.below ((waC _ _).alloc (waJ _) _)
    (try have d1:=d1.below ((waC _ w4).alloc (waJ _) (.cells #[.pointer none,.pointer none] 286)))
    (try have d2:=d2.below ((waC _ w4).alloc (waJ _) (.cells #[.pointer none,.pointer none] 286)))
    clear HK_;generalize World.alloc w4 (.cells #[.pointer none,.pointer none] 286)=w5 at *;have HPr:=waV (hP.pair hHeld.out d1 d2);have c0_:=hP.c0;have c1_:=hP.c1;have f_:=hP.fz;refine zaq (j:=1) dQ (.inr rfl) dQ kQ ?_;simp only[wbQ,waG,List.length_nil,Nat.reduceAdd,Nat.reduceSub,waZ,wbA];go_wp2;refine⟨rfl,(.pointer p1,.pointer p2,w4.heap.size),?_,HPr.out⟩;simp only[zdO,List.foldl,Act.put,wbU,wbV,wbW]
   ·have hP:=PBox.new (W0:=W) (W:=w3) hHeld.out.size;go_wp2;refine HK_.out _ _ (hHeld.out.below ((waC _ _).alloc (waJ _) _)) ?_;have hHeld:Hid (DayS W (World.alloc w3 (.cells #[.pointer none,.pointer none] 286)) x L1 L2 op f1 u1 f2 u2 sh):=hHeld.out.below ((waC _ _).alloc (waJ _) _)
    (try have d1:=d1.below ((waC _ w3).alloc (waJ _) (.cells #[.pointer none,.pointer none] 286)))
    (try have d2:=d2.below ((waC _ w3).alloc (waJ _) (.cells #[.pointer none,.pointer none] 286)))
    clear HK_;generalize World.alloc w3 (.cells #[.pointer none,.pointer none] 286)=w5 at *;refine zac (i:=11) kQ fun o_ ho_ K_ hK_=>?_
    obtain rfl:=waB ho_;have HK_:=waV hK_;clear hK_ ho_
    go_wp2_with (go_at_call 81;refine(HA2.out _ hHeld.out.m).mono ?_;rintro e w4 ⟨v2,rfl,d2,hR2,hr2⟩)
    obtain⟨p2,rfl⟩:=d2.isPtr;refine HK_.out _ _ (hHeld.out.turn2 hr2 hR2) ?_;have d1:=hHeld.out.disc2 d1 hr2;have hHeld:Hid (DayS W w4 x L1 L2 op f1 u1 f2 u2 sh):=hHeld.out.turn2 hr2 hR2;clear HK_;have hP:=hP.rls hr2 (hHeld.out.n2 hP.b);refine(kP 12 21 (h:=?_));simp only[Act.put,zbj,zbk,zbl];have HPr:=waV (hP.pair hHeld.out d1 d2);have c0_:=hP.c0;have c1_:=hP.c1;have f_:=hP.fz;refine zaq (j:=1) dQ (.inr rfl) dQ kQ ?_;simp only[wbQ,waG,List.length_nil,Nat.reduceAdd,Nat.reduceSub,waZ,wbA];go_wp2;refine⟨rfl,(.pointer p1,.pointer p2,w3.heap.size),?_,HPr.out⟩;simp only[zdO,List.foldl,Act.put,wbU,wbV,wbW]
  ·have hP:=PBox.new (W0:=W) (W:=W1) hHeld.out.size;go_wp2;refine HK_.out _ _ (hHeld.out.below ((waC _ _).alloc (waJ _) _)) ?_;have hHeld:Hid (DayS W (World.alloc W1 (.cells #[.pointer none,.pointer none] 286)) x L1 L2 op f1 u1 f2 u2 sh):=hHeld.out.below ((waC _ _).alloc (waJ _) _)
   (try have d1:=d1.below ((waC _ W1).alloc (waJ _) (.cells #[.pointer none,.pointer none] 286)))
   (try have d2:=d2.below ((waC _ W1).alloc (waJ _) (.cells #[.pointer none,.pointer none] 286)))
   clear HK_;generalize World.alloc W1 (.cells #[.pointer none,.pointer none] 286)=w5 at *;refine zac (i:=5) kQ fun o_ ho_ K_ hK_=>?_
   obtain rfl:=waB ho_;have HK_:=waV hK_;clear hK_ ho_
   go_wp2_with (go_at_call 81;refine(HA1.out _ hHeld.out.m).mono ?_;rintro e w3 ⟨v1,rfl,d1,hR1,hr1⟩)
   obtain⟨p1,rfl⟩:=d1.isPtr;refine HK_.out _ _ (hHeld.out.turn1 hr1 hR1) ?_;have hHeld:Hid (DayS W w3 x L1 L2 op f1 u1 f2 u2 sh):=hHeld.out.turn1 hr1 hR1;clear HK_;have hP:=hP.rls hr1 (hHeld.out.n1 hP.b);refine zac (i:=11) kQ fun o_ ho_ K_ hK_=>?_
   obtain rfl:=waB ho_;have HK_:=waV hK_;clear hK_ ho_
   go_wp2_with (go_at_call 81;refine(HA2.out _ hHeld.out.m).mono ?_;rintro e w4 ⟨v2,rfl,d2,hR2,hr2⟩)
   obtain⟨p2,rfl⟩:=d2.isPtr;refine HK_.out _ _ (hHeld.out.turn2 hr2 hR2) ?_;have d1:=hHeld.out.disc2 d1 hr2;have hHeld:Hid (DayS W w4 x L1 L2 op f1 u1 f2 u2 sh):=hHeld.out.turn2 hr2 hR2;clear HK_;have hP:=hP.rls hr2 (hHeld.out.n2 hP.b);refine(kP 12 21 (h:=?_));simp only[Act.put,zbj,zbk,zbl];have HPr:=waV (hP.pair hHeld.out d1 d2);have c0_:=hP.c0;have c1_:=hP.c1;have f_:=hP.fz;refine zaq (j:=1) dQ (.inr rfl) dQ kQ ?_;simp only[wbQ,waG,List.length_nil,Nat.reduceAdd,Nat.reduceSub,waZ,wbA];go_wp2;refine⟨rfl,(.pointer p1,.pointer p2,W1.heap.size),?_,HPr.out⟩;simp only[zdO,List.foldl,Act.put,wbU,wbV,wbW]
 case on=>
 rintro ⟨v1,v2,B⟩ w5 hP;simp only[zdO,List.foldl,Act.put,wbU,wbW,wbV];have HP:Hid (PairR W x L1 L2 op f1 u1 f2 u2 n v1 v2 B w5):=hP;clear hD0 hP HA1 HA2 HM c0 hu hi' HSz;have HT:Hid (prog.underlying 127=some (.map 286 4)):=underlying127;obtain⟨es,ck,hE,hes⟩:=HP.out.m.fine;have lm:=(waL.1 hE).1;have c3:=HP.out.m.c3;have lb5:=waR w5 _ c3;have c3y:∀y:Ext w5,y.W.cell? ⟨x.b,3,none⟩=some (.map (some x.fm)):=fun y=>y.cell c3
 have p0y:∀y:Ext w5,y.W.cell? ⟨B,0,none⟩=some v1:=fun y=>y.cell HP.out.c0
 have p1y:∀y:Ext w5,y.W.cell? ⟨B,1,none⟩=some v2:=fun y=>y.cell HP.out.c1
 rcases zqy (C:=fun V=>Below w5.heap.size w5 V) (Sv:=zg3) (x:=.agg #[v1,v2]) (z:=.bool false) HT.out (fun w=>rfl) (fun V _=>zm4 V) (fun V hV=>⟨v1,v2,rfl,(HP.out.d1.below hV).ptr,(HP.out.d2.below hV).ptr⟩) (fun V hV=>zkq (hes.rls (S:=fun _=>False) ((RlS.refl _ w5).below hV (waJ _)) (fun _ g=>g.elim))) hes.one w5 (waC _ _) hE with ⟨q,hq,hk,hl⟩|⟨hno,hl⟩
 ·have HN:Hid (zcO (fun s=>op (zay L1 n s) (zay L2 n s)) 0/\q.val=.bool true):=by
   obtain⟨y1,y2,p1,p2,g1,g2,g3,g4,g5⟩:=hes.all q hq;rw[hk] at g1;simp only[Value.agg.injEq,Array.mk.injEq,List.cons.injEq,and_true] at g1;obtain⟨rfl,rfl⟩:=g1;exact⟨g5.same (g3.same HP.out.d1) (g4.same HP.out.d2),g2⟩
  have hly:∀y:Ext w5,(Instr.lookup 127 (.map (some x.fm)) (.agg #[v1,v2]) false).run prog y.W=.ok (.bool true) y.W:=fun y=>by
   rw[<-HN.out.2];exact hl y.W y.h ((y.h.block _ lm).trans hE)
  clear hl hes hk hq hE HT;go_wp2;refine zaA kQ kQ ?_
  repeat (first|go_big_quiet_skip|(go_big_quiet_want;go_big_quiet_op;(first|go_big_quiet_on|go_big_quiet_call (fail))))
  refine wpQuiet_nil ?_;rintro _ ⟨xw,rfl⟩;have HP6:=waV (HP.out.below xw.h);clear c3y p0y p1y hly HP;go_wp2
  (try simp only[Exit.inBlock,Exit.then])
  refine waY (wbM rfl _ _ _) rfl ?_;exact⟨.inr ⟨rfl,HN.out.1⟩,HP6.out.m,HP6.out.rl⟩
 ·have hly:∀y:Ext w5,(Instr.lookup 127 (.map (some x.fm)) (.agg #[v1,v2]) false).run prog y.W=.ok (.bool false) y.W:=fun y=>hl y.W y.h ((y.h.block _ lm).trans hE)
  have HNo:=waV hno;have HEs:=waV hes;clear hl hno hes;go_wp2;refine zaA kQ kQ ?_
  repeat (first|go_big_quiet_skip|(go_big_quiet_want;go_big_quiet_op;(first|go_big_quiet_on|go_big_quiet_call (fail))))
  refine wpQuiet_nil ?_;rintro _ ⟨xw,rfl⟩;have HP6:=waV (HP.out.below xw.h);have hE6:xw.W.heap[x.fm]?=some (.map es ck):=(xw.h.block _ lm).trans hE;have HK6:Hid (FineE xw.W x.D op es.toList):=HEs.out.rls (S:=fun _=>False) ((RlS.refl _ w5).below xw.h (waJ _)) (fun _ g=>g.elim)
  clear c3y p0y p1y hly HP HEs hE lm c3 lb5;generalize xw.W=V6 at *;have c2:=HP6.out.m.c2;have eg:=HP6.out.m.fnd.1;have c2y:∀y:Ext V6,y.W.cell? ⟨x.b,2,none⟩=some (.func (.func x.g) #[] #[]):=fun y=>y.cell c2
  have p0y:∀y:Ext V6,y.W.cell? ⟨B,0,none⟩=some v1:=fun y=>y.cell HP6.out.c0
  have p1y:∀y:Ext V6,y.W.cell? ⟨B,1,none⟩=some v2:=fun y=>y.cell HP6.out.c1
  have HF0:=waV (fun V (hV:Below V6.heap.size V6 V)=>HP6.out.m.fnd.2 v1 v2 (zay L1 n) (zay L2 n) V ((HP6.out.below hV).m.r1.tz) (HP6.out.below hV).d1.v (HP6.out.below hV).d2.v)
  rcases zvO (fun s=>op (zay L1 n s) (zay L2 n s)) with ⟨s,hs⟩|hN
  ·have HF:Hid (∀V,Below V6.heap.size V6 V->Calls prog x.g #[v1,v2] V (Ret (.tuple #[.int .i64 (s:Nat),.bool true]) V)):=fun V hV=>(HF0.out V hV).mono (by
    rintro e w' ⟨rfl,(⟨y,rfl,hy⟩|⟨rfl,hn⟩)⟩
    ·obtain rfl:=zlC hs hy;exact⟨rfl,waC _ _⟩
    ·have:=hn s hs.2.1 hs.1;have h3:=hs.2.2.1;exact absurd (h3.symm.trans this) dQ)
   have HS:=waV hs;clear hs HF0;go_wp2;refine zaA kQ kQ ?_
   repeat (first|go_big_quiet_skip|(go_big_quiet_want;go_big_quiet_op;(first|go_big_quiet_on|go_big_quiet_call ((with_reducible exact zbP _ (HF.out _ (Ext.h _)))))))
   refine wpQuiet_nil ?_;rintro _ ⟨xw,rfl⟩;have HP7:=waV (HP6.out.below xw.h);clear c2y p0y p1y HP6 HF HK6;go_wp2
   (try simp only[Exit.inBlock,Exit.then])
   refine waY (wbM rfl _ _ _) rfl ?_;exact⟨.inl ⟨s,rfl,HS.out⟩,HP7.out.m,HP7.out.rl⟩
  ·have HF:Hid (∀V,Below V6.heap.size V6 V->Calls prog x.g #[v1,v2] V (Ret (.tuple #[.int .i64 0,.bool false]) V)):=fun V hV=>(HF0.out V hV).mono (by
    rintro e w' ⟨rfl,(⟨y,rfl,hy⟩|⟨rfl,hn⟩)⟩
    ·have:=hN y hy.2.1 hy.1;have h3:=hy.2.2.1;exact absurd (h3.symm.trans this) dQ
    ·exact⟨rfl,waC _ _⟩)
   have HN:=waV hN;clear hN HF0;go_wp2;refine zaA kQ kQ ?_
   repeat (first|go_big_quiet_skip|(go_big_quiet_want;go_big_quiet_op;(first|go_big_quiet_on|go_big_quiet_call ((with_reducible exact zbP _ (HF.out _ (Ext.h _)))))))
   refine wpQuiet_nil ?_;rintro _ ⟨xw,rfl⟩;have HP7:=waV (HP6.out.below xw.h);have hE7:xw.W.heap[x.fm]?=some (.map es ck):=(xw.h.block _ (waL.1 hE6).1).trans hE6;have HK7:Hid (FineE xw.W x.D op es.toList):=HK6.out.rls (S:=fun _=>False) ((RlS.refl _ V6).below xw.h (waJ _)) (fun _ g=>g.elim)
   clear c2y p0y p1y HP6 HF HK6 hE6 c2;generalize xw.W=V7 at *;have HUp:Hid (∀(V:World) (es5:Array MapEntry),(es5=es\/es5=#[])->PairR W x L1 L2 op f1 u1 f2 u2 n v1 v2 B V->V.heap[x.fm]?=some (.map es5 ck)->FineE V x.D op es5.toList->∀k,
    (Instr.mapUpdate 127 (.map (some x.fm)) (.agg #[v1,v2]) (.bool true)).run prog (V.drewN k)=.ok () ((V.drewN k).putObj x.fm (.map (es5.push {key:=.agg #[v1,v2],val:=.bool true,born:=ck}) (ck+1)))/\
      PairR W x L1 L2 op f1 u1 f2 u2 n v1 v2 B ((V.drewN k).putObj x.fm (.map (es5.push {key:=.agg #[v1,v2],val:=.bool true,born:=ck}) (ck+1)))):=fun V es5 he hP hE5 hK k=>by
    have hP2:=hP.below (zaj (waC _ _) k);have hK2:FineE (V.drewN k) x.D op es5.toList:=hK.rls (S:=fun _=>False) ((RlS.refl _ V).drewN k) (fun _ g=>g.elim)
    have hno':∀q∈es5.toList,q.key≠.agg #[v1,v2]:=by
     rcases he with rfl|rfl
     ·exact HNo.out
     ·intro q hq;cases hq
    exact⟨zb3 (w:=V.drewN k) (x:=.agg #[v1,v2]) (v:=.bool true) HT.out hE5 (zm4 _) ⟨v1,v2,rfl,hP2.d1.ptr,hP2.d2.ptr⟩ (zkq hK2) hno',hP2.putF (hK2.push hno' hP2.d1 hP2.d2 HN.out)⟩
   have hln:(Builtin.len_ #[127] 3 #[.map (some x.fm)]).run prog V7=.ok (.int .i64 (es.size:Int)) V7:=zex HT.out hE7;have hcr:(Builtin.clear_ #[127] 0 #[.map (some x.fm)]).run prog V7=.ok (.tuple #[]) (V7.putObj x.fm (.map #[] ck)):=zc4 HT.out hE7;have c3:=HP7.out.m.c3;have lb7:=waR V7 _ c3
   by_cases h6:es.size=512
   ·rw[h6] at hln;have HP8:=waV (HP7.out.putF (j:=ck) (es:=#[]) (FineE.nil _ _ _));have hE8:(V7.putObj x.fm (.map #[] ck)).heap[x.fm]?=some (.map #[] ck):=World.putObj_heap_same (waL.1 hE7).1;have HK8:Hid (FineE (V7.putObj x.fm (.map #[] ck)) x.D op (#[]:Array MapEntry).toList):=FineE.nil _ _ _;go_wp2;clear HP7 HK7 hln hcr hE7 c3;generalize (V7.putObj x.fm (.map #[] ck):World)=V8 at *;have c3:=HP8.out.m.c3;have q0:=HP8.out.c0;have q1:=HP8.out.c1;refine za6 5 kQ dQ kQ kQ kQ kQ kQ kQ ?_;dsimp only[List.take,List.drop]
    (try simp only[Act.put,List.append,wbT,wbN])
    repeat (first|go_big_quiet_skip|(go_big_quiet_want;(first|(fail;simp only[Act.put,wbU,wbV,wbW];go_big_quiet_on)|(go_big_quiet_op;(first|go_big_quiet_on|go_big_quiet_call (fail))))))
    refine wpQuiet_nil ?_;rintro _ ⟨nq,rfl⟩;obtain⟨hup,hret⟩:=HUp.out V8 #[] (.inr rfl) HP8.out hE8 HK8.out nq;have HRet:=waV hret;clear hret HUp HP8 HK8 hE8;go_wp2
    (try simp only[Exit.inBlock,Exit.then])
    refine waY (wbM rfl _ _ _) rfl ?_;exact⟨.inr ⟨rfl,HN.out⟩,HRet.out.m,HRet.out.rl⟩
   ·have h7:¬((es.size:Int)=512):=by omega
    have HP8:=HP7;have hE8:=hE7;have HK8:=HK7;go_wp2;clear HP7 HK7 hln hcr hE7 c3;generalize (V7:World)=V8 at *;have c3:=HP8.out.m.c3;have q0:=HP8.out.c0;have q1:=HP8.out.c1;refine za6 5 kQ dQ kQ kQ kQ kQ kQ kQ ?_;dsimp only[List.take,List.drop]
    (try simp only[Act.put,List.append,wbT,wbN])
    repeat (first|go_big_quiet_skip|(go_big_quiet_want;(first|(fail;simp only[Act.put,wbU,wbV,wbW];go_big_quiet_on)|(go_big_quiet_op;(first|go_big_quiet_on|go_big_quiet_call (fail))))))
    refine wpQuiet_nil ?_;rintro _ ⟨nq,rfl⟩;obtain⟨hup,hret⟩:=HUp.out V8 es (.inl rfl) HP8.out hE8 HK8.out nq;have HRet:=waV hret;clear hret HUp HP8 HK8 hE8;go_wp2
    (try simp only[Exit.inBlock,Exit.then])
    refine waY (wbM rfl _ _ _) rfl ?_;exact⟨.inr ⟨rfl,HN.out⟩,HRet.out.m,HRet.out.rl⟩
end Go.Proofs.YtllcdbgjeidlkaaGreatDoor
namespace Go.Proofs.YtllcdbgjeidlkaaGreatDoor
open Go.Proofs.Tryz
open Go.RowKit
def zvP (n:Nat) (l:List Cl) (w:World) (e:Ending) (w':World):Prop:=∃A c,e=.returned (.slice A n c)/\zbh w' A n l/\Below w.heap.size w w'/\∀x,A=some x->w.heap.size<=x.block
theorem zob (A:Option Addr) (n c:Nat) (l:List Cl) (w:World) (hA:zbh w A n l) (hn:n<=4294967296) (hnil:A=none->n=0):
 Calls prog 21 #[.slice A n c] w (zvP n l w):=by
 have HL:Hid (l.length=n):=hA.1;have heql:=fun W=>Lib.run_eql_slice_nil (P:=prog) W 22 60 A n c 0 0 underlying22
 rcases A with _|⟨b,o,sp⟩
 ·have h0:n=0:=hnil rfl;subst h0;go_enter func21,ntmps21;go_wp2;go_ret;exact⟨none,0,rfl,hA,waC _ _,fun x h=>by cases h⟩
 ·have hsp:0<n->sp=none:=fun h=>by
   obtain⟨b',o',e,_⟩:=hA.2 h;cases e;rfl
  obtain⟨i0,hi0,hz0,hz1,hz2⟩:=info_parts zvx;have hnews:∀(j:Nat) u,(l.flatMap zeN)[j]?=some u->w.cell? ((⟨b,o,sp⟩:Addr).add j)=some u:=by
   intro j u hu;have hn0:0<n:=by
    obtain⟨i,_,x,_,hx,_⟩:=ziB zfa l j u hu;have:=(waI.1 hx).1;have:=HL.out;omega
   have:=hsp hn0;subst this;exact Rd.news zfa hA j u hu
  have hall:∀(O:Obj) (j:Nat) u,(l.flatMap zeN)[j]?=some u->(w.alloc O).cell? ((⟨b,o,sp⟩:Addr).add j)=some u:=fun O j u hu=>by
   have h1:=hnews j u hu;have hlt:=waR w _ h1;exact(World.cell?_alloc_lt w O _ hlt).trans h1
  have hlen:(l.flatMap zeN).length=n * 30:=by rw[zeZ zfa,HL.out]
  have HN:=waV hall;clear hall hnews hsp;go_enter func21,ntmps21
  go_wp2_with (at_builtin;refine wpList_append_own _ rfl _ _ 22 rfl w.heap.size 60 i0 _ 30 240 underlying22 hi0 hz0 hz1 hz2 rfl dQ _ 0 [] rfl ?c0 ⟨b,o,sp⟩ n c (l.flatMap zeN) rfl hlen ?c1 (zli l) ?c2 ?c3 ?c4 ?c5)
  case c0=>exact World.ownsRow_made w #[] 0 (waJ _) (waK _) rfl
  case c1=>exact HN.out _
  case c2=>simp only[maxLen];omega
  case c3=>omega
  case c4=>simp
  case c5=>
   intro v' w' hown hg _;have hown:w'.ownsRow w.heap.size 60 30 v' n (l.flatMap zeN):=by simpa using hown
   have hblk:∀A' c',v'=.slice A' n c'->∀x,A'=some x->w.heap.size<=x.block:=fun A' c' hv x hx=>by
    rcases hown.2 with ⟨h1,_⟩|⟨g,cap,cur,h1,h2,_⟩
    ·rw[h1] at hv;cases hv;cases hx
    ·rw[h1] at hv;cases hv;cases hx;exact h2
   obtain⟨A',c',rfl,_,_,hr,_⟩:=Rd.of_own zfa hown HL.out;have hbl:Below w.heap.size w w':=((waC _ w).alloc (waJ _) _).grown hg (by simp) (by simp[Value.ownBlock])
   go_wp2;go_ret;exact⟨A',c',rfl,hr,hbl,hblk A' c' rfl⟩
def zvQ (n:Nat) (l:List Cl) (w:World) (e:Ending) (w':World):Prop:=
 Below w.heap.size w w'/\((8<n/\e=.returned (.tuple #[.slice none 0 0,.int .i64 5]))\/(n<=8/\zeJ l=false/\e=.returned (.tuple #[.slice none 0 0,.int .i64 1]))\/(n<=8/\zeJ l=true/\∃A c,e=.returned (.tuple #[.slice A n c,.int .i64 0])/\zbh w' A n l/\∀x,A=some x->w.heap.size<=x.block))
theorem zqz (A:Option Addr) (n c:Nat) (l:List Cl) (w:World) (hA:zbh w A n l) (hn:n<=4294967296) (hnil:A=none->n=0):
 Calls prog 8 #[.slice A n c] w (zvQ n l w):=by
 have HM:=waV (fun W (hb:Below w.heap.size w W)=>zpQ A n c l W (hA.below hb (waJ _)) oQ)
 have HC:=waV (fun W (hb:Below w.heap.size w W)=>zob A n c l W (hA.below hb (waJ _)) hn hnil)
 clear hA hnil
 by_cases h8:8<n
 ·have h8':(8:Int)<(n:Int):=by omega
  clear HM HC;go_enter func8,ntmps8;go_wp2
  (try simp only[Exit.inBlock,Exit.then])
  refine waY (wbM rfl _ _ _) rfl ?_;exact⟨waC _ _,.inl ⟨h8,rfl⟩⟩
 ·have h8':¬(8:Int)<(n:Int):=by omega
  cases hs:zeJ l with
  |false=>
   rw[hs] at HM;clear HC;go_enter func8,ntmps8;go_wp2_with fail;refine(HM.out _ (by exact zaE)).mono ?_
   rintro e w1 ⟨rfl,hb1⟩;go_wp2
   (try simp only[Exit.inBlock,Exit.then])
   refine waY (wbM rfl _ _ _) rfl ?_;exact⟨hb1,.inr (.inl ⟨by omega,hs,rfl⟩)⟩
  |true=>
   rw[hs] at HM;go_enter func8,ntmps8;go_wp2_with fail;refine(HM.out _ (by exact zaE)).mono ?_
   rintro e w1 ⟨rfl,hb1⟩;go_wp2_with fail;refine(HC.out _ (by exact zaE)).mono ?_
   rintro e w2 ⟨A',c',rfl,hr,hb2,hn2⟩;go_wp2
   (try simp only[Exit.inBlock,Exit.then])
   refine waY (wbM rfl _ _ _) rfl ?_;exact⟨zaf hb1 hb2 hb1.size,.inr (.inr ⟨by omega,hs,A',c',rfl,hr,fun x hx=>waW hb1.size (hn2 x hx)⟩)⟩
end Go.Proofs.YtllcdbgjeidlkaaGreatDoor
