/- A part of the proof: LCan LCanL PTabR PTabZ -/
import Derived.Test.YtadefhkaejjfmaaGreatDoorQ44
import Derived.Test.YtadefhkaejjfmaaGreatDoorCards
import Derived.Test.YtadefhkaejjfmaaGreatDoorTie
import Derived.Deep.DeepHandedRow
import Derived.Lib.LaidTab
import Derived.LaidSub
import Derived.MakeChecks
import Derived.Test.YtadefhkaejjfmaaGreatDoorQ29
import Derived.Test.YtadefhkaejjfmaaGreatDoorQ28
import Derived.Lib.LaidCaseMet
import Derived.PinnedBridge
import Derived.Deep.DeepWitnessRowRef
import Derived.Test.YtadefhkaejjfmaaGreatDoorQ33
import Derived.Test.YtadefhkaejjfmaaGreatDoorQ11
set_option maxHeartbeats 80000000
set_option maxRecDepth 100000
set_option linter.unusedSimpArgs false
set_option linter.unusedVariables false
namespace Go.Proofs.YtadefhkaejjfmaaGreatDoor
open Go.Proofs.Tryz
open Go.RowKit
open Go.Maps
def RetEq (L1 L2:List Cl) (w:World) (e:Ending) (w':World):Prop:=Below w.heap.size w w'∧∃b:Bool,e=.returned (.bool b)∧(b=true↔zkJ L1 L2)
theorem znp (l:Nat→List It):∀k,k∈[zaD l]→zcx k∧k.s≤9223372036854775807:=fun k hk=>by rw[wbC.1 hk];exact⟨zhD l,show(1:Int)≤9223372036854775807 by decide⟩
theorem znq (l:Nat→List It):zcj 1 [zaD l]=0:=by unfold zcj;rw[if_neg (by decide),if_pos (zjI l)]
theorem zrp (b1 b2:Nat) (l r:Nat→List It) (W:World) (h1:zbB W (some ⟨b1,0,none⟩) 1 [zaD l]) (h2:zbB W (some ⟨b2,0,none⟩) 1 [zaD r]) (hw:Tz W):
 Calls prog 22 #[.slice (some ⟨b1,0,none⟩) 1 1,.slice (some ⟨b2,0,none⟩) 1 1] W (RetEq [zaD l] [zaD r] W):=by
 have HQ:=waV (ziy (some ⟨b1,0,none⟩) (some ⟨b2,0,none⟩) 1 1 1 1 [zaD l] [zaD r] W h1 dQ (fun h=>(by cases h)) (znp l) h2 dQ (fun h=>(by cases h)) (znp r) hw)
 have HE:Hid (erE (zcj 1 [zaD l]) (zcj 1 [zaD r])=0):=by show _=_;rw[znq,znq];rfl
 clear h1 h2 hw;go_enter func22,ntmps22;go_wp2_with fail;refine HQ.out.mono ?_;rintro e w2 ⟨hb2,y,f,t,rfl,hy⟩;have HY:=waV (hy HE.out);rw[HE.out];clear hy HQ;go_wp2_with fail;go_ret;exact⟨hb2.alloc hb2.size _,y,rfl,HY.out⟩
theorem zu5 (A:Nat→Option Addr) (n c:Nat→Nat) (x:Nat→List It) (w:World) (hA:zbp w A n x) (hn:∀k,n k≤100000) (hnil:∀k,A k=none→n k=0) (ht:Tz w) (hc:(chk x).2=0) (hfix:∀y,Rais (zak [zaD x]) (some y)→∀k,k<5→y k=x k):
 Calls prog 27 #[.agg #[.int .i64 0,.slice (A 0) (n 0) (c 0),.slice (A 1) (n 1) (c 1),.slice (A 2) (n 2) (c 2),.slice (A 3) (n 3) (c 3),.slice (A 4) (n 4) (c 4),.slice none 0 0,.slice none 0 0,.slice none 0 0,.slice none 0 0,.bool false,.slice none 0 0,.slice none 0 0,.slice none 0 0,.int .i64 0,.int .i64 0,.int .i64 0,.int .i64 0,.int .i64 0,.slice none 0 0,.slice none 0 0,.slice none 0 0,.slice none 0 0,.slice none 0 0,.slice none 0 0]] w (Ret (.tuple #[.bool true,.int .i64 0]) w):=by
 have HCn:=waV (fun V (hV:Below w.heap.size w V)=>zgT A n c x V (hA.below hV (waJ _)) hn hnil (ht.below hV))
 have hcr:crV A n c=.agg #[.slice (A 0) (n 0) (c 0),.slice (A 1) (n 1) (c 1),.slice (A 2) (n 2) (c 2),.slice (A 3) (n 3) (c 3),.slice (A 4) (n 4) (c 4)]:=rfl;have HA:=waV hA;have HN:=waV hn;have HFx:=waV hfix;have HC:=waV hc;rw[hcr] at HCn;clear hA hn hnil ht hcr hc hfix;go_enter func27,ntmps27;go_wp2_with fail;have hb0:Below w.heap.size w (w.alloc (.cells #[.int .i64 0,.slice (A 0) (n 0) (c 0),.slice (A 1) (n 1) (c 1),.slice (A 2) (n 2) (c 2),.slice (A 3) (n 3) (c 3),.slice (A 4) (n 4) (c 4),.slice none 0 0,.slice none 0 0,.slice none 0 0,.slice none 0 0,.bool false,.slice none 0 0,.slice none 0 0,.slice none 0 0,.int .i64 0,.int .i64 0,.int .i64 0,.int .i64 0,.int .i64 0,.slice none 0 0,.slice none 0 0,.slice none 0 0,.slice none 0 0,.slice none 0 0,.slice none 0 0] 69)):=(waC _ w).alloc (waJ _) _;have hP:(w.alloc (.cells #[.int .i64 0,.slice (A 0) (n 0) (c 0),.slice (A 1) (n 1) (c 1),.slice (A 2) (n 2) (c 2),.slice (A 3) (n 3) (c 3),.slice (A 4) (n 4) (c 4),.slice none 0 0,.slice none 0 0,.slice none 0 0,.slice none 0 0,.bool false,.slice none 0 0,.slice none 0 0,.slice none 0 0,.int .i64 0,.int .i64 0,.int .i64 0,.int .i64 0,.int .i64 0,.slice none 0 0,.slice none 0 0,.slice none 0 0,.slice none 0 0,.slice none 0 0,.slice none 0 0] 69)).heap[w.heap.size]?=some (.cells #[.int .i64 0,.slice (A 0) (n 0) (c 0),.slice (A 1) (n 1) (c 1),.slice (A 2) (n 2) (c 2),.slice (A 3) (n 3) (c 3),.slice (A 4) (n 4) (c 4),.slice none 0 0,.slice none 0 0,.slice none 0 0,.slice none 0 0,.bool false,.slice none 0 0,.slice none 0 0,.slice none 0 0,.int .i64 0,.int .i64 0,.int .i64 0,.int .i64 0,.int .i64 0,.slice none 0 0,.slice none 0 0,.slice none 0 0,.slice none 0 0,.slice none 0 0,.slice none 0 0] 69 (0,0)):=World.alloc_heap_new _ _;generalize w.alloc (.cells #[.int .i64 0,.slice (A 0) (n 0) (c 0),.slice (A 1) (n 1) (c 1),.slice (A 2) (n 2) (c 2),.slice (A 3) (n 3) (c 3),.slice (A 4) (n 4) (c 4),.slice none 0 0,.slice none 0 0,.slice none 0 0,.slice none 0 0,.bool false,.slice none 0 0,.slice none 0 0,.slice none 0 0,.int .i64 0,.int .i64 0,.int .i64 0,.int .i64 0,.int .i64 0,.slice none 0 0,.slice none 0 0,.slice none 0 0,.slice none 0 0,.slice none 0 0,.slice none 0 0] 69)=V0 at *;refine(HCn.out _ hb0).mono ?_;rintro e w1 ⟨hb1,(⟨hk,_⟩|⟨_,y,v,hg,hm,rfl,ho⟩)⟩
 ·exact absurd HC.out hk
 ·have hb01:=zai hb0 hb1 hb0.size;replace hP:=(hb1.block _ (waL.1 hP).1).trans hP;obtain⟨A2,n2,c2,e2,hr2,_,hn2,_⟩:=ho.rd;obtain⟨T0,p0,q0,T1,p1,q1,T2,p2,q2,T3,p3,q3,T4,p4,q4,hv⟩:=ho.five;have HSm:=waV (fun V (hb:Below w1.heap.size w1 V)=>(show Calls prog 26 #[v,crV A n c] V (Ret (.bool true) V) by
   rw[e2];have hfy:∀k,k<5→zaJ k (y k)=0:=by
    rcases znl y with g|g
    ·exact g.2
    ·exact absurd (by rw[hm.1]) g
   have h2:=zjq A2 A n2 c2 n c y x V (hr2.below hb (waJ _)) (HA.out.below (hb01.trans (hb.mono hb01.size)) (waJ _)) (fun k=>by
    rw[hn2 k];split
    ·have:=(zhN (hfy k ‹_›)).2.1;omega
    ·exact waK _) (fun k=>by have:=HN.out k;omega)
   have hsl:zbR y x=true:=zeq fun k hk=>by rw[HFx.out y hg k hk];simp[zbW]
   rw[hsl] at h2;exact h2))
  have hcr:crV A n c=.agg #[.slice (A 0) (n 0) (c 0),.slice (A 1) (n 1) (c 1),.slice (A 2) (n 2) (c 2),.slice (A 3) (n 3) (c 3),.slice (A 4) (n 4) (c 4)]:=rfl;rw[hcr] at HSm;subst hv;have hbA:Below w1.heap.size w1 (w1.alloc (.cells #[.slice T0 p0 q0,.slice T1 p1 q1,.slice T2 p2 q2,.slice T3 p3 q3,.slice T4 p4 q4] 60)):=(waC _ _).alloc (waJ _) _;have HPl:Hid (∀j v,(#[.slice (A 0) (n 0) (c 0),.slice (A 1) (n 1) (c 1),.slice (A 2) (n 2) (c 2),.slice (A 3) (n 3) (c 3),.slice (A 4) (n 4) (c 4)]:Array Value)[j]?=some v→(w1.alloc (.cells #[.slice T0 p0 q0,.slice T1 p1 q1,.slice T2 p2 q2,.slice T3 p3 q3,.slice T4 p4 q4] 60)).cell? ⟨w.heap.size,1+j,none⟩=some v):=fun j v hj=>by
   have:=(hbA.block _ (waL.1 hP).1).trans hP;rw[World.cell?_of_heap this];have h5:=(waL.1 hj).1;have h5:j<5:=h5;obtain rfl|rfl|rfl|rfl|rfl:j=0∨j=1∨j=2∨j=3∨j=4:=by omega
   all_goals (injection hj with hj;subst hj;rfl)
  clear hr2 hn2 ho e2 hg hm hP hcr HCn
  go_wp2_with (first|(refine zad (by rfl) 60 _ rfl #[.slice (A 0) (n 0) (c 0),.slice (A 1) (n 1) (c 1),.slice (A 2) (n 2) (c 2),.slice (A 3) (n 3) (c 3),.slice (A 4) (n 4) (c 4)] w.heap.size 1 rfl underlying60 rfl zaL HPl.out ?_)|fail)
  refine(HSm.out _ hbA).mono ?_;rintro e w2 ⟨rfl,hb2⟩;have hb02:=zai hb01 (zai hbA hb2 hbA.size) hb01.size;clear HSm HPl;go_wp2_with fail
  go_ret2
  exact⟨rfl,hb02⟩
theorem zmg (w:World) (hp:Pow w) (ht:Tz w):Calls prog 18 #[] w (Ret (.bool true) w):=by
 have HA:=waV (fun W=>zrn W)
 have HP:=waV hp;have HT:=waV ht;clear hp ht;go_enter func18,ntmps18;go_wp2_with fail;refine(HA.out _).mono ?_;rintro e w1 ⟨hb1,A,n,c,rfl,ho⟩;obtain⟨A,n,e,hrd,hn,hz⟩:=zwg ho;rw[e];have HCn:=waV (fun W (hb:Below w1.heap.size w1 W) (ht:Tz W)=>zgT A n c zgl W (hrd.below hb (waJ _)) (fun k=>by have:=hn k;omega) hz ht)
 have HEv:=waV zoK;have HC0:Hid ((chk zgl).2=0):=by show _=_;rw[zth]
 clear hrd hn hz HA ho e;generalize zgl=F at *;go_wp2_with fail;have hbA:Below w1.heap.size w1 (w1.alloc (.cells #[.slice (A 0) (n 0) (c 0),.slice (A 1) (n 1) (c 1),.slice (A 2) (n 2) (c 2),.slice (A 3) (n 3) (c 3),.slice (A 4) (n 4) (c 4)] 60)):=(waC _ _).alloc (waJ _) _;refine(HCn.out _ hbA (HT.out.below (zai hb1 hbA hb1.size))).mono ?_;rintro e w3 ⟨hb3,(⟨hk,_⟩|⟨_,l,v,h,_,rfl,ho⟩)⟩
 ·exact absurd HC0.out hk
 ·have hb03:=zai hb1 (zai hbA hb3 hbA.size) hb1.size;obtain rfl:=waB (zu2 HEv.out h);obtain⟨A',n',c',e,hr',hz',hn',_⟩:=ho.rd;obtain⟨S0,n0,d0,S1,n1,d1,S2,n2,d2,S3,n3,d3,S4,n4,d4,hv⟩:=ho.five;have HSh:=waV (fun W (hb:Below w3.heap.size w3 W)=>(show Calls prog 56 #[v] W (Ret (.tuple #[.string (zcS [42,32,42,32,42,32,42,32,42]),.int .i64 0]) W) by
   rw[e,←zu4 HEv.out];exact zu3 A' n' c' _ W (hr'.below hb (waJ _)) (fun k=>by rw[hn' k];split;rw[zrl HEv.out k];decide;exact waK _) hz' (fun k it hit=>by rw[zrl HEv.out k] at hit;rw[wbC.1 hit];exact⟨⟨by decide,by decide⟩,⟨by decide,by decide⟩,⟨by decide,by decide⟩,⟨by decide,by decide⟩⟩) (zc0 HP.out (hb03.trans (hb.mono hb03.size))) (zwh HEv.out)))
  subst hv;clear ho hr' hz' hn' e h HP HT HC0 HEv HCn hb1 hbA hb3;go_wp2_with fail;refine(HSh.out _ (by exact zaI)).mono ?_
  rintro e w4 ⟨rfl,hq4⟩;have hb4:Below w.heap.size w w4:=(hb03.alloc hb03.size _).trans (hq4.mono (by simp;have:=hb03.size;omega))
  clear HSh hq4;have hs:((zcS [42,32,42,32,42,32,42,32,42]).toList==[42,32,42,32,42,32,42,32,42])=true:=by decide+kernel
  go_wp2;go_ret;exact⟨rfl,hb4⟩
structure CanS (W V:World) (cs ds:Array Value):Prop where
 c:zld V W.heap.size cs
 d:zld V (W.heap.size+1) ds
 be:Below W.heap.size W V
theorem CanS.below {W V X:World} {cs ds:Array Value} (h:CanS W V cs ds) (hb:Below V.heap.size V X):CanS W X cs ds:=⟨h.c.below hb,h.d.below hb,zai h.be hb h.be.size⟩
theorem CanS.new (W:World) (cs ds:Array Value):CanS W ((W.alloc (.cells cs 60)).alloc (.cells ds 60)) cs ds:=by
 have h1:zld (W.alloc (.cells cs 60)) W.heap.size cs:=World.alloc_heap_new W _;have h2:=World.alloc_heap_new (W.alloc (.cells cs 60)) (.cells ds 60);rw[show (W.alloc (.cells cs 60)).heap.size=W.heap.size+1 by simp] at h2
 exact⟨h1.below ((waC _ _).alloc (waJ _) _),h2,((waC _ W).alloc (waJ _) _).alloc (by simp) _⟩
theorem zld.ld {V:World} {b:Nat} {v0 v1 v2 v3 v4:Value} (h:zld V b #[v0,v1,v2,v3,v4]):∀(j:Nat) v,(#[v0,v1,v2,v3,v4]:Array Value)[j]?=some v→V.cell? ⟨b,0+j,none⟩=some v:=zcw (zbE h)
theorem zld.new (V:World) (cs:Array Value):zld (V.alloc (.cells cs 60)) V.heap.size cs:=World.alloc_heap_new V _
theorem zle {l r:Nat→List It}:zbR l r=true↔∀k,k<5→l k=r k:=by
 unfold zbR;rw[List.all_eq_true];constructor
 ·intro h k hk;have:=h k (wbG.2 hk);simpa[zbW] using this
 ·intro h k hk;simp[zbW,h k (wbG.1 hk)]
def zu6 (l:Nat→List It) (w:World) (e:Ending) (w':World):Prop:=Below w.heap.size w w'∧∃x v,Rais (zak [zaD l]) (some x)∧zcr x (zak [zaD l])∧e=.returned (.tuple #[v,.int .i64 0])∧zaQ w' w.heap.size v x
theorem zrq (w:World):zbp w (fun _=>none) (fun _=>0) (fun _=>[]):=fun k hk=>⟨rfl,fun h=>absurd h (Nat.lt_irrefl 0)⟩
theorem zrr (V:World):Calls prog 26 #[.agg zbd,.agg zbd] V (Ret (.bool true) V):=by
 have:=zjq (fun _=>none) (fun _=>none) (fun _=>0) (fun _=>0) (fun _=>0) (fun _=>0) (fun _=>[]) (fun _=>[]) V (zrq V) (zrq V) (fun _=>by decide) (fun _=>by decide)
 rw[zjp] at this;exact this
theorem zaQ.ok {w:World} {B:Nat} {v:Value} {x:Nat→List It} {P:Int→Nat→Bool} (ho:zaQ w B v x) (hm:zcr x P):∃A n c,v=crV A n c∧zbp w A n x∧(∀k,A k=none→n k=0)∧∀k,n k≤100000:=by
 obtain⟨A,n,c,e,hr,hz,hn,_⟩:=ho.rd;refine⟨A,n,c,e,hr,hz,fun k=>?_⟩
 rw[hn k];split
 ·have hf:zaJ k (x k)=0:=by
   rcases znl x with g|g
   ·exact g.2 k ‹_›
   ·exact absurd (by rw[hm.1]) g
  have:=(zhN hf).2.1;omega
 ·exact waK _
theorem zh7 (A D:Nat→Option Addr) (n c m d:Nat→Nat) (l r:Nat→List It) (w:World) (hA:zbp w A n l) (hn:∀k,n k≤9223372036854775807) (hnil:∀k,A k=none→n k=0) (h5:∀k,5≤k→n k=0)
 (hD:zbp w D m r) (hm:∀k,m k≤9223372036854775807) (hmil:∀k,D k=none→m k=0) (m5:∀k,5≤k→m k=0) (hp:Pow w) (ht:Tz w):
 Calls prog 6 #[crV A n c,crV D m d] w (Ret (.bool true) w):=by
 have HV:=waV (fun W (hb:Below w.heap.size w W)=>zmg W (zc0 hp hb) (ht.below hb))
 have HG:=waV (fun W=>zkU A n c W)
 have HG2:=waV (fun W=>zkU D m d W)
 have HT:=waV ht;clear hp ht;have hcr:crV A n c=.agg #[.slice (A 0) (n 0) (c 0),.slice (A 1) (n 1) (c 1),.slice (A 2) (n 2) (c 2),.slice (A 3) (n 3) (c 3),.slice (A 4) (n 4) (c 4)]:=rfl;have hdr:crV D m d=.agg #[.slice (D 0) (m 0) (d 0),.slice (D 1) (m 1) (d 1),.slice (D 2) (m 2) (d 2),.slice (D 3) (m 3) (d 3),.slice (D 4) (m 4) (d 4)]:=rfl;cases hg:zeY n with
 |true=>
  rw[hg] at HG;clear hA hn hnil h5 hD hm hmil m5 hg;rw[hcr] at HG ⊢;rw[hdr] at HG2 ⊢;clear hcr hdr;go_enter func6,ntmps6;go_wp2_with fail;have hS:CanS w ((w.alloc (.cells #[.slice (A 0) (n 0) (c 0),.slice (A 1) (n 1) (c 1),.slice (A 2) (n 2) (c 2),.slice (A 3) (n 3) (c 3),.slice (A 4) (n 4) (c 4)] 60)).alloc (.cells #[.slice (D 0) (m 0) (d 0),.slice (D 1) (m 1) (d 1),.slice (D 2) (m 2) (d 2),.slice (D 3) (m 3) (d 3),.slice (D 4) (m 4) (d 4)] 60)) #[.slice (A 0) (n 0) (c 0),.slice (A 1) (n 1) (c 1),.slice (A 2) (n 2) (c 2),.slice (A 3) (n 3) (c 3),.slice (A 4) (n 4) (c 4)] #[.slice (D 0) (m 0) (d 0),.slice (D 1) (m 1) (d 1),.slice (D 2) (m 2) (d 2),.slice (D 3) (m 3) (d 3),.slice (D 4) (m 4) (d 4)]:=CanS.new w _ _;generalize ((w.alloc (.cells #[.slice (A 0) (n 0) (c 0),.slice (A 1) (n 1) (c 1),.slice (A 2) (n 2) (c 2),.slice (A 3) (n 3) (c 3),.slice (A 4) (n 4) (c 4)] 60)).alloc (.cells #[.slice (D 0) (m 0) (d 0),.slice (D 1) (m 1) (d 1),.slice (D 2) (m 2) (d 2),.slice (D 3) (m 3) (d 3),.slice (D 4) (m 4) (d 4)] 60))=V0 at *;refine(HG.out _).mono ?_;rintro x w1 ⟨rfl,hb1⟩;replace hS:=hS.below hb1;clear hb1;go_wp2_with fail;refine(HV.out _ hS.be).mono ?_;rintro x w2 ⟨rfl,hb2⟩;go_wp2;go_ret;exact⟨rfl,zai hS.be hb2 hS.be.size⟩
 |false=>
  have hns:∀k,n k≤100000:=fun k=>by
   by_cases hk:k<5
   ·have:=zm8 hg k hk;omega
   ·rw[h5 k (by omega)];omega
  rw[hg] at HG;clear hg;cases hg:zeY m with
  |true=>
   rw[hg] at HG2;clear hA hn hnil h5 hD hm hmil m5 hg hns;rw[hcr] at HG ⊢;rw[hdr] at HG2 ⊢;clear hcr hdr;go_enter func6,ntmps6;go_wp2_with fail;have hS:CanS w ((w.alloc (.cells #[.slice (A 0) (n 0) (c 0),.slice (A 1) (n 1) (c 1),.slice (A 2) (n 2) (c 2),.slice (A 3) (n 3) (c 3),.slice (A 4) (n 4) (c 4)] 60)).alloc (.cells #[.slice (D 0) (m 0) (d 0),.slice (D 1) (m 1) (d 1),.slice (D 2) (m 2) (d 2),.slice (D 3) (m 3) (d 3),.slice (D 4) (m 4) (d 4)] 60)) #[.slice (A 0) (n 0) (c 0),.slice (A 1) (n 1) (c 1),.slice (A 2) (n 2) (c 2),.slice (A 3) (n 3) (c 3),.slice (A 4) (n 4) (c 4)] #[.slice (D 0) (m 0) (d 0),.slice (D 1) (m 1) (d 1),.slice (D 2) (m 2) (d 2),.slice (D 3) (m 3) (d 3),.slice (D 4) (m 4) (d 4)]:=CanS.new w _ _;generalize ((w.alloc (.cells #[.slice (A 0) (n 0) (c 0),.slice (A 1) (n 1) (c 1),.slice (A 2) (n 2) (c 2),.slice (A 3) (n 3) (c 3),.slice (A 4) (n 4) (c 4)] 60)).alloc (.cells #[.slice (D 0) (m 0) (d 0),.slice (D 1) (m 1) (d 1),.slice (D 2) (m 2) (d 2),.slice (D 3) (m 3) (d 3),.slice (D 4) (m 4) (d 4)] 60))=V0 at *;refine(HG.out _).mono ?_;rintro x w1 ⟨rfl,hb1⟩;replace hS:=hS.below hb1;clear hb1;have HLd:=waV hS.d.ld
   go_wp2_with (first|(refine zad (by rfl) 60 _ rfl #[.slice (D 0) (m 0) (d 0),.slice (D 1) (m 1) (d 1),.slice (D 2) (m 2) (d 2),.slice (D 3) (m 3) (d 3),.slice (D 4) (m 4) (d 4)] (w.heap.size+1) 0 rfl underlying60 rfl zaL HLd.out ?_)|fail)
   refine(HG2.out _).mono ?_;rintro x w2 ⟨rfl,hb2⟩;replace hS:=hS.below hb2;clear hb2 HLd;go_wp2_with fail;refine(HV.out _ hS.be).mono ?_;rintro x w3 ⟨rfl,hb3⟩;go_wp2;go_ret;exact⟨rfl,zai hS.be hb3 hS.be.size⟩
  |false=>
   have hms:∀k,m k≤100000:=fun k=>by
    by_cases hk:k<5
    ·have:=zm8 hg k hk;omega
    ·rw[m5 k (by omega)];omega
   rw[hg] at HG2;clear hg;have HLw:=waV (fun hc V (hV:Below w.heap.size w V)=>zfP A n c l V (hA.below hV (waJ _)) hns hnil hc)
   have HBad:=waV (fun hc V (hV:Below w.heap.size w V)=>zfQ A n c l V (hA.below hV (waJ _)) hn hc)
   have HCn:=waV (fun V (hV:Below w.heap.size w V)=>zgT A n c l V (hA.below hV (waJ _)) hns hnil (HT.out.below hV))
   have HLw2:=waV (fun hc V (hV:Below w.heap.size w V)=>zfP D m d r V (hD.below hV (waJ _)) hms hmil hc)
   have HBad2:=waV (fun hc V (hV:Below w.heap.size w V)=>zfQ D m d r V (hD.below hV (waJ _)) hm hc)
   have HCn2:=waV (fun V (hV:Below w.heap.size w V)=>zgT D m d r V (hD.below hV (waJ _)) hms hmil (HT.out.below hV))
   clear hA hn hnil h5 hD hm hmil m5 hns hms;rw[hcr] at HG HLw HBad HCn ⊢;rw[hdr] at HG2 HLw2 HBad2 HCn2 ⊢;clear hcr hdr
   by_cases hc:(chk l).2=0
   ·replace HLw:=waV (HLw.out hc);have HCo:=waV (fun V (hV:Below w.heap.size w V)=>(HCn.out V hV).mono (R':=zu6 l V) (by
     rintro e w' ⟨hb,(⟨hk,_⟩|⟨_,h⟩)⟩
     ·exact absurd hc hk
     ·exact⟨hb,h⟩))
    clear HCn HBad hc;go_enter func6,ntmps6;go_wp2_with fail;have hS:CanS w ((w.alloc (.cells #[.slice (A 0) (n 0) (c 0),.slice (A 1) (n 1) (c 1),.slice (A 2) (n 2) (c 2),.slice (A 3) (n 3) (c 3),.slice (A 4) (n 4) (c 4)] 60)).alloc (.cells #[.slice (D 0) (m 0) (d 0),.slice (D 1) (m 1) (d 1),.slice (D 2) (m 2) (d 2),.slice (D 3) (m 3) (d 3),.slice (D 4) (m 4) (d 4)] 60)) #[.slice (A 0) (n 0) (c 0),.slice (A 1) (n 1) (c 1),.slice (A 2) (n 2) (c 2),.slice (A 3) (n 3) (c 3),.slice (A 4) (n 4) (c 4)] #[.slice (D 0) (m 0) (d 0),.slice (D 1) (m 1) (d 1),.slice (D 2) (m 2) (d 2),.slice (D 3) (m 3) (d 3),.slice (D 4) (m 4) (d 4)]:=CanS.new w _ _;generalize ((w.alloc (.cells #[.slice (A 0) (n 0) (c 0),.slice (A 1) (n 1) (c 1),.slice (A 2) (n 2) (c 2),.slice (A 3) (n 3) (c 3),.slice (A 4) (n 4) (c 4)] 60)).alloc (.cells #[.slice (D 0) (m 0) (d 0),.slice (D 1) (m 1) (d 1),.slice (D 2) (m 2) (d 2),.slice (D 3) (m 3) (d 3),.slice (D 4) (m 4) (d 4)] 60))=V0 at *;refine(HG.out _).mono ?_;rintro x w1 ⟨rfl,hb1⟩;replace hS:=hS.below hb1;clear hb1;have HLd:=waV hS.d.ld
    go_wp2_with (first|(refine zad (by rfl) 60 _ rfl #[.slice (D 0) (m 0) (d 0),.slice (D 1) (m 1) (d 1),.slice (D 2) (m 2) (d 2),.slice (D 3) (m 3) (d 3),.slice (D 4) (m 4) (d 4)] (w.heap.size+1) 0 rfl underlying60 rfl zaL HLd.out ?_)|fail)
    refine(HG2.out _).mono ?_;rintro x w2 ⟨rfl,hb2⟩;replace hS:=hS.below hb2;have HLc:=waV hS.c.ld;clear hb2 HLd HG HG2
    go_wp2_with (first|(refine zad (by rfl) 60 _ rfl #[.slice (A 0) (n 0) (c 0),.slice (A 1) (n 1) (c 1),.slice (A 2) (n 2) (c 2),.slice (A 3) (n 3) (c 3),.slice (A 4) (n 4) (c 4)] w.heap.size 0 rfl underlying60 rfl zaL HLc.out ?_)|fail)
    refine(HLw.out _ hS.be).mono ?_;rintro e w3 ⟨b,rfl,hr3,hb3⟩;replace hS:=hS.below hb3;replace HLc:=waV hS.c.ld;have HR:=waV hr3;clear hb3 hr3 HLw
    go_wp2_with (first|(refine zad (by rfl) 60 _ rfl #[.slice (A 0) (n 0) (c 0),.slice (A 1) (n 1) (c 1),.slice (A 2) (n 2) (c 2),.slice (A 3) (n 3) (c 3),.slice (A 4) (n 4) (c 4)] w.heap.size 0 rfl underlying60 rfl zaL HLc.out ?_)|fail)
    refine(HCo.out _ hS.be).mono ?_;rintro e w4 ⟨hb4,x,v,hra,hme,rfl,ho⟩;replace hS:=hS.below hb4;replace HR:=waV (HR.out.below hb4 (waJ _));obtain⟨A2,n2,c2,e2,hr2,hz2,hn2⟩:=ho.ok hme;subst e2;have hxr:crV A2 n2 c2=.agg #[.slice (A2 0) (n2 0) (c2 0),.slice (A2 1) (n2 1) (c2 1),.slice (A2 2) (n2 2) (c2 2),.slice (A2 3) (n2 3) (c2 3),.slice (A2 4) (n2 4) (c2 4)]:=rfl;have HX:Hid (Rais (zak [zaD l]) (some x)∧zcr x (zak [zaD l])):=⟨hra,hme⟩;have hcx:(chk x).2=0:=by rw[hme.1]
    have hsm:zdj (zak [zaD x]) (zak [zaD l]):=fun n s h0 h1 h2=>by rw[←hme.2 n s h0 h1 h2];exact zfR x _
    have HLx:=waV (fun V (hb:Below w4.heap.size w4 V)=>zfP A2 n2 c2 x V (hr2.below hb (waJ _)) hn2 hz2 hcx)
    have HIs:=waV (fun V (hb:Below w4.heap.size w4 V) (ht:Tz V)=>zu5 A2 n2 c2 x V (hr2.below hb (waJ _)) hn2 hz2 ht hcx (fun y hy k _=>by rw[waB ((hy.congr hsm).det hra)]))
    rw[hxr] at HLx;have HRx:Hid (zbp w4 A2 n2 x∧(∀k,n2 k≤100000)):=⟨hr2,hn2⟩;have HSl:Hid (zkJ [zaD l] [zaD x]):=fun n h0 h1 s h2=>(hsm n s h0 h1 h2).symm
    have hbx:Below w4.heap.size w4 (w4.alloc (.cells #[.slice (A2 0) (n2 0) (c2 0),.slice (A2 1) (n2 1) (c2 1),.slice (A2 2) (n2 2) (c2 2),.slice (A2 3) (n2 3) (c2 3),.slice (A2 4) (n2 4) (c2 4)] 60)):=(waC _ _).alloc (waJ _) _;replace hS:=hS.below hbx;replace HR:=waV (HR.out.below hbx (waJ _));have hX:=zld.new w4 #[.slice (A2 0) (n2 0) (c2 0),.slice (A2 1) (n2 1) (c2 1),.slice (A2 2) (n2 2) (c2 2),.slice (A2 3) (n2 3) (c2 3),.slice (A2 4) (n2 4) (c2 4)];have HPl:Hid (∀W,(Instr.build 69 #[(0,.int .i64 0),(1,.agg #[.slice (A2 0) (n2 0) (c2 0),.slice (A2 1) (n2 1) (c2 1),.slice (A2 2) (n2 2) (c2 2),.slice (A2 3) (n2 3) (c2 3),.slice (A2 4) (n2 4) (c2 4)])]).run prog W=.ok (.agg #[.int .i64 0,.slice (A2 0) (n2 0) (c2 0),.slice (A2 1) (n2 1) (c2 1),.slice (A2 2) (n2 2) (c2 2),.slice (A2 3) (n2 3) (c2 3),.slice (A2 4) (n2 4) (c2 4),.slice none 0 0,.slice none 0 0,.slice none 0 0,.slice none 0 0,.bool false,.slice none 0 0,.slice none 0 0,.slice none 0 0,.int .i64 0,.int .i64 0,.int .i64 0,.int .i64 0,.int .i64 0,.slice none 0 0,.slice none 0 0,.slice none 0 0,.slice none 0 0,.slice none 0 0,.slice none 0 0]) W):=fun W=>run_build W _ _ _ kQ
    rw[hxr];clear hb4 hra hme hcx hsm hxr hr2 hz2 hn2 ho HLc HCo;go_wp2_with fail;generalize w4.alloc (.cells #[.slice (A2 0) (n2 0) (c2 0),.slice (A2 1) (n2 1) (c2 1),.slice (A2 2) (n2 2) (c2 2),.slice (A2 3) (n2 3) (c2 3),.slice (A2 4) (n2 4) (c2 4)] 60)=V5 at *;refine(HLx.out _ hbx).mono ?_;rintro e w6 ⟨b2,rfl,hr6,hb6⟩;replace hS:=hS.below hb6;replace HR:=waV (HR.out.below hb6 (waJ _));replace hX:=hX.below hb6;replace hbx:=zai hbx hb6 hbx.size;have HR2:=waV hr6;have HLx:=waV hX.ld;clear hb6 hr6
    go_wp2_with (first|(refine zad (by rfl) 60 _ rfl #[.slice (A2 0) (n2 0) (c2 0),.slice (A2 1) (n2 1) (c2 1),.slice (A2 2) (n2 2) (c2 2),.slice (A2 3) (n2 3) (c2 3),.slice (A2 4) (n2 4) (c2 4)] w4.heap.size 0 rfl underlying60 rfl zaL HLx.out ?_)|fail)
    refine(HIs.out _ hbx (HT.out.below hS.be)).mono ?_;rintro e w7 ⟨rfl,hb7⟩;replace hS:=hS.below hb7;replace HR:=waV (HR.out.below hb7 (waJ _));replace HR2:=waV (HR2.out.below hb7 (waJ _));replace hX:=hX.below hb7;replace hbx:=zai hbx hb7 hbx.size;have HQ:=waV (zrp b b2 l x w7 HR.out HR2.out (HT.out.below hS.be));clear hb7 HIs HLx HPl HR2;go_wp2_with fail;refine HQ.out.mono ?_;rintro e w8 ⟨hb8,y,rfl,hy⟩;obtain rfl:y=true:=hy.2 HSl.out;replace hS:=hS.below hb8;replace HR:=waV (HR.out.below hb8 (waJ _));replace hX:=hX.below hb8;replace hbx:=zai hbx hb8 hbx.size;have HLd:=waV hS.d.ld;clear hb8 HQ hy HSl
    go_wp2_with (first|(refine zad (by rfl) 60 _ rfl #[.slice (D 0) (m 0) (d 0),.slice (D 1) (m 1) (d 1),.slice (D 2) (m 2) (d 2),.slice (D 3) (m 3) (d 3),.slice (D 4) (m 4) (d 4)] (w.heap.size+1) 0 rfl underlying60 rfl zaL HLd.out ?_)|fail)
    by_cases hd:(chk r).2=0
    ·refine(HLw2.out hd _ hS.be).mono ?_;rintro e w9 ⟨b3,rfl,hr9,hb9⟩;replace hS:=hS.below hb9;replace HR:=waV (HR.out.below hb9 (waJ _));replace hX:=hX.below hb9;replace hbx:=zai hbx hb9 hbx.size;replace HLd:=waV hS.d.ld;have HR3:=waV hr9;have HD:=waV hd;clear hb9 hr9 hd HLw2 HBad2
     go_wp2_with (first|(refine zad (by rfl) 60 _ rfl #[.slice (D 0) (m 0) (d 0),.slice (D 1) (m 1) (d 1),.slice (D 2) (m 2) (d 2),.slice (D 3) (m 3) (d 3),.slice (D 4) (m 4) (d 4)] (w.heap.size+1) 0 rfl underlying60 rfl zaL HLd.out ?_)|fail)
     refine(HCn2.out _ hS.be).mono ?_;rintro e w10 ⟨hb10,(⟨hk,_⟩|⟨_,y,vy,hry,hmy,rfl,hoy⟩)⟩
     ·exact absurd HD.out hk
     ·replace hS:=hS.below hb10;replace HR:=waV (HR.out.below hb10 (waJ _));replace HR3:=waV (HR3.out.below hb10 (waJ _));replace hX:=hX.below hb10;replace hbx:=zai hbx hb10 hbx.size;obtain⟨A3,n3,c3,e3,hr3,hz3,hn3⟩:=hoy.ok hmy;subst e3;have hyr:crV A3 n3 c3=.agg #[.slice (A3 0) (n3 0) (c3 0),.slice (A3 1) (n3 1) (c3 1),.slice (A3 2) (n3 2) (c3 2),.slice (A3 3) (n3 3) (c3 3),.slice (A3 4) (n3 4) (c3 4)]:=rfl;have hb1:zbR x y=true↔zkJ [zaD l] [zaD r]:=zle.trans (zti HX.out.1 hry HX.out.2 hmy);have HSame:=waV (fun V (hb:Below w10.heap.size w10 V)=>zjq A2 A3 n2 c2 n3 c3 x y V (HRx.out.1.below (zai hbx hb hbx.size) (waJ _)) (hr3.below hb (waJ _)) (fun k=>waW (HRx.out.2 k) dQ) (fun k=>waW (hn3 k) dQ))
      have hxr:crV A2 n2 c2=.agg #[.slice (A2 0) (n2 0) (c2 0),.slice (A2 1) (n2 1) (c2 1),.slice (A2 2) (n2 2) (c2 2),.slice (A2 3) (n2 3) (c2 3),.slice (A2 4) (n2 4) (c2 4)]:=rfl;rw[hxr,hyr] at HSame;obtain⟨bb,hbb⟩:∃bb,bb=zbR x y:=⟨_,rfl⟩;rw[←hbb] at hb1 HSame;have HB1:=waV hb1;rw[hyr];have hby:Below w10.heap.size w10 (w10.alloc (.cells #[.slice (A3 0) (n3 0) (c3 0),.slice (A3 1) (n3 1) (c3 1),.slice (A3 2) (n3 2) (c3 2),.slice (A3 3) (n3 3) (c3 3),.slice (A3 4) (n3 4) (c3 4)] 60)):=(waC _ _).alloc (waJ _) _;replace hS:=hS.below hby;replace HR:=waV (HR.out.below hby (waJ _));replace HR3:=waV (HR3.out.below hby (waJ _));have HLx:=waV (hX.below hby).ld;clear hb1 hbb hr3 hz3 hn3 hxr hyr hoy hry hmy hb10 HLd HCn2 HD
      go_wp2_with (first|(refine zad (by rfl) 60 _ rfl #[.slice (A2 0) (n2 0) (c2 0),.slice (A2 1) (n2 1) (c2 1),.slice (A2 2) (n2 2) (c2 2),.slice (A2 3) (n2 3) (c2 3),.slice (A2 4) (n2 4) (c2 4)] w4.heap.size 0 rfl underlying60 rfl zaL HLx.out ?_)|fail)
      refine(HSame.out _ hby).mono ?_;rintro e w11 ⟨rfl,hb11⟩;replace hS:=hS.below hb11;have HQ:=waV (zrp b b3 l r w11 (HR.out.below hb11 (waJ _)) (HR3.out.below hb11 (waJ _)) (HT.out.below hS.be));clear HR HR3 HSame HLx hb11 hby;go_wp2_with fail;refine HQ.out.mono ?_;rintro e w12 ⟨hb12,b5,rfl,hy⟩;obtain rfl:bb=b5:=waQ.2 (HB1.out.trans hy.symm);replace hS:=hS.below hb12;clear hb12 HQ hy HB1;cases bb
      all_goals
       go_wp2_with fail;refine(HV.out _ hS.be).mono ?_;rintro e w13 ⟨rfl,hb13⟩;go_wp2;go_ret;exact⟨rfl,zai hS.be hb13 hS.be.size⟩
    ·refine(HBad2.out hd _ hS.be).mono ?_;rintro e w9 ⟨rfl,hb9⟩;replace hS:=hS.below hb9;have hne:((chk r).2==0)=false:=by rw[wbE];exact hd
     clear hb9 hd HLw2 HBad2 HCn2;generalize (chk r).2=k at *;go_wp2_with fail;refine(HV.out _ hS.be).mono ?_;rintro e w10 ⟨rfl,hb10⟩;go_wp2;go_ret;exact⟨rfl,zai hS.be hb10 hS.be.size⟩
   ·have HBd:=waV (HBad.out hc);have HCb:=waV (fun V (hV:Below w.heap.size w V)=>(HCn.out V hV).mono (R':=Ret (.tuple #[.agg zbd,.int .i64 (chk l).2]) V) (by
     rintro e w' ⟨hb,(⟨_,rfl⟩|⟨h,_⟩)⟩
     ·exact⟨rfl,hb⟩
     ·exact absurd h hc))
    have hne:((chk l).2==0)=false:=by rw[wbE];exact hc
    have HN:=waV (fun V=>zrr V)
    clear HCn HBad HLw HCn2 HBad2 HLw2 hc;unfold zbd at HCb HN;generalize (chk l).2=k at *;go_enter func6,ntmps6;go_wp2_with fail;have hS:CanS w ((w.alloc (.cells #[.slice (A 0) (n 0) (c 0),.slice (A 1) (n 1) (c 1),.slice (A 2) (n 2) (c 2),.slice (A 3) (n 3) (c 3),.slice (A 4) (n 4) (c 4)] 60)).alloc (.cells #[.slice (D 0) (m 0) (d 0),.slice (D 1) (m 1) (d 1),.slice (D 2) (m 2) (d 2),.slice (D 3) (m 3) (d 3),.slice (D 4) (m 4) (d 4)] 60)) #[.slice (A 0) (n 0) (c 0),.slice (A 1) (n 1) (c 1),.slice (A 2) (n 2) (c 2),.slice (A 3) (n 3) (c 3),.slice (A 4) (n 4) (c 4)] #[.slice (D 0) (m 0) (d 0),.slice (D 1) (m 1) (d 1),.slice (D 2) (m 2) (d 2),.slice (D 3) (m 3) (d 3),.slice (D 4) (m 4) (d 4)]:=CanS.new w _ _;generalize ((w.alloc (.cells #[.slice (A 0) (n 0) (c 0),.slice (A 1) (n 1) (c 1),.slice (A 2) (n 2) (c 2),.slice (A 3) (n 3) (c 3),.slice (A 4) (n 4) (c 4)] 60)).alloc (.cells #[.slice (D 0) (m 0) (d 0),.slice (D 1) (m 1) (d 1),.slice (D 2) (m 2) (d 2),.slice (D 3) (m 3) (d 3),.slice (D 4) (m 4) (d 4)] 60))=V0 at *;refine(HG.out _).mono ?_;rintro x w1 ⟨rfl,hb1⟩;replace hS:=hS.below hb1;clear hb1;have HLd:=waV hS.d.ld
    go_wp2_with (first|(refine zad (by rfl) 60 _ rfl #[.slice (D 0) (m 0) (d 0),.slice (D 1) (m 1) (d 1),.slice (D 2) (m 2) (d 2),.slice (D 3) (m 3) (d 3),.slice (D 4) (m 4) (d 4)] (w.heap.size+1) 0 rfl underlying60 rfl zaL HLd.out ?_)|fail)
    refine(HG2.out _).mono ?_;rintro x w2 ⟨rfl,hb2⟩;replace hS:=hS.below hb2;have HLc:=waV hS.c.ld;clear hb2 HLd HG HG2
    go_wp2_with (first|(refine zad (by rfl) 60 _ rfl #[.slice (A 0) (n 0) (c 0),.slice (A 1) (n 1) (c 1),.slice (A 2) (n 2) (c 2),.slice (A 3) (n 3) (c 3),.slice (A 4) (n 4) (c 4)] w.heap.size 0 rfl underlying60 rfl zaL HLc.out ?_)|fail)
    refine(HBd.out _ hS.be).mono ?_;rintro e w3 ⟨rfl,hb3⟩;replace hS:=hS.below hb3;replace HLc:=waV hS.c.ld;clear hb3 HBd
    go_wp2_with (first|(refine zad (by rfl) 60 _ rfl #[.slice (A 0) (n 0) (c 0),.slice (A 1) (n 1) (c 1),.slice (A 2) (n 2) (c 2),.slice (A 3) (n 3) (c 3),.slice (A 4) (n 4) (c 4)] w.heap.size 0 rfl underlying60 rfl zaL HLc.out ?_)|fail)
    refine(HCb.out _ hS.be).mono ?_;rintro e w4 ⟨rfl,hb4⟩;replace hS:=hS.below hb4;clear hb4 HCb HLc;have hbA:Below w4.heap.size w4 (w4.alloc (.cells #[.slice none 0 0,.slice none 0 0,.slice none 0 0,.slice none 0 0,.slice none 0 0] 60)):=(waC _ _).alloc (waJ _) _;go_wp2_with fail;refine(HN.out _).mono ?_;rintro e w5 ⟨rfl,hb5⟩;replace hS:=(hS.below hbA).below hb5;clear hb5 hbA HN;go_wp2_with fail;refine(HV.out _ hS.be).mono ?_;rintro e w6 ⟨rfl,hb6⟩;go_wp2;go_ret;exact⟨rfl,zai hS.be hb6 hS.be.size⟩
end Go.Proofs.YtadefhkaejjfmaaGreatDoor
namespace Go.Proofs.YtadefhkaejjfmaaGreatDoor
open Go.Proofs.Tryz
open Go.ChangeShapes Go.WideShapes Go.ChangeAt Go.RowKit
def zu7:Nat→DataW Unit→List Value
 |n+1,.agg xs=>xs.flatMap (zu7 n)
 |n+1,.slice xs _=>xs.flatMap (zu7 n)
 |_,.lit (.int k z)=>[.int k z]
 |_,_=>[undef]
def zrs (d:DataW Unit):Obj→Obj
 | .cells _ t fr=>.cells (zu7 4 d).toArray t fr
 |o=>o
def ztj (cs:Array Value):Obj→Obj
 | .cells _ t fr=>.cells cs t fr
 |o=>o
def zfe:Go.Shelf.Ren:={Tryz.lays274_ren with g:=fun|13=>2|n=>n}
theorem zrt:Go.Proofs.Lays.n274 prog zfe:={Tryz.lays274 with}
noncomputable def zfT (os:Os):World:=
 {World.holding prog os ⟨#[.cells Lib.caseCells5 (zfe.t 208)],#[],[]⟩ with heap:=(((World.holding prog os ⟨#[.cells Lib.caseCells5 (zfe.t 208)],#[],[]⟩).heap.modify 5 (zrs Rows.laid_unicode_utf8_acceptRanges)).modify 4 (zrs Rows.laid_unicode_utf8_first)).modify 2 (ztj #[.slice (some ⟨(World.settled prog os).heap.size,0,none⟩) 336 336])}
theorem zru (os:Os) (args:Array Value):laidMet prog ([("unicode/utf8.acceptRanges",Rows.laid_unicode_utf8_acceptRanges),("unicode/utf8.first",Rows.laid_unicode_utf8_first)]++[("unicode.CaseRanges",Lib.caseData)]) ((zfT os).forCall (fun _ _=>0) ⟨#[],args,[]⟩).memory:=
 laidMet_with_case (ρ:=zfe) zrt kQ ⟨by kernel_rfl,by kernel_rfl,by kernel_rfl,by kernel_rfl,by kernel_rfl,by kernel_rfl⟩
  (l:=[("unicode/utf8.acceptRanges",Rows.laid_unicode_utf8_acceptRanges),("unicode/utf8.first",Rows.laid_unicode_utf8_first)])
  10 kQ kQ kQ ((World.settled prog default).heap.size) (zfe.t 208) (waA kQ) kQ kQ kQ
theorem zlf {P:Program} {w:World} {a f c:String×DataW Unit} (h:laidMet P [a,f,c] w):laidMet P [a,c,f] w:=by
 obtain⟨ps,hv,hnd,hrows⟩:=h;obtain⟨na,da⟩:=a;obtain⟨nf,df⟩:=f;obtain⟨nc,dc⟩:=c;obtain⟨ga,ta,csa,fua,pa,qa,a1,a2,a3,a4,hf,rfl⟩:=hv;obtain⟨gf,tf,csf,fuf,pf,qf,f1,f2,f3,f4,hc,rfl⟩:=hf;obtain⟨gc,tc,csc,fuc,pc,qc,c1,c2,c3,c4,hn,rfl⟩:=hc;cases hn;have hperm:∀(X Y Z:List MemPlace),List.Perm (X++(Y++(Z++[]))) (X++(Z++(Y++[]))):=fun X Y Z=>by
  rw[List.append_nil,List.append_nil];exact List.Perm.append_left _ List.perm_append_comm
 refine⟨_,⟨ga,ta,csa,fua,pa,_,a1,a2,a3,a4,⟨gc,tc,csc,fuc,pc,_,c1,c2,c3,c4,⟨gf,tf,csf,fuf,pf,_,f1,f2,f3,f4,rfl,rfl⟩,rfl⟩,rfl⟩,?_,?_⟩
 ·exact(hperm _ _ _).nodup_iff.1 hnd
 ·intro b off hp;exact hrows b off ((hperm _ _ _).mem_iff.2 hp)
theorem rune_met (os:Os) (args:Array Value):laidMet prog [("unicode/utf8.acceptRanges",Rows.laid_unicode_utf8_acceptRanges),("unicode.CaseRanges",Rows.laid_unicode_CaseRanges),("unicode/utf8.first",Rows.laid_unicode_utf8_first)] ((zfT os).forCall (fun _ _=>0) ⟨#[],args,[]⟩).memory:=by
 have h:=zru os args;have e:Rows.laid_unicode_CaseRanges=Lib.caseData:=Pinned.caseRanges_eq;rw[e];exact zlf h
def zwj:DataW Unit→Array Value
 | .agg xs=>(xs.map fun| .lit (.int k z)=>Value.int k z|_=>undef).toArray
 |_=> #[]
def zu8 (d:DataW Unit):Obj→Obj
 | .cells _ t fr=>.cells (zwj d) t fr
 |o=>o
theorem ztk:(Rows.laid_internal_strconv_uint64pow10:DataW Unit)=Lib.tabData .u64 Lib.pow10Tab:=by kernel_rfl
theorem zwk {l:List (String×DataW Unit)} {W:World} (h:laidMetH prog l W) (hl:l.filter (fun x=>x.1== "internal/strconv.uint64pow10")=[("internal/strconv.uint64pow10",Rows.laid_internal_strconv_uint64pow10)]):Pow W:=by
 have h1:=h.filter (fun x=>x.1== "internal/strconv.uint64pow10")
 rw[hl,MakeChecks.laidMetH_plain _ _ _ (by kernel_rfl),ztk] at h1
 exact Lib.tabIs_of_head (rest:=[]) (show prog.globalNamed "internal/strconv.uint64pow10" =some 3 by kernel_rfl) (show(prog.globals[3]?).map (·.type)=some 508 by kernel_rfl) underlying508 underlying39 kQ kQ h1
theorem zu9:(Rows.laid_math_bits_deBruijn64tab:DataW Unit)=Lib.tabData .u8 (Go.Lib.deBruijn64tab.map fun(k:Nat)=>(k:Int)):=by kernel_rfl
theorem tz_of {l:List (String×DataW Unit)} {W:World} (h:laidMetH prog l W) (hl:l.filter (fun x=>x.1== "math/bits.deBruijn64tab")=[("math/bits.deBruijn64tab",Rows.laid_math_bits_deBruijn64tab)]):Tz W:=by
 have h1:=h.filter (fun x=>x.1== "math/bits.deBruijn64tab")
 rw[hl,MakeChecks.laidMetH_plain _ _ _ (by kernel_rfl),zu9] at h1
 have hg:=(show prog.globalNamed "math/bits.deBruijn64tab" =some 0 by kernel_rfl)
 have h2:=Lib.tabIs_of_head (rest:=[]) hg (show(prog.globals[0]?).map (·.type)=some 405 by kernel_rfl) underlying405 underlying5 kQ kQ h1
 intro j hj;have h3:=h2.cell hg j (by rw[List.length_map];exact hj)
 rw[h3,List.getD_eq_getElem?_getD,List.getD_eq_getElem?_getD,List.getElem?_map,waE hj];rfl
theorem zjJ {P:Program} {w:World} {a b d e f c:String×DataW Unit} (h:laidMet P [a,b,d,e,f,c] w):laidMet P [a,b,d,e,c,f] w:=by
 obtain⟨ps,hv,hnd,hrows⟩:=h;obtain⟨na,da⟩:=a;obtain⟨nb,db⟩:=b;obtain⟨nd,dd⟩:=d;obtain⟨ne,de⟩:=e;obtain⟨nf,df⟩:=f;obtain⟨nc,dc⟩:=c;obtain⟨ga,ta,csa,fua,pa,qa,a1,a2,a3,a4,hv,rfl⟩:=hv;obtain⟨gb,tb,csb,fub,pb,qb,b1,b2,b3,b4,hv,rfl⟩:=hv;obtain⟨gd,td,csd,fud,pd,qd,d1,d2,d3,d4,hv,rfl⟩:=hv;obtain⟨ge,te,cse,fue,pe,qe,e1,e2,e3,e4,hf,rfl⟩:=hv;obtain⟨gf,tf,csf,fuf,pf,qf,f1,f2,f3,f4,hc,rfl⟩:=hf;obtain⟨gc,tc,csc,fuc,pc,qc,c1,c2,c3,c4,hn,rfl⟩:=hc;cases hn;have hperm:∀(X1 X2 X3 X Y Z:List MemPlace),List.Perm (X1++(X2++(X3++(X++(Y++(Z++[])))))) (X1++(X2++(X3++(X++(Z++(Y++[])))))):=fun X1 X2 X3 X Y Z=>by
  rw[List.append_nil,List.append_nil];exact List.Perm.append_left _ (List.Perm.append_left _ (List.Perm.append_left _ (List.Perm.append_left _ List.perm_append_comm)))
 refine⟨_,⟨ga,ta,csa,fua,pa,_,a1,a2,a3,a4,⟨gb,tb,csb,fub,pb,_,b1,b2,b3,b4,⟨gd,td,csd,fud,pd,_,d1,d2,d3,d4,⟨ge,te,cse,fue,pe,_,e1,e2,e3,e4,⟨gc,tc,csc,fuc,pc,_,c1,c2,c3,c4,⟨gf,tf,csf,fuf,pf,_,f1,f2,f3,f4,rfl,rfl⟩,rfl⟩,rfl⟩,rfl⟩,rfl⟩,rfl⟩,?_,?_⟩
 ·exact(hperm _ _ _ _ _ _).nodup_iff.1 hnd
 ·intro b off hp;exact hrows b off ((hperm _ _ _ _ _ _).mem_iff.2 hp)
noncomputable def zhQ (os:Os):World:=
 {zfT os with heap:=(((zfT os).heap.modify 3 (zu8 Rows.laid_internal_strconv_uint64pow10)).modify 6 (zu8 Rows.laid_math_bits_deBruijn32tab)).modify 0 (zu8 Rows.laid_math_bits_deBruijn64tab)}
theorem zrv (os:Os) (args:Array Value):laidMet prog ([("math/bits.deBruijn32tab",Rows.laid_math_bits_deBruijn32tab),("math/bits.deBruijn64tab",Rows.laid_math_bits_deBruijn64tab),("internal/strconv.uint64pow10",Rows.laid_internal_strconv_uint64pow10),("unicode/utf8.acceptRanges",Rows.laid_unicode_utf8_acceptRanges),("unicode/utf8.first",Rows.laid_unicode_utf8_first)]++[("unicode.CaseRanges",Lib.caseData)]) ((zhQ os).forCall (fun _ _=>0) ⟨#[],args,[]⟩).memory:=
 laidMet_with_case (ρ:=zfe) zrt kQ ⟨by kernel_rfl,by kernel_rfl,by kernel_rfl,by kernel_rfl,by kernel_rfl,by kernel_rfl⟩
  (l:=[("math/bits.deBruijn32tab",Rows.laid_math_bits_deBruijn32tab),("math/bits.deBruijn64tab",Rows.laid_math_bits_deBruijn64tab),("internal/strconv.uint64pow10",Rows.laid_internal_strconv_uint64pow10),("unicode/utf8.acceptRanges",Rows.laid_unicode_utf8_acceptRanges),("unicode/utf8.first",Rows.laid_unicode_utf8_first)])
  10 kQ kQ kQ ((World.settled prog default).heap.size) (zfe.t 208) (waA kQ) kQ kQ kQ
theorem ztl (os:Os) (args:Array Value):laidMet prog [("math/bits.deBruijn32tab",Rows.laid_math_bits_deBruijn32tab),("math/bits.deBruijn64tab",Rows.laid_math_bits_deBruijn64tab),("internal/strconv.uint64pow10",Rows.laid_internal_strconv_uint64pow10),("unicode/utf8.acceptRanges",Rows.laid_unicode_utf8_acceptRanges),("unicode.CaseRanges",Rows.laid_unicode_CaseRanges),("unicode/utf8.first",Rows.laid_unicode_utf8_first)] ((zhQ os).forCall (fun _ _=>0) ⟨#[],args,[]⟩).memory:=by
 have h:=zrv os args;have e:Rows.laid_unicode_CaseRanges=Lib.caseData:=Pinned.caseRanges_eq;rw[e];exact zjJ h
end Go.Proofs.YtadefhkaejjfmaaGreatDoor
