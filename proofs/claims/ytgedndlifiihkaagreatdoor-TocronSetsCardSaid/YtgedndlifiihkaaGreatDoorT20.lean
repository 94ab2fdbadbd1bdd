/- A part of the proof: WRoll4 WRoll5 WRoll5b WHull RHul -/
import Derived.Test.YtgedndlifiihkaaGreatDoorT19
import Derived.Test.YtgedndlifiihkaaGreatDoorT16
import Derived.Test.YtgedndlifiihkaaGreatDoorT11
import Derived.Test.YtgedndlifiihkaaGreatDoorT08
set_option maxHeartbeats 80000000
set_option maxRecDepth 100000
set_option linter.unusedSimpArgs false
set_option linter.unusedVariables false
namespace Go.Proofs.YtgedndlifiihkaaGreatDoor
open Go.Proofs.Tryz
open Go.RowKit
open Go.Maps
structure KnownE (W:World) (L:List Cl) (D:Nat) (es:List MapEntry):Prop where
 one:zfE es
 all:∀q∈es,∃x e,(∀i,i<8→WfS (x i))∧q.key=zb3 x∧q.val=.pointer (some ⟨e,0,none⟩)∧D≤e∧DiscAt W e (zbK L x)
theorem KnownE.rls {S:Nat→Prop} {V Y:World} {L:List Cl} {D:Nat} {es:List MapEntry} (h:KnownE V L D es) (hr:RlS S V Y) (hS:∀k,S k→k<D):KnownE Y L D es:=⟨h.one,fun q hq=>by
 obtain⟨y,e,h1,h2,h3,h4,h5⟩:=h.all q hq;exact⟨y,e,h1,h2,h3,h4,h5.rls hr (fun g=>by have:=hS e g;omega)⟩⟩
theorem ziv {W:World} {L:List Cl} {D:Nat} {es:List MapEntry} (h:KnownE W L D es):∀q∈es,∃l,keyOf prog 210 q.key=some l:=fun q hq=>by
 obtain⟨y,e,h1,h2,_⟩:=h.all q hq;rw[h2];exact zhx h1
theorem KnownE.nil (W:World) (L:List Cl) (D:Nat):KnownE W L D []:=⟨(fun q hq=>by cases hq),fun q hq=>by cases hq⟩
theorem KnownE.push {W:World} {L:List Cl} {D:Nat} {es:Array MapEntry} (h:KnownE W L D es.toList) {x:Nat→LSt} (hx:∀i,i<8→WfS (x i)) (hno:∀q∈es.toList,q.key≠zb3 x) {d n:Nat} (hd:D≤d) (hD:DiscAt W d (zbK L x)):
 KnownE W L D (es.push {key:=zb3 x,val:=.pointer (some ⟨d,0,none⟩),born:=n}).toList:=⟨h.one.push hno,fun q hq=>by
 rw[Array.toList_push,wbB,wbC] at hq;rcases hq with hq|rfl
 ·exact h.all q hq
 ·exact⟨x,d,hx,rfl,rfl,hd,hD⟩⟩
theorem zlT {L:List Cl} (hn:L.length≤8) {x y:Nat→LSt} (h:zb3 x=zb3 y):zbK L x=zbK L y:=by
 have h2:=zql (Value.agg.inj h);exact funext fun s=>zrY (fun i hi=>h2 i oQ) s
def zbo (W:World) (D:Nat) (v:Value) (p:Nat→Bool):Prop:=(v=.pointer none∧∀s,s<86400→p s=false)∨∃b,v=.pointer (some ⟨b,0,none⟩)∧D≤b∧DiscAt W b p
structure RollM (W:World) (d:RollD) (L:List Cl) (D:Nat):Prop where
 parts:∀i,i<L.length→zcf W (d.pm i) (zeO L i) D 0
 known:∃es k,W.heap[d.km]?=some (.map es k)∧KnownE W L D es.toList
 whole:∀a,a<256→∃v,W.cell? ⟨d.b,4+a,none⟩=some v∧(v=.pointer none∨∃e,v=.pointer (some ⟨e,0,none⟩)∧D≤e∧DiscAt W e (zbK L (whS a)))
 many:∃z,W.cell? ⟨d.b,260,none⟩=some (.int .i64 z)
structure RollAt (W:World) (d:RollD) (L:List Cl) (lo hi D:Nat):Prop where
 f:RollF W d L lo hi
 m:RollM W d L D
 hiD:hi≤D
 dw:D≤W.heap.size
 tz:Tz W
 tl:0<lo
theorem RollF.turn {V W:World} {d:RollD} {L:List Cl} {lo hi:Nat} (h:RollF W d L lo hi) (hr:RlS (d.mv L.length) W V) (c0:V.cell? ⟨d.b,0,none⟩=some (.slice d.A L.length d.cc)) (c1:V.cell? ⟨d.b,1,none⟩=some (.slice d.Al L.length d.cl))
 (c2:V.cell? ⟨d.b,2,none⟩=some (.map (some d.km))) (c3:V.cell? ⟨d.b,3,none⟩=some (.slice d.Ap L.length d.cp)) (fz:∀j,V.frozen? ⟨d.b,j,none⟩=false):RollF V d L lo hi:=by
 refine {h with hw:=waW h.hw hr.size,c0:=c0,c1:=c1,c2:=c2,c3:=c3,fz:=fz,rd:=?_,fn:=?_,pc:=?_}
 ·refine⟨h.rd.1,fun hp=>?_⟩
  obtain⟨b,o,e,hb,hc⟩:=h.rd.2 hp;have hn:=(h.rA _ hp e).2.2;exact⟨b,o,e,waD hb hr.size,fun i x hx j v hv=>hr.cell (hc i x hx j v hv) hn⟩
 ·intro i hi;obtain⟨f1,f2,f3,f4,f5,f6⟩:=h.fn i hi;obtain⟨_,_,_,hn⟩:=h.al oQ;have hw:=h.hw;exact⟨hr.cell f1 hn,f2,f3.later ⟨hr.size,fun k g1 g2=>hr.block k oQ (fun g=>by have:=f6 k g;omega)⟩,f4,f5,f6⟩
 ·intro i hi;obtain⟨_,_,_,hn⟩:=h.ap oQ;exact hr.cell (h.pc i hi) hn
theorem RollF.mb {W:World} {d:RollD} {L:List Cl} {lo hi:Nat} (h:RollF W d L lo hi):∀k,d.mv L.length k→lo≤k∧k<hi:=by
 rintro k (rfl|rfl|⟨i,hi,rfl⟩)
 ·exact h.lb0
 ·exact h.lk
 ·exact h.lp i hi
theorem za6 {S:Nat→Prop} {X Y:World} {b o:Nat} (hr:RlS S X Y) (hb:b<X.heap.size) (hS:¬S b):Y.frozen? ⟨b,o,none⟩=X.frozen? ⟨b,o,none⟩:=by
 unfold World.frozen?;rw[hr.block b hb hS]
theorem RollF.still {V W:World} {d:RollD} {L:List Cl} {lo hi:Nat} {S:Nat→Prop} (h:RollF W d L lo hi) (hr:RlS S W V) (hS:∀k,S k→d.mv L.length k) (hb:¬S d.b):RollF V d L lo hi:=
 h.turn (hr.mono hS) (hr.cell h.c0 hb) (hr.cell h.c1 hb) (hr.cell h.c2 hb) (hr.cell h.c3 hb) (fun j=>(za6 hr (waR W _ h.c0) hb).trans (h.fz j))
theorem RollM.still {V W:World} {d:RollD} {L:List Cl} {D:Nat} {S:Nat→Prop} (h:RollM W d L D) (hr:RlS S W V) (hS:∀k,S k→k<D) (hb:¬S d.b) (hk:¬S d.km) (hp:∀i,i<L.length→zcf V (d.pm i) (zeO L i) D 0):RollM V d L D:=by
 refine⟨hp,?_,fun a ha=>?_,?_⟩
 ·obtain⟨es,k,h1,h2⟩:=h.known;exact⟨es,k,(hr.block _ (waL.1 h1).1 hk).trans h1,h2.rls hr hS⟩
 ·obtain⟨v,h1,h2⟩:=h.whole a ha;refine⟨v,hr.cell h1 hb,h2.imp id ?_⟩;rintro ⟨e,h3,h4,h5⟩;exact⟨e,h3,h4,h5.rls hr (fun g=>by have:=hS e g;omega)⟩
 ·obtain⟨z,hz⟩:=h.many;exact⟨z,hr.cell hz hb⟩
theorem RollAt.below {V W:World} {d:RollD} {L:List Cl} {lo hi D:Nat} (h:RollAt W d L lo hi D) (hb:Below W.heap.size W V):RollAt V d L lo hi D:=by
 have hr:RlS (fun _=>False) W V:=(RlS.refl _ W).below hb (waJ _)
 exact⟨h.f.still hr (fun k g=>g.elim) (fun g=>g),h.m.still hr (fun k g=>g.elim) (fun g=>g) (fun g=>g) (fun i hi=>(h.m.parts i hi).rls hr (fun k g=>g.elim) (fun g=>g)),h.hiD,waW h.dw hb.size,h.tz.below hb,h.tl⟩
theorem RollAt.made {V W:World} {d:RollD} {L:List Cl} {lo hi D:Nat} (h:RollAt W d L lo hi D) (hr:RlS (d.ps L.length) W V) (hp:∀i,i<L.length→zcf V (d.pm i) (zeO L i) D 0):RollAt V d L lo hi D:=by
 have hD:=h.hiD;have hb:¬d.ps L.length d.b:=by rintro ⟨i,hi,e⟩;exact(h.f.kne.2 i hi).1 e.symm
 have hk:¬d.ps L.length d.km:=by rintro ⟨i,hi,e⟩;exact(h.f.kne.2 i hi).2 e.symm
 have hS:∀k,d.ps L.length k→lo≤k∧k<hi:=by rintro k ⟨i,hi,rfl⟩;exact h.f.lp i hi
 exact⟨h.f.still hr (fun k g=>.inr (.inr g)) hb,h.m.still hr (fun k g=>by have:=hS k g;omega) hb hk hp,hD,waW h.dw hr.size,h.tz.rls hr (fun g=>by have:=hS _ g;have:=h.tl;omega),h.tl⟩
theorem RollAt.cell {W:World} {d:RollD} {L:List Cl} {lo hi D:Nat} (h:RollAt W d L lo hi D) (o:Nat) (v:Value) (ho:4≤o)
 (hm:(∃a,a<256∧o=4+a∧∃e,v=.pointer (some ⟨e,0,none⟩)∧D≤e∧DiscAt W e (zbK L (whS a)))∨(o=260∧∃z,v=.int .i64 z)):RollAt (W.setCell ⟨d.b,o,none⟩ v) d L lo hi D:=by
 have hD:=h.hiD;obtain⟨b0,b1⟩:=h.f.lb0;have hr:RlS (·=d.b) W (W.setCell ⟨d.b,o,none⟩ v):=(RlS.refl _ W).set _ _ rfl;have hne:∀j,j≠o→(W.setCell ⟨d.b,o,none⟩ v).cell? ⟨d.b,j,none⟩=W.cell? ⟨d.b,j,none⟩:=fun j hj=>waU _ _ _ _ (fun g=>hj (by injection g with _ g _;exact g.symm))
 have hsame:∀u,W.cell? ⟨d.b,o,none⟩=some u→(W.setCell ⟨d.b,o,none⟩ v).cell? ⟨d.b,o,none⟩=some v:=fun u hu=>waT _ _ _ hu
 have hnp:∀i,i<L.length→¬(d.pm i=d.b):=fun i hi=>(h.f.kne.2 i hi).1
 refine⟨h.f.turn (hr.mono fun k g=>.inl g) ((hne 0 oQ).trans h.f.c0) ((hne 1 oQ).trans h.f.c1) ((hne 2 oQ).trans h.f.c2) ((hne 3 oQ).trans h.f.c3) (fun j=>(waS _ _ _ _).trans (h.f.fz j)),⟨fun i hi=>(h.m.parts i hi).rls hr (fun k g=>.inl (by have:k=d.b:=g;omega)) (hnp i hi),?_,fun a ha=>?_,?_⟩,hD,waW h.dw hr.size,h.tz.rls hr (fun g=>by have:_=d.b:=g;have:=h.tl;omega),h.tl⟩
 ·obtain⟨es,k,h1,h2⟩:=h.m.known;exact⟨es,k,(hr.block _ (waL.1 h1).1 h.f.kne.1).trans h1,h2.rls hr (fun k g=>by have:k=d.b:=g;omega)⟩
 ·obtain⟨u,h1,h2⟩:=h.m.whole a ha;have keep:∀{e},D≤e→DiscAt W e (zbK L (whS a))→DiscAt (W.setCell ⟨d.b,o,none⟩ v) e (zbK L (whS a)):=fun he hd=>hd.rls hr (fun g=>by have:_=d.b:=g;omega)
  by_cases e:4+a=o
  ·subst e;rcases hm with ⟨a',ha',e',q,hq1,hq2,hq3⟩|⟨e',_⟩
   ·obtain rfl:a=a':=by omega
    exact⟨v,hsame u h1,.inr ⟨q,hq1,hq2,keep hq2 hq3⟩⟩
   ·omega
  ·refine⟨u,(hne _ e).trans h1,h2.imp id ?_⟩;rintro ⟨q,h3,h4,h5⟩;exact⟨q,h3,h4,keep h4 h5⟩
 ·obtain⟨z,hz⟩:=h.m.many
  by_cases e:o=260
  ·subst e;rcases hm with ⟨a',ha',e',_⟩|⟨_,z',rfl⟩
   ·omega
   ·exact⟨z',hsame _ hz⟩
  ·exact⟨z,(hne 260 (fun g=>e g.symm)).trans hz⟩
theorem RollAt.putK {W:World} {d:RollD} {L:List Cl} {lo hi D:Nat} (h:RollAt W d L lo hi D) {es:Array MapEntry} {k:Nat} (hes:KnownE W L D es.toList):RollAt (W.putObj d.km (.map es k)) d L lo hi D:=by
 have hD:=h.hiD;obtain⟨b0,b1⟩:=h.f.lk;have hr:RlS (·=d.km) W (W.putObj d.km (.map es k)):=(RlS.refl _ W).put _ _ rfl;have hS:∀j,j=d.km→j<D:=fun j g=>by omega
 refine⟨h.f.still hr (fun j g=>.inr (.inl g)) (fun g=>h.f.kne.1 g.symm),⟨fun i hi=>(h.m.parts i hi).rls hr (fun k g=>.inl (hS k g)) (h.f.kne.2 i hi).2,⟨es,k,World.putObj_heap_same ?_,hes.rls hr hS⟩,fun a ha=>?_,?_⟩,hD,waW h.dw hr.size,h.tz.rls hr (fun g=>by have:_=d.km:=g;have:=h.tl;omega),h.tl⟩
 ·obtain⟨es',k',h1,_⟩:=h.m.known;exact(waL.1 h1).1
 ·obtain⟨v,h1,h2⟩:=h.m.whole a ha;refine⟨v,hr.cell h1 (fun g=>h.f.kne.1 g.symm),h2.imp id ?_⟩
  rintro ⟨e,h3,h4,h5⟩;exact⟨e,h3,h4,h5.rls hr (fun g=>by have:=hS e g;omega)⟩
 ·obtain⟨z,hz⟩:=h.m.many;exact⟨z,hr.cell hz (fun g=>h.f.kne.1 g.symm)⟩
def zjr (d:RollD) (L:List Cl) (lo hi D:Nat) (n:Int) (W:World) (e:Ending) (W':World):Prop:=
 ∃v,e=.returned v∧zbo W' D v (zao L n)∧RollAt W' d L lo hi D∧RlS (d.mv L.length) W W'
theorem zm0 {L:List Cl} (hs:∀c,c∈L→zbD c∧c.s≤9223372036854775807) (n:Int) (i:Nat):WfS (stN L n i):=by
 unfold stN;split
 ·exact zwb (hs _ (zmY ‹_›)).2
 ·exact ztK
theorem zsC (L:List Cl) (n:Int):zd4 (fun i=>zlp (zeO L i) n) L.length=zd4 (stN L n) L.length:=
 zmZ fun i hi=>(if_pos hi).symm
theorem zqs {x y:Nat→LSt}:∀{k:Nat},(∀i,i<k→x i=y i)→whB x k=whB y k
 |0,_=>rfl
 |k+1,h=>by unfold whB;rw[zqs (fun i hi=>h i (by omega)),h k (by omega)]
theorem zuL (L:List Cl) (n:Int):whB (fun i=>zlp (zeO L i) n) L.length=whB (stN L n) L.length:=
 zqs fun i hi=>(if_pos hi).symm
theorem zm1 {d:RollD} {L:List Cl} {lo hi D:Nat} {W:World} (hR:RollAt W d L lo hi D) {n:Int} (h0:0≤n) (h1:n<146097):
 Calls prog 133 #[.pointer (some ⟨d.b,0,none⟩),shV n] W (fun e W'=>e=.returned (.tuple #[zb3 (stN L n),.int .i64 (zd4 (stN L n) L.length:Nat),.bool (whB (stN L n) L.length)])∧Below W.heap.size W W'):=by
 rw[←zsC,←zuL];have hf:=hR.f;have hw:=hf.hw;exact zuK d.b d.bl d.cl L.length d.Al (fun i=>zlp (zeO L i) n) n d.g d.gl d.gh d.lb W h0 h1 hf.n8 hf.c1 (fun hp=>(hf.al hp).1) (fun i hi=>by
  obtain⟨f1,f2,f3,f4,f5,f6⟩:=hf.fn i hi;exact⟨f1,f2,by omega,fun V hV=>f3 V hV n h0 h1⟩)
theorem zbo.con {W:World} {D q:Nat} {L:List Cl} {n:Int} (hs:zdF L=true) (h0:0≤n) (h1:n<146097) {p:Nat→Bool} (hD:D≤q) (hq:DiscAt W q p) (hp:∀s,p s=zbK L (stN L n) s):zbo W D (.pointer (some ⟨q,0,none⟩)) (zao L n):=
 .inr ⟨q,rfl,hD,hq.congr fun s hs'=>(hp s).trans (zi3 hs h0 h1 hs')⟩
structure AtS (W0 W:World) (d:RollD) (L:List Cl) (lo hi D B:Nat) (xs:Array Value):Prop where
 roll:RollAt W d L lo hi D
 rl:RlS (d.mv L.length) W0 W
 x:∀j v,xs[j]?=some v→W.cell? ⟨B,j,none⟩=some v
 B0:W0.heap.size≤B
 DW:D≤W0.heap.size
theorem AtS.nB {W0 W:World} {d:RollD} {L:List Cl} {lo hi D B:Nat} {xs:Array Value} (h:AtS W0 W d L lo hi D B xs):¬d.mv L.length B:=fun g=>by
 have:=h.roll.f.mb B g;have:=h.roll.hiD;have:=h.B0;have:=h.DW;omega
theorem AtS.below {W0 W V:World} {d:RollD} {L:List Cl} {lo hi D B:Nat} {xs:Array Value} (h:AtS W0 W d L lo hi D B xs) (hb:Below W.heap.size W V):AtS W0 V d L lo hi D B xs:=
 ⟨h.roll.below hb,h.rl.trans ((RlS.refl _ W).below hb (waJ _)),fun j v hj=>by
  have:=h.x j v hj;exact((zad hb).1 _ _ (waR W _ this)).trans this,h.B0,h.DW⟩
theorem AtS.drewN {W0 W:World} {d:RollD} {L:List Cl} {lo hi D B:Nat} {xs:Array Value} (h:AtS W0 W d L lo hi D B xs) (k:Nat):AtS W0 (W.drewN k) d L lo hi D B xs:=h.below (zax (waC _ _) k)
theorem AtS.made {W0 W V:World} {d:RollD} {L:List Cl} {lo hi D B:Nat} {xs:Array Value} (h:AtS W0 W d L lo hi D B xs) (hr:RlS (d.ps L.length) W V) (hp:∀i,i<L.length→zcf V (d.pm i) (zeO L i) D 0):AtS W0 V d L lo hi D B xs:=
 ⟨h.roll.made hr hp,h.rl.trans (hr.mono fun k g=>.inr (.inr g)),fun j v hj=>hr.cell (h.x j v hj) (fun g=>h.nB (.inr (.inr g))),h.B0,h.DW⟩
theorem AtS.cell {W0 W:World} {d:RollD} {L:List Cl} {lo hi D B:Nat} {xs:Array Value} (h:AtS W0 W d L lo hi D B xs) (o:Nat) (v:Value) (ho:4≤o)
 (hm:(∃a,a<256∧o=4+a∧∃e,v=.pointer (some ⟨e,0,none⟩)∧D≤e∧DiscAt W e (zbK L (whS a)))∨(o=260∧∃z,v=.int .i64 z)):AtS W0 (W.setCell ⟨d.b,o,none⟩ v) d L lo hi D B xs:=
 ⟨h.roll.cell o v ho hm,h.rl.set _ _ (.inl rfl),fun j v' hj=>(waU _ _ _ _ (fun g=>h.nB (by injection g with g;exact .inl g.symm))).trans (h.x j v' hj),h.B0,h.DW⟩
theorem AtS.putK {W0 W:World} {d:RollD} {L:List Cl} {lo hi D B:Nat} {xs:Array Value} (h:AtS W0 W d L lo hi D B xs) {es:Array MapEntry} {k:Nat} (hes:KnownE W L D es.toList):AtS W0 (W.putObj d.km (.map es k)) d L lo hi D B xs:=
 ⟨h.roll.putK hes,h.rl.put _ _ (.inr (.inl rfl)),fun j v hj=>(wbK (World.putObj_heap_other (fun g=>h.nB (.inr (.inl g))))).trans (h.x j v hj),h.B0,h.DW⟩
theorem AtS.limbs {W0 W:World} {d:RollD} {L:List Cl} {lo hi D B a:Nat} {xs:Array Value} (ha:a<256) (h:AtS W0 W d L lo hi D B xs):W.rangeAt B 0 xs.toList∧(W.cell? ⟨d.b,4+a,none⟩).isSome=true∧W.frozen? ⟨d.b,4+a,none⟩=false∧Hid (AtS W0 W d L lo hi D B xs):=by
 obtain⟨v,hv,_⟩:=h.roll.m.whole a ha;exact⟨fun j v hj=>by rw[waH];exact h.x j v (by simpa using hj),by rw[hv];rfl,h.roll.f.fz _,h⟩
theorem DiscAt.setb {W0 W:World} {d:RollD} {L:List Cl} {lo hi D B q o:Nat} {xs:Array Value} {v:Value} {p:Nat→Bool} (h:DiscAt W q p) (hA:AtS W0 W d L lo hi D B xs) (hq:D≤q):DiscAt (W.setCell ⟨d.b,o,none⟩ v) q p:=
 h.rls (S:=(·=d.b)) ((RlS.refl _ W).set _ _ rfl) (fun g=>by have:q=d.b:=g;have:=hA.roll.f.lb0;have:=hA.roll.hiD;omega)
theorem AtS.ret {W0 W:World} {d:RollD} {L:List Cl} {lo hi D B:Nat} {xs:Array Value} (h:AtS W0 W d L lo hi D B xs) {v:Value} {n:Int} (hd:zbo W D v (zao L n)):zjr d L lo hi D n W0 (.returned v) W:=⟨v,rfl,hd,h.roll,h.rl⟩
theorem At_A (d:RollD) (L:List Cl) (lo hi D:Nat) (W:World) (hR:RollAt W d L lo hi D) (n:Int) (h0:0≤n) (h1:n<146097) (hc:zd4 (stN L n) L.length=0∨whB (stN L n) L.length=true):
 Calls prog 75 #[.pointer (some ⟨d.b,0,none⟩),shV n] W (zjr d L lo hi D n W):=by
 have hs:=hR.f.set;have HAt:=waV (fun V (hV:Below W.heap.size W V)=>zm1 (hR.below hV) h0 h1)
 have HMd:=waV (fun V (hV:RollAt V d L lo hi D)=>zkM d L lo hi D (stN L n) V hV.f hV.hiD hV.dw hV.m.parts (fun i _=>zm0 hV.f.bits n i) hV.tz (by have:=hV.tl;omega))
 have HNo:Hid (zd4 (stN L n) L.length=0→∀s,s<86400→zao L n s=false):=fun ha s hs'=>by rw[←zi3 hs h0 h1 hs'];exact zkc ha s
 have HWh:Hid (whB (stN L n) L.length=true→∀s,zbK L (whS (zd4 (stN L n) L.length)) s=zbK L (stN L n) s):=fun hw s=>zii (fun i hi ha=>zlS hw i hi ha) s
 have HCon:Hid (∀(V:World) (q:Nat) (p:Nat→Bool),D≤q→DiscAt V q p→(∀s,p s=zbK L (stN L n) s)→zbo V D (.pointer (some ⟨q,0,none⟩)) (zao L n)):=fun V q p hD hq hp=>zbo.con hs h0 h1 hD hq hp
 have HWf:=waV (zm0 hR.f.bits n);have hal:=zg8 (stN L n) L.length;have h256:zd4 (stN L n) L.length<256:=by
  have h8:=hR.f.n8;have:2^L.length≤2^8:=Nat.pow_le_pow_right dQ h8;omega
 clear hal;have HR:=waV hR;have hDW:=hR.dw;have hV:∃y m d b k i1 i2 i3 i4:Int,shV n=.agg #[.int .i64 n,.int .i64 y,.int .i64 m,.int .i64 d,.int .i64 b,.int .i64 k,.int .i64 i1,.int .i64 i2,.int .i64 i3,.int .i64 i4]:=⟨_,_,_,_,_,_,_,_,_,rfl⟩;obtain⟨y,m,d',b',k',i1,i2,i3,i4,hV⟩:=hV;rw[hV] at HAt ⊢;have c0:=hR.f.c0;have lb:=waR W _ c0;have HSz:=waV (zaP (stN L n));have HI:Hid ((prog.info? 210).map (·.size)=some (zce (stN L n)).size):=by show _=_;rw[zaP];kernel_rfl
 have HO1:Hid ((zce (stN L n)).all (·.oneCell')=true):=by
  show _=_;rw[Array.all_eq_true];intro i hi;have h32:i<32:=by rwa [zaP] at hi
  have h:=zdf (stN L n) i h32;rw[wbI hi] at h;rw[waB h];unfold stG
  repeat' split
  all_goals rfl
 have HMr:Hid (∀(V:World),RollAt V d L lo hi D→Calls prog 134 #[.pointer (some ⟨d.b,0,none⟩),.agg (zce (stN L n))] V (zlR d L D (stN L n) V)):=HMd.out;unfold zb3 at HAt;clear hV hR HMd;have hn0:¬n<0:=by omega
 have hn1:¬n≥146097:=by omega
 obtain⟨xs,hxs⟩:∃xs,xs=zce (stN L n):=⟨_,rfl⟩;rw[←hxs] at HAt HSz HI HO1 HMr;have Hxs:=waV hxs;clear hxs;have HA3:Hid (∀(V1 V3:World),Below W.heap.size W V1→Below V1.heap.size V1 V3→Arr V3 V1.heap.size xs.size (fun j=>xs.getD j undef)→AtS W V3 d L lo hi D V1.heap.size xs):=fun V1 V3 hb1 hb3 ha=>by
  have hb:Below W.heap.size W V3:=zak hb1 hb3 hb1.size;refine⟨HR.out.below hb,(RlS.refl _ W).below hb (waJ _),fun j v hj=>?_,hb1.size,hDW⟩
  have hlt:=(waL.1 hj).1;rw[ha.1 j hlt];show some (xs.getD j undef)=some v;rw[wbL,hj];rfl
 by_cases ha:zd4 (stN L n) L.length=0
 ·clear hc;rw[ha] at HAt;have HN:=waV (HNo.out ha);clear HNo HMr HCon HWh HWf;go_enter func75,ntmps75;go_wp2_with fail;refine(HAt.out _ ((waC _ W).alloc (waJ _) _)).mono ?_;rintro e w1 ⟨rfl,hq1⟩;have hq0:=Below.trans ((waC W.heap.size W).alloc (waJ _) (.cells #[.int .i64 n,.int .i64 y,.int .i64 m,.int .i64 d',.int .i64 b',.int .i64 k',.int .i64 i1,.int .i64 i2,.int .i64 i3,.int .i64 i4] 125)) (hq1.mono (by simp))
  go_wp2_with (first|(refine zaQ (by rfl) 210 _ _ rfl xs _ rfl rfl HI.out HO1.out HSz.out.symm ?_;intro w3 hq3 HS3 hz3)|fail)
  have HA:=HA3.out w1 w3 hq0 hq3 HS3;have HRt:=waV (HA.ret (v:=.pointer none) (.inl ⟨rfl,HN.out⟩));clear HA HS3 hq3 hq1 HA3;go_wp2;go_ret;exact HRt.out
 ·have ha':¬((zd4 (stN L n) L.length:Nat):Int)=0:=by omega
  clear HNo;have hw:=hc.resolve_left ha;clear hc;obtain⟨a,hax⟩:∃a,a=zd4 (stN L n) L.length:=⟨_,rfl⟩;rw[←hax] at ha ha' HAt h256 HWh;clear hax
  ·rw[hw] at HAt;have HW:=waV (HWh.out hw);clear HWh HWf hw;have a0:¬(a:Int)<0:=by omega
   have a1:(a:Int)<256:=by omega
   have a2:(0:Int)≤(a:Int):=by omega
   obtain⟨v,hv,hv2⟩:=HR.out.m.whole a h256;rcases hv2 with rfl|⟨q,rfl,hq,hqd⟩
   ·go_enter func75,ntmps75;go_wp2_with fail;refine(HAt.out _ ((waC _ W).alloc (waJ _) _)).mono ?_;rintro e w1 ⟨rfl,hq1⟩;have hq0:=Below.trans ((waC W.heap.size W).alloc (waJ _) (.cells #[.int .i64 n,.int .i64 y,.int .i64 m,.int .i64 d',.int .i64 b',.int .i64 k',.int .i64 i1,.int .i64 i2,.int .i64 i3,.int .i64 i4] 125)) (hq1.mono (by simp))
    go_wp2_with (first|(refine zaQ (by rfl) 210 _ _ rfl xs _ rfl rfl HI.out HO1.out HSz.out.symm ?_;intro w3 hq3 HS3 hz3;have HA:=waV (HA3.out w1 w3 hq0 hq3 HS3);have hv3:=((zad (zak hq0 hq3 hq0.size)).1 _ _ lb).trans hv;clear HS3 hq3 hq1 HA3)|fail)
    have hu:=underlying210;have hi':(prog.info? 210).map (·.size)=some xs.toList.length:=by simpa using HI.out
    have HM:Hid (∀s,s<86400→zbK L (stN L n) s=zbK L (whS a) s):=fun s _=>(HW.out s).symm
    have hHeld:Hid (AtS W w3.drew d L lo hi D w1.heap.size xs):=HA.out.below (Below.drew (waC _ _));refine zan 8 (fun w'=>Hid (AtS W w' d L lo hi D w1.heap.size xs)) kQ ?_
    refine(kP 0 39 (h:=(kP 1 40 (h:=(kP 2 41 (h:=?_))))));simp only[Act.put,aPu1,aPu2,aPu3];refine zaj (i:=3) (dst:=some 42) (v:=.agg xs.toList.toArray) (hy:=fun o_ ho_=>?_) (hS:=hHeld) (h:=?_)
    case refine_1=>(obtain rfl:=waB ho_;exact yieldsIf_load_mid (by rfl) 210 _ rfl w1.heap.size 0 rfl xs.toList _ (fun w' hw'=>(AtS.limbs h256 hw'.out).1) hu rfl hi')
    simp only[Act.put,aPu1,aPu2,aPu3,Array.toArray_toList];refine(kP 5 44 (h:=(kP 6 45 (h:=?_))));simp only[Act.put,aPu1,aPu2,aPu3];refine zac (i:=4) kQ fun o_ ho_ K_ hK_=>?_
    obtain rfl:=waB ho_;have HK_:=waV hK_;clear hK_ ho_
    go_wp2_with (go_at_call 134;refine(HMr.out _ hHeld.out.roll).mono ?_;rintro e w5 ⟨q,rfl,hq5,hqd,hqp,hqr⟩)
    have hq:D≤q:=by
     have:=HA.out.roll.dw;have h9:w3.heap.size≤q:=hq5;omega
    have HA5:Hid (AtS W w5 d L lo hi D w1.heap.size xs):=hHeld.out.made hqr hqp;have HQ:=waV (hqd.congr HM.out);clear hqd hqp hqr hq5 hHeld HA;refine HK_.out _ _ HA5 ?_;have hHeld:=HA5;clear HA5 HK_;refine(kP 7 46 (h:=?_));simp only[Act.put,aPu1,aPu2,aPu3];obtain⟨z,hz⟩:=hHeld.out.roll.m.many;obtain⟨v',hv5,_⟩:=hHeld.out.roll.m.whole a h256;have hfz:=hHeld.out.roll.f.fz;have lb5:=waR w5 _ hv5;have HA6:=waV (hHeld.out.cell (4+a) (.pointer (some ⟨q,0,none⟩)) oQ (.inl ⟨a,h256,rfl,q,rfl,hq,HQ.out⟩));have HQ6:=waV (HQ.out.setb (v:=.pointer (some ⟨q,0,none⟩)) (o:=4+a) hHeld.out hq);obtain⟨z6,hz6⟩:=HA6.out.roll.m.many;have hv6:=waT w5 ⟨d.b,4+a,none⟩ (.pointer (some ⟨q,0,none⟩)) hv5;have hf6:=HA6.out.roll.f.fz;have HA7:=waV (fun V u=>(show Hid (V=w5.setCell ⟨d.b,4+a,none⟩ (.pointer (some ⟨q,0,none⟩))→AtS W (V.setCell ⟨d.b,260,none⟩ (.int .i64 u)) d L lo hi D w1.heap.size xs) from fun e=>by rw[e];exact HA6.out.cell 260 _ (by decide) (.inr ⟨rfl,u,rfl⟩)))
    have HD7:=waV (fun V u=>(show Hid (V=w5.setCell ⟨d.b,4+a,none⟩ (.pointer (some ⟨q,0,none⟩))→DiscAt (V.setCell ⟨d.b,260,none⟩ (.int .i64 u)) q (zbK L (whS a))) from fun e=>by rw[e];exact HQ6.out.setb (o:=260) HA6.out hq))
    clear HQ HQ6 HA6;refine zag (j:=1) dQ (.inr rfl) dQ kQ ?_;simp only[wbQ,waG,List.length_nil,Nat.reduceAdd,Nat.reduceSub,waZ,wbA];have n1:¬4+a=260:=by omega
    have n2:¬260=4+a:=by omega
    go_wp2;go_ret;exact(HA7.out _ _ rfl).ret (HCon.out _ q _ hq (HD7.out _ _ rfl) HW.out)
   ·have HQ:=waV hqd;clear hqd;go_enter func75,ntmps75;go_wp2_with fail;refine(HAt.out _ ((waC _ W).alloc (waJ _) _)).mono ?_;rintro e w1 ⟨rfl,hq1⟩;have hq0:=Below.trans ((waC W.heap.size W).alloc (waJ _) (.cells #[.int .i64 n,.int .i64 y,.int .i64 m,.int .i64 d',.int .i64 b',.int .i64 k',.int .i64 i1,.int .i64 i2,.int .i64 i3,.int .i64 i4] 125)) (hq1.mono (by simp))
    go_wp2_with (first|(refine zaQ (by rfl) 210 _ _ rfl xs _ rfl rfl HI.out HO1.out HSz.out.symm ?_;intro w3 hq3 HS3 hz3;have HA:=waV (HA3.out w1 w3 hq0 hq3 HS3);have hv3:=((zad (zak hq0 hq3 hq0.size)).1 _ _ lb).trans hv;have HQ3:=waV (HQ.out.below (zak hq0 hq3 hq0.size));clear HS3 hq3 hq1 HA3)|fail)
    all_goals go_ret
    exact HA.out.ret (HCon.out _ q _ hq HQ3.out HW.out)
theorem At_B (d:RollD) (L:List Cl) (lo hi D:Nat) (W:World) (hR:RollAt W d L lo hi D) (n:Int) (h0:0≤n) (h1:n<146097) (ha:¬zd4 (stN L n) L.length=0) (hw:¬whB (stN L n) L.length=true):
 Calls prog 75 #[.pointer (some ⟨d.b,0,none⟩),shV n] W (zjr d L lo hi D n W):=by
 have hs:=hR.f.set;have HAt:=waV (fun V (hV:Below W.heap.size W V)=>zm1 (hR.below hV) h0 h1)
 have HMd:=waV (fun V (hV:RollAt V d L lo hi D)=>zkM d L lo hi D (stN L n) V hV.f hV.hiD hV.dw hV.m.parts (fun i _=>zm0 hV.f.bits n i) hV.tz (by have:=hV.tl;omega))
 have HNo:Hid (zd4 (stN L n) L.length=0→∀s,s<86400→zao L n s=false):=fun ha s hs'=>by rw[←zi3 hs h0 h1 hs'];exact zkc ha s
 have HWh:Hid (whB (stN L n) L.length=true→∀s,zbK L (whS (zd4 (stN L n) L.length)) s=zbK L (stN L n) s):=fun hw s=>zii (fun i hi ha=>zlS hw i hi ha) s
 have HCon:Hid (∀(V:World) (q:Nat) (p:Nat→Bool),D≤q→DiscAt V q p→(∀s,p s=zbK L (stN L n) s)→zbo V D (.pointer (some ⟨q,0,none⟩)) (zao L n)):=fun V q p hD hq hp=>zbo.con hs h0 h1 hD hq hp
 have HWf:=waV (zm0 hR.f.bits n);have hal:=zg8 (stN L n) L.length;have h256:zd4 (stN L n) L.length<256:=by
  have h8:=hR.f.n8;have:2^L.length≤2^8:=Nat.pow_le_pow_right dQ h8;omega
 clear hal;have HR:=waV hR;have hDW:=hR.dw;have hV:∃y m d b k i1 i2 i3 i4:Int,shV n=.agg #[.int .i64 n,.int .i64 y,.int .i64 m,.int .i64 d,.int .i64 b,.int .i64 k,.int .i64 i1,.int .i64 i2,.int .i64 i3,.int .i64 i4]:=⟨_,_,_,_,_,_,_,_,_,rfl⟩;obtain⟨y,m,d',b',k',i1,i2,i3,i4,hV⟩:=hV;rw[hV] at HAt ⊢;have c0:=hR.f.c0;have lb:=waR W _ c0;have HSz:=waV (zaP (stN L n));have HI:Hid ((prog.info? 210).map (·.size)=some (zce (stN L n)).size):=by show _=_;rw[zaP];kernel_rfl
 have HO1:Hid ((zce (stN L n)).all (·.oneCell')=true):=by
  show _=_;rw[Array.all_eq_true];intro i hi;have h32:i<32:=by rwa [zaP] at hi
  have h:=zdf (stN L n) i h32;rw[wbI hi] at h;rw[waB h];unfold stG
  repeat' split
  all_goals rfl
 have HMr:Hid (∀(V:World),RollAt V d L lo hi D→Calls prog 134 #[.pointer (some ⟨d.b,0,none⟩),.agg (zce (stN L n))] V (zlR d L D (stN L n) V)):=HMd.out;unfold zb3 at HAt;clear hV hR HMd;have hn0:¬n<0:=by omega
 have hn1:¬n≥146097:=by omega
 obtain⟨xs,hxs⟩:∃xs,xs=zce (stN L n):=⟨_,rfl⟩;rw[←hxs] at HAt HSz HI HO1 HMr;have Hxs:=waV hxs;clear hxs;have HA3:Hid (∀(V1 V3:World),Below W.heap.size W V1→Below V1.heap.size V1 V3→Arr V3 V1.heap.size xs.size (fun j=>xs.getD j undef)→AtS W V3 d L lo hi D V1.heap.size xs):=fun V1 V3 hb1 hb3 ha=>by
  have hb:Below W.heap.size W V3:=zak hb1 hb3 hb1.size;refine⟨HR.out.below hb,(RlS.refl _ W).below hb (waJ _),fun j v hj=>?_,hb1.size,hDW⟩
  have hlt:=(waL.1 hj).1;rw[ha.1 j hlt];show some (xs.getD j undef)=some v;rw[wbL,hj];rfl
 have ha':¬((zd4 (stN L n) L.length:Nat):Int)=0:=by omega
 clear HNo;obtain⟨a,hax⟩:∃a,a=zd4 (stN L n) L.length:=⟨_,rfl⟩;rw[←hax] at ha ha' HAt h256 HWh;clear hax;have hwf:whB (stN L n) L.length=false:=by simpa using hw
 rw[hwf] at HAt;clear HWh hw hwf;have hT:prog.underlying 179=some (.map 210 126):=underlying179;have hkx:∃l,keyOf prog 210 (zb3 (stN L n))=some l:=zhx (fun i _=>HWf.out i)
 obtain⟨es,ck,hE,hes⟩:=HR.out.m.known;have lm:=(waL.1 hE).1;have c2:=HR.out.f.c2;rcases zmX (z:=.pointer none) hT (fun w=>rfl) zhy hkx (ziv hes) hes.one W hE with ⟨q0,hq0',hk,hl⟩|⟨hno,hl⟩
 ·obtain⟨x',e',hx',hk',hv',hDe,hde⟩:=hes.all q0 hq0';have HQ:Hid (DiscAt W e' (zbK L (stN L n))):=by
   show DiscAt _ _ _;rw[←zlT HR.out.f.n8 (hk'.symm.trans hk)];exact hde
  have HL:Hid (∀V:World,V.heap[d.km]?=some (.map es ck)→(Instr.lookup 179 (.map (some d.km)) (.agg xs) true).run prog V=.ok (.tuple #[.pointer (some ⟨e',0,none⟩),.bool true]) V):=fun V hV=>by
   rw[Hxs.out,←hv'];exact hl V hV
  clear hl hes hq0' hk hk' hv' hde hx' hkx hT;go_enter func75,ntmps75;go_wp2_with fail;refine(HAt.out _ ((waC _ W).alloc (waJ _) _)).mono ?_;rintro e w1 ⟨rfl,hq1⟩;have hq0:=Below.trans ((waC W.heap.size W).alloc (waJ _) (.cells #[.int .i64 n,.int .i64 y,.int .i64 m,.int .i64 d',.int .i64 b',.int .i64 k',.int .i64 i1,.int .i64 i2,.int .i64 i3,.int .i64 i4] 125)) (hq1.mono (by simp))
  go_wp2_with (first|(refine zaQ (by rfl) 210 _ _ rfl xs _ rfl rfl HI.out HO1.out HSz.out.symm ?_;intro w3 hq3 HS3 hz3;have HA:=waV (HA3.out w1 w3 hq0 hq3 HS3);have hb3:=zak hq0 hq3 hq0.size;clear HS3 hq3 hq1 HA3)|fail)
  have c2y:∀y:Ext w3,y.W.cell? ⟨d.b,2,none⟩=some (.map (some d.km)):=fun y=>y.cell (((zad hb3).1 _ _ lb).trans c2)
  have hly:∀y:Ext w3,(Instr.lookup 179 (.map (some d.km)) (.agg xs) true).run prog y.W=.ok (.tuple #[.pointer (some ⟨e',0,none⟩),.bool true]) y.W:=fun y=>HL.out _ ((y.h.block _ (by have:=hb3.size;omega)).trans ((hb3.block _ lm).trans hE))
  have HLx:Hid (∀W',zvu w3 W'→∀j v,xs[j]?=some v→W'.cell? ⟨w1.heap.size,0+j,none⟩=some v):=fun W' hW' j v hj=>by
   obtain⟨y,rfl⟩:=hW';rw[waH];exact y.cell (HA.out.x j v hj)
  refine zaV kQ kQ ?_
  (try simp only[Act.put,List.append,wbT,wbN])
  repeat (first|go_big_quiet_skip|(go_big_quiet_want;(first|((refine zcT 210 _ rfl xs w1.heap.size 0 rfl underlying210 rfl HI.out HLx.out ?_);simp only[Act.put,wbU,wbV,wbW];go_big_quiet_on)|(go_big_quiet_op;(first|go_big_quiet_on|go_big_quiet_call (fail))))))
  refine wpQuiet_nil ?_;rintro _ ⟨xw,rfl⟩;have HA4:=waV (HA.out.below xw.h);have HQ4:=waV (HQ.out.below (zak hb3 xw.h hb3.size));clear HA hly HLx c2y;go_wp2;go_ret;exact HA4.out.ret (HCon.out _ e' _ hDe HQ4.out (fun _=>rfl))
 ·have HL:Hid (∀V:World,V.heap[d.km]?=some (.map es ck)→(Instr.lookup 179 (.map (some d.km)) (.agg xs) true).run prog V=.ok (.tuple #[.pointer none,.bool false]) V):=fun V hV=>by
   rw[Hxs.out];exact hl V hV
  have HT:=waV hT;have HUp:Hid (∀(B:Nat) (V6:World) (es5:Array MapEntry) (q:Nat),(es5=es∨es5=#[])→AtS W V6 d L lo hi D B xs→V6.heap[d.km]?=some (.map es5 ck)→KnownE V6 L D es5.toList→D≤q→DiscAt V6 q (zbK L (stN L n))→
   ∀k,(Instr.mapUpdate 179 (.map (some d.km)) (.agg xs) (.pointer (some ⟨q,0,none⟩))).run prog (V6.drewN k)=.ok () ((V6.drewN k).putObj d.km (.map (es5.push {key:=.agg xs,val:=.pointer (some ⟨q,0,none⟩),born:=ck}) (ck+1)))∧
    zjr d L lo hi D n W (.returned (.pointer (some ⟨q,0,none⟩))) ((V6.drewN k).putObj d.km (.map (es5.push {key:=.agg xs,val:=.pointer (some ⟨q,0,none⟩),born:=ck}) (ck+1)))):=fun B V6 es5 q he hA hE5 hK hq hd k=>by
   have hno':∀q∈es5.toList,q.key≠zb3 (stN L n):=by
    rcases he with rfl|rfl
    ·exact hno
    ·intro q hq;cases hq
   have ex:(.agg xs:Value)=zb3 (stN L n):=by rw[Hxs.out];rfl
   rw[ex];have hKd:KnownE (V6.drewN k) L D es5.toList:=hK.rls (S:=fun _=>False) ((RlS.refl _ V6).drewN k) (fun _ g=>g.elim)
   have hdd:DiscAt (V6.drewN k) q (zbK L (stN L n)):=hd.same rfl;have hup:=zcd (w:=V6.drewN k) (x:=zb3 (stN L n)) (v:=.pointer (some ⟨q,0,none⟩)) HT.out hE5 (KeyRun.of_keyed zhy _) hkx (ziv hKd) hno';refine⟨hup,?_⟩;have hA2:=(hA.drewN k).putK (k:=ck+1) (hKd.push (n:=ck) (fun i _=>HWf.out i) hno' hq hdd)
   refine hA2.ret (HCon.out _ q _ hq (hdd.rls (S:=(·=d.km)) ((RlS.refl _ _).put _ _ rfl) (fun g=>?_)) (fun _=>rfl))
   have:q=d.km:=g;have:=hA.roll.f.lk;have:=hA.roll.hiD;omega
  have HEs:=waV hes;clear hl hes hno hkx hT HWf HCon;go_enter func75,ntmps75;go_wp2_with fail;refine(HAt.out _ ((waC _ W).alloc (waJ _) _)).mono ?_;rintro e w1 ⟨rfl,hq1⟩;have hq0:=Below.trans ((waC W.heap.size W).alloc (waJ _) (.cells #[.int .i64 n,.int .i64 y,.int .i64 m,.int .i64 d',.int .i64 b',.int .i64 k',.int .i64 i1,.int .i64 i2,.int .i64 i3,.int .i64 i4] 125)) (hq1.mono (by simp))
  go_wp2_with (first|(refine zaQ (by rfl) 210 _ _ rfl xs _ rfl rfl HI.out HO1.out HSz.out.symm ?_;intro w3 hq3 HS3 hz3;have HA:=waV (HA3.out w1 w3 hq0 hq3 HS3);have hb3:=zak hq0 hq3 hq0.size;clear HS3 hq3 hq1 HA3)|fail)
  have c2y:∀y:Ext w3,y.W.cell? ⟨d.b,2,none⟩=some (.map (some d.km)):=fun y=>y.cell (((zad hb3).1 _ _ lb).trans c2)
  have hly:∀y:Ext w3,(Instr.lookup 179 (.map (some d.km)) (.agg xs) true).run prog y.W=.ok (.tuple #[.pointer none,.bool false]) y.W:=fun y=>HL.out _ ((y.h.block _ (by have:=hb3.size;omega)).trans ((hb3.block _ lm).trans hE))
  have HLx:Hid (∀W',zvu w3 W'→∀j v,xs[j]?=some v→W'.cell? ⟨w1.heap.size,0+j,none⟩=some v):=fun W' hW' j v hj=>by
   obtain⟨y,rfl⟩:=hW';rw[waH];exact y.cell (HA.out.x j v hj)
  refine zaV kQ kQ ?_
  (try simp only[Act.put,List.append,wbT,wbN])
  repeat (first|go_big_quiet_skip|(go_big_quiet_want;(first|((refine zcT 210 _ rfl xs w1.heap.size 0 rfl underlying210 rfl HI.out HLx.out ?_);simp only[Act.put,wbU,wbV,wbW];go_big_quiet_on)|(go_big_quiet_op;(first|go_big_quiet_on|go_big_quiet_call (fail))))))
  refine wpQuiet_nil ?_;rintro _ ⟨xw,rfl⟩;have HA4:=waV (HA.out.below xw.h);have hbx:=zak hb3 xw.h hb3.size;have hE4:xw.W.heap[d.km]?=some (.map es ck):=(hbx.block _ lm).trans hE;have HK4:Hid (KnownE xw.W L D es.toList):=HEs.out.rls (S:=fun _=>False) ((RlS.refl _ W).below hbx (waJ _)) (fun _ g=>g.elim)
  have c24:=c2y xw;clear HA hly HLx c2y HEs HL hE;generalize xw.W=V4 at *;have lb4:=waR V4 _ c24;have hln:(Builtin.len_ #[179] 3 #[.map (some d.km)]).run prog V4=.ok (.int .i64 (es.size:Int)) V4:=zeG HT.out hE4;have hcr:(Builtin.clear_ #[179] 0 #[.map (some d.km)]).run prog V4=.ok (.tuple #[]) (V4.putObj d.km (.map #[] ck)):=zde HT.out hE4
  by_cases h6:es.size=256
  ·rw[h6] at hln;have HA5:=waV (HA4.out.putK (k:=ck) (es:=#[]) (KnownE.nil _ _ _));have hE5:(V4.putObj d.km (.map #[] ck)).heap[d.km]?=some (.map #[] ck):=World.putObj_heap_same (waL.1 hE4).1;have HK5:Hid (KnownE (V4.putObj d.km (.map #[] ck)) L D (#[]:Array MapEntry).toList):=KnownE.nil _ _ _;clear HA4 HK4 hE4;have HLd:=waV (fun j v (hj:xs[j]?=some v)=>(AtS.limbs h256 HA5.out).1 j v (by simpa using hj))
   go_wp2_with (first|(refine zai (by rfl) 210 _ rfl xs w1.heap.size 0 rfl underlying210 rfl HI.out HLd.out ?_)|(go_at_call 134;refine(HMr.out _ HA5.out.roll).mono ?_;rintro e w6 ⟨q,rfl,hq6,hqd,hqp,hqr⟩;have hq:D≤q:=waW HA5.out.roll.dw hq6;have HA6:=waV (HA5.out.made hqr hqp);have HQ:=waV hqd;obtain⟨z,hz⟩:=HA6.out.roll.m.many;have hfz:=HA6.out.roll.f.fz;have lb6:=waR w6 _ hz;have hE6:w6.heap[d.km]?=some (.map #[] ck):=(hqr.block _ (waL.1 hE5).1 (by rintro ⟨i,hi,e⟩;exact(HA5.out.roll.f.kne.2 i hi).2 e.symm)).trans hE5;have HK6:=waV (HK5.out.rls hqr (by rintro k ⟨i,hi,rfl⟩;have h8:=HA5.out.roll.f.lp i hi;have h9:=HA5.out.roll.hiD;omega));clear hqd hqp hqr hq6 HA5 HK5 hE5)|fail)
   have HA7:=waV (HA6.out.cell 260 (.int .i64 (wrap64 (z+1))) dQ (.inr ⟨rfl,_,rfl⟩));have hE7:(w6.setCell ⟨d.b,260,none⟩ (.int .i64 (wrap64 (z+1)))).heap[d.km]?=some (.map #[] ck):=(wbJ _ _ _ _ HA6.out.roll.f.kne.1).trans hE6;have HK7:Hid (KnownE (w6.setCell ⟨d.b,260,none⟩ (.int .i64 (wrap64 (z+1)))) L D (#[]:Array MapEntry).toList):=HK6.out.rls (S:=(·=d.b)) ((RlS.refl _ w6).set _ _ rfl) (by intro k g;have h7:k=d.b:=g;have h8:=HA6.out.roll.f.lb0;have h9:=HA6.out.roll.hiD;omega)
   have HQ7:=waV (HQ.out.setb (v:=.int .i64 (wrap64 (z+1))) (o:=260) HA6.out hq);clear HA6 HK6 HQ hE6 hz hfz;generalize w6.setCell ⟨d.b,260,none⟩ (.int .i64 (wrap64 (z+1)))=V7 at *;have c27:=HA7.out.roll.f.c2;have HLd7:Hid (∀W',(∃n,W'=V7.drewN n)→∀j v,xs[j]?=some v→W'.cell? ⟨w1.heap.size,0+j,none⟩=some v):=fun W' hW' j v hj=>by
    obtain⟨k,rfl⟩:=hW';exact(AtS.limbs h256 HA7.out).1 j v (by simpa using hj)
   refine zbg 6 kQ dQ kQ kQ kQ kQ kQ kQ ?_;dsimp only[List.take,List.drop]
   (try simp only[Act.put,List.append,wbT,wbN])
   repeat (first|go_big_quiet_skip|(go_big_quiet_want;(first|((refine zcT 210 _ rfl xs w1.heap.size 0 rfl underlying210 rfl HI.out HLd7.out ?_);simp only[Act.put,wbU,wbV,wbW];go_big_quiet_on)|(go_big_quiet_op;(first|go_big_quiet_on|go_big_quiet_call (fail))))))
   refine wpQuiet_nil ?_;rintro _ ⟨nq,rfl⟩;obtain⟨hup,hret⟩:=HUp.out w1.heap.size V7 #[] q (.inr rfl) HA7.out hE7 HK7.out hq HQ7.out nq;have HRet:=waV hret;clear hret HLd7 HLd HUp HA7 HK7 HQ7;go_wp2;go_ret;exact HRet.out
  ·have h7:¬((es.size:Int)=256):=by omega
   have HA5:=HA4;have hE5:=hE4;have HK5:=HK4;clear HA4 HK4 hE4;have HLd:=waV (fun j v (hj:xs[j]?=some v)=>(AtS.limbs h256 HA5.out).1 j v (by simpa using hj))
   go_wp2_with (first|(refine zai (by rfl) 210 _ rfl xs w1.heap.size 0 rfl underlying210 rfl HI.out HLd.out ?_)|(go_at_call 134;refine(HMr.out _ HA5.out.roll).mono ?_;rintro e w6 ⟨q,rfl,hq6,hqd,hqp,hqr⟩;have hq:D≤q:=waW HA5.out.roll.dw hq6;have HA6:=waV (HA5.out.made hqr hqp);have HQ:=waV hqd;obtain⟨z,hz⟩:=HA6.out.roll.m.many;have hfz:=HA6.out.roll.f.fz;have lb6:=waR w6 _ hz;have hE6:w6.heap[d.km]?=some (.map es ck):=(hqr.block _ (waL.1 hE5).1 (by rintro ⟨i,hi,e⟩;exact(HA5.out.roll.f.kne.2 i hi).2 e.symm)).trans hE5;have HK6:=waV (HK5.out.rls hqr (by rintro k ⟨i,hi,rfl⟩;have h8:=HA5.out.roll.f.lp i hi;have h9:=HA5.out.roll.hiD;omega));clear hqd hqp hqr hq6 HA5 HK5 hE5)|fail)
   have HA7:=waV (HA6.out.cell 260 (.int .i64 (wrap64 (z+1))) dQ (.inr ⟨rfl,_,rfl⟩));have hE7:(w6.setCell ⟨d.b,260,none⟩ (.int .i64 (wrap64 (z+1)))).heap[d.km]?=some (.map es ck):=(wbJ _ _ _ _ HA6.out.roll.f.kne.1).trans hE6;have HK7:Hid (KnownE (w6.setCell ⟨d.b,260,none⟩ (.int .i64 (wrap64 (z+1)))) L D (es:Array MapEntry).toList):=HK6.out.rls (S:=(·=d.b)) ((RlS.refl _ w6).set _ _ rfl) (by intro k g;have h7:k=d.b:=g;have h8:=HA6.out.roll.f.lb0;have h9:=HA6.out.roll.hiD;omega)
   have HQ7:=waV (HQ.out.setb (v:=.int .i64 (wrap64 (z+1))) (o:=260) HA6.out hq);clear HA6 HK6 HQ hE6 hz hfz;generalize w6.setCell ⟨d.b,260,none⟩ (.int .i64 (wrap64 (z+1)))=V7 at *;have c27:=HA7.out.roll.f.c2;have HLd7:Hid (∀W',(∃n,W'=V7.drewN n)→∀j v,xs[j]?=some v→W'.cell? ⟨w1.heap.size,0+j,none⟩=some v):=fun W' hW' j v hj=>by
    obtain⟨k,rfl⟩:=hW';exact(AtS.limbs h256 HA7.out).1 j v (by simpa using hj)
   refine zbg 6 kQ dQ kQ kQ kQ kQ kQ kQ ?_;dsimp only[List.take,List.drop]
   (try simp only[Act.put,List.append,wbT,wbN])
   repeat (first|go_big_quiet_skip|(go_big_quiet_want;(first|((refine zcT 210 _ rfl xs w1.heap.size 0 rfl underlying210 rfl HI.out HLd7.out ?_);simp only[Act.put,wbU,wbV,wbW];go_big_quiet_on)|(go_big_quiet_op;(first|go_big_quiet_on|go_big_quiet_call (fail))))))
   refine wpQuiet_nil ?_;rintro _ ⟨nq,rfl⟩;obtain⟨hup,hret⟩:=HUp.out w1.heap.size V7 es q (.inl rfl) HA7.out hE7 HK7.out hq HQ7.out nq;have HRet:=waV hret;clear hret HLd7 HLd HUp HA7 HK7 HQ7;go_wp2;go_ret;exact HRet.out
theorem zkN (d:RollD) (L:List Cl) (lo hi D:Nat) (W:World) (hR:RollAt W d L lo hi D) (n:Int) (h0:0≤n) (h1:n<146097):
 Calls prog 75 #[.pointer (some ⟨d.b,0,none⟩),shV n] W (zjr d L lo hi D n W):=by
 by_cases ha:zd4 (stN L n) L.length=0
 ·exact At_A d L lo hi D W hR n h0 h1 (.inl ha)
 ·by_cases hw:whB (stN L n) L.length=true
  ·exact At_A d L lo hi D W hR n h0 h1 (.inr hw)
  ·exact At_B d L lo hi D W hR n h0 h1 ha hw
end Go.Proofs.YtgedndlifiihkaaGreatDoor
namespace Go.Proofs.YtgedndlifiihkaaGreatDoor
open Go.Proofs.Tryz
open Go.RowKit
theorem zdB (f u:Int):zas (zaE f u) (zas f u)=zas f u:=by
 unfold zaE zas
 (repeat' split)<;>omega
def zgt (s:Int×Int) (c:Cl):Int×Int:=if zas c.f c.t<0 then s else(if zaE c.f c.t<s.1 then zaE c.f c.t else s.1,if s.2<zas c.f c.t then zas c.f c.t else s.2)
def zaH (l:List Cl):Int×Int:=l.foldl zgt (12622780800,-1)
theorem zqt {l:List Cl} {k:Nat} {c:Cl} (h:l[k]?=some c):zaH (l.take (k+1))=zgt (zaH (l.take k)) c:=by
 unfold zaH;rw[List.take_add_one,h,List.foldl_append];rfl
theorem zjs (A:Option Addr) (n c:Nat) (l:List Cl) (w:World) (hA:zbd w A n l) (hn:n≤9223372036854775807):
 Calls prog 146 #[.slice A n c] w (Ret (.agg #[.int .i64 (zaE (zaH l).1 (zaH l).2),.int .i64 (zas (zaH l).1 (zaH l).2)]) w):=by
 have HL:Hid (l.length=n):=hA.1;have HH:=waV (fun f u W=>zeb f u W)
 go_enter func146,ntmps146;go_wp2
 go_loopw [3,4,10] (fun x y i wr=>∃k:Nat,k≤n∧i=.int .i64 k∧x=.int .i64 (zaH (l.take k)).1∧y=.int .i64 (zaH (l.take k)).2∧Below (w.heap.size+1) (w.alloc (.cells #[.int .i64 0,.int .i64 0] 154)) wr) (fun _ _ i _=>n - (intOf i).toNat)
 case atStart=>exact⟨0,waK _,rfl,rfl,rfl,waC _ _⟩
 case round=>
  obtain⟨k,hk,rfl,rfl,rfl,hb⟩:=hrel;have hbw:Below w.heap.size w wr:=((waC _ w).alloc (waJ _) _).trans (hb.mono (by simp))
  have hsz:w.heap.size<wr.heap.size:=by have:=hb.size;simp at this;omega
  by_cases hlt:k<n
  ·obtain⟨b,o,x,rfl,hbl,hx,hcl⟩:=zbd.at_ (hA.below hbw (waJ _)) hlt
   have hlt':(k:Int)<(n:Int):=by omega
   have HT:=waV (zqt hx);have HI:=waV (zbN x);have H1:Hid ((clA x).all (·.oneCell')=true):=by show _=_;kernel_rfl
   have Hs:Hid (30=(clA x).size):=rfl;have HCl:=waV hcl;have HSp:=waV (fun W=>zj9 x W)
   have HE:=waV (fun W=>zim (zaE x.f x.t) (zas x.f x.t) W)
   rw[zdB] at HE;clear hx hcl HH HL hA;generalize zaH (l.take k)=s at *;generalize clA x=cs at *
   go_wp2_with (first|(refine zai (by rfl) 61 _ rfl cs b (o+k * 30) rfl underlying61 rfl HI.out HCl.out ?_)|(refine zaQ (by rfl) 61 _ _ rfl cs _ rfl rfl HI.out H1.out Hs.out ?_;intro w2 hq2 HS2 hz2;have HSx:Hid (∀j v,cs[j]?=some v→w2.cell? ⟨wr.heap.size,0+j,none⟩=some v):=zcH (zi0 HS2))|(refine zai (by rfl) 61 _ rfl cs wr.heap.size 0 rfl underlying61 rfl HI.out HSx.out ?_)|fail)
   refine(HSp.out _).mono ?_;rintro e w3 ⟨rfl,hb3⟩;have hb3':=zak hq2 hb3 hq2.size;have hz3:wr.heap.size<w3.heap.size:=by have:=hb3.size;omega
   clear hq2 hb3 HS2 HSx hz2 HCl HI H1 Hs
   by_cases he:zas x.f x.t<0
   ·have HU:Hid (zaH (l.take (k+1))=s):=by show _=_;rw[HT.out];exact if_pos he
    rw[waP he] at HE;generalize zas x.f x.t=U at *;generalize zaE x.f x.t=F at *;clear he HT;go_wp2_with fail;refine(HE.out _).mono ?_;rintro e w4 ⟨rfl,hb4⟩;have hb5:Below (w.heap.size+1) wr w4:=(hb3'.mono oQ).trans (Below.trans ((waC _ w3).alloc oQ _) (hb4.mono (by simp;omega)))
    clear hb4 hb3';go_wp2;go_roundw
    case rel=>exact⟨k+1,by omega,by go_num,by first|(rw[HU.out];done)|(rw[HU.out];refine congrArg (Value.int .i64) ?_;dsimp only;split<;>omega),by first|(rw[HU.out];done)|(rw[HU.out];refine congrArg (Value.int .i64) ?_;dsimp only;split<;>omega),hb.trans hb5⟩
    case measure=>simp [intOf];omega
   ·have HU:Hid (zaH (l.take (k+1))=(if zaE x.f x.t<s.1 then zaE x.f x.t else s.1,if s.2<zas x.f x.t then zas x.f x.t else s.2)):=by show _=_;rw[HT.out];exact if_neg he
    rw[waO he] at HE;generalize zas x.f x.t=U at *;generalize zaE x.f x.t=F at *;clear he HT;go_wp2_with fail;refine(HE.out _).mono ?_;rintro e w4 ⟨rfl,hb4⟩;have t0:w4.cell? ⟨w3.heap.size,0,none⟩=some (.int .i64 F):=(hb4.cell (p:=⟨w3.heap.size,0,none⟩) (by simp)).trans (zaa rfl rfl)
    have t1:w4.cell? ⟨w3.heap.size,1,none⟩=some (.int .i64 U):=(hb4.cell (p:=⟨w3.heap.size,1,none⟩) (by simp)).trans (zaa rfl rfl)
    have hb5:Below (w.heap.size+1) wr w4:=(hb3'.mono oQ).trans (Below.trans ((waC _ w3).alloc oQ _) (hb4.mono (by simp;omega)))
    clear hb4 hb3';go_wp2_with fail
    go_region
    all_goals (
     go_wp2;go_roundw
     case rel=>exact⟨k+1,by omega,by go_num,by first|(rw[HU.out];done)|(rw[HU.out];refine congrArg (Value.int .i64) ?_;dsimp only;split<;>omega),by first|(rw[HU.out];done)|(rw[HU.out];refine congrArg (Value.int .i64) ?_;dsimp only;split<;>omega),hb.trans hb5.drew⟩
     case measure=>simp [intOf];omega)
  ·obtain rfl:k=n:=by omega
   have HX:Hid (l.take k=l):=by show _=_;rw[List.take_of_length_le (by have:=HL.out;omega)]
   rw[HX.out];clear HX;have HHx:=waV (fun W=>HH.out (zaH l).1 (zaH l).2 W)
   have hbn:Below (w.alloc (.cells #[.int .i64 0,.int .i64 0] 154)).heap.size (w.alloc (.cells #[.int .i64 0,.int .i64 0] 154)) wr:=hb.mono (by simp)
   have q0:=(zad hbn).1 w.heap.size 0 (by simp)
   have q1:=(zad hbn).1 w.heap.size 1 (by simp)
   have qf:=fun j=>(zad hbn).2 w.heap.size j (by simp)
   clear hbn;generalize zaE (zaH l).1 (zaH l).2=RF at *;generalize zas (zaH l).1 (zaH l).2=RU at *;generalize zaH l=s at *;go_wp2_with fail;refine(HHx.out _).mono ?_;rintro e w2 ⟨rfl,hb2⟩;have y0:w2.cell? ⟨w.heap.size,0,none⟩=some (.int .i64 0):=by rw[(zad hb2).1 _ _ hsz,q0];exact zaa rfl rfl
   have y1:w2.cell? ⟨w.heap.size,1,none⟩=some (.int .i64 0):=by rw[(zad hb2).1 _ _ hsz,q1];exact zaa rfl rfl
   have yf:∀j,w2.frozen? ⟨w.heap.size,j,none⟩=false:=fun j=>by rw[(zad hb2).2 _ _ hsz,qf];go_simp
   have hz2:w.heap.size<w2.heap.size:=by have:=hb2.size;omega
   have hbW:Below w.heap.size w w2:=zak hbw hb2 oQ;clear hb2 qf q0 q1;go_wp2
   (try simp only[Exit.inBlock,Exit.then])
   refine waY (v:=.agg #[.int .i64 RF,.int .i64 RU]) ?_ rfl ⟨rfl,by exact zaI⟩
   rw[zah rfl]
   go_simp
end Go.Proofs.YtgedndlifiihkaaGreatDoor
namespace Go.Proofs.YtgedndlifiihkaaGreatDoor
open Go.Proofs.Tryz
theorem zob (s:Int×Int) (c:Cl):(zgt s c).1≤s.1∧s.2≤(zgt s c).2∧(¬zas c.f c.t<0→(zgt s c).1≤zaE c.f c.t∧zas c.f c.t≤(zgt s c).2):=by
 unfold zgt;split
 ·exact⟨Int.le_refl _,Int.le_refl _,fun h=>absurd ‹_› h⟩
 ·dsimp only;refine⟨?_,?_,fun _=>⟨?_,?_⟩⟩<;>split<;>omega
theorem ziw:∀(l:List Cl) (s:Int×Int),(l.foldl zgt s).1≤s.1∧s.2≤(l.foldl zgt s).2∧∀c∈l,¬zas c.f c.t<0→(l.foldl zgt s).1≤zaE c.f c.t∧zas c.f c.t≤(l.foldl zgt s).2
 |[],s=>⟨Int.le_refl _,Int.le_refl _,fun c hc=>by cases hc⟩
 |a::l,s=>by
  obtain⟨h1,h2,h3⟩:=zob s a;obtain⟨h4,h5,h6⟩:=ziw l (zgt s a);rw[List.foldl_cons];refine⟨by omega,by omega,fun c hc hu=>?_⟩
  rcases List.mem_cons.1 hc with rfl|hc
  ·have:=h3 hu;omega
  ·exact h6 c hc hu
theorem zqu {c:Cl} {t:Int} (h:zrT c t=true):inC t=true∧zaE c.f c.t≤t∧t≤zas c.f c.t:=by
 unfold zrT at h;simp only[waN,waM] at h;exact⟨h.1,h.2.2.1⟩
theorem zm2 {L:List Cl} {t:Int} (h:zrU L t=true):zaE (zaH L).1 (zaH L).2≤t∧t≤zas (zaH L).1 (zaH L).2∧¬zas (zaH L).1 (zaH L).2<0:=by
 unfold zrU at h;rw[waN,List.any_eq_true] at h;obtain⟨_,c,hc,hh⟩:=h;obtain⟨hi,h1,h2⟩:=zqu hh;have hi:0≤t∧t<12622780800:=waA hi;obtain⟨_,_,h3⟩:=ziw L (12622780800,-1);obtain⟨h4,h5⟩:=h3 c hc oQ;have h4:(zaH L).1≤zaE c.f c.t:=h4;have h5:zas c.f c.t≤(zaH L).2:=h5;generalize (zaH L).1=a at *;generalize (zaH L).2=b at *;clear h3 hh hc;unfold zaE zas at *;generalize c.f=f at *;generalize c.t=u at *
 (repeat' split)<;>omega
end Go.Proofs.YtgedndlifiihkaaGreatDoor
