/- A part of the proof: WTc7 -/
import Derived.Test.YtadefhkaejjfmaaGreatDoorQ37
import Derived.Test.YtadefhkaejjfmaaGreatDoorQ35
import Derived.Test.YtadefhkaejjfmaaGreatDoorQ33
import Derived.Test.YtadefhkaejjfmaaGreatDoorQ24
import Derived.Test.YtadefhkaejjfmaaGreatDoorQ27
set_option maxHeartbeats 80000000
set_option maxRecDepth 100000
set_option linter.unusedSimpArgs false
set_option linter.unusedVariables false
namespace Go.Proofs.YtadefhkaejjfmaaGreatDoor
open Go.Proofs.Tryz
open Go.RowKit
open Go.Maps
attribute [local go_sem] Oper.semAt_some
structure WhS (W V:World) (d:RollD) (L:List Cl) (lo hi D b1 b2 b3 Bm Br mo th la off:Nat):Prop where
 ro:RollAt V d L lo hi D
 m:Boxed V Bm 39 (.int .u64 (mo:Int))
 r:Boxed V Br 92 (.pointer (some ⟨d.b,0,none⟩))
 x1:Boxed V b1 39 (.int .u64 (th:Int))
 x2:Boxed V b2 39 (.int .u64 (la:Int))
 x3:Boxed V b3 39 (.int .u64 (off:Int))
 be:RlS (fun _=>False) W V
structure WhN (d:RollD) (lo hi D b1 b2 b3 Bm Br z:Nat):Prop where
 n1:hi≤b1∧b1<D
 n2:hi≤b2∧b2<D
 n3:hi≤b3∧b3<D
 nr:hi≤Br∧Br<D
 nm:Bm<lo
 n12:b1≠b2
 n13:b1≠b3
 n23:b2≠b3
 r1:Br≠b1
 r2:Br≠b2
 r3:Br≠b3
 z:z≤lo∧lo≤hi∧hi≤D∧z≤Bm
section
variable {W V X : World} {d : RollD} {L : List Cl} {lo hi D b1 b2 b3 Bm Br mo th la off : Nat}
theorem WhS.below (h:WhS W V d L lo hi D b1 b2 b3 Bm Br mo th la off) (hb:Below V.heap.size V X):WhS W X d L lo hi D b1 b2 b3 Bm Br mo th la off:=
 ⟨h.ro.below hb,zaB hb h.m,zaB hb h.r,zaB hb h.x1,zaB hb h.x2,zaB hb h.x3,h.be.below hb h.be.size⟩
theorem WhS.drew (h:WhS W V d L lo hi D b1 b2 b3 Bm Br mo th la off):WhS W V.drew d L lo hi D b1 b2 b3 Bm Br mo th la off:=h.below (waC _ _).drew
theorem WhS.rl00 {B:Nat} (h:WhS W V d L lo hi D b1 b2 b3 Bm Br mo th la off) (hr:Rl 0 0 B V X) (hB:D≤B) (hW:W.heap.size≤B):WhS W X d L lo hi D b1 b2 b3 Bm Br mo th la off:=
 ⟨h.ro.rl00 hr hB,zcl h.m hr (.inr (waK _)),zcl h.r hr (.inr (waK _)),zcl h.x1 hr (.inr (waK _)),zcl h.x2 hr (.inr (waK _)),zcl h.x3 hr (.inr (waK _)),h.be.rl00 hr hW⟩
theorem WhS.at (h:WhS W V d L lo hi D b1 b2 b3 Bm Br mo th la off) (hn:WhN d lo hi D b1 b2 b3 Bm Br W.heap.size) (hR:RollAt X d L lo hi D) (hr:RlS (d.mv L.length) V X):WhS W X d L lo hi D b1 b2 b3 Bm Br mo th la off:=by
 have out:∀k,k<lo∨hi≤k→¬d.mv L.length k:=fun k hk g=>by have:=h.ro.f.mb k g;omega
 refine⟨hR,zaF h.m hr (out _ (.inl hn.nm)),zaF h.r hr (out _ (.inr hn.nr.1)),zaF h.x1 hr (out _ (.inr hn.n1.1)),zaF h.x2 hr (out _ (.inr hn.n2.1)),zaF h.x3 hr (out _ (.inr hn.n3.1)),?_⟩;exact⟨hr.os.trans h.be.os,hr.tape.trans h.be.tape,hr.output.trans h.be.output,waW h.be.size hr.size,fun k hk _=>(hr.block k (waD hk h.be.size) (out _ (.inl (by have:=hn.z;omega)))).trans (h.be.block k hk (fun g=>g))⟩
theorem RollAt.box (h:RollAt V d L lo hi D) {b:Nat} (v:Value) (h1:hi≤b) (h2:b<D):RollAt (V.setCell ⟨b,0,none⟩ v) d L lo hi D:=
 h.apart ((RlS.refl (·=b) V).set _ _ rfl) (fun k g=>by have:k=b:=g;omega) (fun g=>by have:0=b:=g;have:=h.tl;have:=h.f.lb0;omega)
theorem RlS.own_set {b:Nat} (h:RlS (fun _=>False) W V) (v:Value) (hb:W.heap.size≤b):RlS (fun _=>False) W (V.setCell ⟨b,0,none⟩ v):=
 ⟨h.os,h.tape,h.output,waW h.size (KeepsWalks.setCell V _ v).size,fun k hk _=>(wbJ _ _ _ _ (show k≠b by omega)).trans (h.block k hk (fun g=>g))⟩
theorem WhS.set1 (h:WhS W V d L lo hi D b1 b2 b3 Bm Br mo th la off) (hn:WhN d lo hi D b1 b2 b3 Bm Br W.heap.size) (x:Nat):WhS W (V.setCell ⟨b1,0,none⟩ (.int .u64 (x:Int))) d L lo hi D b1 b2 b3 Bm Br mo x la off:=by
 have:=hn.n1;have:=hn.z;have:=hn.nm;have:=hn.r1;have:=hn.n12;have:=hn.n13;exact⟨h.ro.box _ hn.n1.1 hn.n1.2,h.m.other oQ _,h.r.other oQ _,h.x1.set _,h.x2.other oQ _,h.x3.other oQ _,h.be.own_set _ oQ⟩
theorem WhS.set2 (h:WhS W V d L lo hi D b1 b2 b3 Bm Br mo th la off) (hn:WhN d lo hi D b1 b2 b3 Bm Br W.heap.size) (x:Nat):WhS W (V.setCell ⟨b2,0,none⟩ (.int .u64 (x:Int))) d L lo hi D b1 b2 b3 Bm Br mo th x off:=by
 have:=hn.n2;have:=hn.z;have:=hn.nm;have:=hn.r2;have:=hn.n12;have:=hn.n23;exact⟨h.ro.box _ hn.n2.1 hn.n2.2,h.m.other oQ _,h.r.other oQ _,h.x1.other oQ _,h.x2.set _,h.x3.other oQ _,h.be.own_set _ oQ⟩
theorem WhS.set3 (h:WhS W V d L lo hi D b1 b2 b3 Bm Br mo th la off) (hn:WhN d lo hi D b1 b2 b3 Bm Br W.heap.size) (x:Nat):WhS W (V.setCell ⟨b3,0,none⟩ (.int .u64 (x:Int))) d L lo hi D b1 b2 b3 Bm Br mo th la x:=by
 have:=hn.n3;have:=hn.z;have:=hn.nm;have:=hn.r3;have:=hn.n13;have:=hn.n23;exact⟨h.ro.box _ hn.n3.1 hn.n3.2,h.m.other oQ _,h.r.other oQ _,h.x1.other oQ _,h.x2.other oQ _,h.x3.set _,h.be.own_set _ oQ⟩
end
theorem zor {V:World} {D:Nat} {v:Value} {p:Nat→Bool} (h:zbr V D v p) (hw:Tz V):Calls prog 44 #[v,.int .i64 0] V (fun e w'=>w'=V∧((∃k:Int,e=.returned (.tuple #[.int .i64 k,.bool true])∧∃s,s<86400∧p s=true)∨(e=.returned (.tuple #[.int .i64 0,.bool false])∧∀s,s<86400→p s=false))):=by
 rcases h with ⟨rfl,h⟩|⟨b,rfl,_,hd⟩
 ·refine(zks 0 V).mono ?_;rintro e w' ⟨rfl,rfl⟩;exact⟨rfl,.inr ⟨rfl,h⟩⟩
 ·refine(zhc b 0 p V hd hw dQ).mono ?_;rintro e w' ⟨rfl,(⟨x,rfl,h1,_,h2,_⟩|⟨rfl,h⟩)⟩
  ·exact⟨rfl,.inl ⟨_,rfl,x,h1,h2⟩⟩
  ·exact⟨rfl,.inr ⟨rfl,fun s hs=>h s (waK _) hs⟩⟩
theorem zs3 {P:Program} {c:Code} {Q:Exit→Act→World→Prop} {a:Act} {w:World} (h:c.wp P (fun e a w=>e=.normal∧Q e a w) a w):c.wp P Q a w:=Code.wp_mono (fun _ _ _ h=>h.2) h
def zs4 (P:Int→Nat→Bool) (W:World) (e:Ending) (W':World):Prop:=e=.returned (.tuple #[.int .u64 (domW P:Int),.int .u64 (wkW P:Int)])∧Below W.heap.size W W'
theorem zq2 (A:Option Addr) (n cc:Nat) (L:List Cl) (W:World) (hA:zbB W A n L) (hn:n≤8) (hnil:A=none→n=0) (hbit:∀c,c∈L→zcx c∧c.s≤9223372036854775807) (hset:ze2 L=true) (hw:Tz W):
 Calls prog 252 #[.slice A n cc,.int .u64 (zaV (zak L):Int)] W (zs4 (zak L) W):=by
 have HNew:=waV (fun V (hV:Below W.heap.size W V)=>zfF A n cc L V (hA.below hV (waJ _)) oQ hnil hbit (hw.below hV))
 have HG:=waV (fun f u V=>zhp f u V)
 have HN:=waV hn;have HSet:=waV hset;have HM:=waV (show zaV (zak L)<18446744073709551616 from zbU _)
 have HD:=waV (fun th la off (h:WhI (zak L) (zaV (zak L)) th la off (zcI 0 146096))=>And.intro h.dom h.wk)
 have htz:0<W.heap.size:=waR W _ (hw 0 dQ);clear hA hn hnil hbit hset hw;obtain⟨mo,hmo⟩:∃mo,zaV (zak L)=mo:=⟨_,rfl⟩;rw[hmo] at HM HD ⊢;refine(wbP (n:=20)).1 ?_;refine callsIn_of_wp_marks func252 rfl trivial ?_ rfl;refine wpIn_wide.2 ?_;simp only[ntmps252,wbQ,waG,List.length_nil,Nat.reduceAdd,Nat.reduceSub,wbR,wbS,List.push_toArray,List.append_toArray,wbN,wbT];go_wp2_with fail;have hb0:Below W.heap.size W (W.alloc (.cells #[.int .u64 (mo:Int)] 39)):=(waC _ W).alloc (waJ _) _;have hz0:(W.alloc (.cells #[.int .u64 (mo:Int)] 39)).heap.size=W.heap.size+1:=by simp
 have xm:=Boxed.new W 39 (.int .u64 (mo:Int));generalize (W.alloc (.cells #[.int .u64 (mo:Int)] 39))=W0 at *;refine(HNew.out W0 hb0).mono ?_;rintro e w1 ⟨hb1,hres⟩;obtain(⟨h,_⟩|⟨_,h,_⟩|⟨_,_,d,rfl,hroll⟩):=hres
 ·have:=HN.out;omega
 ·rw[HSet.out] at h;cases h
 have HRoll:=waV hroll;have xm:=zaB hb1 xm;have hz1:=hb1.size;have hbW1:Below W.heap.size W w1:=hb0.trans (hb1.mono oQ);clear hroll hb1 hb0;go_wp2_with fail;have hbA:Below w1.heap.size w1 ((((w1.alloc (.cells #[.pointer (some ⟨d.b,0,none⟩)] 92)).alloc (.cells #[.int .u64 0] 39)).alloc (.cells #[.int .u64 0] 39)).alloc (.cells #[.int .u64 0] 39)):=((((waC _ w1).alloc (waJ _) _).alloc (by simp) _).alloc (by simp;omega) _).alloc (by simp;omega) _
 have hzA:((((w1.alloc (.cells #[.pointer (some ⟨d.b,0,none⟩)] 92)).alloc (.cells #[.int .u64 0] 39)).alloc (.cells #[.int .u64 0] 39)).alloc (.cells #[.int .u64 0] 39)).heap.size=w1.heap.size+4:=by simp
 have xr:Boxed ((((w1.alloc (.cells #[.pointer (some ⟨d.b,0,none⟩)] 92)).alloc (.cells #[.int .u64 0] 39)).alloc (.cells #[.int .u64 0] 39)).alloc (.cells #[.int .u64 0] 39)) w1.heap.size 92 (.pointer (some ⟨d.b,0,none⟩)):=(((Boxed.new _ _ _).alloc _).alloc _).alloc _;have x1:Boxed ((((w1.alloc (.cells #[.pointer (some ⟨d.b,0,none⟩)] 92)).alloc (.cells #[.int .u64 0] 39)).alloc (.cells #[.int .u64 0] 39)).alloc (.cells #[.int .u64 0] 39)) (w1.heap.size+1) 39 (.int .u64 ((0:Nat):Int)):=by
  have h:w1.heap.size+1=(w1.alloc (.cells #[.pointer (some ⟨d.b,0,none⟩)] 92)).heap.size:=by simp
  rw[h];exact((Boxed.new _ _ _).alloc _).alloc _
 have x2:Boxed ((((w1.alloc (.cells #[.pointer (some ⟨d.b,0,none⟩)] 92)).alloc (.cells #[.int .u64 0] 39)).alloc (.cells #[.int .u64 0] 39)).alloc (.cells #[.int .u64 0] 39)) (w1.heap.size+1+1) 39 (.int .u64 ((0:Nat):Int)):=by
  have h:w1.heap.size+1+1=((w1.alloc (.cells #[.pointer (some ⟨d.b,0,none⟩)] 92)).alloc (.cells #[.int .u64 0] 39)).heap.size:=by simp
  rw[h];exact(Boxed.new _ _ _).alloc _
 have x3:Boxed ((((w1.alloc (.cells #[.pointer (some ⟨d.b,0,none⟩)] 92)).alloc (.cells #[.int .u64 0] 39)).alloc (.cells #[.int .u64 0] 39)).alloc (.cells #[.int .u64 0] 39)) (w1.heap.size+1+1+1) 39 (.int .u64 ((0:Nat):Int)):=by
  have h:w1.heap.size+1+1+1=(((w1.alloc (.cells #[.pointer (some ⟨d.b,0,none⟩)] 92)).alloc (.cells #[.int .u64 0] 39)).alloc (.cells #[.int .u64 0] 39)).heap.size:=by simp
  rw[h];exact Boxed.new _ _ _
 generalize ((((w1.alloc (.cells #[.pointer (some ⟨d.b,0,none⟩)] 92)).alloc (.cells #[.int .u64 0] 39)).alloc (.cells #[.int .u64 0] 39)).alloc (.cells #[.int .u64 0] 39))=w2 at *;have xm:=zaB hbA xm;refine(HG.out 0 146096 w2).mono ?_;rintro e w3 ⟨q1,q2,rfl,hq1,hq2,hne,hd1,hd2,hb3⟩;rw[show mxI 0 0=0 from rfl] at hd1
 rw[show mnI 146096 146096=146096 from rfl] at hd2
 have hz3:=hb3.size;have hb13:Below w1.heap.size w1 w3:=hbA.trans (hb3.mono oQ);have hbW3:Below W.heap.size W w3:=hbW1.trans (hb13.mono hbW1.size);have hR3:=HRoll.out w3 w3.heap.size (fun _=>False) ((RlS.refl (fun _=>False) w1).below hb13 (waJ _)) (fun k g=>g.elim) oQ (waJ _)
 have hzW:=hbW1.size;have HNn:Hid (WhN d W0.heap.size w1.heap.size w3.heap.size (w1.heap.size+1) (w1.heap.size+1+1) (w1.heap.size+1+1+1) W.heap.size w1.heap.size W.heap.size):=⟨⟨by omega,by omega⟩,⟨by omega,by omega⟩,⟨by omega,by omega⟩,⟨by omega,by omega⟩,by omega,by omega,by omega,by omega,by omega,by omega,by omega,⟨by omega,by omega,by omega,by omega⟩⟩
 have HS0:Hid (WhS W w3 d L W0.heap.size w1.heap.size w3.heap.size (w1.heap.size+1) (w1.heap.size+1+1) (w1.heap.size+1+1+1) W.heap.size w1.heap.size mo 0 0 0):=⟨hR3,zaB hb3 xm,zaB hb3 xr,zaB hb3 x1,zaB hb3 x2,zaB hb3 x3,(RlS.refl (fun _=>False) W).below hbW3 (waJ _)⟩
 have nM:∀k,w2.heap.size≤k→¬(d.mv L.length k∨k=w1.heap.size+1∨k=w1.heap.size+1+1∨k=w1.heap.size+1+1+1):=by
  rintro k hk (g|g|g|g)
  ·have:=hR3.f.mb k g;omega
  ·omega
  ·omega
  ·omega
 have eg:∀args w,(callFunc 203 args).run prog w=.ok (.enter 203 args) w:=enters_of func203 kQ rfl;have HO:=waV (fun b c x (V:World) (hc:V.cell? ⟨b,0,none⟩=some (.int .i64 x)) hb=>ziC (c:=c) hc hb)
 have HAt:=waV (fun V (hV:RollAt V d L W0.heap.size w1.heap.size w3.heap.size) n h0 h1=>zkD d L W0.heap.size w1.heap.size w3.heap.size V hV n h0 h1)
 have HMh:=waV (fun x V=>zbI (mo:Int) x oQ (by have:=HM.out;omega) V)
 clear xm xr x1 x2 x3 hb3 hbA hR3 HNew HG;go_wp2_with fail;refine(wpIn_wide (n:=20)).1 ?_;refine wpIn_rangeFunc_ownH rfl oQ (gf:=203) (lb:=#[.pointer (some ⟨q1,0,none⟩),.pointer (some ⟨q2,0,none⟩)]) rfl trivial eg
  (ze6 (KpM (fun j=>d.mv L.length j∨j=w1.heap.size+1∨j=w1.heap.size+1+1∨j=w1.heap.size+1+1+1)) 19 q1 q2 0 146096 dQ dQ dQ dQ dQ (fun _ _ hk hc=>hk.cell hc (nM _ oQ)) w3 hd1 hd2)
  (fun h k=>h.trans k) (fun V l o o' _ hl ho _=>KpM.putObj o' hl ho) (waC _ _) (fun _=>rfl)
  (fun pre V=>∃th la off,WhS W V d L W0.heap.size w1.heap.size w3.heap.size (w1.heap.size+1) (w1.heap.size+1+1) (w1.heap.size+1+1+1) W.heap.size w1.heap.size mo th la off∧WhI (zak L) mo th la off (pre.map Subtype.val))
  (fun c pre V=>False)
  (fun pre X Y row hs hg hr=>by
    obtain⟨th,la,off,h1,h2⟩:=hs;exact⟨th,la,off,h1.rl00 ((Rl.refl 0 0 w3.heap.size X).own hg hr) (waJ _) oQ,h2⟩)
  (fun c pre X Y row hs hg hr=>hs)
  ⟨0,0,0,HS0.out,WhI.nil _ _⟩
  (fun x a' V=>∃Bs,w3.heap.size≤Bs∧V.heap[Bs]?=some (.cells (shA x.1) 102)∧a'={tmps:=#[.slice A n cc,.int .u64 (mo:Int),undef,.pointer (some ⟨W.heap.size,0,none⟩),.int .u64 0,.int .u64 0,.pointer (some ⟨w1.heap.size,0,none⟩),.int .i64 0,.pointer (some ⟨w1.heap.size+1,0,none⟩),.pointer (some ⟨w1.heap.size+1+1,0,none⟩),.pointer (some ⟨w1.heap.size+1+1+1,0,none⟩),.pointer (some ⟨Bs,0,none⟩),undef,undef,.tuple #[.pointer (some ⟨d.b,0,none⟩),.int .i64 0],.slice A n cc,.tuple #[.pointer (some ⟨d.b,0,none⟩),.int .i64 0],.pointer (some ⟨d.b,0,none⟩),.int .i64 0,.int .i64 0,.bool false,.func (.func 203) #[] #[.pointer (some ⟨q1,0,none⟩),.pointer (some ⟨q2,0,none⟩)],shV x.1,undef,undef,undef,undef,undef,undef,undef,undef,undef,undef,undef,undef,undef,undef,undef,undef,undef,undef,undef,undef,undef,undef,undef,undef,undef,undef,undef,undef,undef,undef,undef,undef,undef,undef,undef,undef,undef],defers:=[]})
  (fun x a' _ X Y row hs hg hr=>by
    obtain⟨Bs,e1,e2,e3⟩:=hs;refine⟨Bs,e1,(hg.block Bs (waL.1 e2).1 (fun e=>?_)).trans e2,e3⟩
    obtain⟨_,o,ho,hc⟩:=hr Bs e.symm;rw[e2] at ho;cases ho;cases hc)
  ?assign ?body ?done ?stop
 case assign=>
  rintro l1 pre x V K ⟨th,la,off,hs,hi⟩ hK;obtain⟨v0,v1,v2,v3,v4,v5,v6,v7,v8,v9,hv⟩:=zep x.1;have hA:shA x.1=#[.int .i64 v0,.int .i64 v1,.int .i64 v2,.int .i64 v3,.int .i64 v4,.int .i64 v5,.int .i64 v6,.int .i64 v7,.int .i64 v8,.int .i64 v9]:=by have:=(zeo x.1).symm.trans hv;injection this
  have HK:=waV hK;have HSx:=waV hs;have HIx:=waV hi;have hsz:w3.heap.size≤V.heap.size:=hs.ro.dw;clear hK hs hi;rw[hv] at HK ⊢;rw[hA] at HK
  gi_wp2
  have hb:=(waC _ V).alloc (waJ _) (.cells #[.int .i64 v0,.int .i64 v1,.int .i64 v2,.int .i64 v3,.int .i64 v4,.int .i64 v5,.int .i64 v6,.int .i64 v7,.int .i64 v8,.int .i64 v9] 102);exact HK.out _ _ ((KeepsOthers.alloc _ _).from _) ((KpM.refl _ V).alloc _) ⟨th,la,off,HSx.out.below hb,HIx.out⟩ ⟨V.heap.size,hsz,World.alloc_heap_new V _,rfl⟩
 case body=>
  rintro l1 pre x a' V hl1 ⟨r1,hr1⟩ ⟨th,la,off,hS,hI⟩ ⟨Bs,hBs,hbs,rfl⟩ hlt;obtain⟨v0,v1,v2',v3,v4,v5,v6,v7,v8,v9,hv⟩:=zep x.1;have hA:shA x.1=#[.int .i64 v0,.int .i64 v1,.int .i64 v2',.int .i64 v3,.int .i64 v4,.int .i64 v5,.int .i64 v6,.int .i64 v7,.int .i64 v8,.int .i64 v9]:=by have:=(zeo x.1).symm.trans hv;injection this
  have hx:=zaX.1 x.2;have hv2:mD x.1=v2':=by have h:Value.int .i64 (shN x.1 (yD x.1) (mD x.1) (dD x.1) 2)=.int .i64 v2':=congrArg (fun a=>a.getD 2 undef) hA;injection h
  have hv3:dD x.1=v3:=by have h:Value.int .i64 (shN x.1 (yD x.1) (mD x.1) (dD x.1) 3)=.int .i64 v3:=congrArg (fun a=>a.getD 3 undef) hA;injection h
  have hv5:wdD x.1=v5:=by have h:Value.int .i64 (shN x.1 (yD x.1) (mD x.1) (dD x.1) 5)=.int .i64 v5:=congrArg (fun a=>a.getD 5 undef) hA;injection h
  have hdb:=za6 hx.1 (show x.1<146097 by omega)
  have hwb:=zct x.1;have HP3:Hid (mkB v3=2^(dD x.1).toNat):=by show _=_;rw[←hv3,zgd (by omega) (by omega)]
  have HP5:Hid (mkB v5=2^(wdD x.1).toNat):=by show _=_;rw[←hv5,zgd (by omega) (by omega)]
  have HHas:=waV (fun l' V=>zaj (m:=17) (l':=l') (HMh.out v2' V))
  rw[show zcT (mo:Int) v2'=mo.testBit (mD x.1).toNat by rw[←hv2,show mD x.1=((mD x.1).toNat:Int) by omega,zbi _ _ (by omega),Int.toNat_natCast]] at HHas
  have HAx:=waV (fun V hV=>HAt.out V hV x.1 hx.1 oQ)
  rw[hv] at HAx ⊢;rw[hA] at hbs;have HI:=waV hI;have HLt:Hid (th<18446744073709551616∧la<18446744073709551616∧off<18446744073709551616):=hI.lt (fun n hn=>by
   obtain⟨y,_,rfl⟩:=List.mem_map.1 hn;have:=zaX.1 y.2;omega)
  have HS:=waV (And.intro hS hbs);have HK:=waV (And.intro (KeepsFrom.refl w3.heap.size V) (KpM.refl (fun j=>d.mv L.length j∨j=w1.heap.size+1∨j=w1.heap.size+1+1∨j=w1.heap.size+1+1+1) V))
  have cm:=hS.m.cell;have s2:V.cell? ⟨Bs,2,none⟩=some (.int .i64 v2'):=by rw[World.cell?_of_heap hbs];rfl
  have hmap:(pre++[x]).map Subtype.val=pre.map Subtype.val++[x.1]:=by simp
  have HMap:=waV hmap;have HV2:=waV hv2;clear hS hI hv2 hv3 hv5 hA hbs hmap hdb hwb
  gi_wp2_with fail
  refine⟨trivial,?_⟩;refine(HHas.out l1 _).mono ?_;rintro e w4 ⟨rfl,rfl⟩;cases hbm:mo.testBit (mD x.1).toNat with
  |false=>
   have HSk:=waV (HI.out.skip hbm)
   gi_wp2_with fail
   exact⟨HK.out.1,HK.out.2,th,la,off,HS.out.1,by rw[HMap.out];exact HSk.out⟩
  |true=>
   clear cm s2
   gi_wp2_with fail
   refine zbv 6 (fun w'=>Hid (WhS W w' d L W0.heap.size w1.heap.size w3.heap.size (w1.heap.size+1) (w1.heap.size+1+1) (w1.heap.size+1+1+1) W.heap.size w1.heap.size mo th la off∧w'.heap[Bs]?=some (.cells #[.int .i64 v0,.int .i64 v1,.int .i64 v2',.int .i64 v3,.int .i64 v4,.int .i64 v5,.int .i64 v6,.int .i64 v7,.int .i64 v8,.int .i64 v9] 102 (0,0)))) kQ kQ (by rintro ⟨a,w,h⟩;exact h) ?_
   have hHeld:Hid (WhS W V.drew d L W0.heap.size w1.heap.size w3.heap.size (w1.heap.size+1) (w1.heap.size+1+1) (w1.heap.size+1+1+1) W.heap.size w1.heap.size mo th la off∧V.drew.heap[Bs]?=some (.cells #[.int .i64 v0,.int .i64 v1,.int .i64 v2',.int .i64 v3,.int .i64 v4,.int .i64 v5,.int .i64 v6,.int .i64 v7,.int .i64 v8,.int .i64 v9] 102 (0,0))):=⟨HS.out.1.drew,HS.out.2⟩;replace HK:Hid (KeepsFrom w3.heap.size V V.drew∧KpM (fun j=>d.mv L.length j∨j=w1.heap.size+1∨j=w1.heap.size+1+1∨j=w1.heap.size+1+1+1) V V.drew):=⟨HK.out.1.trans ⟨waJ _,fun i o _ h2 _=>h2⟩,HK.out.2.trans (KpM.of_below (waC _ V).drew)⟩
   generalize hVd:V.drew=Vd at *;clear hVd;refine(kR 0 28 (fun w_ hSw_=>hSw_.out.1.x1.cell) (h:=(kP 1 29 (h:=(kR 2 30 (fun w_ hSw_=>(World.cell?_of_heap hSw_.out.2:w_.cell? ⟨Bs,3,none⟩=some (.int .i64 v3))) (h:=?_))))))
   simp only[Act.put,za1,za2,za3];refine zac (i:=3) kQ fun o_ ho_ K_ hK_=>?_
   obtain rfl:=waB ho_;have HK_:=waV hK_;clear hK_ ho_;go_wp2_with fail;have hO:=waV (HO.out Vd.heap.size 1 v3 (Vd.alloc (.cells #[.int .i64 v3] 3)) (zaa rfl rfl) (by simp))
   have hbn:Below Vd.heap.size Vd (Vd.alloc (.cells #[.int .i64 v3] 3)):=((waC _ Vd).alloc (waJ _) _);replace hHeld:Hid (WhS W (Vd.alloc (.cells #[.int .i64 v3] 3)) d L W0.heap.size w1.heap.size w3.heap.size (w1.heap.size+1) (w1.heap.size+1+1) (w1.heap.size+1+1+1) W.heap.size w1.heap.size mo th la off∧(Vd.alloc (.cells #[.int .i64 v3] 3)).heap[Bs]?=some (.cells #[.int .i64 v0,.int .i64 v1,.int .i64 v2',.int .i64 v3,.int .i64 v4,.int .i64 v5,.int .i64 v6,.int .i64 v7,.int .i64 v8,.int .i64 v9] 102 (0,0))):=⟨hHeld.out.1.below hbn,(hbn.block _ (waL.1 hHeld.out.2).1).trans hHeld.out.2⟩;have hKx:KeepsFrom w3.heap.size V (Vd.alloc (.cells #[.int .i64 v3] 3)):=HK.out.1.trans ⟨hbn.size,fun i o _ h2 _=>(hbn.block i (waL.1 h2).1).trans h2⟩
   have hKy:KpM (fun j=>d.mv L.length j∨j=w1.heap.size+1∨j=w1.heap.size+1+1∨j=w1.heap.size+1+1+1) V (Vd.alloc (.cells #[.int .i64 v3] 3)):=HK.out.2.trans (KpM.of_below hbn)
   replace HK:=waV (And.intro hKx hKy);clear hbn hKx hKy HS;refine HK_.out _ _ hHeld ?_;clear HK_;refine zac (i:=4) kQ fun o_ ho_ K_ hK_=>?_
   obtain rfl:=waB ho_;have HK_:=waV hK_;clear hK_ ho_;go_wp2_with fail;refine hO.out.mono ?_;rintro e w4 ⟨rfl,rfl⟩;go_wp2_with fail;refine HK_.out _ _ hHeld ?_;clear HK_ hO;generalize (Vd.alloc (.cells #[.int .i64 v3] 3))=V1 at *;refine(kP 5 33 (h:=?_));simp only[Act.put,za1,za2,za3];rw[u64_or_nat _ (mkB v3) HLt.out.1 (zck _)];have c0:=hHeld.out.1.x1.cell;have f0:=hHeld.out.1.x1.frozen;have l0:=hHeld.out.1.x1.lt;have HS:Hid (WhS W (V1.setCell ⟨w1.heap.size+1,0,none⟩ (.int .u64 ((th|||mkB v3:Nat):Int))) d L W0.heap.size w1.heap.size w3.heap.size (w1.heap.size+1) (w1.heap.size+1+1) (w1.heap.size+1+1+1) W.heap.size w1.heap.size mo (th|||mkB v3) la off∧(V1.setCell ⟨w1.heap.size+1,0,none⟩ (.int .u64 ((th|||mkB v3:Nat):Int))).heap[Bs]?=some (.cells #[.int .i64 v0,.int .i64 v1,.int .i64 v2',.int .i64 v3,.int .i64 v4,.int .i64 v5,.int .i64 v6,.int .i64 v7,.int .i64 v8,.int .i64 v9] 102 (0,0))):=⟨hHeld.out.1.set1 HNn.out _,(wbJ _ _ _ _ (show Bs≠w1.heap.size+1 by omega)).trans hHeld.out.2⟩
   have hKx:KeepsFrom w3.heap.size V (V1.setCell ⟨w1.heap.size+1,0,none⟩ (.int .u64 ((th|||mkB v3:Nat):Int))):=HK.out.1.trans ⟨by simp,fun i o h1 h2 _=>(wbJ _ _ _ _ (show i≠w1.heap.size+1 by omega)).trans h2⟩
   have hKy:KpM (fun j=>d.mv L.length j∨j=w1.heap.size+1∨j=w1.heap.size+1+1∨j=w1.heap.size+1+1+1) V (V1.setCell ⟨w1.heap.size+1,0,none⟩ (.int .u64 ((th|||mkB v3:Nat):Int))):=HK.out.2.trans (KpM.set _ _ _ (.inr (.inl rfl)))
   replace HK:=waV (And.intro hKx hKy);clear hKx hKy;refine zag (j:=1) dQ (.inr rfl) dQ kQ ?_;simp only[wbQ,waG,List.length_nil,Nat.reduceAdd,Nat.reduceSub,waZ,wbA];go_wp2_with fail;clear c0 f0 l0 hHeld;generalize (V1.setCell ⟨w1.heap.size+1,0,none⟩ (.int .u64 ((th|||mkB v3:Nat):Int)))=V2 at *
   have cr:=HS.out.1.r.cell;have s0:V2.cell? ⟨Bs,0,none⟩=some (.int .i64 v0):=by rw[World.cell?_of_heap HS.out.2];rfl
   have s1:V2.cell? ⟨Bs,1,none⟩=some (.int .i64 v1):=by rw[World.cell?_of_heap HS.out.2];rfl
   have s2:V2.cell? ⟨Bs,2,none⟩=some (.int .i64 v2'):=by rw[World.cell?_of_heap HS.out.2];rfl
   have s3:V2.cell? ⟨Bs,3,none⟩=some (.int .i64 v3):=by rw[World.cell?_of_heap HS.out.2];rfl
   have s4:V2.cell? ⟨Bs,4,none⟩=some (.int .i64 v4):=by rw[World.cell?_of_heap HS.out.2];rfl
   have s5:V2.cell? ⟨Bs,5,none⟩=some (.int .i64 v5):=by rw[World.cell?_of_heap HS.out.2];rfl
   have s6:V2.cell? ⟨Bs,6,none⟩=some (.int .i64 v6):=by rw[World.cell?_of_heap HS.out.2];rfl
   have s7:V2.cell? ⟨Bs,7,none⟩=some (.int .i64 v7):=by rw[World.cell?_of_heap HS.out.2];rfl
   have s8:V2.cell? ⟨Bs,8,none⟩=some (.int .i64 v8):=by rw[World.cell?_of_heap HS.out.2];rfl
   have s9:V2.cell? ⟨Bs,9,none⟩=some (.int .i64 v9):=by rw[World.cell?_of_heap HS.out.2];rfl
   gi_wp2_with fail
   refine⟨trivial,?_⟩;refine(zaj (HAx.out _ HS.out.1.ro)).mono ?_;rintro e w5 ⟨vv,rfl,hD5,hR5,hr5⟩;have hbs5:=(hr5.block Bs (waL.1 HS.out.2).1 (fun g=>by have h1:=HS.out.1.ro.f.mb Bs g;have h2:=HS.out.1.ro.hiD;omega)).trans HS.out.2
   have HN5:=waV (fun l'=>zaj (m:=17) (l':=l') (zor hD5 hR5.tz))
   have hKx:KeepsFrom w3.heap.size V w5:=HK.out.1.trans ⟨hr5.size,fun i o h1 h2 _=>(hr5.block i (waL.1 h2).1 (fun g=>by have h1:=HS.out.1.ro.f.mb i g;have h2:=HS.out.1.ro.hiD;omega)).trans h2⟩
   have hKy:KpM (fun j=>d.mv L.length j∨j=w1.heap.size+1∨j=w1.heap.size+1+1∨j=w1.heap.size+1+1+1) V w5:=HK.out.2.trans (KpM.of_roll HS.out.1.ro hr5 (.inl (.inl rfl)))
   replace HK:=waV (And.intro hKx hKy);have HS5:=waV (And.intro (HS.out.1.at HNn.out hR5 hr5) hbs5);clear hKx hKy HS hbs5 hr5 hR5 hD5 cr s0 s1 s2 s3 s4 s5 s6 s7 s8 s9
   gi_wp2_with fail
   refine⟨trivial,?_⟩;refine(HN5.out l1).mono ?_;rintro e w6 ⟨rfl,(⟨kk,rfl,hl⟩|⟨rfl,hl⟩)⟩
   ·have HI2:=waV (HI.out.live hbm (by obtain⟨s,h1,h2⟩:=hl;exact⟨s,hx.1,by omega,h1,h2⟩))
    rw[←HP3.out] at HI2;clear hl HN5
    gi_wp2_with fail
    exact⟨HK.out.1,HK.out.2,_,_,_,HS5.out.1,by rw[HMap.out];exact HI2.out⟩
   ·have HI2:=waV (HI.out.dead hbm (fun g=>by obtain⟨s,_,_,h1,h2⟩:=g;rw[hl s h1] at h2;cases h2))
    rw[←HP3.out,←HP5.out] at HI2;have HS:=HS5;clear hl HN5 HS5
    gi_wp2_with fail
    refine zbv 6 (fun w'=>Hid (WhS W w' d L W0.heap.size w1.heap.size w3.heap.size (w1.heap.size+1) (w1.heap.size+1+1) (w1.heap.size+1+1+1) W.heap.size w1.heap.size mo (th|||mkB v3) la off∧w'.heap[Bs]?=some (.cells #[.int .i64 v0,.int .i64 v1,.int .i64 v2',.int .i64 v3,.int .i64 v4,.int .i64 v5,.int .i64 v6,.int .i64 v7,.int .i64 v8,.int .i64 v9] 102 (0,0)))) kQ kQ (by rintro ⟨a,w,h⟩;exact h) ?_
    have hHeld:Hid (WhS W w6.drew d L W0.heap.size w1.heap.size w3.heap.size (w1.heap.size+1) (w1.heap.size+1+1) (w1.heap.size+1+1+1) W.heap.size w1.heap.size mo (th|||mkB v3) la off∧w6.drew.heap[Bs]?=some (.cells #[.int .i64 v0,.int .i64 v1,.int .i64 v2',.int .i64 v3,.int .i64 v4,.int .i64 v5,.int .i64 v6,.int .i64 v7,.int .i64 v8,.int .i64 v9] 102 (0,0))):=⟨HS.out.1.drew,HS.out.2⟩
    replace HK:Hid (KeepsFrom w3.heap.size V w6.drew∧KpM (fun j=>d.mv L.length j∨j=w1.heap.size+1∨j=w1.heap.size+1+1∨j=w1.heap.size+1+1+1) V w6.drew):=⟨HK.out.1.trans ⟨waJ _,fun i o _ h2 _=>h2⟩,HK.out.2.trans (KpM.of_below (waC _ w6).drew)⟩
    generalize hVd:w6.drew=Vd at *;clear hVd;refine(kR 0 43 (fun w_ hSw_=>hSw_.out.1.x2.cell) (h:=(kP 1 44 (h:=(kR 2 45 (fun w_ hSw_=>(World.cell?_of_heap hSw_.out.2:w_.cell? ⟨Bs,3,none⟩=some (.int .i64 v3))) (h:=?_))))))
    simp only[Act.put,za1,za2,za3];refine zac (i:=3) kQ fun o_ ho_ K_ hK_=>?_
    obtain rfl:=waB ho_;have HK_:=waV hK_;clear hK_ ho_;go_wp2_with fail;have hO:=waV (HO.out Vd.heap.size 1 v3 (Vd.alloc (.cells #[.int .i64 v3] 3)) (zaa rfl rfl) (by simp))
    have hbn:Below Vd.heap.size Vd (Vd.alloc (.cells #[.int .i64 v3] 3)):=((waC _ Vd).alloc (waJ _) _);replace hHeld:Hid (WhS W (Vd.alloc (.cells #[.int .i64 v3] 3)) d L W0.heap.size w1.heap.size w3.heap.size (w1.heap.size+1) (w1.heap.size+1+1) (w1.heap.size+1+1+1) W.heap.size w1.heap.size mo (th|||mkB v3) la off∧(Vd.alloc (.cells #[.int .i64 v3] 3)).heap[Bs]?=some (.cells #[.int .i64 v0,.int .i64 v1,.int .i64 v2',.int .i64 v3,.int .i64 v4,.int .i64 v5,.int .i64 v6,.int .i64 v7,.int .i64 v8,.int .i64 v9] 102 (0,0))):=⟨hHeld.out.1.below hbn,(hbn.block _ (waL.1 hHeld.out.2).1).trans hHeld.out.2⟩
    have hKx:KeepsFrom w3.heap.size V (Vd.alloc (.cells #[.int .i64 v3] 3)):=HK.out.1.trans ⟨hbn.size,fun i o _ h2 _=>(hbn.block i (waL.1 h2).1).trans h2⟩
    have hKy:KpM (fun j=>d.mv L.length j∨j=w1.heap.size+1∨j=w1.heap.size+1+1∨j=w1.heap.size+1+1+1) V (Vd.alloc (.cells #[.int .i64 v3] 3)):=HK.out.2.trans (KpM.of_below hbn)
    replace HK:=waV (And.intro hKx hKy);clear hbn hKx hKy HS;refine HK_.out _ _ hHeld ?_;clear HK_;refine zac (i:=4) kQ fun o_ ho_ K_ hK_=>?_
    obtain rfl:=waB ho_;have HK_:=waV hK_;clear hK_ ho_;go_wp2_with fail;refine hO.out.mono ?_;rintro e w4 ⟨rfl,rfl⟩;go_wp2_with fail;refine HK_.out _ _ hHeld ?_;clear HK_ hO;generalize (Vd.alloc (.cells #[.int .i64 v3] 3))=V3 at *;refine(kP 5 48 (h:=?_));simp only[Act.put,za1,za2,za3];rw[u64_or_nat _ (mkB v3) HLt.out.2.1 (zck _)];have c0:=hHeld.out.1.x2.cell;have f0:=hHeld.out.1.x2.frozen;have l0:=hHeld.out.1.x2.lt;have HS:Hid (WhS W (V3.setCell ⟨w1.heap.size+1+1,0,none⟩ (.int .u64 ((la|||mkB v3:Nat):Int))) d L W0.heap.size w1.heap.size w3.heap.size (w1.heap.size+1) (w1.heap.size+1+1) (w1.heap.size+1+1+1) W.heap.size w1.heap.size mo (th|||mkB v3) (la|||mkB v3) off∧(V3.setCell ⟨w1.heap.size+1+1,0,none⟩ (.int .u64 ((la|||mkB v3:Nat):Int))).heap[Bs]?=some (.cells #[.int .i64 v0,.int .i64 v1,.int .i64 v2',.int .i64 v3,.int .i64 v4,.int .i64 v5,.int .i64 v6,.int .i64 v7,.int .i64 v8,.int .i64 v9] 102 (0,0))):=⟨hHeld.out.1.set2 HNn.out _,(wbJ _ _ _ _ (show Bs≠w1.heap.size+1+1 by omega)).trans hHeld.out.2⟩
    have hKx:KeepsFrom w3.heap.size V (V3.setCell ⟨w1.heap.size+1+1,0,none⟩ (.int .u64 ((la|||mkB v3:Nat):Int))):=HK.out.1.trans ⟨by simp,fun i o h1 h2 _=>(wbJ _ _ _ _ (show i≠w1.heap.size+1+1 by omega)).trans h2⟩
    have hKy:KpM (fun j=>d.mv L.length j∨j=w1.heap.size+1∨j=w1.heap.size+1+1∨j=w1.heap.size+1+1+1) V (V3.setCell ⟨w1.heap.size+1+1,0,none⟩ (.int .u64 ((la|||mkB v3:Nat):Int))):=HK.out.2.trans (KpM.set _ _ _ (.inr (.inr (.inl rfl))))
    replace HK:=waV (And.intro hKx hKy);clear hKx hKy;refine zag (j:=1) dQ (.inr rfl) dQ kQ ?_;simp only[wbQ,waG,List.length_nil,Nat.reduceAdd,Nat.reduceSub,waZ,wbA];go_wp2_with fail;clear c0 f0 l0 hHeld;generalize (V3.setCell ⟨w1.heap.size+1+1,0,none⟩ (.int .u64 ((la|||mkB v3:Nat):Int)))=V4 at *
    gi_wp2_with fail
    refine zbv 6 (fun w'=>Hid (WhS W w' d L W0.heap.size w1.heap.size w3.heap.size (w1.heap.size+1) (w1.heap.size+1+1) (w1.heap.size+1+1+1) W.heap.size w1.heap.size mo (th|||mkB v3) (la|||mkB v3) off∧w'.heap[Bs]?=some (.cells #[.int .i64 v0,.int .i64 v1,.int .i64 v2',.int .i64 v3,.int .i64 v4,.int .i64 v5,.int .i64 v6,.int .i64 v7,.int .i64 v8,.int .i64 v9] 102 (0,0)))) kQ kQ (by rintro ⟨a,w,h⟩;exact h) ?_
    have hHeld:Hid (WhS W V4.drew d L W0.heap.size w1.heap.size w3.heap.size (w1.heap.size+1) (w1.heap.size+1+1) (w1.heap.size+1+1+1) W.heap.size w1.heap.size mo (th|||mkB v3) (la|||mkB v3) off∧V4.drew.heap[Bs]?=some (.cells #[.int .i64 v0,.int .i64 v1,.int .i64 v2',.int .i64 v3,.int .i64 v4,.int .i64 v5,.int .i64 v6,.int .i64 v7,.int .i64 v8,.int .i64 v9] 102 (0,0))):=⟨HS.out.1.drew,HS.out.2⟩
    replace HK:Hid (KeepsFrom w3.heap.size V V4.drew∧KpM (fun j=>d.mv L.length j∨j=w1.heap.size+1∨j=w1.heap.size+1+1∨j=w1.heap.size+1+1+1) V V4.drew):=⟨HK.out.1.trans ⟨waJ _,fun i o _ h2 _=>h2⟩,HK.out.2.trans (KpM.of_below (waC _ V4).drew)⟩
    generalize hVd:V4.drew=Vd at *;clear hVd;refine(kR 0 49 (fun w_ hSw_=>hSw_.out.1.x3.cell) (h:=(kP 1 50 (h:=(kR 2 51 (fun w_ hSw_=>(World.cell?_of_heap hSw_.out.2:w_.cell? ⟨Bs,5,none⟩=some (.int .i64 v5))) (h:=?_))))))
    simp only[Act.put,za1,za2,za3];refine zac (i:=3) kQ fun o_ ho_ K_ hK_=>?_
    obtain rfl:=waB ho_;have HK_:=waV hK_;clear hK_ ho_;go_wp2_with fail;have hO:=waV (HO.out Vd.heap.size 1 v5 (Vd.alloc (.cells #[.int .i64 v5] 3)) (zaa rfl rfl) (by simp))
    have hbn:Below Vd.heap.size Vd (Vd.alloc (.cells #[.int .i64 v5] 3)):=((waC _ Vd).alloc (waJ _) _);replace hHeld:Hid (WhS W (Vd.alloc (.cells #[.int .i64 v5] 3)) d L W0.heap.size w1.heap.size w3.heap.size (w1.heap.size+1) (w1.heap.size+1+1) (w1.heap.size+1+1+1) W.heap.size w1.heap.size mo (th|||mkB v3) (la|||mkB v3) off∧(Vd.alloc (.cells #[.int .i64 v5] 3)).heap[Bs]?=some (.cells #[.int .i64 v0,.int .i64 v1,.int .i64 v2',.int .i64 v3,.int .i64 v4,.int .i64 v5,.int .i64 v6,.int .i64 v7,.int .i64 v8,.int .i64 v9] 102 (0,0))):=⟨hHeld.out.1.below hbn,(hbn.block _ (waL.1 hHeld.out.2).1).trans hHeld.out.2⟩
    have hKx:KeepsFrom w3.heap.size V (Vd.alloc (.cells #[.int .i64 v5] 3)):=HK.out.1.trans ⟨hbn.size,fun i o _ h2 _=>(hbn.block i (waL.1 h2).1).trans h2⟩
    have hKy:KpM (fun j=>d.mv L.length j∨j=w1.heap.size+1∨j=w1.heap.size+1+1∨j=w1.heap.size+1+1+1) V (Vd.alloc (.cells #[.int .i64 v5] 3)):=HK.out.2.trans (KpM.of_below hbn)
    replace HK:=waV (And.intro hKx hKy);clear hbn hKx hKy HS;refine HK_.out _ _ hHeld ?_;clear HK_;refine zac (i:=4) kQ fun o_ ho_ K_ hK_=>?_
    obtain rfl:=waB ho_;have HK_:=waV hK_;clear hK_ ho_;go_wp2_with fail;refine hO.out.mono ?_;rintro e w4 ⟨rfl,rfl⟩;go_wp2_with fail;refine HK_.out _ _ hHeld ?_;clear HK_ hO;generalize (Vd.alloc (.cells #[.int .i64 v5] 3))=V5 at *;refine(kP 5 54 (h:=?_));simp only[Act.put,za1,za2,za3];rw[u64_or_nat _ (mkB v5) HLt.out.2.2 (zck _)];have c0:=hHeld.out.1.x3.cell;have f0:=hHeld.out.1.x3.frozen;have l0:=hHeld.out.1.x3.lt;have HS:Hid (WhS W (V5.setCell ⟨w1.heap.size+1+1+1,0,none⟩ (.int .u64 ((off|||mkB v5:Nat):Int))) d L W0.heap.size w1.heap.size w3.heap.size (w1.heap.size+1) (w1.heap.size+1+1) (w1.heap.size+1+1+1) W.heap.size w1.heap.size mo (th|||mkB v3) (la|||mkB v3) (off|||mkB v5)∧(V5.setCell ⟨w1.heap.size+1+1+1,0,none⟩ (.int .u64 ((off|||mkB v5:Nat):Int))).heap[Bs]?=some (.cells #[.int .i64 v0,.int .i64 v1,.int .i64 v2',.int .i64 v3,.int .i64 v4,.int .i64 v5,.int .i64 v6,.int .i64 v7,.int .i64 v8,.int .i64 v9] 102 (0,0))):=⟨hHeld.out.1.set3 HNn.out _,(wbJ _ _ _ _ (show Bs≠w1.heap.size+1+1+1 by omega)).trans hHeld.out.2⟩
    have hKx:KeepsFrom w3.heap.size V (V5.setCell ⟨w1.heap.size+1+1+1,0,none⟩ (.int .u64 ((off|||mkB v5:Nat):Int))):=HK.out.1.trans ⟨by simp,fun i o h1 h2 _=>(wbJ _ _ _ _ (show i≠w1.heap.size+1+1+1 by omega)).trans h2⟩
    have hKy:KpM (fun j=>d.mv L.length j∨j=w1.heap.size+1∨j=w1.heap.size+1+1∨j=w1.heap.size+1+1+1) V (V5.setCell ⟨w1.heap.size+1+1+1,0,none⟩ (.int .u64 ((off|||mkB v5:Nat):Int))):=HK.out.2.trans (KpM.set _ _ _ (.inr (.inr (.inr rfl))))
    replace HK:=waV (And.intro hKx hKy);clear hKx hKy;refine zag (j:=1) dQ (.inr rfl) dQ kQ ?_;simp only[wbQ,waG,List.length_nil,Nat.reduceAdd,Nat.reduceSub,waZ,wbA];go_wp2_with fail;exact⟨HK.out.1,HK.out.2,_,_,_,HS.out.1,by rw[HMap.out];exact HI2.out⟩
 case done=>
  rintro D ys V hD hys ⟨th,la,off,hS,hI⟩ hKd;have hmp:ys.map Subtype.val=zcI 0 146096:=by rw[hys];exact List.attach_map_subtype_val _
  rw[hmp] at hI;clear hys hmp;have HDv:=waV (HD.out th la off hI);clear HD;have HW:=waV (fun V=>zgq (off:Int) 1 7 dQ dQ dQ dQ V)
  have HS:=waV (And.intro hS hKd);have hzD:w3.heap.size≤V.heap.size:=hS.ro.dw;have hzWV:=hS.be.size;clear hS hI hKd;go_wp2_with fail;refine zs3 ?_;refine zan 6 (fun w'=>Hid (WhS W w' d L W0.heap.size w1.heap.size w3.heap.size (w1.heap.size+1) (w1.heap.size+1+1) (w1.heap.size+1+1+1) W.heap.size w1.heap.size mo th la off∧w'.heap[D]?=some (.deferred (some [])))) kQ ?_
  have hHeld:Hid (WhS W V.drew d L W0.heap.size w1.heap.size w3.heap.size (w1.heap.size+1) (w1.heap.size+1+1) (w1.heap.size+1+1+1) W.heap.size w1.heap.size mo th la off∧V.drew.heap[D]?=some (.deferred (some []))):=⟨HS.out.1.drew,HS.out.2⟩;generalize hVd:V.drew=Vd at *;clear hVd HS;refine(kR 0 55 (fun w_ hSw_=>hSw_.out.1.x1.cell) (h:=(kR 1 56 (fun w_ hSw_=>hSw_.out.1.x2.cell) (h:=(kP 2 57 (h:=?_))))))
  simp only[Act.put,za1,za2,za3];rw[HDv.out.1];refine(kR 3 58 (fun w_ hSw_=>hSw_.out.1.x3.cell) (h:=?_))
  simp only[Act.put,za1,za2,za3];refine zac (i:=4) kQ fun o_ ho_ K_ hK_=>?_
  obtain rfl:=waB ho_;have HK_:=waV hK_;clear hK_ ho_;go_wp2_with fail;refine(HW.out _).mono ?_;rintro e w4 ⟨rfl,rfl⟩;rw[HDv.out.2];go_wp2_with fail;refine HK_.out _ _ hHeld ?_;clear HK_;refine(kP 5 4 (h:=?_));simp only[Act.put,za1,za2,za3];refine zag (j:=1) dQ (.inr rfl) dQ kQ ?_;simp only[wbQ,waG,List.length_nil,Nat.reduceAdd,Nat.reduceSub,waZ,wbA];go_wp2_with fail;refine⟨by simp,.inl ⟨_,_,rfl,run_takeDeferred hHeld.out.2,?_⟩⟩
  have hr:Rl 0 0 w3.heap.size Vd (Vd.putObj D (.deferred none)):=(Rl.refl _ _ _ Vd).put _ hHeld.out.2 rfl hD;exact⟨_,wbM rfl _ _ _,rfl,(hHeld.out.1.be.rl00 hr oQ).to_below (fun j g=>g.elim) (waJ _)⟩
 case stop=>
  rintro D c pre V hD hpre h hKd;exact h.elim
end Go.Proofs.YtadefhkaejjfmaaGreatDoor
