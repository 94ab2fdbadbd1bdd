/- A part of the proof: WTc6 -/
import Derived.Test.YtadefhkaejjfmaaGreatDoorQ39
import Derived.Laws.AppendOwnNone
set_option maxHeartbeats 80000000
set_option maxRecDepth 100000
set_option linter.unusedSimpArgs false
set_option linter.unusedVariables false
namespace Go.Proofs.YtadefhkaejjfmaaGreatDoor
open Go.Proofs.Tryz
open Go.RowKit
open Go.Maps
theorem zcF {ops:Array Oper} {rest:List Oper} {o:Oper} {a:Act} {Q:Exit→Act→World→Prop} {V:World} {B:Nat} {sv xv:Value} {l1 l2:List It} (hgd:o.guard=none) (s x:Operand)
 (ho:o.op=.call {callee:=.builtin .append,args:=#[s,x],argTypes:=#[24,24]}) (hs:a.eval s=sv) (hx:a.eval x=xv) (h1:zav V B sv l1) (h2:zav V B xv l2) (hB:B≤V.heap.size) (hn:l1.length+l2.length≤1000000)
 (h:∀v' w',zav w' B v' (l1++l2)→Below B V w'→wpList prog ops Q rest (a.put o.dst v') w'):wpList prog ops Q (o::rest) a V:=by
 obtain⟨i0,hi0,hz0,hz1,hz2⟩:=info_parts ziP;rcases zbt h2 with ⟨e,hl⟩|⟨g,cap,e,_,_⟩
 ·have e2:l2=[]:=List.length_eq_zero_iff.1 hl;subst e2;exact wpList_append_own_none hgd s x _ ho B _ i0 4 underlying24 hi0 sv _ _ hs h1 (hx.trans e) (h _ _ (by rw[List.append_nil];exact h1) (waC _ _))
 ·exact wpList_append_own V hgd s x _ ho B _ i0 _ 4 32 underlying24 hi0 hz0 hz1 hz2 rfl (by decide) sv l1.length (l1.flatMap zc2) hs h1 ⟨g,0,none⟩ l2.length cap (l2.flatMap zc2) (hx.trans e) (by rw[zgz zdl])
   (fun j u hj=>h2.cells (by rw[e];rfl) j u hj) (zgW l2) (by simp only[maxLen];omega) (by omega) hB (fun v' w' hw hg _=>h v' w' (by
     show w'.ownsRow _ _ _ _ _ _;rw[waF,List.flatMap_append];exact hw) (zhy h1 (waC _ _) hB hg))
structure Bo1 (W V:World) (g:Nat→Value):Prop where
 f:FaceAt V W.heap.size g
 r:V.heap[W.heap.size+1]?=some (.cells zbd 60 (0,0))
 be:Below W.heap.size W V
theorem Bo1.below {W V X:World} {g:Nat→Value} (h:Bo1 W V g) (hb:Below V.heap.size V X):Bo1 W X g:=
 ⟨h.f.below hb,(hb.block _ (waL.1 h.r).1).trans h.r,h.be.trans (hb.mono h.be.size)⟩
theorem Bo1.size {W V:World} {g:Nat→Value} (h:Bo1 W V g):W.heap.size+1<V.heap.size:=(waL.1 h.r).1
theorem Bo1.rls {W V X:World} {g:Nat→Value} {b:Nat} (h:Bo1 W V g) (hr:RlS (·=b) V X) (hb:W.heap.size+1<b):Bo1 W X g:=
 ⟨h.f.rls hr oQ,(hr.block _ h.size (show ¬W.heap.size+1=b by omega)).trans h.r,hr.to_below' h.be oQ⟩
theorem Bo1.line {W V:World} {g:Nat→Value} (h:Bo1 W V g):(∀i,i<5→V.cell? ⟨W.heap.size+1,i,none⟩=some (.slice none 0 0))∧(∀i,V.frozen? ⟨W.heap.size+1,i,none⟩=false)∧W.heap.size+1<V.heap.size:=by
 refine⟨fun i hi=>?_,fun i=>by simp[World.frozen?,h.r],h.size⟩
 obtain rfl|rfl|rfl|rfl|rfl:i=0∨i=1∨i=2∨i=3∨i=4:=by omega
 all_goals simp[World.cell?,h.r,zbd]
structure BoS (W V:World) (g:Nat→Value) (cb:Nat) (v0 v1 v2 v3 v4:Value) (l0 l1 l2 l3 l4:List It):Prop where
 t:Bo1 W V g
 c:V.heap[cb]?=some (.cells #[v0,v1,v2,v3,v4] 60 (0,0))
 o0:zav V W.heap.size v0 l0
 o1:zav V W.heap.size v1 l1
 o2:zav V W.heap.size v2 l2
 o3:zav V W.heap.size v3 l3
 o4:zav V W.heap.size v4 l4
 n:W.heap.size+1<cb
section
variable {W V X : World} {g : Nat → Value} {cb : Nat} {v0 v1 v2 v3 v4 x : Value} {l0 l1 l2 l3 l4 l : List It}
theorem BoS.below (h:BoS W V g cb v0 v1 v2 v3 v4 l0 l1 l2 l3 l4) (hb:Below V.heap.size V X):BoS W X g cb v0 v1 v2 v3 v4 l0 l1 l2 l3 l4:=
 ⟨h.t.below hb,(hb.block _ (waL.1 h.c).1).trans h.c,zaf h.o0 hb,zaf h.o1 hb,zaf h.o2 hb,zaf h.o3 hb,zaf h.o4 hb,h.n⟩
theorem BoS.set2 (h:BoS W V g cb v0 v1 v2 v3 v4 l0 l1 l2 l3 l4) (hx:zav V W.heap.size x l):BoS W (V.setCell ⟨cb,2,none⟩ x) g cb v0 v1 x v3 v4 l0 l1 l l3 l4:=by
 have hr:RlS (·=cb) V (V.setCell ⟨cb,2,none⟩ x):=(RlS.refl (·=cb) V).set _ _ rfl;have hS:=zbT h.c;exact⟨h.t.rls hr h.n,zfc h.c,zar h.o0 hr hS,zar h.o1 hr hS,zar hx hr hS,zar h.o3 hr hS,zar h.o4 hr hS,h.n⟩
theorem BoS.set4 (h:BoS W V g cb v0 v1 v2 v3 v4 l0 l1 l2 l3 l4) (hx:zav V W.heap.size x l):BoS W (V.setCell ⟨cb,4,none⟩ x) g cb v0 v1 v2 v3 x l0 l1 l2 l3 l:=by
 have hr:RlS (·=cb) V (V.setCell ⟨cb,4,none⟩ x):=(RlS.refl (·=cb) V).set _ _ rfl;have hS:=zbT h.c;exact⟨h.t.rls hr h.n,zfc h.c,zar h.o0 hr hS,zar h.o1 hr hS,zar h.o2 hr hS,zar h.o3 hr hS,zar hx hr hS,h.n⟩
theorem BoS.set24 {y:Value} {l':List It} (h:BoS W V g cb v0 v1 v2 v3 v4 l0 l1 l2 l3 l4) (hx:zav V W.heap.size x l) (hy:zav V W.heap.size y l'):BoS W ((V.setCell ⟨cb,2,none⟩ x).setCell ⟨cb,4,none⟩ y) g cb v0 v1 x v3 y l0 l1 l l3 l':=
 (h.set2 hx).set4 (zar hy ((RlS.refl (·=cb) V).set _ _ rfl) (zbT h.c))
theorem BoS.cells (h:BoS W V g cb v0 v1 v2 v3 v4 l0 l1 l2 l3 l4):V.cell? ⟨cb,0,none⟩=some v0∧V.cell? ⟨cb,1,none⟩=some v1∧V.cell? ⟨cb,2,none⟩=some v2∧V.cell? ⟨cb,3,none⟩=some v3∧V.cell? ⟨cb,4,none⟩=some v4∧(∀i,V.frozen? ⟨cb,i,none⟩=false)∧cb<V.heap.size:=by
 refine⟨?_,?_,?_,?_,?_,fun i=>by simp[World.frozen?,h.c],(waL.1 h.c).1⟩<;>simp [World.cell?,h.c]
end
def zov (P:Int→Nat→Bool) (w:World) (e:Ending) (w':World):Prop:=Below w.heap.size w w'∧((za8 (zaV P) (zbw P) (wkF P)=false∧e=.returned (.tuple #[.agg zbd,.bool false]))∨(za8 (zaV P) (zbw P) (wkF P)=true∧∃v,e=.returned (.tuple #[v,.bool true])∧zaQ w' w.heap.size v (zbS P)))
theorem BoS.fin {P:Int→Nat→Bool} {W X:World} {g:Nat→Value} {cb:Nat} {v0 v1 v2 v3 v4:Value} {l2 l4:List It} (h:BoS W X g cb v0 v1 v2 v3 v4 (zab 0 59 (zay (zcN P)) true) (zab 0 23 (zay (zbb P)) true) l2 (zab 1 12 (zay (zaV P)) true) l4)
 (h2:zbH (zaV P) (zbw P) (wkF P)=l2) (h4:zaZ (zaV P) (zbw P) (wkF P)=l4) (hok:za8 (zaV P) (zbw P) (wkF P)=true):
 zov P W (.returned (.tuple #[.agg #[v0,v1,v2,v3,v4],.bool true])) (((((X.setCell ⟨W.heap.size+1,0,none⟩ v0).setCell ⟨W.heap.size+1,1,none⟩ v1).setCell ⟨W.heap.size+1,2,none⟩ v2).setCell ⟨W.heap.size+1,3,none⟩ v3).setCell ⟨W.heap.size+1,4,none⟩ v4):=by
 have hr:=zcG (V:=X) (W.heap.size+1) v0 v1 v2 v3 v4;have hS:=zbT h.t.r;subst h2 h4;exact⟨hr.to_below' h.t.be oQ,.inr ⟨hok,_,rfl,_,_,_,_,_,rfl,zar h.o0 hr hS,zar h.o1 hr hS,zar h.o2 hr hS,zar h.o3 hr hS,zar h.o4 hr hS⟩⟩
theorem zaL {v0 v1 v2 v3 v4:Value}:(prog.info? 60).map (·.size)=some (#[v0,v1,v2,v3,v4]:Array Value).size:=by kernel_rfl
theorem zbE {V:World} {b:Nat} {v0 v1 v2 v3 v4:Value} (h:V.heap[b]?=some (.cells #[v0,v1,v2,v3,v4] 60 (0,0))):∀(j:Nat) v,(#[v0,v1,v2,v3,v4]:Array Value)[j]?=some v→V.cell? ⟨b,j,none⟩=some v:=fun j v hj=>by rw[World.cell?_of_heap h];exact hj
theorem zam {ops:Array Oper} {rest:List Oper} {op:Oper} {a:Act} {Q:Exit→Act→World→Prop} {W:World} {b:Nat} {a0 a1 a2 a3 a4:Value} (hgd:op.guard=none) (x y:Operand) (ho:op.op=.store 60 x y) (hO:W.heap[b]?=some (.cells #[a0,a1,a2,a3,a4] 60 (0,0))) (v0 v1 v2 v3 v4:Value) (h1:(#[v0,v1,v2,v3,v4]:Array Value).all (·.oneCell')=true)
 (hx:a.eval x=.pointer (some ⟨b,0,none⟩)) (hy:a.eval y=.agg #[v0,v1,v2,v3,v4]) (h:∀W',W'.heap[b]?=some (.cells #[v0,v1,v2,v3,v4] 60 (0,0))→RlS (·=b) W W'→wpList prog ops Q rest (a.put op.dst undef) W'):wpList prog ops Q (op::rest) a W:=by
 refine wpList_store_mid (P:=prog) hgd 60 x y ho b 0 #[v0,v1,v2,v3,v4] hx hy (fun j hj=>?_) zaL h1 (h _ ?_ (zex _ _ _ (RlS.refl _ _)))
 ·have hj:j<5:=hj;rw[waH];refine⟨?_,by simp[World.frozen?,hO]⟩
  rw[World.cell?_of_heap hO];obtain rfl|rfl|rfl|rfl|rfl:j=0∨j=1∨j=2∨j=3∨j=4:=by omega
  all_goals rfl
 ·exact zgS a0 a1 a2 a3 a4 v0 v1 v2 v3 v4 hO
theorem zbP {tmps:Array Value} {W:World} {b:Nat} {v0 v1 v2 v3 v4 x:Value} (hp:tmps.getD 2 undef=.pointer (some ⟨b,0,none⟩)) (hx:tmps.getD 3 undef=x) (h:W.heap[b]?=some (.cells #[v0,v1,v2,v3,v4] 60 (0,0))):
 (results Tryz.f153 tmps).run prog W=.ok (.tuple #[.agg #[v0,v1,v2,v3,v4],x]) W:=by
 rw[zaz rfl,hp,hx];have e:(asAddr (.pointer (some ⟨b,0,none⟩))).run prog W=.ok ⟨b,0,none⟩ W:=rfl;have hl:(loadVar 60 ⟨b,0,none⟩).run prog W=.ok (.agg #[v0,v1,v2,v3,v4]) W:=by
  have:=run_loadVar_mid (P:=prog) W b 0 60 [v0,v1,v2,v3,v4] _ (fun j v hj=>by rw[waH];exact zbE h j v (by simpa using hj)) underlying60 rfl (by kernel_rfl)
  simpa using this
 rw[e,Result.andThen_ok,hl,Result.andThen_ok]
theorem BoS.ret {P:Int→Nat→Bool} {W X X':World} {g:Nat→Value} {cb:Nat} {v0 v1 v2 v3 v4:Value} {l2 l4:List It} (h:BoS W X g cb v0 v1 v2 v3 v4 (zab 0 59 (zay (zcN P)) true) (zab 0 23 (zay (zbb P)) true) l2 (zab 1 12 (zay (zaV P)) true) l4)
 (hr:RlS (·=W.heap.size+1) X X') (h2:zbH (zaV P) (zbw P) (wkF P)=l2) (h4:zaZ (zaV P) (zbw P) (wkF P)=l4) (hok:za8 (zaV P) (zbw P) (wkF P)=true):
 zov P W (.returned (.tuple #[.agg #[v0,v1,v2,v3,v4],.bool true])) X':=by
 have hS:=zbT h.t.r;subst h2 h4;exact⟨hr.to_below' h.t.be oQ,.inr ⟨hok,_,rfl,_,_,_,_,_,rfl,zar h.o0 hr hS,zar h.o1 hr hS,zar h.o2 hr hS,zar h.o3 hr hS,zar h.o4 hr hS⟩⟩
theorem zgk (w:World) (B:Nat):zav w B (.slice none 0 0) []:=World.ownsRow_nil w B _ _
theorem zrb (P:Int→Nat→Bool) (g:Nat→Value) (hg:FaceOf P g) (ha:zfa P) (W:World) (hw:Tz W):
 Calls prog 153 #[.agg (za5 g)] W (zov P W):=by
 have hmi:zcN P<18446744073709551616:=zbU _;have hho:zbb P<18446744073709551616:=zbU _;have hmo:zaV P<18446744073709551616:=zbU _;have hdm:zbw P<18446744073709551616:=zbU _;have hwk:wkF P<18446744073709551616:=zbU _;have HTm:=waV (fun V (hV:Below W.heap.size W V)=>zk4 g (zcN P) (zbb P) (zaV P) hg.mi hg.ho hg.mo hmi hho hmo V (hw.below hV))
 have H2:=waV (fun m hm V (hV:Below W.heap.size W V)=>zkY m hm (zeO _) V (hw.below hV))
 have H4:=waV (fun m hm V (hV:Below W.heap.size W V)=>zkZ m hm (zeO _) V (hw.below hV))
 have HSu:=waV (fun V=>zhE (wkF P) hwk V)
 have HLo:=waV (fun V (hV:Below W.heap.size W V)=>zl5 (zaV P) hmo V (hw.below hV))
 have lb:=znf (zfO P) hmo;have HWo:=waV (fun V=>zgq (zbw P:Int) 1 (zcQ (zaV P)) dQ dQ oQ oQ V)
 have HAl:=waV (zs5 (zfO P) hmo hdm);have HEv:=waV (zot (zou P));have HSt:=waV (fun k V=>zkX k V)
 have HH1:=waV (fun V=>zbI (zbw P:Int) 1 oQ oQ V)
 rw[show (1:Int)=((1:Nat):Int) from rfl,zbi (zbw P) 1 (by decide)] at HH1
 have hsl:=zgb (wkF P);have HH0:=waV (fun V=>zbI (zcq (wkF P):Int) 0 oQ oQ V)
 rw[show (0:Int)=((0:Nat):Int) from rfl,zbi (zcq (wkF P)) 0 (by decide)] at HH0
 have HLe:=waV (fun V=>zfB (zcq (wkF P):Int) V)
 have E3:Hid (∀V,Bo1 W V g→V.cell? ⟨W.heap.size,3,none⟩=some (.int .u64 (zaV P:Int))):=fun V h=>by rw[h.f.cell (by decide),hg.mo]
 have E4:Hid (∀V,Bo1 W V g→V.cell? ⟨W.heap.size,4,none⟩=some (.int .u64 (zbw P:Int))):=fun V h=>by rw[h.f.cell (by decide),hg.dm]
 have E6:Hid (∀V,Bo1 W V g→V.cell? ⟨W.heap.size,6,none⟩=some (.int .u64 (wkF P:Int))):=fun V h=>by rw[h.f.cell (by decide),hg.wk]
 obtain⟨z,hz,hza⟩:=hg.d;have hz0:z≠0:=fun e=>hza.1 e ha
 have ez:((z:Int)==0)=false:=by rw[wbE];omega
 have E48:Hid (∀V,Bo1 W V g→V.cell? ⟨W.heap.size,48,none⟩=some (.int .i64 (z:Int))):=fun V h=>by rw[h.f.cell (by decide),hz]
 clear hz hza ha hw;have hLd:Hid (∀V,Bo1 W V g→V.rangeAt W.heap.size 0 (za5 g).toList):=fun V h j v hj=>by rw[waH];exact h.f.lies j v (by simpa using hj)
 have hi':(prog.info? 43).map (·.size)=some (za5 g).toList.length:=by simpa using zdD g
 have hHeld:∀cs,za5 g=cs→Hid (Bo1 W ((W.alloc (.cells cs 43)).alloc (.cells #[.slice none 0 0,.slice none 0 0,.slice none 0 0,.slice none 0 0,.slice none 0 0] 60)) g):=fun cs hc=>by
  subst hc;refine⟨(FaceAt.new W g hg.f).below ((waC _ _).alloc (waJ _) _),?_,((waC _ W).alloc (waJ _) _).alloc (by simp) _⟩
  have h:W.heap.size+1=(W.alloc (.cells (za5 g) 43)).heap.size:=by simp
  rw[h];exact World.alloc_heap_new _ _
 obtain⟨cs,hcs⟩:∃cs,za5 g=cs:=⟨_,rfl⟩;replace hHeld:=hHeld cs hcs;rw[hcs] at HTm hLd hi' ⊢;clear hcs hg;go_enter func153,ntmps153;go_wp2_with fail;refine zgM (α:=Value×Nat) (fun y=>[(8,.agg cs),(9,y.1),(10,.pointer (some ⟨W.heap.size,6,none⟩)),(11,.int .u64 (wkF P:Int)),(12,.int .u64 (zcq (wkF P):Int)),(4,.pointer (some ⟨y.2,0,none⟩)),(5,.int .u64 (zcq (wkF P):Int))])
  (fun y w'=>∃S0 d0 S1 d1 S3 d3,y.1=.agg #[.slice S0 (zab 0 59 (zay (zcN P)) true).length d0,.slice S1 (zab 0 23 (zay (zbb P)) true).length d1,.slice none 0 0,.slice S3 (zab 1 12 (zay (zaV P)) true).length d3,.slice none 0 0]∧
    BoS W w' g y.2 (.slice S0 (zab 0 59 (zay (zcN P)) true).length d0) (.slice S1 (zab 0 23 (zay (zbb P)) true).length d1) (.slice none 0 0) (.slice S3 (zab 1 12 (zay (zaV P)) true).length d3) (.slice none 0 0) (zab 0 59 (zay (zcN P)) true) (zab 0 23 (zay (zbb P)) true) [] (zab 1 12 (zay (zaV P)) true) []) ?ways ?on
 case ways=>
  have hu:=underlying43;replace hHeld:=waV (hHeld.out.below (waC _ _).drew);refine zan 6 (fun w'=>Hid (Bo1 W w' g)) kQ ?_
  generalize (World.alloc (World.alloc W _) _).drew=V0 at *;refine zal (i:=0) (dst:=some 8) (v:=.agg cs.toList.toArray) (hy:=fun o_ ho_=>?_) (hS:=hHeld) (h:=?_)
  case refine_1=>(obtain rfl:=waB ho_;exact yieldsIf_load_mid (by rfl) 43 _ rfl W.heap.size 0 rfl cs.toList _ (fun w' hw'=>hLd.out w' hw'.out) hu rfl hi')
  simp only[Act.put,za1,za2,za3,Array.toArray_toList];refine(kP 2 10 (h:=(kR 3 11 (fun w_ hSw_=>E6.out w_ hSw_.out) (h:=?_))))
  simp only[Act.put,za1,za2,za3];refine zdu (i:=1) (i':=5) kQ (fun o_ ho_ K_ hK_=>?_) (fun o_ ho_ K_ hK_=>?_)
  all_goals obtain rfl:=waB ho_
  all_goals have HK_:=waV hK_
  all_goals clear hK_ ho_
  ·go_wp2_with fail;refine(HTm.out _ hHeld.out.be).mono ?_;rintro e V1 ⟨v0,v1,v3,rfl,o0,o1,o3,hq⟩;have hz:=hHeld.out.be.size;obtain⟨S0,d0,rfl⟩:=zaC o0;obtain⟨S1,d1,rfl⟩:=zaC o1;obtain⟨S3,d3,rfl⟩:=zaC o3;have O0:=waV (zaq o0 hz);have O1:=waV (zaq o1 hz);have O3:=waV (zaq o3 hz);replace hHeld:=waV (hHeld.out.below hq)
   (try replace hC:=waV ((hq.block _ (waL.1 hC.out).1).trans hC.out))
   clear o0 o1 o3 hq hz;go_wp2_with fail;refine HK_.out _ _ hHeld ?_;clear HK_;refine zdu (i:=4) (i':=5) kQ (fun o_ ho_ K_ hK_=>?_) (fun o_ ho_ K_ hK_=>?_)
   all_goals obtain rfl:=waB ho_
   all_goals have HK_:=waV hK_
   all_goals clear hK_ ho_
   ·go_wp2_with fail;refine(HSu.out _).mono ?_;rintro e w9 ⟨rfl,rfl⟩;go_wp2_with fail;refine HK_.out _ _ hHeld ?_;clear HK_;refine zac (i:=5) kQ fun o_ ho_ K_ hK_=>?_
    obtain rfl:=waB ho_;have HK_:=waV hK_;clear hK_ ho_;have hC:Hid ((World.alloc V1 (.cells #[.slice none 0 0,.slice none 0 0,.slice none 0 0,.slice none 0 0,.slice none 0 0] 60)).heap[World.heap V1|>.size]?=some (.cells zbd 60 (0,0))):=World.alloc_heap_new _ _
    have hn:W.heap.size+1<(World.heap V1).size:=hHeld.out.size;have hq:Below (World.heap V1).size V1 (World.alloc V1 (.cells #[.slice none 0 0,.slice none 0 0,.slice none 0 0,.slice none 0 0,.slice none 0 0] 60)):=(waC _ _).alloc (waJ _) _;go_wp2_with fail;replace hHeld:=waV (hHeld.out.below hq);refine HK_.out _ _ hHeld ?_;clear HK_
    (try replace O0:=waV (zaf O0.out hq))
    (try replace O1:=waV (zaf O1.out hq))
    (try replace O3:=waV (zaf O3.out hq))
    clear hq;generalize World.alloc V1 (.cells #[.slice none 0 0,.slice none 0 0,.slice none 0 0,.slice none 0 0,.slice none 0 0] 60)=V2 at *;generalize (World.heap V1).size=cb at *;have hcl:=(waL.1 hC.out).1;have hcf:∀i,World.frozen? V2 ⟨cb,i,none⟩=false:=fun i=>by simp[World.frozen?,hC.out]
    have z0:World.cell? V2 ⟨cb,0,none⟩=some (.slice none 0 0):=by rw[World.cell?_of_heap hC.out];rfl
    have z1:World.cell? V2 ⟨cb,1,none⟩=some (.slice none 0 0):=by rw[World.cell?_of_heap hC.out];rfl
    have z2:World.cell? V2 ⟨cb,2,none⟩=some (.slice none 0 0):=by rw[World.cell?_of_heap hC.out];rfl
    have z3:World.cell? V2 ⟨cb,3,none⟩=some (.slice none 0 0):=by rw[World.cell?_of_heap hC.out];rfl
    have z4:World.cell? V2 ⟨cb,4,none⟩=some (.slice none 0 0):=by rw[World.cell?_of_heap hC.out];rfl
    refine zag (j:=2) dQ (.inr rfl) dQ kQ ?_;simp only[wbQ,waG,List.length_nil,Nat.reduceAdd,Nat.reduceSub,waZ,wbA];go_wp2_with fail;refine⟨rfl,(_,cb),rfl,S0,d0,S1,d1,S3,d3,rfl,?_⟩;have hr:=zcG (V:=V2) cb (.slice S0 (zab 0 59 (zay (zcN P)) true).length d0) (.slice S1 (zab 0 23 (zay (zbb P)) true).length d1) (.slice none 0 0) (.slice S3 (zab 1 12 (zay (zaV P)) true).length d3) (.slice none 0 0);have hS:=zbT hC.out;exact⟨hHeld.out.rls hr hn,zgS _ _ _ _ _ _ _ _ _ _ hC.out,zar O0.out hr hS,zar O1.out hr hS,zgk _ _,zar O3.out hr hS,zgk _ _,hn⟩
   ·have hC:Hid ((World.alloc V1 (.cells #[.slice none 0 0,.slice none 0 0,.slice none 0 0,.slice none 0 0,.slice none 0 0] 60)).heap[World.heap V1|>.size]?=some (.cells zbd 60 (0,0))):=World.alloc_heap_new _ _
    have hn:W.heap.size+1<(World.heap V1).size:=hHeld.out.size;have hq:Below (World.heap V1).size V1 (World.alloc V1 (.cells #[.slice none 0 0,.slice none 0 0,.slice none 0 0,.slice none 0 0,.slice none 0 0] 60)):=(waC _ _).alloc (waJ _) _;go_wp2_with fail;replace hHeld:=waV (hHeld.out.below hq);refine HK_.out _ _ hHeld ?_;clear HK_
    (try replace O0:=waV (zaf O0.out hq))
    (try replace O1:=waV (zaf O1.out hq))
    (try replace O3:=waV (zaf O3.out hq))
    clear hq;generalize World.alloc V1 (.cells #[.slice none 0 0,.slice none 0 0,.slice none 0 0,.slice none 0 0,.slice none 0 0] 60)=V2 at *;generalize (World.heap V1).size=cb at *;refine zac (i:=4) kQ fun o_ ho_ K_ hK_=>?_
    obtain rfl:=waB ho_;have HK_:=waV hK_;clear hK_ ho_;go_wp2_with fail;refine(HSu.out _).mono ?_;rintro e w9 ⟨rfl,rfl⟩;go_wp2_with fail;refine HK_.out _ _ hHeld ?_;clear HK_;have hcl:=(waL.1 hC.out).1;have hcf:∀i,World.frozen? V2 ⟨cb,i,none⟩=false:=fun i=>by simp[World.frozen?,hC.out]
    have z0:World.cell? V2 ⟨cb,0,none⟩=some (.slice none 0 0):=by rw[World.cell?_of_heap hC.out];rfl
    have z1:World.cell? V2 ⟨cb,1,none⟩=some (.slice none 0 0):=by rw[World.cell?_of_heap hC.out];rfl
    have z2:World.cell? V2 ⟨cb,2,none⟩=some (.slice none 0 0):=by rw[World.cell?_of_heap hC.out];rfl
    have z3:World.cell? V2 ⟨cb,3,none⟩=some (.slice none 0 0):=by rw[World.cell?_of_heap hC.out];rfl
    have z4:World.cell? V2 ⟨cb,4,none⟩=some (.slice none 0 0):=by rw[World.cell?_of_heap hC.out];rfl
    refine zag (j:=2) dQ (.inr rfl) dQ kQ ?_;simp only[wbQ,waG,List.length_nil,Nat.reduceAdd,Nat.reduceSub,waZ,wbA];go_wp2_with fail;refine⟨rfl,(_,cb),rfl,S0,d0,S1,d1,S3,d3,rfl,?_⟩;have hr:=zcG (V:=V2) cb (.slice S0 (zab 0 59 (zay (zcN P)) true).length d0) (.slice S1 (zab 0 23 (zay (zbb P)) true).length d1) (.slice none 0 0) (.slice S3 (zab 1 12 (zay (zaV P)) true).length d3) (.slice none 0 0);have hS:=zbT hC.out;exact⟨hHeld.out.rls hr hn,zgS _ _ _ _ _ _ _ _ _ _ hC.out,zar O0.out hr hS,zar O1.out hr hS,zgk _ _,zar O3.out hr hS,zgk _ _,hn⟩
  ·have hC:Hid ((World.alloc V0 (.cells #[.slice none 0 0,.slice none 0 0,.slice none 0 0,.slice none 0 0,.slice none 0 0] 60)).heap[World.heap V0|>.size]?=some (.cells zbd 60 (0,0))):=World.alloc_heap_new _ _
   have hn:W.heap.size+1<(World.heap V0).size:=hHeld.out.size;have hq:Below (World.heap V0).size V0 (World.alloc V0 (.cells #[.slice none 0 0,.slice none 0 0,.slice none 0 0,.slice none 0 0,.slice none 0 0] 60)):=(waC _ _).alloc (waJ _) _;go_wp2_with fail;replace hHeld:=waV (hHeld.out.below hq);refine HK_.out _ _ hHeld ?_;clear HK_
   (try replace O0:=waV (zaf O0.out hq))
   (try replace O1:=waV (zaf O1.out hq))
   (try replace O3:=waV (zaf O3.out hq))
   clear hq;generalize World.alloc V0 (.cells #[.slice none 0 0,.slice none 0 0,.slice none 0 0,.slice none 0 0,.slice none 0 0] 60)=V1 at *;generalize (World.heap V0).size=cb at *;refine zac (i:=1) kQ fun o_ ho_ K_ hK_=>?_
   obtain rfl:=waB ho_;have HK_:=waV hK_;clear hK_ ho_;go_wp2_with fail;refine(HTm.out _ hHeld.out.be).mono ?_;rintro e V2 ⟨v0,v1,v3,rfl,o0,o1,o3,hq⟩;have hz:=hHeld.out.be.size;obtain⟨S0,d0,rfl⟩:=zaC o0;obtain⟨S1,d1,rfl⟩:=zaC o1;obtain⟨S3,d3,rfl⟩:=zaC o3;have O0:=waV (zaq o0 hz);have O1:=waV (zaq o1 hz);have O3:=waV (zaq o3 hz);replace hHeld:=waV (hHeld.out.below hq)
   (try replace hC:=waV ((hq.block _ (waL.1 hC.out).1).trans hC.out))
   clear o0 o1 o3 hq hz;go_wp2_with fail;refine HK_.out _ _ hHeld ?_;clear HK_;refine zac (i:=4) kQ fun o_ ho_ K_ hK_=>?_
   obtain rfl:=waB ho_;have HK_:=waV hK_;clear hK_ ho_;go_wp2_with fail;refine(HSu.out _).mono ?_;rintro e w9 ⟨rfl,rfl⟩;go_wp2_with fail;refine HK_.out _ _ hHeld ?_;clear HK_;have hcl:=(waL.1 hC.out).1;have hcf:∀i,World.frozen? V2 ⟨cb,i,none⟩=false:=fun i=>by simp[World.frozen?,hC.out]
   have z0:World.cell? V2 ⟨cb,0,none⟩=some (.slice none 0 0):=by rw[World.cell?_of_heap hC.out];rfl
   have z1:World.cell? V2 ⟨cb,1,none⟩=some (.slice none 0 0):=by rw[World.cell?_of_heap hC.out];rfl
   have z2:World.cell? V2 ⟨cb,2,none⟩=some (.slice none 0 0):=by rw[World.cell?_of_heap hC.out];rfl
   have z3:World.cell? V2 ⟨cb,3,none⟩=some (.slice none 0 0):=by rw[World.cell?_of_heap hC.out];rfl
   have z4:World.cell? V2 ⟨cb,4,none⟩=some (.slice none 0 0):=by rw[World.cell?_of_heap hC.out];rfl
   refine zag (j:=2) dQ (.inr rfl) dQ kQ ?_;simp only[wbQ,waG,List.length_nil,Nat.reduceAdd,Nat.reduceSub,waZ,wbA];go_wp2_with fail;refine⟨rfl,(_,cb),rfl,S0,d0,S1,d1,S3,d3,rfl,?_⟩;have hr:=zcG (V:=V2) cb (.slice S0 (zab 0 59 (zay (zcN P)) true).length d0) (.slice S1 (zab 0 23 (zay (zbb P)) true).length d1) (.slice none 0 0) (.slice S3 (zab 1 12 (zay (zaV P)) true).length d3) (.slice none 0 0);have hS:=zbT hC.out;exact⟨hHeld.out.rls hr hn,zgS _ _ _ _ _ _ _ _ _ _ hC.out,zar O0.out hr hS,zar O1.out hr hS,zgk _ _,zar O3.out hr hS,zgk _ _,hn⟩
 case on=>
 rintro ⟨v,cb⟩ V1 ⟨S0,d0,S1,d1,S3,d3,rfl,hS⟩;simp only[zdQ,List.foldl,Act.put,wbU,wbW,wbV];have HS:=waV hS;clear hHeld hi' hLd HTm HSu hS E6;go_wp2_with fail;have hHeld:Hid (BoS W V1.drew g cb (.slice S0 (zab 0 59 (zay (zcN P)) true).length d0) (.slice S1 (zab 0 23 (zay (zbb P)) true).length d1) (.slice none 0 0) (.slice S3 (zab 1 12 (zay (zaV P)) true).length d3) (.slice none 0 0) (zab 0 59 (zay (zcN P)) true) (zab 0 23 (zay (zbb P)) true) [] (zab 1 12 (zay (zaV P)) true) []):=HS.out.below (waC _ _).drew;refine zan 7 (fun w'=>Hid (BoS W w' g cb (.slice S0 (zab 0 59 (zay (zcN P)) true).length d0) (.slice S1 (zab 0 23 (zay (zbb P)) true).length d1) (.slice none 0 0) (.slice S3 (zab 1 12 (zay (zaV P)) true).length d3) (.slice none 0 0) (zab 0 59 (zay (zcN P)) true) (zab 0 23 (zay (zbb P)) true) [] (zab 1 12 (zay (zaV P)) true) [])) kQ ?_
 generalize V1.drew=V2 at *;clear HS;refine(kP 0 13 (h:=(kR 1 14 (fun w_ hSw_=>E4.out w_ hSw_.out.t) (h:=(kP 2 15 (h:=(kR 3 16 (fun w_ hSw_=>E3.out w_ hSw_.out.t) (h:=?_))))))))
 simp only[Act.put,za1,za2,za3];refine zac (i:=4) kQ fun o_ ho_ K_ hK_=>?_
 obtain rfl:=waB ho_;have HK_:=waV hK_;clear hK_ ho_;go_wp2_with fail;refine(HLo.out _ hHeld.out.t.be).mono ?_;rintro e V3 ⟨rfl,hq⟩;replace hHeld:=waV (hHeld.out.below hq);clear hq;go_wp2_with fail;refine HK_.out _ _ hHeld ?_;clear HK_;refine zac (i:=5) kQ fun o_ ho_ K_ hK_=>?_
 obtain rfl:=waB ho_;have HK_:=waV hK_;clear hK_ ho_;go_wp2_with fail;refine(HWo.out _).mono ?_;rintro e V4 ⟨rfl,rfl⟩;go_wp2_with fail;refine HK_.out _ _ hHeld ?_;clear HK_;refine(kP 6 19 (h:=?_));simp only[Act.put,za1,za2,za3];rw[HAl.out];refine zag (j:=1) dQ (.inr rfl) dQ kQ ?_;simp only[wbQ,waG,List.length_nil,Nat.reduceAdd,Nat.reduceSub,waZ,wbA];go_wp2_with fail;refine(HLe.out _).mono ?_;rintro e V4 ⟨rfl,rfl⟩;have f4:=E4.out _ hHeld.out.t;go_wp2_with fail;rw[HEv.out];have hz3:=hHeld.out.t.be.size;refine(H2.out _ hdm _ hHeld.out.t.be).mono ?_;rintro e V4 ⟨v2,rfl,o2,hq⟩;obtain⟨S2,d2,rfl⟩:=zaC o2;have O2:=waV (zaq o2 hz3);replace hHeld:=waV (hHeld.out.below hq);clear o2 hq hz3 f4;go_wp2_with fail;have hz4:=hHeld.out.t.be.size;refine(H4.out _ (zgb _) _ hHeld.out.t.be).mono ?_;rintro e V5 ⟨v4,rfl,o4,hq⟩;obtain⟨S4,d4,rfl⟩:=zaC o4;have O4:=waV (zaq o4 hz4);replace O2:=waV (zaf O2.out hq);replace hHeld:=waV (hHeld.out.below hq);clear o4 hq hz4;obtain⟨z0,z1,z2,z3,z4,zf,zl⟩:=hHeld.out.cells;obtain⟨hy,yf,yl⟩:=hHeld.out.t.line;have y0:=hy 0 dQ;have y1:=hy 1 dQ;have y2:=hy 2 dQ;have y3:=hy 3 dQ;have y4:=hy 4 dQ;have f4:=E4.out _ hHeld.out.t;have f48:=E48.out _ hHeld.out.t;have yl0:=Nat.lt_of_succ_lt yl;have hne0:¬cb=W.heap.size:=by have:=hHeld.out.n;omega
 have hne1:¬W.heap.size=cb:=by have:=hHeld.out.n;omega
 have hne2:¬cb=W.heap.size+1:=by have:=hHeld.out.n;omega
 have hne3:¬W.heap.size+1=cb:=by have:=hHeld.out.n;omega
 clear hy;have HS:=waV (hHeld.out.set24 O2.out O4.out);cases hA:zsY (zaV P) (zbw P) with
 |true=>
  have hD2:zbH (zaV P) (zbw P) (wkF P)=[⟨0,0,0,1⟩]:=by unfold zbH;rw[if_pos hA]
  have hok:za8 (zaV P) (zbw P) (wkF P)=true:=by unfold za8;rw[hA];rfl
  go_wp2_with fail;generalize (World.setCell _ _ _)=V6 at *;replace hHeld:=HS;clear HS z0 z1 z2 z3 z4 zf zl y0 y1 y2 y3 y4 yf yl yl0 f4 f48 hne0 hne1 hne2 hne3
  (try clear O2 O4)
  refine(HSt.out 1 _).mono ?_;rintro e V7 ⟨rfl,hq⟩;replace hHeld:=waV (hHeld.out.below hq);clear hq;obtain⟨z0,z1,z2,z3,z4,zf,zl⟩:=hHeld.out.cells;obtain⟨hy,yf,yl⟩:=hHeld.out.t.line;have y0:=hy 0 dQ;have y1:=hy 1 dQ;have y2:=hy 2 dQ;have y3:=hy 3 dQ;have y4:=hy 4 dQ;have f4:=E4.out _ hHeld.out.t;have f48:=E48.out _ hHeld.out.t;have yl0:=Nat.lt_of_succ_lt yl;have hne0:¬cb=W.heap.size:=by have:=hHeld.out.n;omega
  have hne1:¬W.heap.size=cb:=by have:=hHeld.out.n;omega
  have hne2:¬cb=W.heap.size+1:=by have:=hHeld.out.n;omega
  have hne3:¬W.heap.size+1=cb:=by have:=hHeld.out.n;omega
  clear hy;have HI:Hid (Below V7.heap.size V7 (V7.alloc (.cells #[.int .i64 0,.int .i64 0,.int .i64 0,.int .i64 1] 85))∧zav (V7.alloc (.cells #[.int .i64 0,.int .i64 0,.int .i64 0,.int .i64 1] 85)) W.heap.size (.slice (some ⟨V7.heap.size,0,none⟩) 1 1) [⟨0,0,0,1⟩]):=
   ⟨(waC _ _).alloc (waJ _) _,zaq (zdH V7 #[.int .i64 0,.int .i64 0,.int .i64 0,.int .i64 1] 85 4 1 dQ rfl) hHeld.out.t.be.size⟩
  unfold itV;cases hE:zes (wkF P) with
  |true=>
   have hD4:zaZ (zaV P) (zbw P) (wkF P)=[⟨0,0,0,1⟩]:=by unfold zaZ;rw[if_pos hE]
   go_wp2_with fail;have HS:=(hHeld.out.below HI.out.1).set2 HI.out.2;rw[World.setCell_alloc_past _ _ _ _ zl] at HS;replace HS:=waV HS;clear HI;generalize (World.alloc _ _)=V6 at *;replace hHeld:=HS;clear HS z0 z1 z2 z3 z4 zf zl y0 y1 y2 y3 y4 yf yl yl0 f4 f48 hne0 hne1 hne2 hne3
   (try clear O2 O4)
   refine(HSt.out 1 _).mono ?_;rintro e V7 ⟨rfl,hq⟩;replace hHeld:=waV (hHeld.out.below hq);clear hq;obtain⟨z0,z1,z2,z3,z4,zf,zl⟩:=hHeld.out.cells;obtain⟨hy,yf,yl⟩:=hHeld.out.t.line;have y0:=hy 0 dQ;have y1:=hy 1 dQ;have y2:=hy 2 dQ;have y3:=hy 3 dQ;have y4:=hy 4 dQ;have f4:=E4.out _ hHeld.out.t;have f48:=E48.out _ hHeld.out.t;have yl0:=Nat.lt_of_succ_lt yl;have hne0:¬cb=W.heap.size:=by have:=hHeld.out.n;omega
   have hne1:¬W.heap.size=cb:=by have:=hHeld.out.n;omega
   have hne2:¬cb=W.heap.size+1:=by have:=hHeld.out.n;omega
   have hne3:¬W.heap.size+1=cb:=by have:=hHeld.out.n;omega
   clear hy;have HI:Hid (Below V7.heap.size V7 (V7.alloc (.cells #[.int .i64 0,.int .i64 0,.int .i64 0,.int .i64 1] 85))∧zav (V7.alloc (.cells #[.int .i64 0,.int .i64 0,.int .i64 0,.int .i64 1] 85)) W.heap.size (.slice (some ⟨V7.heap.size,0,none⟩) 1 1) [⟨0,0,0,1⟩]):=
    ⟨(waC _ _).alloc (waJ _) _,zaq (zdH V7 #[.int .i64 0,.int .i64 0,.int .i64 0,.int .i64 1] 85 4 1 dQ rfl) hHeld.out.t.be.size⟩
   unfold itV;have hX:=(hHeld.out.below HI.out.1).set4 HI.out.2;rw[World.setCell_alloc_past _ _ _ _ zl] at hX;have HX:=waV hX;have HLc:=waV (zcw (zbE hX.c));clear hX HI z0 z1 z3 y0 y1 y2 y3 y4 yf
   go_wp2_with (first|(refine zad (by rfl) 60 _ rfl #[_,_,_,_,_] cb 0 rfl underlying60 rfl zaL HLc.out ?_)|(refine zam rfl _ _ rfl HX.out.t.r _ _ _ _ _ (by kernel_rfl) rfl rfl ?_;intro V8 hc8 hr8)|fail)
   refine waY (zbP rfl rfl hc8) rfl ?_;exact HX.out.ret hr8 hD2 hD4 hok
  |false=>
   have hD4:zaZ (zaV P) (zbw P) (wkF P)=zab 0 6 (zay (zcq (wkF P))) false:=by unfold zaZ;rw[if_neg (by rw[hE];decide),if_pos hA]
   have hX:=(hHeld.out.below HI.out.1).set2 HI.out.2;rw[World.setCell_alloc_past _ _ _ _ zl] at hX;have HX:=waV hX;have HLc:=waV (zcw (zbE hX.c));clear hX HI z0 z1 z3 y0 y1 y2 y3 y4 yf
   go_wp2_with (first|(refine zad (by rfl) 60 _ rfl #[_,_,_,_,_] cb 0 rfl underlying60 rfl zaL HLc.out ?_)|(refine zam rfl _ _ rfl HX.out.t.r _ _ _ _ _ (by kernel_rfl) rfl rfl ?_;intro V8 hc8 hr8)|fail)
   refine waY (zbP rfl rfl hc8) rfl ?_;exact HX.out.ret hr8 hD2 hD4 hok
 |false=>
  cases hE:zes (wkF P) with
  |true=>
   have hD2:zbH (zaV P) (zbw P) (wkF P)=zab 1 31 (zay (zbw P)) false:=by unfold zbH;rw[if_neg (by rw[hA];decide),if_pos hE]
   have hD4:zaZ (zaV P) (zbw P) (wkF P)=[⟨0,0,0,1⟩]:=by unfold zaZ;rw[if_pos hE]
   have hok:za8 (zaV P) (zbw P) (wkF P)=true:=by unfold za8;rw[hA,hE];rfl
   go_wp2_with fail;generalize (World.setCell _ _ _)=V6 at *;replace hHeld:=HS;clear HS z0 z1 z2 z3 z4 zf zl y0 y1 y2 y3 y4 yf yl yl0 f4 f48 hne0 hne1 hne2 hne3
   (try clear O2 O4)
   refine(HSt.out 1 _).mono ?_;rintro e V7 ⟨rfl,hq⟩;replace hHeld:=waV (hHeld.out.below hq);clear hq;obtain⟨z0,z1,z2,z3,z4,zf,zl⟩:=hHeld.out.cells;obtain⟨hy,yf,yl⟩:=hHeld.out.t.line;have y0:=hy 0 dQ;have y1:=hy 1 dQ;have y2:=hy 2 dQ;have y3:=hy 3 dQ;have y4:=hy 4 dQ;have f4:=E4.out _ hHeld.out.t;have f48:=E48.out _ hHeld.out.t;have yl0:=Nat.lt_of_succ_lt yl;have hne0:¬cb=W.heap.size:=by have:=hHeld.out.n;omega
   have hne1:¬W.heap.size=cb:=by have:=hHeld.out.n;omega
   have hne2:¬cb=W.heap.size+1:=by have:=hHeld.out.n;omega
   have hne3:¬W.heap.size+1=cb:=by have:=hHeld.out.n;omega
   clear hy;have HI:Hid (Below V7.heap.size V7 (V7.alloc (.cells #[.int .i64 0,.int .i64 0,.int .i64 0,.int .i64 1] 85))∧zav (V7.alloc (.cells #[.int .i64 0,.int .i64 0,.int .i64 0,.int .i64 1] 85)) W.heap.size (.slice (some ⟨V7.heap.size,0,none⟩) 1 1) [⟨0,0,0,1⟩]):=
    ⟨(waC _ _).alloc (waJ _) _,zaq (zdH V7 #[.int .i64 0,.int .i64 0,.int .i64 0,.int .i64 1] 85 4 1 dQ rfl) hHeld.out.t.be.size⟩
   unfold itV;have hX:=(hHeld.out.below HI.out.1).set4 HI.out.2;rw[World.setCell_alloc_past _ _ _ _ zl] at hX;have HX:=waV hX;have HLc:=waV (zcw (zbE hX.c));clear hX HI z0 z1 z3 y0 y1 y2 y3 y4 yf
   go_wp2_with (first|(refine zad (by rfl) 60 _ rfl #[_,_,_,_,_] cb 0 rfl underlying60 rfl zaL HLc.out ?_)|(refine zam rfl _ _ rfl HX.out.t.r _ _ _ _ _ (by kernel_rfl) rfl rfl ?_;intro V8 hc8 hr8)|fail)
   refine waY (zbP rfl rfl hc8) rfl ?_;exact HX.out.ret hr8 hD2 hD4 hok
  |false=>
   go_wp2_with fail;generalize (World.setCell _ _ _)=V6 at *;replace hHeld:=HS;clear HS z0 z1 z2 z3 z4 zf zl y0 y1 y2 y3 y4 yf yl yl0 f4 f48 hne0 hne1 hne2 hne3 O2 O4;refine(HH1.out _).mono ?_;rintro e V7 ⟨rfl,rfl⟩;cases h1:(zbw P).testBit 1 with
   |true=>
    have hD2:zbH (zaV P) (zbw P) (wkF P)=⟨0,0,0,31⟩::zab 1 31 (zay (zdA (zbw P) 1)) false:=by unfold zbH;rw[if_neg (by rw[hA];decide),if_neg (by rw[hE];decide),if_pos h1]
    have hD4:zaZ (zaV P) (zbw P) (wkF P)=zab 0 6 (zay (zcq (wkF P))) false:=by unfold zaZ;rw[if_neg (by rw[hE];decide),if_neg (by rw[hA];decide),if_pos h1]
    have hok:za8 (zaV P) (zbw P) (wkF P)=true:=by unfold za8;rw[hA,hE,h1];rfl
    have HN9:Hid (([⟨0,0,0,31⟩]:List It).length+(zab 1 31 (zay (zdA (zbw P) 1)) false).length≤1000000):=by
     have h:(zab 1 31 (zay (zdA (zbw P) 1)) false).length≤63:=zaT (zdk (j:=1) (zk5 P)) dQ dQ false;show 1+_≤_;omega
    have HLs:=waV (zs6 hdm);go_wp2_with fail;replace hHeld:=waV (hHeld.out.below (waC _ _).drew);refine zan 6 (fun w'=>Hid (BoS W w' g cb (.slice S0 (zab 0 59 (zay (zcN P)) true).length d0) (.slice S1 (zab 0 23 (zay (zbb P)) true).length d1) (.slice S2 (zab 1 31 (zay (zbw P)) false).length d2) (.slice S3 (zab 1 12 (zay (zaV P)) true).length d3) (.slice S4 (zab 0 6 (zay (zcq (wkF P))) false).length d4) (zab 0 59 (zay (zcN P)) true) (zab 0 23 (zay (zbb P)) true) (zab 1 31 (zay (zbw P)) false) (zab 1 12 (zay (zaV P)) true) (zab 0 6 (zay (zcq (wkF P))) false))) kQ ?_
    generalize V6.drew=V7 at *;refine(kP 2 55 (h:=(kR 3 56 (fun w_ hSw_=>E4.out w_ hSw_.out.t) (h:=(kP 4 57 (h:=?_))))))
    simp only[Act.put,za1,za2,za3];rw[HLs.out];refine zac (i:=0) kQ fun o_ ho_ K_ hK_=>?_
    obtain rfl:=waB ho_;have HK_:=waV hK_;clear hK_ ho_;go_wp2_with fail;refine(HSt.out 31 _).mono ?_;rintro e V8 ⟨rfl,hq⟩;replace hHeld:=waV (hHeld.out.below hq);clear hq;unfold itV;go_wp2_with fail;refine HK_.out _ _ hHeld ?_;clear HK_;have hH7:=hHeld;have hz7:=hHeld.out.t.be.size;refine zdu (i:=1) (i':=5) kQ (fun o_ ho_ K_ hK_=>?_) (fun o_ ho_ K_ hK_=>?_)
    all_goals obtain rfl:=waB ho_
    all_goals have HK_:=waV hK_
    all_goals clear hK_ ho_
    ·have HI:Hid (zav (World.alloc V8 (.cells #[.int .i64 0,.int .i64 0,.int .i64 0,.int .i64 31] 85)) (World.heap V8).size (.slice (some ⟨(World.heap V8).size,0,none⟩) 1 1) [⟨0,0,0,31⟩]):=zdH V8 #[.int .i64 0,.int .i64 0,.int .i64 0,.int .i64 31] 85 4 1 dQ rfl;have hq:Below (World.heap V8).size V8 (World.alloc V8 (.cells #[.int .i64 0,.int .i64 0,.int .i64 0,.int .i64 31] 85)):=(waC _ _).alloc (waJ _) _;go_wp2_with fail;replace hHeld:=waV (hHeld.out.below hq);refine HK_.out _ _ hHeld ?_;clear HK_;generalize World.alloc V8 (.cells #[.int .i64 0,.int .i64 0,.int .i64 0,.int .i64 31] 85)=V9 at *;have hb:=hq;have O5:=HI;clear HI hq;refine zac (i:=5) kQ fun o_ ho_ K_ hK_=>?_
     obtain rfl:=waB ho_;have HK_:=waV hK_;clear hK_ ho_;go_wp2_with fail;refine(H2.out _ (zfK _ _) _ hHeld.out.t.be).mono ?_;rintro e V10 ⟨v6,rfl,o6,hq⟩;have O6:=waV (zaq o6 hb.size);replace O5:=waV (zaf O5.out hq);replace hHeld:=waV (hHeld.out.below hq);replace hb:=hb.trans (hq.mono hb.size);clear o6 hq;go_wp2_with fail;refine HK_.out _ _ hHeld ?_;clear HK_;refine zag (j:=3) dQ (.inr rfl) dQ kQ ?_;simp only[wbQ,waG,List.length_nil,Nat.reduceAdd,Nat.reduceSub,waZ,wbA];have HB9:=waV hb.size;have HBb:=waV hb;clear hb
     go_wp2_with (first|(refine zcF rfl _ _ rfl rfl rfl O5.out O6.out HB9.out HN9.out ?_;intro v7 V11 o7 hq7;obtain⟨S7,d7,rfl⟩:=zaC o7;have hHd:=waV (hH7.out.below (HBb.out.trans hq7));have O7:=waV (zaq o7 hz7);obtain⟨z0,z1,z2,z3,z4,zf,zl⟩:=hHd.out.cells;have HX:=waV (BoS.set2 hHd.out O7.out);have HLc:=waV (zcw (zbE HX.out.c));clear z0 z1 z3)|(refine zad (by rfl) 60 _ rfl #[_,_,_,_,_] cb 0 rfl underlying60 rfl zaL HLc.out ?_)|(refine zam rfl _ _ rfl HX.out.t.r _ _ _ _ _ (by kernel_rfl) rfl rfl ?_;intro V12 hc8 hr8)|fail)
     refine waY (zbP rfl rfl hc8) rfl ?_;exact HX.out.ret hr8 hD2 hD4 hok
    ·go_wp2_with fail;refine(H2.out _ (zfK _ _) _ hHeld.out.t.be).mono ?_;rintro e V9 ⟨v6,rfl,o6,hq⟩;have O6:=waV o6;replace hHeld:=waV (hHeld.out.below hq);have hb:=hq;clear o6 hq;go_wp2_with fail;refine HK_.out _ _ hHeld ?_;clear HK_;refine zac (i:=1) kQ fun o_ ho_ K_ hK_=>?_
     obtain rfl:=waB ho_;have HK_:=waV hK_;clear hK_ ho_;have HI:Hid (zav (World.alloc V9 (.cells #[.int .i64 0,.int .i64 0,.int .i64 0,.int .i64 31] 85)) (World.heap V9).size (.slice (some ⟨(World.heap V9).size,0,none⟩) 1 1) [⟨0,0,0,31⟩]):=zdH V9 #[.int .i64 0,.int .i64 0,.int .i64 0,.int .i64 31] 85 4 1 dQ rfl;have hq:Below (World.heap V9).size V9 (World.alloc V9 (.cells #[.int .i64 0,.int .i64 0,.int .i64 0,.int .i64 31] 85)):=(waC _ _).alloc (waJ _) _;go_wp2_with fail;replace hHeld:=waV (hHeld.out.below hq);refine HK_.out _ _ hHeld ?_;clear HK_;generalize World.alloc V9 (.cells #[.int .i64 0,.int .i64 0,.int .i64 0,.int .i64 31] 85)=V10 at *;have O5:=waV (zaq HI.out hb.size);replace O6:=waV (zaf O6.out hq);replace hb:=hb.trans (hq.mono hb.size);clear HI hq;refine zag (j:=3) dQ (.inr rfl) dQ kQ ?_;simp only[wbQ,waG,List.length_nil,Nat.reduceAdd,Nat.reduceSub,waZ,wbA];have HB9:=waV hb.size;have HBb:=waV hb;clear hb
     go_wp2_with (first|(refine zcF rfl _ _ rfl rfl rfl O5.out O6.out HB9.out HN9.out ?_;intro v7 V11 o7 hq7;obtain⟨S7,d7,rfl⟩:=zaC o7;have hHd:=waV (hH7.out.below (HBb.out.trans hq7));have O7:=waV (zaq o7 hz7);obtain⟨z0,z1,z2,z3,z4,zf,zl⟩:=hHd.out.cells;have HX:=waV (BoS.set2 hHd.out O7.out);have HLc:=waV (zcw (zbE HX.out.c));clear z0 z1 z3)|(refine zad (by rfl) 60 _ rfl #[_,_,_,_,_] cb 0 rfl underlying60 rfl zaL HLc.out ?_)|(refine zam rfl _ _ rfl HX.out.t.r _ _ _ _ _ (by kernel_rfl) rfl rfl ?_;intro V12 hc8 hr8)|fail)
     refine waY (zbP rfl rfl hc8) rfl ?_;exact HX.out.ret hr8 hD2 hD4 hok
   |false=>
    go_wp2_with fail;refine(HH0.out _).mono ?_;rintro e V7 ⟨rfl,rfl⟩;cases h0:(zcq (wkF P)).testBit 0 with
    |true=>
     have hD2:zbH (zaV P) (zbw P) (wkF P)=zab 1 31 (zay (zbw P)) false:=by unfold zbH;rw[if_neg (by rw[hA];decide),if_neg (by rw[hE];decide),if_neg (by rw[h1];decide)]
     have hD4:zaZ (zaV P) (zbw P) (wkF P)=⟨0,0,0,8⟩::zab 0 6 (zay (zdA (zcq (wkF P)) 0)) false:=by unfold zaZ;rw[if_neg (by rw[hE];decide),if_neg (by rw[hA];decide),if_neg (by rw[h1];decide)]
     have hok:za8 (zaV P) (zbw P) (wkF P)=true:=by unfold za8;rw[hA,hE,h1,h0];rfl
     have HN9:Hid (([⟨0,0,0,8⟩]:List It).length+(zab 0 6 (zay (zdA (zcq (wkF P)) 0)) false).length≤1000000):=by
      have h:(zab 0 6 (zay (zdA (zcq (wkF P)) 0)) false).length≤63:=zaT (zdk (j:=0) (zgx (zou P))) dQ dQ false;show 1+_≤_;omega
     have HLs:=waV (zq5 (zgb (wkF P)));go_wp2_with fail;refine(HSt.out 8 _).mono ?_;rintro e V8 ⟨rfl,hq⟩;replace hHeld:=waV (hHeld.out.below hq);clear hq;have hH7:=hHeld;have hz7:=hHeld.out.t.be.size;unfold itV;go_wp2_with fail;rw[HLs.out];have HI:Hid (zav (World.alloc V8 (.cells #[.int .i64 0,.int .i64 0,.int .i64 0,.int .i64 8] 85)) V8.heap.size (.slice (some ⟨V8.heap.size,0,none⟩) 1 1) [⟨0,0,0,8⟩]):=zdH V8 #[.int .i64 0,.int .i64 0,.int .i64 0,.int .i64 8] 85 4 1 dQ rfl;have hb:Below V8.heap.size V8 (World.alloc V8 (.cells #[.int .i64 0,.int .i64 0,.int .i64 0,.int .i64 8] 85)):=(waC _ _).alloc (waJ _) _;replace hHeld:=waV (hHeld.out.below hb);generalize World.alloc V8 (.cells #[.int .i64 0,.int .i64 0,.int .i64 0,.int .i64 8] 85)=V9 at *;have O5:=HI;clear HI;refine(H4.out _ (zfK _ _) _ hHeld.out.t.be).mono ?_;rintro e V10 ⟨v6,rfl,o6,hq⟩;have O6:=waV (zaq o6 hb.size);replace O5:=waV (zaf O5.out hq);replace hHeld:=waV (hHeld.out.below hq);replace hb:=hb.trans (hq.mono hb.size);clear o6 hq;have HB9:=waV hb.size;have HBb:=waV hb;clear hb
     go_wp2_with (first|(refine zcF rfl _ _ rfl rfl rfl O5.out O6.out HB9.out HN9.out ?_;intro v7 V11 o7 hq7;obtain⟨S7,d7,rfl⟩:=zaC o7;have hHd:=waV (hH7.out.below (HBb.out.trans hq7));have O7:=waV (zaq o7 hz7);obtain⟨z0,z1,z2,z3,z4,zf,zl⟩:=hHd.out.cells;have HX:=waV (BoS.set4 hHd.out O7.out);have HLc:=waV (zcw (zbE HX.out.c));clear z0 z1 z3)|(refine zad (by rfl) 60 _ rfl #[_,_,_,_,_] cb 0 rfl underlying60 rfl zaL HLc.out ?_)|(refine zam rfl _ _ rfl HX.out.t.r _ _ _ _ _ (by kernel_rfl) rfl rfl ?_;intro V12 hc8 hr8)|fail)
     refine waY (zbP rfl rfl hc8) rfl ?_;exact HX.out.ret hr8 hD2 hD4 hok
    |false=>
     have hok:za8 (zaV P) (zbw P) (wkF P)=false:=by unfold za8;rw[hA,hE,h1,h0];rfl
     go_wp2_with (first|(refine zam rfl _ _ rfl hHeld.out.t.r _ _ _ _ _ (by kernel_rfl) rfl rfl ?_;intro V8 hc8 hr8)|fail)
     refine waY (zbP rfl rfl hc8) rfl ?_;exact⟨hr8.to_below' hHeld.out.t.be oQ,.inl ⟨hok,rfl⟩⟩
end Go.Proofs.YtadefhkaejjfmaaGreatDoor
