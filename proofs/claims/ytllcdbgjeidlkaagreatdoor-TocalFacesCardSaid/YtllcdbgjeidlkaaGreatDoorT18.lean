/- A part of the proof: WRoll2 -/
import Derived.Test.YtllcdbgjeidlkaaGreatDoorT17
import Derived.Test.YtllcdbgjeidlkaaGreatDoorT14
set_option maxHeartbeats 80000000
set_option maxRecDepth 100000
set_option linter.unusedSimpArgs false
set_option linter.unusedVariables false
namespace Go.Proofs.YtllcdbgjeidlkaaGreatDoor
open Go.Proofs.Tryz
open Go.RowKit
open Go.Maps
structure RlS (S:Nat->Prop) (W W':World):Prop where
 os:W'.os=W.os
 tape:W'.tape=W.tape
 output:W'.output=W.output
 size:W.heap.size<=W'.heap.size
 block:∀k,k<W.heap.size->¬S k->W'.heap[k]?=W.heap[k]?
theorem RlS.refl (S:Nat->Prop) (W:World):RlS S W W:=⟨rfl,rfl,rfl,waJ _,fun _ _ _=>rfl⟩
theorem RlS.trans {S:Nat->Prop} {X Y Z:World} (h:RlS S X Y) (k:RlS S Y Z):RlS S X Z:=
 ⟨k.os.trans h.os,k.tape.trans h.tape,k.output.trans h.output,waW h.size k.size,fun i hi hs=>(k.block i (waD hi h.size) hs).trans (h.block i hi hs)⟩
theorem RlS.mono {S S':Nat->Prop} {X Y:World} (h:RlS S X Y) (hS:∀k,S k->S' k):RlS S' X Y:=
 ⟨h.os,h.tape,h.output,h.size,fun i hi hs=>h.block i hi (fun g=>hs (hS i g))⟩
theorem RlS.below {S:Nat->Prop} {X Y Z:World} {n:Nat} (h:RlS S X Y) (hb:Below n Y Z) (hn:X.heap.size<=n):RlS S X Z:=
 ⟨hb.os.trans h.os,hb.tape.trans h.tape,hb.output.trans h.output,waW h.size hb.size,fun i hi hs=>(hb.block i oQ).trans (h.block i hi hs)⟩
theorem RlS.put {S:Nat->Prop} {X Y:World} (h:RlS S X Y) (l:Nat) (o:Obj) (hl:S l):RlS S X (Y.putObj l o):=
 ⟨h.os,h.tape,h.output,by simpa using h.size,fun i hi hs=>(World.putObj_heap_other (fun e=>hs (by rw[e];exact hl))).trans (h.block i hi hs)⟩
theorem RlS.set {S:Nat->Prop} {X Y:World} (h:RlS S X Y) (a:Addr) (v:Value) (hl:S a.block):RlS S X (Y.setCell a v):=
 ⟨h.os,h.tape,h.output,waW h.size (KeepsWalks.setCell Y a v).size,fun i hi hs=>(wbJ _ _ _ _ (fun e=>hs (by rw[e];exact hl))).trans (h.block i hi hs)⟩
theorem RlS.drewN {S:Nat->Prop} {X Y:World} (h:RlS S X Y) (n:Nat):RlS S X (Y.drewN n):=⟨h.os,h.tape,h.output,h.size,h.block⟩
theorem RlS.drew {S:Nat->Prop} {X Y:World} (h:RlS S X Y):RlS S X Y.drew:=⟨h.os,h.tape,h.output,h.size,h.block⟩
theorem RlS.alloc {S:Nat->Prop} {X Y:World} (h:RlS S X Y) (o:Obj):RlS S X (Y.alloc o):=
 ⟨h.os,h.tape,h.output,waW h.size (by simp),fun i hi hs=>(Below.heap_alloc Y o i (waD hi h.size)).trans (h.block i hi hs)⟩
theorem RlS.rl {S:Nat->Prop} {X Y Z:World} {lo hi B:Nat} (h:RlS S X Y) (hr:Rl lo hi B Y Z) (h1:X.heap.size<=lo) (h2:X.heap.size<=B):RlS S X Z:=
 ⟨hr.os.trans h.os,hr.tape.trans h.tape,hr.output.trans h.output,waW h.size hr.size,fun i hi hs=>by
  have hlt:=waD hi h.size;rw[<-h.block i hi hs,hr.block i _ (wbI hlt) (.inl (by omega)) (.inl (by omega)),wbI hlt]⟩
theorem RlS.toRl {S:Nat->Prop} {X Y:World} (h:RlS S X Y) {lo hi:Nat} (B:Nat) (hS:∀k,S k->lo<=k/\k<hi):Rl lo hi B X Y:=
 ⟨h.os,h.tape,h.output,h.size,fun k o hk h1 _=>(h.block k (waL.1 hk).1 (fun g=>by have:=hS k g;omega)).trans hk⟩
theorem RlS.cell {S:Nat->Prop} {X Y:World} (h:RlS S X Y) {b o:Nat} {v:Value} (hc:X.cell? ⟨b,o,none⟩=some v) (hS:¬S b):Y.cell? ⟨b,o,none⟩=some v:=
 (wbK (h.block b (waR X _ hc) hS)).trans hc
theorem DiscAt.rls {S:Nat->Prop} {X Y:World} {b:Nat} {p:Nat->Bool} (h:DiscAt X b p) (hr:RlS S X Y) (hS:¬S b):DiscAt Y b p:=h.same (hr.block b h.lt hS)
theorem Tz.rls {S:Nat->Prop} {X Y:World} (h:Tz X) (hr:RlS S X Y) (hS:¬S 0):Tz Y:=fun j hj=>hr.cell (h j hj) hS
theorem Tz.drewN {V:World} (h:Tz V) (k:Nat):Tz (V.drewN k):=fun j hj=>h j hj
def zfm (es:List MapEntry):Prop:=∀q∈es,∀q'∈es,q.key=q'.key->q.val=q'.val
theorem zfm.push {es:Array MapEntry} (h:zfm es.toList) {x v:Value} {n:Nat} (hno:∀q∈es.toList,q.key≠x):zfm (es.push {key:=x,val:=v,born:=n}).toList:=fun q hq q' hq' e=>by
 rw[Array.toList_push,wbB,wbC] at hq hq';rcases hq with hq|rfl<;>rcases hq' with hq'|rfl
 ·exact h q hq q' hq' e
 ·exact absurd e (hno q hq)
 ·exact absurd e.symm (hno q' hq')
 ·rfl
theorem zmX {m ck:Nat} {es:Array MapEntry} {T k e:TypeId} {z x:Value} (hT:prog.underlying T=some (.map k e)) (hz:∀w,(zeroValue e).run prog w=.ok z w) (K:Keyed prog k) (hx:∃l,keyOf prog k x=some l) (hes:∀q∈es.toList,∃l,keyOf prog k q.key=some l) (h1:zfm es.toList) (W:World) (hW:W.heap[m]?=some (.map es ck)):
 (∃q∈es.toList,q.key=x/\∀V:World,V.heap[m]?=some (.map es ck)->(Instr.lookup T (.map (some m)) x true).run prog V=.ok (.tuple #[q.val,.bool true]) V)\/
   ((∀q∈es.toList,q.key≠x)/\∀V:World,V.heap[m]?=some (.map es ck)->(Instr.lookup T (.map (some m)) x true).run prog V=.ok (.tuple #[z,.bool false]) V):=by
 rcases zbo (w:=W) (z:=z) (x:=x) hT (hz W) hW (KeyRun.of_keyed K W) hx hes with ⟨q,hq,hk,_⟩|⟨hno,_⟩
 ·refine .inl ⟨q,hq,hk,fun V hV=>?_⟩
  rcases zbo (w:=V) (z:=z) (x:=x) hT (hz V) hV (KeyRun.of_keyed K V) hx hes with ⟨q',hq',hk',h⟩|⟨hno,_⟩
  ·rw[h true,if_pos rfl,h1 q hq q' hq' (hk.trans hk'.symm)]
  ·exact absurd hk (hno q hq)
 ·refine .inr ⟨hno,fun V hV=>?_⟩
  rcases zbo (w:=V) (z:=z) (x:=x) hT (hz V) hV (KeyRun.of_keyed K V) hx hes with ⟨q',hq',hk',h⟩|⟨_,h⟩
  ·exact absurd hk' (hno q' hq')
  ·rw[h true,if_pos rfl]
structure PartE (W:World) (c:Cl) (D X:Nat) (es:List MapEntry):Prop where
 one:zfm es
 all:∀q∈es,∃y e,WfS y/\q.key=zdQ y/\q.val=.pointer (some ⟨e,0,none⟩)/\D<=e/\e≠X/\DiscAt W e (fun k=>zfK c y (k:Int))
theorem zex {P:Program} {w:World} {b c:Nat} {es:Array MapEntry} {T U k e:TypeId} (hT:P.underlying T=some (.map k e)) (hb:w.heap[b]?=some (.map es c)):
 (Builtin.len_ #[T] U #[.map (some b)]).run P w=.ok (.int .i64 (es.size:Int)) w:=by
 unfold Builtin.len_;simp only[List.getElem?_toArray,List.getElem?_cons_zero];simp only[Sem.run_bind,run_underlying hT,Result.andThen,zdk hb,Sem.run_pure];rfl
def zb5 (W:World) (m:Nat) (c:Cl) (D X:Nat):Prop:=∃es k,W.heap[m]?=some (.map es k)/\PartE W c D X es.toList
theorem PartE.rls {S:Nat->Prop} {V Y:World} {c:Cl} {D X:Nat} {es:List MapEntry} (h:PartE V c D X es) (hr:RlS S V Y) (hS:∀k,S k->k<D\/k=X):PartE Y c D X es:=⟨h.one,fun q hq=>by
 obtain⟨y,e,h1,h2,h3,h4,h6,h5⟩:=h.all q hq;exact⟨y,e,h1,h2,h3,h4,h6,h5.rls hr (fun g=>by have:=hS e g;omega)⟩⟩
theorem zb5.rls {S:Nat->Prop} {V Y:World} {m:Nat} {c:Cl} {D X:Nat} (h:zb5 V m c D X) (hr:RlS S V Y) (hS:∀k,S k->k<D\/k=X) (hm:¬S m):zb5 Y m c D X:=by
 obtain⟨es,k,h1,h2⟩:=h;exact⟨es,k,(hr.block m (waL.1 h1).1 hm).trans h1,h2.rls hr hS⟩
theorem zkn {W:World} {c:Cl} {D X:Nat} {es:List MapEntry} (h:PartE W c D X es):∀q∈es,∃l,keyOf prog 224 q.key=some l:=fun q hq=>by
 obtain⟨y,e,h1,h2,_⟩:=h.all q hq;rw[h2];exact zkl h1
theorem PartE.other {W:World} {c:Cl} {D X Y:Nat} {es:List MapEntry} (h:PartE W c D X es) (hY:Y<D\/W.heap.size<=Y):PartE W c D Y es:=⟨h.one,fun q hq=>by
 obtain⟨y,e,h1,h2,h3,h4,h6,h5⟩:=h.all q hq;exact⟨y,e,h1,h2,h3,h4,(by have:=h5.lt;omega),h5⟩⟩
theorem zb5.other {W:World} {m:Nat} {c:Cl} {D X Y:Nat} (h:zb5 W m c D X) (hY:Y<D\/W.heap.size<=Y):zb5 W m c D Y:=by
 obtain⟨es,k,h1,h2⟩:=h;exact⟨es,k,h1,h2.other hY⟩
theorem PartE.nil (W:World) (c:Cl) (D X:Nat):PartE W c D X []:=⟨(fun q hq=>by cases hq),fun q hq=>by cases hq⟩
theorem PartE.push {W:World} {c:Cl} {D X:Nat} {es:Array MapEntry} (h:PartE W c D X es.toList) {x:LSt} (hx:WfS x) (hno:∀q∈es.toList,q.key≠zdQ x) {d n:Nat} (hd:D<=d) (hdX:d≠X) (hD:DiscAt W d (fun k=>zfK c x (k:Int))):
 PartE W c D X (es.push {key:=zdQ x,val:=.pointer (some ⟨d,0,none⟩),born:=n}).toList:=⟨h.one.push hno,fun q hq=>by
 rw[Array.toList_push,wbB,wbC] at hq;rcases hq with hq|rfl
 ·exact h.all q hq
 ·exact⟨x,d,hx,rfl,rfl,hd,hdX,hD⟩⟩
def zg2 (c:Cl) (x:LSt) (m D X:Nat) (W:World) (e:Ending) (W':World):Prop:=
 ∃d,e=.returned (.pointer (some ⟨d,0,none⟩))/\D<=d/\d≠X/\DiscAt W' d (fun k=>zfK c x (k:Int))/\zb5 W' m c D X/\RlS (·=m) W W'
theorem zci {W:World} {b o m k:Nat} {v:Value} {es:Array MapEntry} (hc:W.cell? ⟨b,o,none⟩=some v) (hm:W.heap[m]?=some (.map es k)):b≠m:=by
 rintro rfl;obtain⟨q,hq,hcells⟩:=cells_of_cell hc;rw[hm] at hq;cases hq;cases hcells
structure PartV (W V:World) (m ck:Nat) (es':Array MapEntry) (xs:Array Value):Prop where
 r:RlS (·=m) W V
 e:V.heap[m]?=some (.map es' ck)
 x:∀j v,xs[j]?=some v->V.cell? ⟨W.heap.size,j,none⟩=some v
 z:W.heap.size<V.heap.size
theorem PartV.drewN {W V:World} {m ck:Nat} {es':Array MapEntry} {xs:Array Value} (h:PartV W V m ck es' xs) (k:Nat):PartV W (V.drewN k) m ck es' xs:=⟨h.r.drewN k,h.e,h.x,h.z⟩
theorem PartV.first {W:World} {m ck:Nat} {es:Array MapEntry} (hE:W.heap[m]?=some (.map es ck)) (xs:Array Value) (t:TypeId):PartV W (W.alloc (.cells xs t)) m ck es xs:=
 ⟨(RlS.refl _ W).alloc _,(Below.heap_alloc _ _ _ (waL.1 hE).1).trans hE,fun j v hj=>zaa rfl hj,by simp⟩
theorem PartV.clear {W V:World} {m ck:Nat} {es':Array MapEntry} {xs:Array Value} (h:PartV W V m ck es' xs) (hm:m<W.heap.size):PartV W (V.putObj m (.map #[] ck)) m ck #[] xs:=
 ⟨h.r.put _ _ rfl,World.putObj_heap_same (Nat.lt_trans hm h.z),fun j v hj=>(wbK (World.putObj_heap_other (show W.heap.size≠m by omega))).trans (h.x j v hj),by simpa using h.z⟩
theorem zqi {c:Cl} {x:LSt} {m D X d ck:Nat} {W W1 W2 W3:World} {es:Array MapEntry} (hmD:m<D) (hD:D<=W.heap.size) (hX:X<W.heap.size) (h1:RlS (·=m) W W1) (hE:W1.heap[m]?=some (.map es ck)) (hes:PartE W1 c D X es.toList) (hno:∀q∈es.toList,q.key≠zdQ x) (hx:WfS x)
 (hq:Below W1.heap.size W1 W2) (hd:W1.heap.size<=d) (hdd:DiscAt W2 d (fun k=>zfK c x (k:Int))) (h3:W3=W2.putObj m (.map (es.push {key:=zdQ x,val:=.pointer (some ⟨d,0,none⟩),born:=ck}) (ck+1))):
 zg2 c x m D X W (.returned (.pointer (some ⟨d,0,none⟩))) W3:=by
 subst h3;have hr2:RlS (·=m) W1 W2:=(RlS.refl _ W1).below hq (waJ _);have hr3:RlS (·=m) W2 (W2.putObj m (.map (es.push {key:=zdQ x,val:=.pointer (some ⟨d,0,none⟩),born:=ck}) (ck+1))):=(RlS.refl _ W2).put _ _ rfl;have s1:=h1.size;have hlt:m<W1.heap.size:=(waL.1 hE).1;have hd3:=hdd.rls hr3 oQ;refine⟨d,rfl,by omega,by omega,hd3,⟨_,_,World.putObj_heap_same (waD hlt hq.size),PartE.push ((hes.rls hr2 oQ).rls hr3 oQ) hx hno oQ oQ hd3⟩,(h1.trans hr2).trans hr3⟩
theorem zqj (b bp i n cp cc m D X bA oA:Nat) (c:Cl) (x:LSt) (W:World) (hi:i<n) (hn:n<=8) (hcl:∀j v,(clA c)[j]?=some v->W.cell? ⟨bA,oA+i * 30+j,none⟩=some v) (hb:zbC c) (hs:c.s<=9223372036854775807) (hx:WfS x)
 (c0:W.cell? ⟨b,0,none⟩=some (.slice (some ⟨bA,oA,none⟩) n cc)) (c3:W.cell? ⟨b,3,none⟩=some (.slice (some ⟨bp,0,none⟩) n cp)) (pc:W.cell? ⟨bp,i,none⟩=some (.map (some m))) (hm:zb5 W m c D X) (hD:D<=W.heap.size) (hX:X<W.heap.size) (hmD:m<D) (hw:Tz W):
 Calls prog 206 #[.pointer (some ⟨b,0,none⟩),.int .i64 i,zdQ x] W (zg2 c x m D X W):=by
 obtain⟨es,ck,hE,hes⟩:=hm;have hT:prog.underlying 144=some (.map 224 82):=underlying144;have hkx:=zkl hx;have l0:=waR W _ c0;have l3:=waR W _ pc;have lA:bA<W.heap.size:=waR W _ (hcl 0 _ rfl);have lm:=(waL.1 hE).1;have hi':(i:Int)<(n:Int):=by omega
 have HT:=waV hT;have HI:=waV (zbV c);have HKx:=waV hkx;have Hes:=waV hes;have Hcl:=waV hcl;have Hx:=waV hx;have HS:=waV (fun V hV=>zlw c hb hs x hx.p1 V hV)
 rcases zmX (z:=.pointer none) hT (fun w=>rfl) zkm hkx (zkn hes) hes.one W hE with ⟨q,hq,hk,hl⟩|⟨hno,hl⟩
 ·have HR:Hid (∀V,Below W.heap.size W V->zg2 c x m D X W (.returned q.val) V):=fun V hV=>by
   obtain⟨y,e,h1,h2,h3,h4,h6,h5⟩:=hes.all q hq;obtain rfl:=zsC (hk.symm.trans h2);have hr:RlS (·=m) W V:=(RlS.refl _ W).below hV (waJ _);rw[h3];exact⟨e,rfl,h4,h6,h5.rls hr oQ,⟨es,ck,(hV.block m lm).trans hE,hes.rls hr oQ⟩,hr⟩
  clear hes hcl hb hs hx hkx hT hq hk;obtain⟨xa,xf,xu,xp⟩:=x;unfold zdQ at *;dsimp only at *;have hl1:∀k,(Instr.lookup 144 (.map (some m)) (.agg #[.bool xa,.int .i64 xf,.int .i64 xu,.int .i64 xp]) true).run prog ((W.alloc (.cells #[.bool xa,.int .i64 xf,.int .i64 xu,.int .i64 xp] 224)).drewN k)=.ok (.tuple #[q.val,.bool true]) ((W.alloc (.cells #[.bool xa,.int .i64 xf,.int .i64 xu,.int .i64 xp] 224)).drewN k):=fun k=>hl _ ((Below.heap_alloc _ _ _ lm).trans hE)
  clear hl HT HI HKx Hes Hcl Hx HS;generalize q.val=v at *;go_enter func206,ntmps206;go_wp2
  go_quiet (fail)
  go_wp2;go_ret;exact HR.out _ (by exact zaE)
 ·have HR:Hid (∀(W1 W2:World) (es':Array MapEntry) (ck' d:Nat),RlS (·=m) W W1->W1.heap[m]?=some (.map es' ck')->(es'=es\/es'=#[])->Below W1.heap.size W1 W2->W1.heap.size<=d->DiscAt W2 d (fun k=>zfK c x (k:Int))->
   (Instr.mapUpdate 144 (.map (some m)) (zdQ x) (.pointer (some ⟨d,0,none⟩))).run prog W2.drew=.ok () (W2.drew.putObj m (.map (es'.push {key:=zdQ x,val:=.pointer (some ⟨d,0,none⟩),born:=ck'}) (ck'+1)))/\
   (∀k,(Instr.mapUpdate 144 (.map (some m)) (zdQ x) (.pointer (some ⟨d,0,none⟩))).run prog (W2.drewN k)=.ok () ((W2.drewN k).putObj m (.map (es'.push {key:=zdQ x,val:=.pointer (some ⟨d,0,none⟩),born:=ck'}) (ck'+1))))/\
   ∀k,zg2 c x m D X W (.returned (.pointer (some ⟨d,0,none⟩))) ((W2.drewN k).putObj m (.map (es'.push {key:=zdQ x,val:=.pointer (some ⟨d,0,none⟩),born:=ck'}) (ck'+1)))):=fun W1 W2 es' ck' d hr1 hm1 he' hq hd hdd=>by
   have hno':∀q∈es'.toList,q.key≠zdQ x:=by
    rcases he' with rfl|rfl
    ·exact hno
    ·intro q hq;cases hq
   have hes':PartE W1 c D X es'.toList:=by
    rcases he' with rfl|rfl
    ·exact hes.rls hr1 oQ
    ·exact PartE.nil _ _ _ _
   have hm2:W2.heap[m]?=some (.map es' ck'):=(hq.block m (waL.1 hm1).1).trans hm1;have up:∀V:World,V.heap[m]?=some (.map es' ck')->_:=fun V hV=>zb3 (w:=V) (x:=zdQ x) (v:=.pointer (some ⟨d,0,none⟩)) hT hV (KeyRun.of_keyed zkm V) hkx (zkn hes') hno'
   exact⟨up _ hm2,fun k=>up _ hm2,fun k=>zqi hmD hD hX hr1 hm1 hes' hno' hx (zaj hq k) hd (hdd.same rfl) rfl⟩
  have hcl':=hcl;clear hes hcl hb hs hx hkx hT hno;obtain⟨xa,xf,xu,xp⟩:=x;unfold zdQ at *;dsimp only at *;have hl1:∀k,(Instr.lookup 144 (.map (some m)) (.agg #[.bool xa,.int .i64 xf,.int .i64 xu,.int .i64 xp]) true).run prog ((W.alloc (.cells #[.bool xa,.int .i64 xf,.int .i64 xu,.int .i64 xp] 224)).drewN k)=.ok (.tuple #[.pointer none,.bool false]) ((W.alloc (.cells #[.bool xa,.int .i64 xf,.int .i64 xu,.int .i64 xp] 224)).drewN k):=fun k=>hl _ ((Below.heap_alloc _ _ _ lm).trans hE)
  clear hl HKx Hes Hx;generalize (fun k:Nat=>zfK c ⟨xa,xf,xu,xp⟩ (k:Int))=R at *
  have hE1:∀k,(((W.alloc (.cells #[.bool xa,.int .i64 xf,.int .i64 xu,.int .i64 xp] 224)).drewN k)).heap[m]?=some (.map es ck):=fun k=>(Below.heap_alloc _ _ _ lm).trans hE
  have hln:∀k,(Builtin.len_ #[144] 3 #[.map (some m)]).run prog ((W.alloc (.cells #[.bool xa,.int .i64 xf,.int .i64 xu,.int .i64 xp] 224)).drewN k)=.ok (.int .i64 (es.size:Int)) ((W.alloc (.cells #[.bool xa,.int .i64 xf,.int .i64 xu,.int .i64 xp] 224)).drewN k):=fun k=>zex HT.out (hE1 k)
  have hcr:∀k,(Builtin.clear_ #[144] 0 #[.map (some m)]).run prog ((W.alloc (.cells #[.bool xa,.int .i64 xf,.int .i64 xu,.int .i64 xp] 224)).drewN k)=.ok (.tuple #[]) (((W.alloc (.cells #[.bool xa,.int .i64 xf,.int .i64 xu,.int .i64 xp] 224)).drewN k).putObj m (.map #[] ck)):=fun k=>zc4 HT.out (hE1 k)
  have HE1:=waV hE1;clear hE1;have n0:=zci c0 hE;have n3:=zci pc hE;have nA:=zci (hcl' 0 _ rfl) hE;have HV0:=waV (PartV.first hE #[.bool xa,.int .i64 xf,.int .i64 xu,.int .i64 xp] 224)
  have HC0:=waV c0;have HC3:=waV c3;have HPC:=waV pc;have HTz:=waV (fun V (hr:RlS (·=m) W V)=>Tz.rls hw hr (zci (hw 0 dQ) hE))
  generalize clA c=cs at *
  by_cases h6:es.size=256
  ·rw[h6] at hln;go_enter func206,ntmps206;go_wp2
   go_quiet (fail)
   go_wp2;have HV:=waV ((HV0.out.drewN nq).clear lm);clear hln hcr hl1 HV0 HE1 HT;generalize World.putObj _ _ _=V5 at *;have HRx:=waV (fun k W2 d=>HR.out (V5.drewN k) W2 #[] ck d (HV.out.r.drewN k) HV.out.e (.inr rfl))
   clear HR;generalize (#[]:Array MapEntry)=es5 at *;have f0:=HV.out.r.cell HC0.out n0;have f3:=HV.out.r.cell HC3.out n0;have fp:=HV.out.r.cell HPC.out n3;have x0:=HV.out.x 0 _ rfl;have x1:=HV.out.x 1 _ rfl;have x2:=HV.out.x 2 _ rfl;have x3:=HV.out.x 3 _ rfl;have HlA:Hid (∀W',(∃n,W'=V5.drewN n)->∀j v,cs[j]?=some v->W'.cell? ⟨bA,oA+i * 30+j,none⟩=some v):=fun W' hW' j v hj=>by
    obtain⟨k,rfl⟩:=hW';exact HV.out.r.cell (Hcl.out j v hj) nA
   clear HC0 HC3 HPC c0 c3 pc hE;refine za6 8 kQ dQ kQ kQ kQ kQ kQ kQ ?_;dsimp only[List.take,List.drop]
   (try simp only[Act.put,List.append,wbT,wbN])
   repeat (first|go_big_quiet_skip|(go_big_quiet_want;(first|((refine zcF 60 _ rfl cs bA (oA+i * 30) rfl underlying60 rfl HI.out HlA.out ?_);simp only[Act.put,wbU,wbV,wbW];go_big_quiet_on)|(go_big_quiet_op;(first|go_big_quiet_on|go_big_quiet_call (fail))))))
   refine wpQuiet_nil ?_;rintro _ ⟨nq,rfl⟩;go_wp2_with fail;refine(HS.out _ (Tz.drewN (HTz.out _ HV.out.r) nq)).mono ?_;rintro e w6 ⟨d,rfl,hd,hdd,hq⟩;have hq':Below V5.heap.size V5 w6:=Below.trans (zaj (waC _ V5) nq) hq;have g0:=((zad hq').1 _ _ (waR _ _ f0)).trans f0;have g3:=((zad hq').1 _ _ (waR _ _ f3)).trans f3;have gp:=((zad hq').1 _ _ (waR _ _ fp)).trans fp;have y0:=((zad hq').1 _ _ (waR _ _ x0)).trans x0;have y1:=((zad hq').1 _ _ (waR _ _ x1)).trans x1;have y2:=((zad hq').1 _ _ (waR _ _ x2)).trans x2;have y3:=((zad hq').1 _ _ (waR _ _ x3)).trans x3;obtain⟨_,hup,hret⟩:=HRx.out nq w6 d hq hd hdd;have HRet:=waV hret;clear hq hq' hd hdd hret HRx f0 f3 fp x0 x1 x2 x3 HlA HS HTz HV;go_wp2;refine za6 9 kQ dQ kQ kQ kQ kQ kQ kQ ?_;dsimp only[List.take,List.drop]
   (try simp only[Act.put,List.append,wbT,wbN])
   repeat (first|go_big_quiet_skip|(go_big_quiet_want;(first|(fail;simp only[Act.put,wbU,wbV,wbW];go_big_quiet_on)|(go_big_quiet_op;(first|go_big_quiet_on|go_big_quiet_call (fail))))))
   refine wpQuiet_nil ?_;rintro _ ⟨nq,rfl⟩;go_wp2;go_ret;exact HRet.out nq
  ·have h7:¬((es.size:Int)=256):=by omega
   go_enter func206,ntmps206;go_wp2
   go_quiet (fail)
   go_wp2;have HV:=waV (HV0.out.drewN nq);clear hln hcr hl1 HV0 HE1 HT;generalize World.drewN _ nq=V5 at *;have HRx:=waV (fun k W2 d=>HR.out (V5.drewN k) W2 es ck d (HV.out.r.drewN k) HV.out.e (.inl rfl))
   clear HR;have f0:=HV.out.r.cell HC0.out n0;have f3:=HV.out.r.cell HC3.out n0;have fp:=HV.out.r.cell HPC.out n3;have x0:=HV.out.x 0 _ rfl;have x1:=HV.out.x 1 _ rfl;have x2:=HV.out.x 2 _ rfl;have x3:=HV.out.x 3 _ rfl;have HlA:Hid (∀W',(∃n,W'=V5.drewN n)->∀j v,cs[j]?=some v->W'.cell? ⟨bA,oA+i * 30+j,none⟩=some v):=fun W' hW' j v hj=>by
    obtain⟨k,rfl⟩:=hW';exact HV.out.r.cell (Hcl.out j v hj) nA
   clear HC0 HC3 HPC c0 c3 pc hE;refine za6 8 kQ dQ kQ kQ kQ kQ kQ kQ ?_;dsimp only[List.take,List.drop]
   (try simp only[Act.put,List.append,wbT,wbN])
   repeat (first|go_big_quiet_skip|(go_big_quiet_want;(first|((refine zcF 60 _ rfl cs bA (oA+i * 30) rfl underlying60 rfl HI.out HlA.out ?_);simp only[Act.put,wbU,wbV,wbW];go_big_quiet_on)|(go_big_quiet_op;(first|go_big_quiet_on|go_big_quiet_call (fail))))))
   refine wpQuiet_nil ?_;rintro _ ⟨nq,rfl⟩;go_wp2_with fail;refine(HS.out _ (Tz.drewN (HTz.out _ HV.out.r) nq)).mono ?_;rintro e w6 ⟨d,rfl,hd,hdd,hq⟩;have hq':Below V5.heap.size V5 w6:=Below.trans (zaj (waC _ V5) nq) hq;have g0:=((zad hq').1 _ _ (waR _ _ f0)).trans f0;have g3:=((zad hq').1 _ _ (waR _ _ f3)).trans f3;have gp:=((zad hq').1 _ _ (waR _ _ fp)).trans fp;have y0:=((zad hq').1 _ _ (waR _ _ x0)).trans x0;have y1:=((zad hq').1 _ _ (waR _ _ x1)).trans x1;have y2:=((zad hq').1 _ _ (waR _ _ x2)).trans x2;have y3:=((zad hq').1 _ _ (waR _ _ x3)).trans x3;obtain⟨_,hup,hret⟩:=HRx.out nq w6 d hq hd hdd;have HRet:=waV hret;clear hq hq' hd hdd hret HRx f0 f3 fp x0 x1 x2 x3 HlA HS HTz HV;go_wp2;refine za6 9 kQ dQ kQ kQ kQ kQ kQ kQ ?_;dsimp only[List.take,List.drop]
   (try simp only[Act.put,List.append,wbT,wbN])
   repeat (first|go_big_quiet_skip|(go_big_quiet_want;(first|(fail;simp only[Act.put,wbU,wbV,wbW];go_big_quiet_on)|(go_big_quiet_op;(first|go_big_quiet_on|go_big_quiet_call (fail))))))
   refine wpQuiet_nil ?_;rintro _ ⟨nq,rfl⟩;go_wp2;go_ret;exact HRet.out nq
end Go.Proofs.YtllcdbgjeidlkaaGreatDoor
namespace Go.Proofs.YtllcdbgjeidlkaaGreatDoor
open Go.Proofs.Tryz
open Go.RowKit
theorem RlS.of_rl {X Y:World} {lo hi B:Nat} (hr:Rl lo hi B X Y) (h2:X.heap.size<=B):RlS (fun k=>lo<=k/\k<hi) X Y:=
 ⟨hr.os,hr.tape,hr.output,hr.size,fun i hi hs=>by
  rw[hr.block i _ (wbI hi) (by omega) (.inl (by omega)),wbI hi]⟩
theorem RlS.one {X Y:World} {b B:Nat} (hr:Rl b (b+1) B X Y) (h2:X.heap.size<=B):RlS (·=b) X Y:=(RlS.of_rl hr h2).mono fun k h=>by omega
theorem Arr.rls {S:Nat->Prop} {X Y:World} {b n:Nat} {g:Nat->Value} (h:Arr X b n g) (hr:RlS S X Y) (hb:b<X.heap.size) (hS:¬S b):Arr Y b n g:=
 ⟨fun j hj=>(wbK (hr.block b hb hS)).trans (h.1 j hj),fun j=>by
  have e:=hr.block b hb hS;have:=h.2 j;unfold World.frozen? at this ⊢;rw[e];exact this⟩
def zlx (L:List Cl) (x:Nat->LSt) (k s:Nat):Bool:=(List.range k).any fun i=>zfK (zeE L i) (x i) (s:Int)
theorem zia (L:List Cl) (x:Nat->LSt) (k s:Nat):zlx L x (k+1) s=(zlx L x k s||zfK (zeE L k) (x k) (s:Int)):=by
 unfold zlx;rw[List.range_succ,List.any_append];simp
def RollD.ps (d:RollD) (n j:Nat):Prop:=∃i,i<n/\j=d.pm i
structure MadeI (W V:World) (d:RollD) (L:List Cl) (D B dd:Nat) (x:Nat->LSt) (k:Nat):Prop where
 r:RlS (d.ps L.length) W V
 arr:Arr V B 32 (stG x)
 da:DiscAt V dd (zlx L x k)
 parts:∀i,i<L.length->zb5 V (d.pm i) (zeE L i) D dd
 zB:W.heap.size<=B/\B<V.heap.size
 zd:W.heap.size<=dd/\B≠dd
theorem zqk {L:List Cl} {i:Nat} {c:Cl} (h:L[i]?=some c):zeE L i=c:=by unfold zeE;rw[List.getD_eq_getElem?_getD,h];rfl
theorem zmY {L:List Cl} {i:Nat} (h:i<L.length):zeE L i∈L:=by
 unfold zeE;rw[List.getD_eq_getElem?_getD,waE h];exact List.getElem_mem h
theorem MadeI.idle {W V:World} {d:RollD} {L:List Cl} {D B dd:Nat} {x:Nat->LSt} {k:Nat} (H:MadeI W V d L D B dd x k) (ha:(x k).act=false):MadeI W V d L D B dd x (k+1):=
 {H with da:=H.da.congr fun s _=>by rw[zia,zfb _ ha,Bool.or_false]}
theorem zb5.blk {W:World} {m:Nat} {c:Cl} {D X:Nat} (h:zb5 W m c D X) {b o:Nat} {v:Value} (hc:W.cell? ⟨b,o,none⟩=some v):b≠m:=by
 obtain⟨es,k,h1,_⟩:=h;exact zci hc h1
theorem MadeI.join {W V V2 V3 V4:World} {d:RollD} {L:List Cl} {D B dd d2:Nat} {x:Nat->LSt} {k:Nat} {o:Obj} (H:MadeI W V d L D B dd x k) (hk:k<L.length) (hp:∀i j,i<L.length->j<L.length->d.pm i=d.pm j->i=j) (hpD:∀i,i<L.length->d.pm i<D) (hD:D<=W.heap.size)
 (h2:DiscAt V2 d2 (fun s=>zfK (zeE L k) (x k) (s:Int))) (hp2:zb5 V2 (d.pm k) (zeE L k) D dd) (hr:RlS (·=d.pm k) V V2) (h3:V3=V2.alloc o) (h4:DiscAt V4 dd (fun s=>zlx L x k s||zfK (zeE L k) (x k) (s:Int))) (hr4:Rl dd (dd+1) V3.heap.size V3 V4):MadeI W V4 d L D B dd x (k+1):=by
 subst h3;have s1:=H.r.size;have s2:=hr.size;have s4:=hr4.size;have hz:(V2.alloc o).heap.size=V2.heap.size+1:=by simp
 obtain⟨zB1,zB2⟩:=H.zB;obtain⟨zd1,zd2⟩:=H.zd;have r3:RlS (·=d.pm k) V (V2.alloc o):=hr.alloc _;have r4:=RlS.one hr4 (waJ _);have hpk:=hpD k hk;refine⟨((H.r.trans (hr.mono fun j hj=>⟨k,hk,hj⟩)).alloc _).rl hr4 zd1 oQ,(H.arr.rls r3 zB2 oQ).rls r4 oQ zd2,h4.congr fun s _=>(zia L x k s).symm,fun i hi=>?_,⟨zB1,by omega⟩,H.zd⟩
 have hpi:=hpD i hi;have hq:zb5 V2 (d.pm i) (zeE L i) D dd:=by
  by_cases e:i=k
  ·subst e;exact hp2
  ·exact(H.parts i hi).rls hr (fun j hj=>.inl (by rw[show j=d.pm k from hj];omega)) (fun g=>e (hp i k hi hk g))
 exact(hq.rls ((RlS.refl (fun _=>False) V2).alloc o) (fun j hj=>hj.elim) (fun g=>g)).rls r4 (fun j hj=>.inr hj) oQ
def zly (d:RollD) (L:List Cl) (D:Nat) (x:Nat->LSt) (W:World) (e:Ending) (W':World):Prop:=
 ∃q,e=.returned (.pointer (some ⟨q,0,none⟩))/\W.heap.size<=q/\DiscAt W' q (zbF L x)/\(∀i,i<L.length->zb5 W' (d.pm i) (zeE L i) D 0)/\RlS (d.ps L.length) W W'
theorem zko (d:RollD) (L:List Cl) (lo hi D:Nat) (x:Nat->LSt) (W:World) (hF:RollF W d L lo hi) (hiD:hi<=D) (hD:D<=W.heap.size) (hP:∀i,i<L.length->zb5 W (d.pm i) (zeE L i) D 0) (hx:∀i,i<8->WfS (x i)) (hw:Tz W) (hlo:0<lo):
 Calls prog 149 #[.pointer (some ⟨d.b,0,none⟩),zbW x] W (zly d L D x W):=by
 have hn8:=hF.n8;have HFd:=waV hF;have HP:=waV hP;have HX:=waV hx;have c0:=hF.c0;have HJ:=waV (fun b b2 B o c p q w=>zp9 b b2 B o c p q w)
 have HO:=waV (fun V=>zi4 0 V)
 have HTz:=waV (fun V (hr:RlS (d.ps L.length) W V)=>Tz.rls hw hr (by
  rintro ⟨i,hi,e⟩;exact(hP i hi).blk (hw 0 dQ) e))
 have hsz:=zaS x;have HA0:Hid (∀t,Arr (W.alloc (.cells (zb4 x) t)) W.heap.size 32 (stG x)):=fun t=>by
  have h:=zdq W (zb4 x) t (stG x) (fun j hj=>zc5 x j (by rwa [zaS] at hj))
  rwa [zaS] at h
 have HE:Hid (zbF L x=zlx L x L.length):=rfl;unfold zbW;have lb:=waR W _ c0;generalize hb:d.b=b at *;obtain⟨n,hn⟩:∃n,n=L.length:=⟨_,rfl⟩;rw[<-hn] at c0 hn8;have hlb:=hF.lb0;have HN:=waV hn;generalize hcc:d.cc=cc at *;generalize hA:d.A=A at *;generalize zb4 x=xs at *;go_enter func149,ntmps149;go_wp2_with fail;refine(HO.out _).mono ?_;rintro e w1 ⟨rfl,hd1,hq1⟩;have hq0:Below W.heap.size W w1:=Below.trans ((waC _ W).alloc (waJ _) _) (hq1.mono (by simp))
 have hI:Hid (MadeI W w1 d L D W.heap.size (W.heap.size+1) x 0):=by
  have hz:(W.alloc (.cells xs 240)).heap.size=W.heap.size+1:=by simp
  rw[hz] at hd1 hq1;have s1:=hq1.size;rw[hz] at s1;have r0:RlS (d.ps L.length) W w1:=((RlS.refl _ W).below hq0 (waJ _));exact⟨r0,Arr.below (HA0.out _) (by simp) (hq1.mono (by simp)),hd1.congr fun s _=>rfl,fun i hi=>((HP.out i hi).other (.inr (Nat.le_succ _))).rls ((RlS.refl (fun _=>False) W).below hq0 (waJ _)) (fun j hj=>hj.elim) (fun g=>g),⟨waJ _,by omega⟩,⟨by omega,by omega⟩⟩
 have c0':=((zad hq0).1 _ _ lb).trans c0;clear hd1 hq1 hq0 HO HA0;go_wp2
 go_loopw [13] (fun i wr=>∃k:Nat,k<=n/\i=.int .i64 (k:Int)/\Hid (MadeI W wr d L D W.heap.size (W.heap.size+1) x k)) (fun i _=>n - (intOf i).toNat)
 case atStart=>exact⟨0,waK _,rfl,hI⟩
 case round=>
  obtain⟨k,hk,rfl,H⟩:=hrel;clear hI c0'
  by_cases hlt:k<n
  ·have hlt':(k:Int)<(n:Int):=by omega
   have hkL:k<L.length:=by omega
   have c1:=H.out.r.cell c0 (by rintro ⟨i,hi,e⟩;exact(HP.out i hi).blk c0 e)
   have hAr:=H.out.arr;have t0:wr.cell? ⟨W.heap.size,k * 4,none⟩=some (.bool (x k).act):=by
    rw[hAr.1 (k * 4) (by omega)];unfold stG;rw[show (k * 4)%4=0 by omega,show k * 4 / 4=k by omega];rfl
   have t1:wr.cell? ⟨W.heap.size,k * 4+1,none⟩=some (.int .i64 (x k).fr):=by
    rw[hAr.1 (k * 4+1) (by omega)];unfold stG;rw[show (k * 4+1)%4=1 by omega,show(k * 4+1) / 4=k by omega];rfl
   have t2:wr.cell? ⟨W.heap.size,k * 4+2,none⟩=some (.int .i64 (x k).un):=by
    rw[hAr.1 (k * 4+2) (by omega)];unfold stG;rw[show (k * 4+2)%4=2 by omega,show(k * 4+2) / 4=k by omega];rfl
   have t3:wr.cell? ⟨W.heap.size,k * 4+3,none⟩=some (.int .i64 (x k).ph):=by
    rw[hAr.1 (k * 4+3) (by omega)];unfold stG;rw[show (k * 4+3)%4=3 by omega,show(k * 4+3) / 4=k by omega];rfl
   clear hAr;have hk8:k<8:=by omega
   cases ha:(x k).act with
   |false=>
    rw[ha] at t0;have H2:=waV (H.out.idle ha);clear t1 t2 t3 H;go_wp2;go_roundw
    case rel=>exact⟨k+1,by omega,rfl,H2⟩
    case measure=>simp [intOf];omega
   |true=>
    rw[ha] at t0;have hcall:Hid (Calls prog 206 #[.pointer (some ⟨b,0,none⟩),.int .i64 k,.agg #[.bool true,.int .i64 (x k).fr,.int .i64 (x k).un,.int .i64 (x k).ph]] wr (zg2 (zeE L k) (x k) (d.pm k) D (W.heap.size+1) wr)):=by
     subst hb hcc hA;have hnp:∀j,¬d.mv L.length j->¬d.ps L.length j:=fun j h g=>h (.inr (.inr g))
     obtain⟨p1,p2,p3,p4⟩:=HFd.out.ap oQ;obtain⟨bA,oA,c,hA1,hA2,hA3,hA4⟩:=zbh.at_ HFd.out.rd hkL
     have hAm:=(HFd.out.rA _ oQ hA1).2.2;have ec:=zqk hA3;have hm:=zmY hkL;have nb:¬d.ps L.length d.b:=by rintro ⟨i,hi,e⟩;exact(HP.out i hi).blk HFd.out.c0 e
     have s1:=H.out.r.size;rw[hA1] at c1;have c3:=H.out.r.cell HFd.out.c3 nb;rw[p1] at c3;rw[hn] at c1;have h:=zqj d.b d.bp k L.length d.cp d.cc (d.pm k) D (W.heap.size+1) bA oA (zeE L k) (x k) wr hkL HFd.out.n8 (by rw[ec];exact fun j v hj=>H.out.r.cell (hA4 j v hj) (hnp _ hAm)) (HFd.out.bits _ hm).1 (HFd.out.bits _ hm).2 (HX.out k hk8) c1 c3 (H.out.r.cell (HFd.out.pc k hkL) (hnp _ p4)) (H.out.parts k hkL) (by omega) (Nat.lt_of_le_of_lt (waJ _) H.out.da.lt) (by have:=HFd.out.lp k hkL;omega) (HTz.out _ H.out.r)
     unfold zdQ at h;rw[ha] at h;exact h
    go_wp2_with fail;refine hcall.out.mono ?_;rintro e w2 ⟨d2,rfl,hD2,hX2,hdd,hp2,hr2⟩;go_wp2_with fail;have hnx:W.heap.size+1≠d.pm k:=by have:=HFd.out.lp k hkL;omega
    refine(HJ.out (W.heap.size+1) d2 w2.heap.size 0 1 (zlx L x k) _ _ ((H.out.da.rls hr2 hnx).below ((waC _ _).alloc (waJ _) _)) (hdd.below ((waC _ _).alloc (waJ _) _)) hX2 (zaa rfl rfl)).mono ?_;rintro e w4 ⟨rfl,h4,hr4⟩;have H2:=waV (H.out.join hkL HFd.out.pne (fun i hi=>by have:=HFd.out.lp i hi;omega) hD hdd hp2 hr2 rfl h4 hr4)
    clear t0 t1 t2 t3 H hdd hp2 hr2 h4 hr4 hcall;go_wp2;go_roundw
    case rel=>exact⟨k+1,by omega,rfl,H2⟩
    case measure=>simp [intOf];omega
  ·have e:k=n:=by omega
   subst e;have hlt':¬((k:Int)<(k:Int)):=by omega
   go_wp2;go_ret;refine⟨_,rfl,by omega,?_,?_,?_⟩
   ·rw[HE.out,<-hn];exact H.out.da
   ·exact fun i hi=>(H.out.parts i hi).other (.inl oQ)
   ·exact H.out.r
end Go.Proofs.YtllcdbgjeidlkaaGreatDoor
