/- A part of the proof: WMeet0 -/
import Derived.Test.YtllcdbgjeidlkaaGreatDoorT20
import Derived.Test.YtllcdbgjeidlkaaGreatDoorT15
import Derived.Test.YtllcdbgjeidlkaaGreatDoorT09
import Derived.Test.YtllcdbgjeidlkaaGreatDoorT05
import Derived.Test.YtllcdbgjeidlkaaGreatDoorT12
import Derived.Test.YtllcdbgjeidlkaaGreatDoorT14
import Derived.Test.YtllcdbgjeidlkaaGreatDoorT00
import Derived.Test.YtllcdbgjeidlkaaGreatDoorT11
set_option maxHeartbeats 80000000
set_option maxRecDepth 100000
set_option linter.unusedSimpArgs false
set_option linter.unusedVariables false
namespace Go.Proofs.YtllcdbgjeidlkaaGreatDoor
open Go.Proofs.Tryz
open Go.RowKit
open Go.Maps
structure FineE (W:World) (D:Nat) (h:Bool->Bool->Bool) (es:List MapEntry):Prop where
 one:zfm es
 all:∀q∈es,∃v1 v2 p1 p2,q.key=.agg #[v1,v2]/\q.val=.bool true/\zbp W D v1 p1/\zbp W D v2 p2/\zcO (fun x=>h (p1 x) (p2 x)) 0
theorem FineE.rls {S:Nat->Prop} {W V:World} {D:Nat} {h:Bool->Bool->Bool} {es:List MapEntry} (k:FineE W D h es) (hr:RlS S W V) (hS:∀k,S k->k<D):FineE V D h es:=⟨k.one,fun q hq=>by
 obtain⟨v1,v2,p1,p2,h1,h2,h3,h4,h5⟩:=k.all q hq;exact⟨v1,v2,p1,p2,h1,h2,h3.rls hr hS,h4.rls hr hS,h5⟩⟩
theorem FineE.nil (W:World) (D:Nat) (h:Bool->Bool->Bool):FineE W D h []:=⟨(fun q hq=>by cases hq),fun q hq=>by cases hq⟩
theorem zbp.ptr {W:World} {D:Nat} {v:Value} {p:Nat->Bool} (h:zbp W D v p):zwN W v:=by
 rcases h with ⟨h,_⟩|⟨b,h1,_,h3⟩
 ·exact .inl h
 ·obtain⟨cs,hc⟩:=h3.obj;exact .inr ⟨b,cs,_,h1,hc⟩
theorem zqr {p q:Nat->Bool} (h:∀j,j<1350->zau p j=zau q j):zgY p q:=fun x hx=>by
 have h1:=zb2 p (x / 64) (x%64) (Nat.mod_lt _ dQ);have h2:=zb2 q (x / 64) (x%64) (Nat.mod_lt _ dQ);rw[h (x / 64) (by omega),h2] at h1
 rw[show 64 * (x / 64)+x%64=x by omega] at h1
 exact h1.symm
theorem zbp.same {W:World} {D D':Nat} {v:Value} {p q:Nat->Bool} (h:zbp W D v p) (k:zbp W D' v q):zgY p q:=by
 rcases h with ⟨rfl,h⟩|⟨b,rfl,_,h⟩<;>rcases k with ⟨e,k⟩|⟨b',e,_,k⟩
 ·exact fun x hx=>by rw[h x hx,k x hx]
 ·cases e
 ·cases e
 ·cases e;refine zqr fun j hj=>?_
  have h1:=h.cells j hj;rw[k.cells j hj] at h1
  injection h1 with h1
  injection h1 with _ h1
  omega
theorem zcO.same {p q p' q':Nat->Bool} {h:Bool->Bool->Bool} (k:zcO (fun x=>h (p x) (q x)) 0) (h1:zgY p p') (h2:zgY q q'):zcO (fun x=>h (p' x) (q' x)) 0:=fun y h0 hy=>by
 have:=k y h0 hy;show h (p' y) (q' y)=false;rw[<-h1 y hy,<-h2 y hy];exact this
theorem zkq {W:World} {D:Nat} {h:Bool->Bool->Bool} {es:List MapEntry} (k:FineE W D h es):∀q∈es,zg3 W q.key:=fun q hq=>by
 obtain⟨v1,v2,p1,p2,h1,h2,h3,h4,h5⟩:=k.all q hq;exact⟨v1,v2,h1,h3.ptr,h4.ptr⟩
theorem FineE.push {W:World} {D:Nat} {h:Bool->Bool->Bool} {es:Array MapEntry} (k:FineE W D h es.toList) {v1 v2:Value} {p1 p2:Nat->Bool} (hno:∀q∈es.toList,q.key≠.agg #[v1,v2]) (h1:zbp W D v1 p1) (h2:zbp W D v2 p2) (h3:zcO (fun x=>h (p1 x) (p2 x)) 0) {n:Nat}:
 FineE W D h (es.push {key:=.agg #[v1,v2],val:=.bool true,born:=n}).toList:=⟨k.one.push hno,fun q hq=>by
 rw[Array.toList_push,wbB,wbC] at hq;rcases hq with hq|rfl
 ·exact k.all q hq
 ·exact⟨v1,v2,p1,p2,rfl,rfl,h1,h2,h3⟩⟩
structure AskD where
 b:Nat
 fm:Nat
 g:Nat
 d1:RollD
 d2:RollD
 lo1:Nat
 hi1:Nat
 lo2:Nat
 hi2:Nat
 D:Nat
def AskD.mv (x:AskD) (n1 n2 k:Nat):Prop:=k=x.b\/k=x.fm\/x.d1.mv n1 k\/x.d2.mv n2 k
def zqs (g:Nat) (h:Bool->Bool->Bool):Prop:=(∀args w,(callFunc g args).run prog w=.ok (.enter g args) w)/\∀va vb p q w,Tz w->zdN w va p->zdN w vb q->Calls prog g #[va,vb] w (zgQ (fun x=>h (p x) (q x)) 0 w)
structure MeetAt (W:World) (x:AskD) (L1 L2:List Cl) (h:Bool->Bool->Bool) (f1 u1 f2 u2:Int):Prop where
 c0:W.cell? ⟨x.b,0,none⟩=some (.pointer (some ⟨x.d1.b,0,none⟩))
 c1:W.cell? ⟨x.b,1,none⟩=some (.pointer (some ⟨x.d2.b,0,none⟩))
 c2:W.cell? ⟨x.b,2,none⟩=some (.func (.func x.g) #[] #[])
 c3:W.cell? ⟨x.b,3,none⟩=some (.map (some x.fm))
 c4:∃z,W.cell? ⟨x.b,4,none⟩=some (.int .i64 z)
 c5:W.cell? ⟨x.b,5,none⟩=some (.int .i64 f1)
 c6:W.cell? ⟨x.b,6,none⟩=some (.int .i64 u1)
 c7:W.cell? ⟨x.b,7,none⟩=some (.int .i64 f2)
 c8:W.cell? ⟨x.b,8,none⟩=some (.int .i64 u2)
 fz:∀j,W.frozen? ⟨x.b,j,none⟩=false
 r1:RollAt W x.d1 L1 x.lo1 x.hi1 x.D
 r2:RollAt W x.d2 L2 x.lo2 x.hi2 x.D
 ap:x.hi1<=x.lo2
 bf:x.b≠x.fm/\x.b<x.lo1/\x.fm<x.lo1/\x.lo1<=x.hi1/\0<x.b/\0<x.fm
 fine:∃es k,W.heap[x.fm]?=some (.map es k)/\FineE W x.D h es.toList
 fnd:zqs x.g h
theorem MeetAt.mb {W:World} {x:AskD} {L1 L2:List Cl} {h:Bool->Bool->Bool} {f1 u1 f2 u2:Int} (k:MeetAt W x L1 L2 h f1 u1 f2 u2):∀j,x.mv L1.length L2.length j->j<x.D/\j≠0:=by
 have b1:=k.bf;have h1:=k.r1.hiD;have h2:=k.r2.hiD;have t1:=k.r1.tl;have t2:=k.r2.tl;rintro j (rfl|rfl|h|h)
 ·omega
 ·omega
 ·have:=k.r1.f.mb j h;omega
 ·have:=k.r2.f.mb j h;omega
theorem MeetAt.below {W V:World} {x:AskD} {L1 L2:List Cl} {h:Bool->Bool->Bool} {f1 u1 f2 u2:Int} (k:MeetAt W x L1 L2 h f1 u1 f2 u2) (hb:Below W.heap.size W V):MeetAt V x L1 L2 h f1 u1 f2 u2:=by
 have hr:RlS (fun _=>False) W V:=(RlS.refl _ W).below hb (waJ _)
 have nf:¬False:=fun g=>g
 have hlt:=waR W _ k.c0;refine⟨hr.cell k.c0 nf,hr.cell k.c1 nf,hr.cell k.c2 nf,hr.cell k.c3 nf,?_,hr.cell k.c5 nf,hr.cell k.c6 nf,hr.cell k.c7 nf,hr.cell k.c8 nf,fun j=>(zaX hr hlt nf).trans (k.fz j),k.r1.below hb,k.r2.below hb,k.ap,k.bf,?_,k.fnd⟩
 ·obtain⟨z,hz⟩:=k.c4;exact⟨z,hr.cell hz nf⟩
 ·obtain⟨es,n,h1,h2⟩:=k.fine;exact⟨es,n,(hr.block _ (waL.1 h1).1 nf).trans h1,h2.rls hr (fun _ g=>g.elim)⟩
theorem MeetAt.turn1 {W V:World} {x:AskD} {L1 L2:List Cl} {h:Bool->Bool->Bool} {f1 u1 f2 u2:Int} (k:MeetAt W x L1 L2 h f1 u1 f2 u2) (hr:RlS (x.d1.mv L1.length) W V) (hR:RollAt V x.d1 L1 x.lo1 x.hi1 x.D):MeetAt V x L1 L2 h f1 u1 f2 u2:=by
 have hb:=k.bf;have hmb:=k.r1.f.mb;have hap:=k.ap;have hD:=k.r1.hiD;have t1:=k.r1.tl;have nf:¬x.d1.mv L1.length x.b:=fun g=>by have:=hmb _ g;omega
 have nm:¬x.d1.mv L1.length x.fm:=fun g=>by have:=hmb _ g;omega
 have hlt:=waR W _ k.c0;refine⟨hr.cell k.c0 nf,hr.cell k.c1 nf,hr.cell k.c2 nf,hr.cell k.c3 nf,?_,hr.cell k.c5 nf,hr.cell k.c6 nf,hr.cell k.c7 nf,hr.cell k.c8 nf,fun j=>(zaX hr hlt nf).trans (k.fz j),hR,k.r2.apart hr (fun j g=>by have:=hmb _ g;omega) (fun g=>by have:=hmb _ g;omega),k.ap,k.bf,?_,k.fnd⟩
 ·obtain⟨z,hz⟩:=k.c4;exact⟨z,hr.cell hz nf⟩
 ·obtain⟨es,n,h1,h2⟩:=k.fine;exact⟨es,n,(hr.block _ (waL.1 h1).1 nm).trans h1,h2.rls hr (fun j g=>by have:=hmb _ g;omega)⟩
theorem MeetAt.turn2 {W V:World} {x:AskD} {L1 L2:List Cl} {h:Bool->Bool->Bool} {f1 u1 f2 u2:Int} (k:MeetAt W x L1 L2 h f1 u1 f2 u2) (hr:RlS (x.d2.mv L2.length) W V) (hR:RollAt V x.d2 L2 x.lo2 x.hi2 x.D):MeetAt V x L1 L2 h f1 u1 f2 u2:=by
 have hb:=k.bf;have hmb:=k.r2.f.mb;have hap:=k.ap;have hD:=k.r2.hiD;have t1:=k.r2.tl;have nf:¬x.d2.mv L2.length x.b:=fun g=>by have:=hmb _ g;omega
 have nm:¬x.d2.mv L2.length x.fm:=fun g=>by have:=hmb _ g;omega
 have hlt:=waR W _ k.c0;refine⟨hr.cell k.c0 nf,hr.cell k.c1 nf,hr.cell k.c2 nf,hr.cell k.c3 nf,?_,hr.cell k.c5 nf,hr.cell k.c6 nf,hr.cell k.c7 nf,hr.cell k.c8 nf,fun j=>(zaX hr hlt nf).trans (k.fz j),k.r1.apart hr (fun j g=>by have:=hmb _ g;omega) (fun g=>by have:=hmb _ g;omega),hR,k.ap,k.bf,?_,k.fnd⟩
 ·obtain⟨z,hz⟩:=k.c4;exact⟨z,hr.cell hz nf⟩
 ·obtain⟨es,n,h1,h2⟩:=k.fine;exact⟨es,n,(hr.block _ (waL.1 h1).1 nm).trans h1,h2.rls hr (fun j g=>by have:=hmb _ g;omega)⟩
theorem MeetAt.putF {W:World} {x:AskD} {L1 L2:List Cl} {h:Bool->Bool->Bool} {f1 u1 f2 u2:Int} (k:MeetAt W x L1 L2 h f1 u1 f2 u2) {es:Array MapEntry} {n:Nat} (hes:FineE W x.D h es.toList):MeetAt (W.putObj x.fm (.map es n)) x L1 L2 h f1 u1 f2 u2:=by
 have hr:RlS (·=x.fm) W (W.putObj x.fm (.map es n)):=(RlS.refl _ W).put _ _ rfl;obtain⟨b0,b1,b2,b3,b4,b5⟩:=k.bf;have hap:=k.ap;have h1:=k.r1.hiD;have h2:=k.r2.hiD;have l1:=k.r1.f.lb0;have l2:=k.r2.f.lb0;have hlt:=waR W _ k.c0;refine⟨hr.cell k.c0 b0,hr.cell k.c1 b0,hr.cell k.c2 b0,hr.cell k.c3 b0,?_,hr.cell k.c5 b0,hr.cell k.c6 b0,hr.cell k.c7 b0,hr.cell k.c8 b0,fun j=>(zaX hr hlt b0).trans (k.fz j),k.r1.apart hr (fun j g=>by have:j=x.fm:=g;omega) (fun g=>by have:_=x.fm:=g;omega),k.r2.apart hr (fun j g=>by have:j=x.fm:=g;omega) (fun g=>by have:_=x.fm:=g;omega),k.ap,k.bf,?_,k.fnd⟩
 ·obtain⟨z,hz⟩:=k.c4;exact⟨z,hr.cell hz b0⟩
 ·obtain⟨es',n',h1,_⟩:=k.fine;exact⟨es,n,World.putObj_heap_same (waL.1 h1).1,hes.rls hr (fun j g=>by have:j=x.fm:=g;omega)⟩
theorem MeetAt.count {W:World} {x:AskD} {L1 L2:List Cl} {h:Bool->Bool->Bool} {f1 u1 f2 u2:Int} (k:MeetAt W x L1 L2 h f1 u1 f2 u2) (z:Int):MeetAt (W.setCell ⟨x.b,4,none⟩ (.int .i64 z)) x L1 L2 h f1 u1 f2 u2:=by
 have hr:RlS (·=x.b) W (W.setCell ⟨x.b,4,none⟩ (.int .i64 z)):=(RlS.refl _ W).set _ _ rfl;obtain⟨b0,b1,b2,b3,b4,b5⟩:=k.bf;have hap:=k.ap;have h1:=k.r1.hiD;have h2:=k.r2.hiD;have l1:=k.r1.f.lb0;have l2:=k.r2.f.lb0;have o:∀j,j≠4->(W.setCell ⟨x.b,4,none⟩ (.int .i64 z)).cell? ⟨x.b,j,none⟩=W.cell? ⟨x.b,j,none⟩:=fun j hj=>waU _ _ _ _ (fun g=>hj (by injection g with _ g _;exact g.symm))
 refine⟨(o 0 dQ).trans k.c0,(o 1 dQ).trans k.c1,(o 2 dQ).trans k.c2,(o 3 dQ).trans k.c3,?_,(o 5 dQ).trans k.c5,(o 6 dQ).trans k.c6,(o 7 dQ).trans k.c7,(o 8 dQ).trans k.c8,fun j=>(waS _ _ _ _).trans (k.fz j),k.r1.apart hr (fun j g=>by have:j=x.b:=g;omega) (fun g=>by have:_=x.b:=g;omega),k.r2.apart hr (fun j g=>by have:j=x.b:=g;omega) (fun g=>by have:_=x.b:=g;omega),k.ap,k.bf,?_,k.fnd⟩
 ·obtain⟨z',hz⟩:=k.c4;exact⟨z,waT _ _ _ hz⟩
 ·obtain⟨es',n',h1,h2⟩:=k.fine;exact⟨es',n',(hr.block _ (waL.1 h1).1 (fun g=>b0 (by exact(show x.fm=x.b from g).symm))).trans h1,h2.rls hr (fun j g=>by have:j=x.b:=g;omega)⟩
end Go.Proofs.YtllcdbgjeidlkaaGreatDoor
namespace Go.Proofs.YtllcdbgjeidlkaaGreatDoor
open Go.Proofs.Tryz
open Go.RowKit
def zvL (f t:Int) (w:World) (e:Ending) (w':World):Prop:=
 ∃b1 b2,e=.returned (.func (.func 144) #[] #[.pointer (some ⟨b1,0,none⟩),.pointer (some ⟨b2,0,none⟩)])/\w.heap.size<=b1/\w.heap.size<=b2/\b1≠b2/\w'.cell? ⟨b1,0,none⟩=some (.int .i64 (mxI f 0))/\w'.cell? ⟨b2,0,none⟩=some (.int .i64 (mnI t 146096))/\Below w.heap.size w w'
theorem zs4 (w:World) (x y:Value) (t t':TypeId):(((w.alloc (.cells #[x] t)).alloc (.cells #[y] t')).drew).cell? ⟨w.heap.size,0,none⟩=some x:=by
 have h:=(zad ((waC _ (w.alloc (.cells #[x] t))).alloc (waJ _) (.cells #[y] t'))).1 w.heap.size 0 (by simp)
 exact h.trans (zaa rfl rfl)
theorem zs5 (w:World) (x y:Value) (t t':TypeId):(((w.alloc (.cells #[x] t)).alloc (.cells #[y] t')).drew).cell? ⟨w.heap.size+1,0,none⟩=some y:=by
 have h:(w.alloc (.cells #[x] t)).heap.size=w.heap.size+1:=by simp
 rw[<-h];exact zaa rfl rfl
theorem zkr (f t:Int) (w:World):Calls prog 80 #[.int .i64 f,.int .i64 t] w (zvL f t w):=by
 go_enter func80,ntmps80;go_wp2_with fail
 go_region
 all_goals go_wp2
 all_goals go_ret
 all_goals (
  refine⟨w.heap.size,w.heap.size+1,rfl,waJ _,by omega,by omega,?_,?_,by exact zaE⟩
  ·unfold mxI;rw[zs4];congr 2;split<;>omega
  ·unfold mnI;rw[zs5];congr 2;split<;>omega)
end Go.Proofs.YtllcdbgjeidlkaaGreatDoor
namespace Go.Proofs.YtllcdbgjeidlkaaGreatDoor
open Go.Proofs.Tryz
theorem zvM {n y:Int} (h:0<=n) (h1:n<146097) (a:jan y<=n) (b:n<jan (y+1)):yD n=y:=by
 obtain⟨c,d,_⟩:=zce h h1
 false_or_by_contra
 rcases Int.lt_or_gt_of_ne ‹_› with e|e
 ·have:=zgh (a:=yD n+1) (b:=y) oQ;omega
 ·have:=zgh (a:=y+1) (b:=yD n) oQ;omega
theorem zs6 {n m:Int} (h:0<=n) (h1:n<146097) (m1:1<=m) (m2:m<=12) (a:jan (yD n)+zcB (yD n) m<=n) (b:n<jan (yD n)+zcB (yD n) (m+1)):mD n=m:=by
 obtain⟨_,_,c,d,_⟩:=zce h h1;obtain⟨_,e1,e2,_⟩:=zds h h1
 false_or_by_contra
 rcases Int.lt_or_gt_of_ne ‹_› with e|e
 ·have:=zbM (y:=yD n) (a:=mD n+1) (b:=m) oQ oQ oQ;omega
 ·have:=zbM (y:=yD n) (a:=m+1) (b:=mD n) oQ oQ oQ;omega
theorem zlB {n y m d:Int} (h:0<=n) (h1:n<146097) (m1:1<=m) (m2:m<=12) (d1:1<=d) (d2:d<=zbt y m) (e:n=jan y+zcB y m+d - 1):yD n=y/\mD n=m/\dD n=d:=by
 have c1:=zbM (y:=y) (a:=1) (b:=m) oQ m1 oQ;have c2:=zbM (y:=y) (a:=m+1) (b:=13) oQ oQ oQ;have c3:=zdV (y:=y) m1 m2;rw[zdr] at c1;rw[ze4] at c2;have hy:=zvM h h1 (y:=y) oQ (by have:=ze3 y;omega)
 have hm:=zs6 h h1 m1 m2 (by rw[hy];omega) (by rw[hy];omega)
 have hj:=(zds h h1).1;rw[hy,hm] at hj;exact⟨hy,hm,by omega⟩
theorem zg4 {n:Int} (h:0<=n) (h1:n+1<146097):
 (dD n+1<=zbt (yD n) (mD n)->yD (n+1)=yD n/\mD (n+1)=mD n/\dD (n+1)=dD n+1)/\
 (¬dD n+1<=zbt (yD n) (mD n)->mD n<12->yD (n+1)=yD n/\mD (n+1)=mD n+1/\dD (n+1)=1/\zcB (yD n) (mD n+1)=zcB (yD n) (mD n)+dD n)/\
 (¬dD n+1<=zbt (yD n) (mD n)->¬mD n<12->yD (n+1)=yD n+1/\mD (n+1)=1/\dD (n+1)=1):=by
 obtain⟨hj,m1,m2,d1,d2⟩:=zds h oQ;have c3:=zdV (y:=yD n) m1 m2;refine⟨fun hl=>zlB oQ h1 m1 m2 oQ hl oQ,fun hl hm=>?_,fun hl hm=>?_⟩
 ·obtain⟨a,b,c⟩:=zlB (n:=n+1) (y:=yD n) (m:=mD n+1) (d:=1) oQ h1 oQ oQ oQ (by have:=zcC (y:=yD n) (m:=mD n+1) oQ oQ;omega) oQ
  exact⟨a,b,c,by omega⟩
 ·have e12:mD n=12:=by omega
  rw[e12] at c3 hj hl d2;have c13:=ze4 (yD n);have js:=ze3 (yD n);have c1:=zdr (yD n+1);rw[show (12:Int)+1=13 from rfl] at c3
  exact zlB oQ h1 oQ oQ oQ (by have:=zcC (y:=yD n+1) (m:=1) oQ oQ;omega) oQ
def zcX (a b:Int):List Int:=zgl a (b+1 - a).toNat
theorem zcu {a b x:Int}:x∈zcX a b↔a<=x/\x<=b:=by unfold zcX;rw[zbQ];omega
theorem zg5 (a b:Int):(zcX a b).length=(b+1 - a).toNat:=by simp[zcX,zgl]
end Go.Proofs.YtllcdbgjeidlkaaGreatDoor
namespace Go.Proofs.YtllcdbgjeidlkaaGreatDoor
open Go.Proofs.Tryz
open Go.RowKit Go.Shelf
attribute [local go_sem] Oper.semAt_some
theorem zbX {β:Type} {B:Nat} {J:β->World->Prop} (h:AbidesFrom B J) {s:β} {X Y:World} (hs:J s X) (hb:Below X.heap.size X Y):J s Y:=
 h s X Y none hs ⟨hb.os,hb.tape,hb.output,hb.size,fun k hk _=>hb.block k hk⟩ (fun r e=>by cases e)
def zqt (a z:Int) (k:Nat) (h:a+(k:Int)<=z):{x // x∈zcX a z}:=⟨a+k,zcu.2 ⟨by omega,h⟩⟩
def zfn (a z:Int) (k:Nat):List {x // x∈zcX a z}:=(zcX a z).attach.take k
theorem zn8 {a z:Int} {k:Nat} (h:a+(k:Int)<=z):zfn a z k++[zqt a z k h]=zfn a z (k+1):=by
 unfold zfn;have hk:k<(zcX a z).attach.length:=by rw[List.length_attach,zg5];omega
 rw[List.take_add_one,waE hk];congr 1;simp only[Option.toList_some,List.cons.injEq,and_true];apply Subtype.ext;rw[List.getElem_attach];simp[zcX,zgl,zqt]
theorem zks {a z:Int} {k:Nat} (h:(z+1 - a).toNat<=k):zfn a z k=(zcX a z).attach:=by
 unfold zfn;rw[List.take_of_length_le (by rw[List.length_attach,zg5];exact h)]
theorem zqu (a z:Int) (k:Nat):zfn a z k<+:(zcX a z).attach:=List.take_prefix _ _
theorem zs7 {a z:Int} {k:Nat} (h:a+(k:Int)<=z):(zfn a z k).length=k/\k<(z+1 - a).toNat:=by
 refine⟨?_,by omega⟩
 unfold zfn;rw[List.length_take,List.length_attach,zg5];omega
theorem zg6 (Kp:World->World->Prop) (n b1 b2:Nat) (a z:Int) (hn:1<=n) (a0:0<=a) (a1:a<=9223372036854775807) (z0:-9223372036854775808<=z) (z1:z<=146096) (hKb:∀X Y,Kp X Y->X.cell? ⟨b2,0,none⟩=some (.int .i64 z)->Y.cell? ⟨b2,0,none⟩=some (.int .i64 z))
 (w:World) (hb1:w.cell? ⟨b1,0,none⟩=some (.int .i64 a)) (hb2:w.cell? ⟨b2,0,none⟩=some (.int .i64 z)):
 SeqStopsK Fence.wide n prog 144 #[.pointer (some ⟨b1,0,none⟩),.pointer (some ⟨b2,0,none⟩)] (fun k:{x // x∈zcX a z}=> #[shV k.1]) Kp (fun xs=>xs=(zcX a z).attach) (fun pre=>pre<+:(zcX a z).attach) 146098 w:=by
 intro l J Jx W hW hJ hJx hY h0;have c1:W.cell? ⟨b1,0,none⟩=some (.int .i64 a):=(hW.cell (p:=⟨b1,0,none⟩) (waR w _ hb1)).trans hb1;have c2:W.cell? ⟨b2,0,none⟩=some (.int .i64 z):=(hW.cell (p:=⟨b2,0,none⟩) (waR w _ hb2)).trans hb2;have HJ:=waV h0
 by_cases haz:z<a
 ·have HE:Hid ([]=(zcX a z).attach):=by show _=_;have h:=zks (a:=a) (z:=z) (k:=0) (by omega);rw[<-h];rfl
  clear hb1 hb2 hW h0 hY;refine callsIn_of_wp func144 rfl trivial ?_ rfl;simp only[ntmps144,wbQ,waG,List.length_nil,Nat.reduceAdd,Nat.reduceSub,wbR,wbS,List.push_toArray,List.append_toArray,wbN,wbT]
  gi_wp2
  refine waY (results_none rfl _ _ _) rfl ?_;exact⟨⟨_,rfl⟩,.inl ⟨[],HE.out,HJ.out⟩⟩
 ·have HD:=waV (fun V=>wbP (n:=n - 1).2 (zmt a a0 oQ V))
  obtain⟨y0,y1,m0,m1,d0,d1,l0,l1,o0,o1⟩:=zbm a0 (show a<146097 by omega)
  have HO:=waV (fun V=>wbP (n:=n - 1).2 (zgF (yD a) (mD a) (dD a) y0 oQ m0 m1 d0 d1 V))
  have HV:Hid (∀x y m d o:Int,a<=x->x<=z->(y=yD x/\m=mD x/\d=dD x/\o=zcB (yD x) (mD x)+dD x)->∀V,CallsIn Fence.wide (n - 1) prog 147 #[.int .i64 x,.int .i64 y,.int .i64 m,.int .i64 d,.int .i64 o] V (Ret (shV x) V)):=by
   rintro x y m d o h1 h2 ⟨rfl,rfl,rfl,rfl⟩ V;exact wbP.2 (zhU x oQ oQ V)
  have HN:Hid (∀x y m d o:Int,a<=x->x<=z->(y=yD x/\m=mD x/\d=dD x/\o=zcB (yD x) (mD x)+dD x)->(0<=y/\y<=3000/\1<=m/\m<=12/\1<=d/\d<=31/\1<=o/\o<=1000)/\(∀V,CallsIn Fence.wide (n - 1) prog 93 #[.int .i64 y,.int .i64 m] V (Ret (.int .i64 (zbt y m)) V))/\
   (d+1<=zbt y m->x+1<=z->(y=yD (x+1)/\m=mD (x+1)/\d+1=dD (x+1)/\o+1=zcB (yD (x+1)) (mD (x+1))+dD (x+1)))/\
   (¬d+1<=zbt y m->m<12->x+1<=z->(y=yD (x+1)/\m+1=mD (x+1)/\1=dD (x+1)/\o+1=zcB (yD (x+1)) (mD (x+1))+dD (x+1)))/\
   (¬d+1<=zbt y m->¬m<12->x+1<=z->(y+1=yD (x+1)/\1=mD (x+1)/\1=dD (x+1)/\1=zcB (yD (x+1)) (mD (x+1))+dD (x+1)))):=by
   rintro x y m d o h1 h2 ⟨rfl,rfl,rfl,rfl⟩;obtain⟨y0,y1,m0,m1,d0,d1,l0,l1,o0,o1⟩:=zbm (show 0<=x by omega) (show x<146097 by omega)
   refine⟨by omega,fun V=>wbP.2 (zde _ _ y0 oQ V),fun hl hz=>?_,fun hl hm hz=>?_,fun hl hm hz=>?_⟩
   ·obtain⟨e1,e2,e3⟩:=(zg4 (show 0<=x by omega) oQ).1 hl
    rw[e1,e2,e3];exact⟨rfl,rfl,rfl,by omega⟩
   ·obtain⟨e1,e2,e3,e4⟩:=(zg4 (show 0<=x by omega) oQ).2.1 hl hm
    rw[e1,e2,e3,e4];exact⟨rfl,rfl,rfl,rfl⟩
   ·obtain⟨e1,e2,e3⟩:=(zg4 (show 0<=x by omega) oQ).2.2 hl hm
    rw[e1,e2,e3,zdr];exact⟨rfl,rfl,rfl,rfl⟩
  obtain⟨y,hy⟩:∃y,y=yD a:=⟨_,rfl⟩;obtain⟨m,hm⟩:∃y,y=mD a:=⟨_,rfl⟩;obtain⟨d,hd⟩:∃y,y=dD a:=⟨_,rfl⟩;obtain⟨o,ho⟩:∃y,y=zcB (yD a) (mD a)+dD a:=⟨_,rfl⟩;have HA:Hid (a<=z->y=yD a/\m=mD a/\d=dD a/\o=zcB (yD a) (mD a)+dD a):=fun _=>⟨hy,hm,hd,ho⟩
  rw[<-ho,<-hy,<-hm,<-hd] at HO;rw[<-hy,<-hm,<-hd] at HD;clear hb1 hb2 hW h0 hy hm hd ho y0 y1 m0 m1 d0 d1 l0 l1 o0 o1;have HY:=waV hY;clear hY;refine callsIn_of_wp func144 rfl trivial ?_ rfl;simp only[ntmps144,wbQ,waG,List.length_nil,Nat.reduceAdd,Nat.reduceSub,wbR,wbS,List.push_toArray,List.append_toArray,wbN,wbT]
  gi_wp2_with (refine⟨trivial,?_⟩;gi_at_call 145;refine(HD.out _).mono ?_;rintro e w1 ⟨rfl,hq1⟩)
  have c21:=(hq1.cell (p:=⟨b2,0,none⟩) (waR W _ c2)).trans c2;have c11:=(hq1.cell (p:=⟨b1,0,none⟩) (waR W _ c1)).trans c1;have HJ1:Hid (J [] w1):=zbX hJ HJ.out hq1
  gi_wp2_with (refine⟨trivial,?_⟩;gi_at_call 146;refine(HO.out _).mono ?_;rintro e w2 ⟨rfl,hq2⟩;have c22:=(hq2.cell (p:=⟨b2,0,none⟩) (waR w1 _ c21)).trans c21;have c12:=(hq2.cell (p:=⟨b1,0,none⟩) (waR w1 _ c11)).trans c11)
  have HJ2:Hid (J [] w2):=zbX hJ HJ1.out hq2;clear HJ HJ1 c1 c11 c2 c21 hq1 hq2 HD HO
  gi_loopw [10,4,5,6,8] (fun xv yv mv dv ov wr=>∃(k:Nat) (y m d o:Int),xv=.int .i64 (a+k)/\yv=.int .i64 y/\mv=.int .i64 m/\dv=.int .i64 d/\ov=.int .i64 o/\a+k<=z+1/\Hid (a+k<=z->y=yD (a+k)/\m=mD (a+k)/\d=dD (a+k)/\o=zcB (yD (a+k)) (mD (a+k))+dD (a+k))/\Hid (J (zfn a z k) wr)/\wr.cell? ⟨b2,0,none⟩=some (.int .i64 z)) (fun xv _ _ _ _ _=>(z+1 - intOf xv).toNat)
  case atStart=>exact⟨0,y,m,d,o,by simp,rfl,rfl,rfl,rfl,by omega,by simpa using HA,HJ2.out,c22⟩
  case round=>
   clear HA HJ2 c22 c12;obtain⟨k,y,m,d,o,rfl,rfl,rfl,rfl,rfl,hkz,HX,HJ,hb⟩:=hrel
   by_cases hlt:a+(k:Int)<=z
   ·have hx:=HX.out hlt;obtain⟨bd,HL,n1,n2,n3⟩:=HN.out _ _ _ _ _ oQ hlt hx;have HS:=waV (HV.out _ _ _ _ _ oQ hlt hx);have HL:=waV HL;obtain⟨y0,y1,m0,m1,d0,d1,o0,o1⟩:=bd;have N1:=waV n1;have N2:=waV n2;have N3:=waV n3;have hj:=zs7 (show a+(k:Int)<=z from hlt)
    have HR1:=waV (fun V (hV:Below wr.heap.size wr V)=>HY.out (zfn a z k) (zqt a z k hlt) V (zbX hJ HJ.out hV) (by have:=hj.1;omega))
    have HX2:Hid (zfn a z k++[zqt a z k hlt]=zfn a z (k+1)):=zn8 hlt;clear n1 n2 n3 hx hj;generalize zbt y m=L at *
    gi_wp2_with (refine⟨trivial,?_⟩;gi_at_call 147;refine(HS.out _).mono ?_;rintro e w3 ⟨rfl,hq3⟩;obtain⟨fn,tmps,assign,body,hy,hR⟩:=HR1.out w3 hq3;simp only[zqt] at hy)
    refine hR.mono ?_;have hb3:w3.cell? ⟨b2,0,none⟩=some (.int .i64 z):=(hq3.cell (p:=⟨b2,0,none⟩) (waR wr _ hb)).trans hb;clear hR hy HS HR1 HX HJ hb hq3;rintro e W3 (⟨rfl,hJ3,hk3⟩|⟨rfl,hJx3⟩)
    ·have hb4:=hKb _ _ hk3 hb3;rw[HX2.out] at hJ3;have HJ3:=waV hJ3;clear hJ3 hk3 hb3 HX2;rcases Int.lt_or_le L (d+1) with hl|hl
     ·by_cases h12:m<12
      ·gi_wp2_with (refine⟨trivial,?_⟩;gi_at_call 93;refine(HL.out _).mono ?_;rintro e w4 ⟨rfl,hq4⟩;have hb5:w4.cell? ⟨b2,0,none⟩=some (.int .i64 z):=(hq4.cell (p:=⟨b2,0,none⟩) (waR W3 _ hb4)).trans hb4;have HJ4:=waV (zbX hJ HJ3.out hq4);clear hb4 HJ3 hq4)
       go_roundw
       case rel=>
        refine⟨k+1,y,m+1,1,o+1,by go_num,by go_num,by go_num,by go_num,by go_num,by omega,?_,HJ4.out,hb5⟩
        intro hz;have e:a+((k+1:Nat):Int)=a+(k:Int)+1:=by omega
        rw[e];exact N2.out oQ h12 oQ
       case measure=>simp [intOf];omega
      ·gi_wp2_with (refine⟨trivial,?_⟩;gi_at_call 93;refine(HL.out _).mono ?_;rintro e w4 ⟨rfl,hq4⟩;have hb5:w4.cell? ⟨b2,0,none⟩=some (.int .i64 z):=(hq4.cell (p:=⟨b2,0,none⟩) (waR W3 _ hb4)).trans hb4;have HJ4:=waV (zbX hJ HJ3.out hq4);clear hb4 HJ3 hq4)
       go_roundw
       case rel=>
        refine⟨k+1,y+1,1,1,1,by go_num,by go_num,by go_num,by go_num,by go_num,by omega,?_,HJ4.out,hb5⟩
        intro hz;have e:a+((k+1:Nat):Int)=a+(k:Int)+1:=by omega
        rw[e];exact N3.out oQ h12 oQ
       case measure=>simp [intOf];omega
     ·gi_wp2_with (refine⟨trivial,?_⟩;gi_at_call 93;refine(HL.out _).mono ?_;rintro e w4 ⟨rfl,hq4⟩;have hb5:w4.cell? ⟨b2,0,none⟩=some (.int .i64 z):=(hq4.cell (p:=⟨b2,0,none⟩) (waR W3 _ hb4)).trans hb4;have HJ4:=waV (zbX hJ HJ3.out hq4);clear hb4 HJ3 hq4)
      go_roundw
      case rel=>
       refine⟨k+1,y,m,d+1,o+1,by go_num,by go_num,by go_num,by go_num,by go_num,by omega,?_,HJ4.out,hb5⟩
       intro hz;have e:a+((k+1:Nat):Int)=a+(k:Int)+1:=by omega
       rw[e];exact N1.out hl oQ
      case measure=>simp [intOf];omega
    ·rw[HX2.out] at hJx3;have HJx:=waV hJx3;clear hJx3 hb3 HX2
     gi_wp2
     refine waY (results_none rfl _ _ _) rfl ?_;exact⟨⟨_,rfl⟩,.inr ⟨zfn a z (k+1),zqu _ _ _,HJx.out⟩⟩
   ·have HP:Hid (zfn a z k=(zcX a z).attach):=zks oQ;clear HN HV HY HX
    gi_wp2
    go_end0
    rw[<-HP.out];exact⟨⟨_,rfl⟩,.inl HJ.out⟩
end Go.Proofs.YtllcdbgjeidlkaaGreatDoor
namespace Go.Proofs.YtllcdbgjeidlkaaGreatDoor
open Go.Proofs.Tryz
open Go.RowKit Go.Shelf
attribute [local go_sem] Oper.semAt_some
open Go.Maps
theorem DiscAt.rl00 {B b:Nat} {W V:World} {p:Nat->Bool} (h:DiscAt W b p) (hr:Rl 0 0 B W V):DiscAt V b p:=by
 obtain⟨cs,hc⟩:=h.obj;exact h.same ((hr.block b _ hc (.inr (waK _)) (.inr rfl)).trans hc.symm)
theorem PartE.imp {W V:World} {c:Cl} {D X:Nat} {es:List MapEntry} (h:PartE W c D X es) (k:∀e p,DiscAt W e p->DiscAt V e p):PartE V c D X es:=⟨h.one,fun q hq=>by
 obtain⟨y,e,h1,h2,h3,h4,h6,h5⟩:=h.all q hq;exact⟨y,e,h1,h2,h3,h4,h6,k _ _ h5⟩⟩
theorem KnownE.imp {W V:World} {L:List Cl} {D:Nat} {es:List MapEntry} (h:KnownE W L D es) (k:∀e p,DiscAt W e p->DiscAt V e p):KnownE V L D es:=⟨h.one,fun q hq=>by
 obtain⟨y,e,h1,h2,h3,h4,h5⟩:=h.all q hq;exact⟨y,e,h1,h2,h3,h4,k _ _ h5⟩⟩
theorem RollAt.rl00 {B:Nat} {V W:World} {d:RollD} {L:List Cl} {lo hi D:Nat} (h:RollAt W d L lo hi D) (hr:Rl 0 0 B W V) (hB:D<=B):RollAt V d L lo hi D:=by
 have hD:=h.hiD;have hdw:=h.dw;have hblk:∀k,k<D->V.heap[k]?=W.heap[k]? :=fun k hk=>by
  rw[hr.block k _ (wbI (show k<W.heap.size by omega)) (.inr (waK _)) (.inl (by omega)),wbI (show k<W.heap.size by omega)]
 have hrs:RlS (fun k=>D<=k) W V:=⟨hr.os,hr.tape,hr.output,hr.size,fun i hi hs=>hblk i oQ⟩
 have hd:∀e p,DiscAt W e p->DiscAt V e p:=fun e p g=>g.rl00 hr
 have hb:¬D<=d.b:=by have:=h.f.lb0;omega
 refine⟨h.f.apart hrs fun k g=>.inr (by have:D<=k:=g;omega),⟨fun i hi=>?_,?_,fun a ha=>?_,?_⟩,hD,waW hdw hr.size,h.tz.rls hrs (fun g=>by have:=h.tl;have:=h.f.lb0;omega),h.tl⟩
 ·obtain⟨es,k,h1,h2⟩:=h.m.parts i hi;exact⟨es,k,(hblk _ (by have:=h.f.lp i hi;omega)).trans h1,h2.imp hd⟩
 ·obtain⟨es,k,h1,h2⟩:=h.m.known;exact⟨es,k,(hblk _ (by have:=h.f.lk;omega)).trans h1,h2.imp hd⟩
 ·obtain⟨v,h1,h2⟩:=h.m.whole a ha;refine⟨v,hrs.cell h1 hb,h2.imp id ?_⟩;rintro ⟨e,h3,h4,h5⟩;exact⟨e,h3,h4,hd _ _ h5⟩
 ·obtain⟨z,hz⟩:=h.m.many;exact⟨z,hrs.cell hz hb⟩
structure KpR (M:Nat->Prop) (d:RollD) (L:List Cl) (lo hi D:Nat) (W W':World):Prop where
 k:KpM M W W'
 r:RollAt W d L lo hi D->RollAt W' d L lo hi D
theorem KpR.refl (M:Nat->Prop) (d:RollD) (L:List Cl) (lo hi D:Nat) (W:World):KpR M d L lo hi D W W:=⟨KpM.refl _ _,id⟩
theorem KpR.trans {M:Nat->Prop} {d:RollD} {L:List Cl} {lo hi D:Nat} {X Y Z:World} (h:KpR M d L lo hi D X Y) (k:KpR M d L lo hi D Y Z):KpR M d L lo hi D X Z:=⟨h.k.trans k.k,fun g=>k.r (h.r g)⟩
theorem KpR.below {M:Nat->Prop} {d:RollD} {L:List Cl} {lo hi D:Nat} {W V:World} (hb:Below W.heap.size W V):KpR M d L lo hi D W V:=⟨KpM.of_below hb,fun g=>g.below hb⟩
theorem KpR.put {M:Nat->Prop} {d:RollD} {L:List Cl} {lo hi D:Nat} {W:World} {l:Nat} {o:Obj} (o':Obj) (hl:W.heap[l]?=some o) (ho:o.isCells=false) (hD:D<=l):KpR M d L lo hi D W (W.putObj l o'):=
 ⟨KpM.putObj o' hl ho,fun g=>g.rl00 ((Rl.refl 0 0 D W).put o' hl ho hD) (waJ _)⟩
theorem KpM.of_roll {M:Nat->Prop} {d:RollD} {L:List Cl} {lo hi D:Nat} {W V:World} (h:RollAt W d L lo hi D) (hr:RlS (d.mv L.length) W V) (hM:M d.b):KpM M W V:=⟨hr.size,fun k o hk ho hn=>by
 refine(hr.block k (waL.1 hk).1 ?_).trans hk;rintro (rfl|rfl|⟨i,hi,rfl⟩)
 ·exact hn hM
 ·obtain⟨es,n,h1,_⟩:=h.m.known;rw[h1] at hk;cases hk;cases ho
 ·obtain⟨es,n,h1,_⟩:=h.m.parts i hi;rw[h1] at hk;cases hk;cases ho⟩
def zg7 (L:List Cl) (n:Int):Bool:=zs3 (zay L n)
def zhF (L:List Cl) (a z:Int):List Int:=(zcX a z).filter (zg7 L)
def zxs (d:RollD) (L:List Cl) (f t:Int) (w:World) (e:Ending) (w':World):Prop:=
 ∃b1 b2 b3,e=.returned (.func (.func 79) #[] #[.pointer (some ⟨b1,0,none⟩),.pointer (some ⟨b2,0,none⟩),.pointer (some ⟨b3,0,none⟩)])/\w.heap.size<=b1/\w.heap.size<=b2/\w.heap.size<=b3/\
  w'.cell? ⟨b1,0,none⟩=some (.int .i64 (bdF L f))/\w'.cell? ⟨b2,0,none⟩=some (.int .i64 (bdT L t))/\w'.cell? ⟨b3,0,none⟩=some (.pointer (some ⟨d.b,0,none⟩))/\Below w.heap.size w w'
end Go.Proofs.YtllcdbgjeidlkaaGreatDoor
namespace Go.Proofs.YtllcdbgjeidlkaaGreatDoor
open Go.Proofs.Tryz
open Go.RowKit Go.Shelf
def zxt (p:Nat->Bool) (w:World) (e:Ending) (w':World):Prop:=
 ∃b,e=.returned (.func (.func 198) #[] #[.pointer (some ⟨b,0,none⟩)])/\w.heap.size<=b/\(∀j,j<1350->w'.cell? ⟨b,j,none⟩=some (.int .u64 (zau p j:Nat)))/\Below w.heap.size w w'
theorem zid:Tryz.zeroCells160=Array.replicate 1350 (.int .u64 0):=by kernel_rfl
theorem zqv (w:World) (p:Nat->Bool) (hp:∀s,s<86400->p s=false):∀j,j<1350->(w.alloc (.cells Tryz.zeroCells160 160)).cell? ⟨w.heap.size,j,none⟩=some (.int .u64 (zau p j:Nat)):=fun j hj=>by
 have e:zau p j=0:=by
  unfold zau;rw[zbe (q:=fun _=>false) (fun i hi=>hp _ (by omega))]
  exact ze0 64
 rw[e];refine zaa rfl ?_;rw[zid,Array.getElem?_replicate,if_pos hj];rfl
theorem zs8 (v:Value) (p:Nat->Bool) (w:World) (hd:zdN w v p):Calls prog 140 #[v] w (zxt p w):=by
 rcases hd with ⟨rfl,hp⟩|⟨b,rfl,hd⟩
 ·have HN:=waV (zqv w p hp);clear hp;go_enter func140,ntmps140;go_wp2;go_ret;exact⟨w.heap.size,rfl,waJ _,HN.out,by exact zaE⟩
 ·have HL:=waV (zgS hd);have HI:Hid ((prog.info? 160).map (·.size)=some (zcP p).size):=by show _=_;rw[zch];kernel_rfl
  have H1:Hid ((zcP p).all (·.oneCell')=true):=by
   show _=_;rw[Array.all_eq_true];intro i hi;have h:=zfk p i (by rwa [zch] at hi)
   rw[wbI hi] at h;rw[waB h];rfl
  have HZ:Hid ((Tryz.zeroCells160).size=(zcP p).size):=by show _=_;rw[zch,zid,Array.size_replicate]
  have HC:Hid (∀j,j<1350->(zcP p).getD j undef=.int .u64 (zau p j:Nat)):=fun j hj=>by rw[wbL,zfk p j hj];rfl
  have HS:Hid ((zcP p).size=1350):=zch p;have hb:=hd.lt;generalize zcP p=cs at *;clear hd;go_enter func140,ntmps140
  go_wp2_with (first|(refine zag (by rfl) 160 _ rfl cs b 0 rfl underlying160 rfl HI.out (fun j v hj=>((zad ((waC _ w).alloc (waJ _) _)).1 _ _ hb).trans (HL.out j v hj)) ?_)|(refine zaL (by rfl) 160 _ _ rfl cs _ rfl rfl HI.out H1.out HZ.out ?_;intro w2 hq2 HS2 hz2)|fail)
  all_goals go_wp2
  all_goals go_ret
  exact⟨w.heap.size,rfl,waJ _,fun j hj=>by rw[HS2.1 j (by rw[HS.out];exact hj)];exact congrArg some (HC.out j hj),hq2⟩
def popA (x:Int):Int:=IntKind.u64.wrap (bits .and .u64 (x / 2) 6148914691236517205+bits .and .u64 x 6148914691236517205)
def popB (x:Int):Int:=IntKind.u64.wrap (bits .and .u64 (x / 4) 3689348814741910323+bits .and .u64 x 3689348814741910323)
def popC (x:Int):Int:=bits .and .u64 (IntKind.u64.wrap (x / 16+x)) 1085102592571150095
def popD (d x:Int):Int:=IntKind.u64.wrap (x+x / d)
def zm5 (x:Int):Int:=bits .and .i64 (wrap64 (popD 4294967296 (popD 65536 (popD 256 (popC (popB (popA x))))))) 127
theorem zs9 (x:Int) (w:World):Calls prog 156 #[.int .u64 x] w (zbE (.int .i64 (zm5 x)) w):=by
 go_enter func156,ntmps156;go_wp2;go_ret;refine⟨?_,rfl⟩;generalize hA:IntKind.u64.wrap (bits .and .u64 (x / 2) 6148914691236517205+bits .and .u64 x 6148914691236517205)=A;generalize hB:IntKind.u64.wrap (bits .and .u64 (A / 4) 3689348814741910323+bits .and .u64 A 3689348814741910323)=B;generalize hC:bits .and .u64 (IntKind.u64.wrap (B / 16+B)) 1085102592571150095=C;generalize hD:IntKind.u64.wrap (C+C / 256)=D;generalize hE:IntKind.u64.wrap (D+D / 65536)=E;generalize hG:IntKind.u64.wrap (E+E / 4294967296)=G;show Ending.returned (.int .i64 (bits .and .i64 (wrap64 G) 127))=_;unfold zm5 popD popC popB popA;rw[hA,hB,hC,hD,hE,hG]
theorem zfo (x:Int) (w:World):Calls prog 91 #[.int .u64 x] w (zbE (.int .i64 (zm5 x)) w):=by
 have H:=waV (fun W=>zs9 x W)
 generalize zm5 x=k at *;go_enter func91,ntmps91;go_wp2_with fail;refine(H.out _).mono ?_;rintro e w1 ⟨rfl,rfl⟩;go_wp2;go_ret;exact⟨rfl,rfl⟩
theorem zkt (m a b:Int) (h0:0<=a) (h1:a<=64) (hb:b<=1000000) (hb0:-1000000<=b) (w:World):Calls prog 94 #[.int .u64 m,.int .i64 a,.int .i64 b] w (zbE (.int .u64 (bits .andNot .u64 (zas a b) m)) w):=by
 have H:=waV (fun W=>zbB a b h0 h1 hb hb0 W)
 generalize zas a b=k at *;go_enter func94,ntmps94;go_wp2_with fail;refine(H.out _).mono ?_;rintro e w1 ⟨rfl,rfl⟩;go_wp2;go_ret;exact⟨rfl,rfl⟩
theorem zn9 (h m s:Nat) (h1:h<18446744073709551616) (m1:m<18446744073709551616) (s1:s<18446744073709551616) (w:World):Calls prog 76 #[.int .u64 h,.int .u64 m,.int .u64 s] w (fun e w'=>(∃k:Int,e=.returned (.int .i64 k))/\w'=w):=by
 have HH:=waV (fun V=>zmF h m s h1 m1 s1 V)
 have H1:=waV (fun V=>zfo (h&&&16777215:Nat) V)
 have H2:=waV (fun V=>zfo (m&&&1152921504606846975:Nat) V)
 have H3:=waV (fun V=>zfo (s&&&1152921504606846975:Nat) V)
 generalize zm5 (h&&&16777215:Nat)=k1 at *;generalize zm5 (m&&&1152921504606846975:Nat)=k2 at *;generalize zm5 (s&&&1152921504606846975:Nat)=k3 at *;generalize (h&&&16777215:Nat)=A at *;generalize (m&&&1152921504606846975:Nat)=B at *;generalize (s&&&1152921504606846975:Nat)=C at *;go_enter func76,ntmps76;go_wp2_with fail;refine(HH.out _).mono ?_;rintro e w1 ⟨rfl,rfl⟩;go_wp2_with fail;refine(H1.out _).mono ?_;rintro e w1 ⟨rfl,rfl⟩;go_wp2_with fail;refine(H2.out _).mono ?_;rintro e w1 ⟨rfl,rfl⟩;go_wp2_with fail;refine(H3.out _).mono ?_;rintro e w1 ⟨rfl,rfl⟩;go_wp2;go_ret;exact⟨⟨_,rfl⟩,rfl⟩
theorem zta (v:Value) (p:Nat->Bool) (w:World) (hd:zdN w v p):Calls prog 77 #[v] w (fun e w'=>(∃k:Int,e=.returned (.int .i64 k))/\w'=w):=by
 rcases hd with ⟨rfl,hp⟩|⟨b,rfl,hd⟩
 ·clear hp;go_enter func77,ntmps77;go_wp2;go_ret;exact⟨⟨_,rfl⟩,rfl⟩
 ·have HL:=waV (fun x W=>zfo x W)
  have HC:=waV hd.cells;have hb:=hd.lt;clear hd;go_enter func77,ntmps77;go_wp2
  go_loopw [7,3] (fun i m wr=>∃(j:Nat) (k:Int),j<=1350/\i=.int .i64 (j:Int)/\m=.int .i64 k/\wr=w) (fun i _ _=>1350 - (intOf i).toNat)
  case atStart=>exact⟨0,0,by omega,rfl,rfl,rfl⟩
  case round=>
   obtain⟨j,k,hj,rfl,rfl,rfl⟩:=hrel
   by_cases hlt:j<1350
   ·have c0:=HC.out j hlt;have i0:(0:Int)<=(j:Int):=by omega
    have i1:(j:Int)<1350:=by omega
    go_wp2_with fail;refine(HL.out _ _).mono ?_;rintro e w1 ⟨rfl,rfl⟩;go_wp2;go_roundw
    case rel=>exact⟨j+1,_,by omega,by go_num,rfl,trivial⟩
    case measure=>simp [intOf];omega
   ·have hn:¬(j:Int)<1350:=by omega
    go_wp2;go_ret;exact⟨⟨_,rfl⟩,rfl⟩
end Go.Proofs.YtllcdbgjeidlkaaGreatDoor
namespace Go.Proofs.YtllcdbgjeidlkaaGreatDoor
open Go.Proofs.Tryz
def orN (f:Nat->Nat) (l:List Nat):Nat:=l.foldl (fun a s=>a|||2^f s) 0
theorem zje (f:Nat->Nat) (l:List Nat) (x:Nat):orN f (l++[x])=orN f l|||2^f x:=by simp[orN]
theorem zqw (f:Nat->Nat) (l:List Nat) (k:Nat):(orN f l).testBit k=true↔∃s∈l,f s=k:=by
 have:∀(l:List Nat) (a:Nat),(l.foldl (fun a s=>a|||2^f s) a).testBit k=true↔a.testBit k=true\/∃s∈l,f s=k:=by
  intro l;induction l with
  |nil=>intro a;simp
  |cons b l ih=>
   intro a;rw[List.foldl_cons,ih,Nat.testBit_or,wbF,Nat.testBit_two_pow];simp only[List.mem_cons,waM];constructor
   ·rintro ((h|h)|⟨s,hs,h⟩)
    ·exact .inl h
    ·exact .inr ⟨b,.inl rfl,h⟩
    ·exact .inr ⟨s,.inr hs,h⟩
   ·rintro (h|⟨s,(rfl|hs),h⟩)
    ·exact .inl (.inl h)
    ·exact .inl (.inr h)
    ·exact .inr ⟨s,hs,h⟩
 have h:=this l 0;rw[Nat.zero_testBit] at h;unfold orN;rw[h];simp
theorem zoa {m:Nat} (h:∀k,m.testBit k=true->k<64):m<18446744073709551616:=by
 refine Nat.lt_of_not_le fun hge=>?_
 obtain⟨k,hk,hb⟩:=Nat.exists_ge_and_testBit_of_ge_two_pow (n:=64) (x:=m) hge;have:=h k hb;omega
theorem zfp (f:Nat->Nat) (l:List Nat) (h:∀s∈l,f s<64):orN f l<18446744073709551616:=zoa fun k hk=>by
 obtain⟨s,hs,rfl⟩:=(zqw f l k).1 hk;exact h s hs
end Go.Proofs.YtllcdbgjeidlkaaGreatDoor
