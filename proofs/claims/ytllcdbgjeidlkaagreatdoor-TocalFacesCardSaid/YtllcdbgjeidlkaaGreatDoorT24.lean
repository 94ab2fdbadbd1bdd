/- A part of the proof: WRoll7a -/
import Derived.Test.YtllcdbgjeidlkaaGreatDoorT20
import Derived.Test.YtllcdbgjeidlkaaGreatDoorT23
import Derived.Test.YtllcdbgjeidlkaaGreatDoorT21
import Derived.Maps.AppendAt
import Derived.Test.YtllcdbgjeidlkaaGreatDoorT15
import Derived.Test.YtllcdbgjeidlkaaGreatDoorT13
import Derived.Carry
import Derived.Laws.Tables
import Derived.Test.YtllcdbgjeidlkaaGreatDoorT09
set_option maxHeartbeats 80000000
set_option maxRecDepth 100000
set_option linter.unusedSimpArgs false
set_option linter.unusedVariables false
namespace Go.Proofs.YtllcdbgjeidlkaaGreatDoor
open Go.Proofs.Tryz
open Go.RowKit
open Go.Maps
structure NewD where
 g:Nat->Nat
 lb:Nat->Array Value
 gl:Nat->Nat
 gh:Nat->Nat
 pm:Nat->Nat
structure NewS (W0:World) (b km:Nat) (A:Option Addr) (n:Nat) (L:List Cl) (kl kp:Nat) (d:NewD) (W:World):Prop where
 bel:Below W0.heap.size W0 W
 km0:W0.heap.size<=km/\km<b/\b<W.heap.size
 hk:W.heap[km]?=some (.map #[] 0)
 rd:zbh W A n L
 rA:∀x,0<n->A=some x->W0.heap.size<=x.block/\x.block<km
 fn:∀i,i<kl->(∀args w,(callFunc (d.g i) args).run prog w=.ok (.enter (d.g i) args) w)/\zgN (d.g i) (d.lb i) (zeE L i) (d.gl i) (d.gh i) W/\b<d.gl i/\d.gh i<=W.heap.size
 pe:∀i,i<kp->W.heap[d.pm i]?=some (.map #[] 0)/\b<d.pm i
 pne:∀i j,i<kp->j<kp->d.pm i=d.pm j->i=j
 pg:∀i,i<kp->∀j,j<kl->d.pm i<d.gl j\/d.gh j<=d.pm i
theorem NewS.turn {S:Nat->Prop} {W0 W V:World} {b km:Nat} {A:Option Addr} {n:Nat} {L:List Cl} {kl kp:Nat} {d:NewD} (h:NewS W0 b km A n L kl kp d W) (hr:RlS S W V) (hS:∀k,S k->b<=k/\(∀i,i<kl->k<d.gl i\/d.gh i<=k)/\∀o,W.heap[k]?=some o->o.isCells=true):NewS W0 b km A n L kl kp d V:=by
 obtain⟨k0,k1,k2⟩:=h.km0;have nS:∀k,k<b->¬S k:=fun k hk g=>by have:=(hS k g).1;omega
 have hbz:=h.bel.size;refine⟨⟨hr.os.trans h.bel.os,hr.tape.trans h.bel.tape,hr.output.trans h.bel.output,waW hbz hr.size,fun i hi=>(hr.block i oQ (nS i oQ)).trans (h.bel.block i hi)⟩,⟨k0,k1,waD k2 hr.size⟩,(hr.block km oQ (nS km k1)).trans h.hk,?_,h.rA,fun i hi=>?_,fun i hi=>?_,h.pne,h.pg⟩
 ·refine⟨h.rd.1,fun hp=>?_⟩
  obtain⟨b',o,e,hb,hc⟩:=h.rd.2 hp;have hx:=(h.rA _ hp e).2;exact⟨b',o,e,waD hb hr.size,fun i x hx' j v hv=>hr.cell (hc i x hx' j v hv) (nS _ (by show b'<b;have:b'<km:=hx;omega))⟩
 ·obtain⟨f1,f2,f3,f4⟩:=h.fn i hi;exact⟨f1,f2.later ⟨hr.size,fun k g1 g2=>hr.block k oQ (fun g=>by have:=(hS k g).2.1 i hi;omega)⟩,f3,waW f4 hr.size⟩
 ·obtain⟨p1,p2⟩:=h.pe i hi;refine⟨(hr.block _ (waL.1 p1).1 (fun g=>?_)).trans p1,p2⟩
  have:=(hS _ g).2.2 _ p1;cases this
theorem NewS.below {W0 W V:World} {b km:Nat} {A:Option Addr} {n:Nat} {L:List Cl} {kl kp:Nat} {d:NewD} (h:NewS W0 b km A n L kl kp d W) (hb:Below W.heap.size W V):NewS W0 b km A n L kl kp d V:=
 h.turn (S:=fun _=>False) ((RlS.refl _ W).below hb (waJ _)) (fun k g=>g.elim)
def NewD.addL (d:NewD) (k g lo hi:Nat) (lb:Array Value):NewD:={d with g:=fun i=>if i=k then g else d.g i,lb:=fun i=>if i=k then lb else d.lb i,gl:=fun i=>if i=k then lo else d.gl i,gh:=fun i=>if i=k then hi else d.gh i}
def NewD.addP (d:NewD) (k m:Nat):NewD:={d with pm:=fun i=>if i=k then m else d.pm i}
theorem NewS.addL {W0 W:World} {b km:Nat} {A:Option Addr} {n:Nat} {L:List Cl} {kl kp:Nat} {d:NewD} (h:NewS W0 b km A n L kl kp d W) {g lo hi:Nat} {lb:Array Value} (eg:∀args w,(callFunc g args).run prog w=.ok (.enter g args) w) (hL:zgN g lb (zeE L kl) lo hi W) (h1:b<lo) (h2:hi<=W.heap.size) (hp:∀i,i<kp->d.pm i<lo\/hi<=d.pm i):
 NewS W0 b km A n L (kl+1) kp (d.addL kl g lo hi lb) W:=by
 refine {h with fn:=fun i hi'=>?_,pg:=fun i hi' j hj=>?_}
 ·by_cases e:i=kl
  ·subst e;simp only[NewD.addL,if_pos rfl];exact⟨eg,hL,h1,h2⟩
  ·simp only[NewD.addL,if_neg e];exact h.fn i oQ
 ·by_cases e:j=kl
  ·subst e;simp only[NewD.addL,if_pos rfl];exact hp i hi'
  ·simp only[NewD.addL,if_neg e];exact h.pg i hi' j oQ
theorem NewS.addP {W0 W:World} {b km:Nat} {A:Option Addr} {n:Nat} {L:List Cl} {kl kp:Nat} {d:NewD} (h:NewS W0 b km A n L kl kp d W) {m:Nat} (h1:W.heap[m]?=some (.map #[] 0)) (h2:b<m) (h3:∀i,i<kp->d.pm i≠m) (h4:∀j,j<kl->m<d.gl j\/d.gh j<=m):
 NewS W0 b km A n L kl (kp+1) (d.addP kp m) W:=by
 refine {h with pe:=fun i hi=>?_,pne:=fun i j hi hj e=>?_,pg:=fun i hi j hj=>?_}
 ·by_cases e:i=kp
  ·subst e;simp only[NewD.addP,if_pos rfl];exact⟨h1,h2⟩
  ·simp only[NewD.addP,if_neg e];exact h.pe i oQ
 ·simp only[NewD.addP] at e
  by_cases e1:i=kp<;>by_cases e2:j=kp
  ·omega
  ·rw[if_pos e1,if_neg e2] at e;exact absurd e.symm (h3 j (by omega))
  ·rw[if_neg e1,if_pos e2] at e;exact absurd e (h3 i (by omega))
  ·rw[if_neg e1,if_neg e2] at e;exact h.pne i j (by omega) (by omega) e
 ·by_cases e:i=kp
  ·subst e;simp only[NewD.addP,if_pos rfl];exact h4 j hj
  ·simp only[NewD.addP,if_neg e];exact h.pg i oQ j hj
def fnL (d:NewD) (k:Nat):List Value:=(List.range k).map fun i=>.func (.func (d.g i)) #[] (d.lb i)
def pmL (d:NewD) (k:Nat):List Value:=(List.range k).map fun i=>.map (some (d.pm i))
theorem zvR (d:NewD) (k g lo hi:Nat) (lb:Array Value):fnL (d.addL k g lo hi lb) (k+1)=fnL d k++[.func (.func g) #[] lb]:=by
 unfold fnL;rw[List.range_succ,List.map_append];congr 1
 ·refine List.map_congr_left fun i hi=>?_
  have:i≠k:=by have:=wbG.1 hi;omega
  simp only[NewD.addL,if_neg this]
 ·simp[NewD.addL]
theorem zvS (d:NewD) (k m:Nat):pmL (d.addP k m) (k+1)=pmL d k++[.map (some m)]:=by
 unfold pmL;rw[List.range_succ,List.map_append];congr 1
 ·refine List.map_congr_left fun i hi=>?_
  have:i≠k:=by have:=wbG.1 hi;omega
  simp only[NewD.addP,if_neg this]
 ·simp[NewD.addP]
structure NewR (b km:Nat) (A:Option Addr) (n cc:Nat) (kl kp:Nat) (d:NewD) (vl vp:Value) (W:World):Prop where
 c0:W.cell? ⟨b,0,none⟩=some (.slice A n cc)
 c1:W.cell? ⟨b,1,none⟩=some vl
 c2:W.cell? ⟨b,2,none⟩=some (.map (some km))
 c3:W.cell? ⟨b,3,none⟩=some vp
 cw:∀a,a<256->W.cell? ⟨b,4+a,none⟩=some (.pointer none)
 cm:W.cell? ⟨b,260,none⟩=some (.int .i64 0)
 fz:∀j,W.frozen? ⟨b,j,none⟩=false
 ol:W.ownsRow (b+1) 142 1 vl kl (fnL d kl)
 op:W.ownsRow (b+1) 144 1 vp kp (pmL d kp)
 og:∀r,vl.ownBlock=some r\/vp.ownBlock=some r->∀i,i<kl->r<d.gl i\/d.gh i<=r
theorem zbr {w:World} {B n k:Nat} {v:Value} {t:TypeId} {xs:List Value} (h:w.ownsRow B t k v n xs) {r:Nat} (hr:v.ownBlock=some r):B<=r/\∃cs,w.heap[r]?=some (.cells cs t (0,0)):=by
 rcases h.2 with ⟨rfl,_⟩|⟨g,cap,cur,rfl,h1,h2,_⟩
 ·cases hr
 ·cases hr;exact⟨h1,_,h2⟩
theorem zqA {w:World} {B n n' k:Nat} {v v':Value} {t t':TypeId} {xs xs':List Value} (h:w.ownsRow B t k v n xs) (h':w.ownsRow B t' k v' n' xs') (ht:t≠t'):v.ownBlock=none\/v.ownBlock≠v'.ownBlock:=by
 cases hv:v.ownBlock with
 |none=>exact .inl rfl
 |some r=>
  refine .inr fun e=>?_
  obtain⟨_,cs,h1⟩:=zbr h hv;obtain⟨_,cs',h2⟩:=zbr h' e.symm;rw[h1] at h2;cases h2;exact ht rfl
theorem NewR.below {b km:Nat} {A:Option Addr} {n cc:Nat} {kl kp:Nat} {d:NewD} {vl vp:Value} {W V:World} (h:NewR b km A n cc kl kp d vl vp W) (hb:Below W.heap.size W V):NewR b km A n cc kl kp d vl vp V:=by
 have hlt:=waR W _ h.c0;have bc:=zad hb;have gb:W.grownBy V none:=⟨hb.os,hb.tape,hb.output,hb.size,fun k hk _=>hb.block k hk⟩
 refine⟨(bc.1 _ _ hlt).trans h.c0,(bc.1 _ _ hlt).trans h.c1,(bc.1 _ _ hlt).trans h.c2,(bc.1 _ _ hlt).trans h.c3,fun a ha=>(bc.1 _ _ hlt).trans (h.cw a ha),(bc.1 _ _ hlt).trans h.cm,fun j=>(bc.2 _ _ hlt).trans (h.fz j),h.ol.kept gb ?_,h.op.kept gb ?_,h.og⟩
 ·cases vl.ownBlock<;>simp
 ·cases vp.ownBlock<;>simp
theorem NewR.addL {b km:Nat} {A:Option Addr} {n cc:Nat} {kl kp:Nat} {d:NewD} {vl vp vl':Value} {W V:World} (h:NewR b km A n cc kl kp d vl vp W) {g lo hi:Nat} {lb:Array Value} (hold:∀r,vl.ownBlock=some r\/vp.ownBlock=some r->r<lo\/hi<=r) (hhi:hi<=W.heap.size) (hgh:∀i,i<kl->d.gh i<=W.heap.size)
 (hown:V.ownsRow (b+1) 142 1 vl' (kl+1) (fnL d kl++[.func (.func g) #[] lb])) (hg:W.grownBy V vl.ownBlock) (hat:vl'.ownBlock=vl.ownBlock\/vl'.ownBlock=some W.heap.size):
 NewR b km A n cc (kl+1) kp (d.addL kl g lo hi lb) vl' vp (V.setCell ⟨b,1,none⟩ vl'):=by
 have hlt:=waR W _ h.c0;have nb:some b≠vl.ownBlock:=fun e=>by have:=(zbr h.ol e.symm).1;omega
 have kc:∀j,V.cell? ⟨b,j,none⟩=W.cell? ⟨b,j,none⟩:=fun j=>wbK (hg.block b hlt nb)
 have kf:∀j,V.frozen? ⟨b,j,none⟩=W.frozen? ⟨b,j,none⟩:=fun j=>World.frozen?_of_block (hg.block b hlt nb)
 have o:∀j,j≠1->(V.setCell ⟨b,1,none⟩ vl').cell? ⟨b,j,none⟩=W.cell? ⟨b,j,none⟩:=fun j hj=>(waU _ _ _ _ (fun g=>hj (by injection g with _ g _;exact g.symm))).trans (kc j)
 have nb':∀{v t m xs},V.ownsRow (b+1) t 1 v m xs->v.ownBlock≠some b:=fun hh e=>by have:=(zbr hh e).1;omega
 have hop:V.ownsRow (b+1) 144 1 vp kp (pmL d kp):=h.op.kept hg (zqA h.op h.ol dQ);refine⟨(o 0 dQ).trans h.c0,waT _ _ _ ((kc 1).trans h.c1),(o 2 dQ).trans h.c2,(o 3 dQ).trans h.c3,fun a ha=>(o _ oQ).trans (h.cw a ha),(o 260 dQ).trans h.cm,fun j=>(waS _ _ _ _).trans ((kf j).trans (h.fz j)),?_,ownsRow_setCell_other (a:=⟨b,1,none⟩) hop (nb' hop) _,fun r hr i hi=>?_⟩
 ·rw[zvR];exact ownsRow_setCell_other (a:=⟨b,1,none⟩) hown (nb' hown) _
 ·have hr':(vl.ownBlock=some r\/vp.ownBlock=some r)\/r=W.heap.size:=by
   rcases hr with hr|hr
   ·rcases hat with e|e
    ·exact .inl (.inl (e▸hr))
    ·rw[e] at hr;exact .inr (waB hr).symm
   ·exact .inl (.inr hr)
  by_cases e:i=kl
  ·subst e;simp only[NewD.addL,if_pos rfl];rcases hr' with hr'|rfl
   ·exact hold r hr'
   ·exact .inr hhi
  ·simp only[NewD.addL,if_neg e];rcases hr' with hr'|rfl
   ·exact h.og r hr' i oQ
   ·exact .inr (hgh i oQ)
theorem NewR.addP {b km:Nat} {A:Option Addr} {n cc:Nat} {kl kp:Nat} {d:NewD} {vl vp vp':Value} {W V:World} (h:NewR b km A n cc kl kp d vl vp W) {m:Nat} (hgh:∀i,i<kl->d.gh i<=W.heap.size)
 (hown:V.ownsRow (b+1) 144 1 vp' (kp+1) (pmL d kp++[.map (some m)])) (hg:W.grownBy V vp.ownBlock) (hat:vp'.ownBlock=vp.ownBlock\/vp'.ownBlock=some W.heap.size):
 NewR b km A n cc kl (kp+1) (d.addP kp m) vl vp' (V.setCell ⟨b,3,none⟩ vp'):=by
 have hlt:=waR W _ h.c0;have nb:some b≠vp.ownBlock:=fun e=>by have:=(zbr h.op e.symm).1;omega
 have kc:∀j,V.cell? ⟨b,j,none⟩=W.cell? ⟨b,j,none⟩:=fun j=>wbK (hg.block b hlt nb)
 have kf:∀j,V.frozen? ⟨b,j,none⟩=W.frozen? ⟨b,j,none⟩:=fun j=>World.frozen?_of_block (hg.block b hlt nb)
 have o:∀j,j≠3->(V.setCell ⟨b,3,none⟩ vp').cell? ⟨b,j,none⟩=W.cell? ⟨b,j,none⟩:=fun j hj=>(waU _ _ _ _ (fun g=>hj (by injection g with _ g _;exact g.symm))).trans (kc j)
 have nb':∀{v t m xs},V.ownsRow (b+1) t 1 v m xs->v.ownBlock≠some b:=fun hh e=>by have:=(zbr hh e).1;omega
 have hol:V.ownsRow (b+1) 142 1 vl kl (fnL d kl):=h.ol.kept hg (zqA h.ol h.op dQ);refine⟨(o 0 dQ).trans h.c0,(o 1 dQ).trans h.c1,(o 2 dQ).trans h.c2,waT _ _ _ ((kc 3).trans h.c3),fun a ha=>(o _ oQ).trans (h.cw a ha),(o 260 dQ).trans h.cm,fun j=>(waS _ _ _ _).trans ((kf j).trans (h.fz j)),ownsRow_setCell_other (a:=⟨b,3,none⟩) hol (nb' hol) _,?_,fun r hr i hi=>?_⟩
 ·rw[zvS];exact ownsRow_setCell_other (a:=⟨b,3,none⟩) hown (nb' hown) _
 ·have hr':(vl.ownBlock=some r\/vp.ownBlock=some r)\/r=W.heap.size:=by
   rcases hr with hr|hr
   ·exact .inl (.inl hr)
   ·rcases hat with e|e
    ·exact .inl (.inr (e▸hr))
    ·rw[e] at hr;exact .inr (waB hr).symm
  rcases hr' with hr'|rfl
  ·exact h.og r hr' i hi
  ·exact .inr (hgh i hi)
theorem zkx {W V:World} {b j:Nat} {row:Option Nat} (hg:W.grownBy V row) (u:Value):RlS (fun k=>k=b\/some k=row) W (V.setCell ⟨b,j,none⟩ u):=
 (show RlS (fun k=>k=b\/some k=row) W V from⟨hg.os,hg.tape,hg.output,hg.size,fun i hi hs=>hg.block i hi (fun e=>hs (.inr e))⟩).set ⟨b,j,none⟩ u (.inl rfl)
theorem NewS.pushL {W0 W V:World} {b km:Nat} {A:Option Addr} {n cc:Nat} {L:List Cl} {kl kp:Nat} {d:NewD} {vl vp:Value} (h:NewS W0 b km A n L kl kp d W) (hR:NewR b km A n cc kl kp d vl vp W) {g lo hi:Nat} {lb:Array Value} (eg:∀args w,(callFunc g args).run prog w=.ok (.enter g args) w)
 (hL:zgN g lb (zeE L kl) lo hi W) (h1:b<lo) (h2:hi<=W.heap.size) (hst:∀r,vl.ownBlock=some r\/vp.ownBlock=some r->r<lo) (hpm:∀i,i<kp->d.pm i<lo) (hg:W.grownBy V vl.ownBlock) (u:Value):NewS W0 b km A n L (kl+1) kp (d.addL kl g lo hi lb) (V.setCell ⟨b,1,none⟩ u):=by
 refine(h.addL eg hL h1 h2 (fun i hi=>.inl (hpm i hi))).turn (zkx hg u) ?_
 obtain⟨q,hq,hc⟩:=cells_of_cell hR.c0;rintro k (rfl|e)
 ·refine⟨waJ _,fun i hi=>.inl ?_,fun o ho=>by rw[hq] at ho;cases ho;exact hc⟩
  by_cases e:i=kl
  ·subst e;simp only[NewD.addL,if_pos rfl];exact h1
  ·simp only[NewD.addL,if_neg e];exact(h.fn i oQ).2.2.1
 ·obtain⟨r1,cs,r2⟩:=zbr hR.ol e.symm;refine⟨by omega,fun i hi=>?_,fun o ho=>by rw[r2] at ho;cases ho;rfl⟩
  by_cases e':i=kl
  ·subst e';simp only[NewD.addL,if_pos rfl];exact .inl (hst k (.inl e.symm))
  ·simp only[NewD.addL,if_neg e'];exact hR.og k (.inl e.symm) i oQ
theorem NewS.pushP {W0 W V:World} {b km:Nat} {A:Option Addr} {n cc:Nat} {L:List Cl} {kl kp:Nat} {d:NewD} {vl vp:Value} (h:NewS W0 b km A n L kl kp d W) (hR:NewR b km A n cc kl kp d vl vp W) {m:Nat} (h1:W.heap[m]?=some (.map #[] 0)) (h2:b<m) (h3:∀i,i<kp->d.pm i≠m) (h4:∀j,j<kl->d.gh j<=m)
 (hg:W.grownBy V vp.ownBlock) (u:Value):NewS W0 b km A n L kl (kp+1) (d.addP kp m) (V.setCell ⟨b,3,none⟩ u):=by
 refine(h.addP h1 h2 h3 (fun j hj=>.inr (h4 j hj))).turn (zkx hg u) ?_
 obtain⟨q,hq,hc⟩:=cells_of_cell hR.c0;rintro k (rfl|e)
 ·exact⟨waJ _,fun i hi=>.inl (h.fn i hi).2.2.1,fun o ho=>by rw[hq] at ho;cases ho;exact hc⟩
 ·obtain⟨r1,cs,r2⟩:=zbr hR.op e.symm;exact⟨by omega,fun i hi=>hR.og k (.inr e.symm) i hi,fun o ho=>by rw[r2] at ho;cases ho;rfl⟩
theorem zfq {w:World} {B n k:Nat} {v:Value} {t:TypeId} {xs:List Value} (h:w.ownsRow B t k v n xs):∃A c,v=.slice A n c/\∀(_:0<n),∃g,A=some ⟨g,0,none⟩/\B<=g/\g<w.heap.size/\v.ownBlock=some g/\∀(j:Nat) u,xs[j]?=some u->w.cell? ⟨g,j,none⟩=some u:=by
 rcases h.2 with ⟨rfl,rfl⟩|⟨g,cap,cur,rfl,h1,h2,_⟩
 ·exact⟨none,0,rfl,fun hp=>absurd hp dQ⟩
 ·refine⟨some ⟨g,0,none⟩,cap,rfl,fun _=>⟨g,rfl,h1,(waL.1 h2).1,rfl,fun j u hu=>?_⟩⟩
  have h3:=h.cells (g:=g) rfl j u hu
  rwa [show (⟨g,0,none⟩:Addr).add j=⟨g,j,none⟩ from by unfold Addr.add;split<;>simp_all] at h3
theorem zqB {W0 W:World} {b km:Nat} {A:Option Addr} {n cc:Nat} {L:List Cl} {d:NewD} {vl vp:Value} (hs:NewS W0 b km A n L n n d W) (hr:NewR b km A n cc n n d vl vp W) (h8:n<=8) (hset:zeJ L=true) (hbit:∀c,c∈L->zbC c/\c.s<=9223372036854775807) (hw:Tz W) (htz:0<W0.heap.size):
 ∃rd:RollD,rd.b=b/\∀(V:World) (D:Nat) (S:Nat->Prop),RlS S W V->(∀k,S k->k<W0.heap.size/\k≠0)->W.heap.size<=D->D<=V.heap.size->RollAt V rd L W0.heap.size W.heap.size D:=by
 obtain rfl:L.length=n:=hs.rd.1;obtain⟨Al,cl,rfl,hal⟩:=zfq hr.ol;obtain⟨Ap,cp,rfl,hap⟩:=zfq hr.op;obtain⟨k0,k1,k2⟩:=hs.km0;have mv:∀k,(k=b\/k=km\/∃i,i<L.length/\k=d.pm i)->W0.heap.size<=k/\k<W.heap.size:=by
  rintro k (rfl|rfl|⟨i,hi,rfl⟩)
  ·omega
  ·omega
  ·obtain⟨p1,p2⟩:=hs.pe i hi;have:=(waL.1 p1).1;omega
 have hbl:∃bl,0<L.length->Al=some ⟨bl,0,none⟩/\b+1<=bl/\bl<W.heap.size/\(∀(j:Nat) u,(fnL d L.length)[j]?=some u->W.cell? ⟨bl,j,none⟩=some u):=by
  by_cases hp:0<L.length
  ·obtain⟨g,e,h1,h2,_,h3⟩:=hal hp;exact⟨g,fun _=>⟨e,h1,h2,h3⟩⟩
  ·exact⟨0,fun h=>absurd h hp⟩
 have hbp:∃bp,0<L.length->Ap=some ⟨bp,0,none⟩/\b+1<=bp/\bp<W.heap.size/\(∀(j:Nat) u,(pmL d L.length)[j]?=some u->W.cell? ⟨bp,j,none⟩=some u):=by
  by_cases hp:0<L.length
  ·obtain⟨g,e,h1,h2,_,h3⟩:=hap hp;exact⟨g,fun _=>⟨e,h1,h2,h3⟩⟩
  ·exact⟨0,fun h=>absurd h hp⟩
 obtain⟨bl,hbl⟩:=hbl;obtain⟨bp,hbp⟩:=hbp;have ncell:∀{B o:Nat} {v:Value},b+1<=B->W.cell? ⟨B,o,none⟩=some v->¬(B=b\/B=km\/∃i,i<L.length/\B=d.pm i):=by
  rintro B o v hB hc (rfl|rfl|⟨i,hi,rfl⟩)
  ·omega
  ·omega
  ·exact zci hc (hs.pe i hi).1 rfl
 let rd:RollD:={b:=b,bl:=bl,bp:=bp,km:=km,pm:=d.pm,A:=A,cc:=cc,Al:=Al,cl:=cl,Ap:=Ap,cp:=cp,g:=d.g,lb:=d.lb,gl:=d.gl,gh:=d.gh}
 have hf:RollF W rd L W0.heap.size W.heap.size:=
  {n8:=h8,set:=hset,bits:=hbit,lb0:=⟨by show W0.heap.size<=b;omega,k2⟩,lk:=⟨k0,by show km<_;omega⟩,lp:=fun i hi=>mv _ (.inr (.inr ⟨i,hi,rfl⟩)),hw:=waJ _,
   c0:=hr.c0,c1:=hr.c1,c2:=hr.c2,c3:=hr.c3,fz:=hr.fz,rd:=hs.rd,
   rA:=fun x hp hx=>by
    obtain⟨h1,h2⟩:=hs.rA x hp hx;refine⟨h1,by omega,?_⟩
    rintro (e|e|⟨i,hi,e⟩)
    ·have:x.block=b:=e;omega
    ·have:x.block=km:=e;omega
    ·have:x.block=d.pm i:=e;have:=(hs.pe i hi).2;omega
   al:=fun hp=>by
    obtain⟨e,h1,h2,h3⟩:=hbl hp;refine⟨e,by show W0.heap.size<=bl;omega,h2,?_⟩
    exact ncell h1 (h3 0 (.func (.func (d.g 0)) #[] (d.lb 0)) (by simp[fnL,hp]))
   ap:=fun hp=>by
    obtain⟨e,h1,h2,h3⟩:=hbp hp;refine⟨e,by show W0.heap.size<=bp;omega,h2,?_⟩
    exact ncell h1 (h3 0 (.map (some (d.pm 0))) (by simp[pmL,hp]))
   fn:=fun i hi=>by
    obtain⟨f1,f2,f3,f4⟩:=hs.fn i hi;obtain⟨_,_,_,h3⟩:=hbl oQ;refine⟨h3 i (.func (.func (d.g i)) #[] (d.lb i)) (by simp[fnL,hi]),f1,f2,by show W0.heap.size<=d.gl i;omega,f4,?_⟩
    rintro k (h|h|⟨j,hj,h⟩)
    ·have h:k=b:=h;exact .inl (by show k<d.gl i;omega)
    ·have h:k=km:=h;exact .inl (by show k<d.gl i;omega)
    ·have h:k=d.pm j:=h;rw[h];exact hs.pg j hj i hi
   pc:=fun i hi=>by
    obtain⟨_,_,_,h3⟩:=hbp oQ;exact h3 i (.map (some (d.pm i))) (by simp[pmL,hi])
   pne:=hs.pne
   kne:=⟨by show km≠b;omega,fun i hi=>⟨by have:=(hs.pe i hi).2;show d.pm i≠b;omega,by have:=(hs.pe i hi).2;show d.pm i≠km;omega⟩⟩}
 refine⟨rd,rfl,fun V D S hrl hS h1 h2=>?_⟩
 have nS:∀k,W0.heap.size<=k->¬S k:=fun k hk g=>by have:=(hS k g).1;omega
 have hz:=waR W _ hr.c0;refine⟨hf.apart hrl (fun k g=>.inl (hS k g).1),⟨fun i hi=>⟨#[],0,?_,PartE.nil _ _ _ _⟩,⟨#[],0,(hrl.block km oQ (nS km oQ)).trans hs.hk,KnownE.nil _ _ _⟩,fun a ha=>⟨.pointer none,hrl.cell (hr.cw a ha) (nS b oQ),.inl rfl⟩,⟨0,hrl.cell hr.cm (nS b oQ)⟩⟩,h1,h2,hw.rls hrl (fun g=>(hS _ g).2 rfl),htz⟩
 have hp:=hs.pe i hi;exact(hrl.block _ (waL.1 hp.1).1 (nS (d.pm i) oQ)).trans hp.1
noncomputable def zdm (A:Option Addr) (n c M:Nat):Array Value:=(Tryz.zeroCells141.setIfInBounds 0 (.slice A n c)).setIfInBounds 2 (.map (some M))
theorem zvT:Tryz.zeroCells141=(Value.slice none 0 0::Value.slice none 0 0::Value.map none::Value.slice none 0 0::(List.replicate 256 (Value.pointer none)++[Value.int .i64 0])).toArray:=by kernel_rfl
theorem zqC (A:Option Addr) (n c M:Nat):(zdm A n c M)[0]?=some (.slice A n c)/\(zdm A n c M)[1]?=some (.slice none 0 0)/\(zdm A n c M)[2]?=some (.map (some M))/\(zdm A n c M)[3]?=some (.slice none 0 0)/\(∀a,a<256->(zdm A n c M)[4+a]?=some (.pointer none))/\(zdm A n c M)[260]?=some (.int .i64 0):=by
 have hL:∀(a:Nat),a<256->(List.replicate 256 (Value.pointer none)++[Value.int .i64 0])[a]?=some (.pointer none):=fun a ha=>by
  rw[List.getElem?_append_left (by simpa using ha),List.getElem?_replicate,if_pos ha]
 have hL2:(List.replicate 256 (Value.pointer none)++[Value.int .i64 0])[256]?=some (.int .i64 0):=by
  rw[List.getElem?_append_right (by simp)];simp
 unfold zdm;rw[zvT];generalize (List.replicate 256 (Value.pointer none)++[Value.int .i64 0])=R at *;simp only[wbU,wbW,wbV,List.getElem?_toArray];refine⟨rfl,rfl,rfl,rfl,fun a ha=>?_,?_⟩
 ·rw[show 4+a=a+1+1+1+1 by omega,List.getElem?_cons_succ,List.getElem?_cons_succ,List.getElem?_cons_succ,List.getElem?_cons_succ]
  exact hL a ha
 ·rw[show 260=256+1+1+1+1 by omega,List.getElem?_cons_succ,List.getElem?_cons_succ,List.getElem?_cons_succ,List.getElem?_cons_succ]
  exact hL2
theorem zvU:(prog.info? 142).map (fun i=>(i.zero,i.size,i.bytes))=some (some .nilFunc,1,8):=by kernel_rfl
theorem zvV:(prog.info? 144).map (fun i=>(i.zero,i.size,i.bytes))=some (some (.map none),1,8):=by kernel_rfl
def zg8 (n:Nat) (L:List Cl) (W:World) (e:Ending) (W':World):Prop:=
 Below W.heap.size W W'/\((8<n/\e=.returned (.tuple #[.pointer none,.int .i64 5]))\/(n<=8/\zeJ L=false/\e=.returned (.tuple #[.pointer none,.int .i64 1]))\/(n<=8/\zeJ L=true/\∃rd:RollD,e=.returned (.tuple #[.pointer (some ⟨rd.b,0,none⟩),.int .i64 0])/\
  ∀(V:World) (D:Nat) (S:Nat->Prop),RlS S W' V->(∀k,S k->k<W.heap.size/\k≠0)->W'.heap.size<=D->D<=V.heap.size->RollAt V rd L W.heap.size W'.heap.size D))
theorem zgr (A:Option Addr) (n cc:Nat) (L:List Cl) (W:World) (hA:zbh W A n L) (hn:n<=4294967296) (hnil:A=none->n=0) (hbit:∀c,c∈L->zbC c/\c.s<=9223372036854775807) (hw:Tz W):
 Calls prog 27 #[.slice A n cc] W (zg8 n L W):=by
 have HO:=waV (zqz A n cc L W hA hn hnil);have HTz:=waV hw;have htz:0<W.heap.size:=waR W _ (hw 0 dQ);have HBit:=waV hbit;clear hA hn hnil hbit hw;have hmm:=@run_makeMap prog;go_enter func27,ntmps27;go_wp2_with fail;refine HO.out.mono ?_;rintro e w1 ⟨hb1,(⟨h8,rfl⟩|⟨h8,hs,rfl⟩|⟨h8,hs,A',c',rfl,hr,hnw'⟩)⟩
 ·go_wp2
  (try simp only[Exit.inBlock,Exit.then])
  refine waY (wbM rfl _ _ _) rfl ?_;exact⟨hb1,.inl ⟨h8,rfl⟩⟩
 ·go_wp2
  (try simp only[Exit.inBlock,Exit.then])
  refine waY (wbM rfl _ _ _) rfl ?_;exact⟨hb1,.inr (.inl ⟨h8,hs,rfl⟩)⟩
 ·have HS:Hid (∀W3,W3=(w1.alloc (.map #[] 0)).alloc (.cells (zdm A' n c' w1.heap.size) 141)->NewS W (w1.heap.size+1) w1.heap.size A' n L 0 0 ⟨fun _=>0,fun _=> #[],fun _=>0,fun _=>0,fun _=>0⟩ W3/\NewR (w1.heap.size+1) w1.heap.size A' n c' 0 0 ⟨fun _=>0,fun _=> #[],fun _=>0,fun _=>0,fun _=>0⟩ (.slice none 0 0) (.slice none 0 0) W3):=fun W3 hW3=>by
   subst hW3;have hz:((w1.alloc (.map #[] 0)).alloc (.cells (zdm A' n c' w1.heap.size) 141)).heap.size=w1.heap.size+2:=by simp
   have hb3:Below w1.heap.size w1 ((w1.alloc (.map #[] 0)).alloc (.cells (zdm A' n c' w1.heap.size) 141)):=((waC _ w1).alloc (waJ _) _).alloc (by simp) _
   have hz1:=hb1.size;obtain⟨a0,a1,a2,a3,a4,a5⟩:=zqC A' n c' w1.heap.size;have cell:∀j v,(zdm A' n c' w1.heap.size)[j]?=some v->((w1.alloc (.map #[] 0)).alloc (.cells (zdm A' n c' w1.heap.size) 141)).cell? ⟨w1.heap.size+1,j,none⟩=some v:=fun j v hj=>by
    have h1:(w1.alloc (.map #[] 0)).heap.size=w1.heap.size+1:=by simp
    rw[<-h1];exact zaa rfl hj
   refine⟨⟨zaf hb1 hb3 hz1,⟨hz1,by omega,by omega⟩,?_,hr.below hb3 (waJ _),fun x hp hx=>⟨hnw' x hx,?_⟩,fun i hi=>absurd hi (Nat.not_lt_zero _),fun i hi=>absurd hi (Nat.not_lt_zero _),fun i j hi=>absurd hi (Nat.not_lt_zero _),fun i hi=>absurd hi (Nat.not_lt_zero _)⟩,
    ⟨cell _ _ a0,cell _ _ a1,cell _ _ a2,cell _ _ a3,fun a ha=>cell _ _ (a4 a ha),cell _ _ a5,fun j=>?_,World.ownsRow_nil _ _ _ _,World.ownsRow_nil _ _ _ _,fun r hr=>by rcases hr with hr|hr<;>cases hr⟩⟩
   ·exact(Below.heap_alloc _ _ _ (by simp)).trans (World.alloc_heap_new w1 _)
   ·obtain⟨b',o,e,hb,_⟩:=hr.2 hp;rw[hx] at e;cases e;exact hb
   ·unfold World.frozen?;rw[show w1.heap.size+1=(w1.alloc (.map #[] 0)).heap.size by simp,World.alloc_heap_new]
    simp
  go_wp2_with fail;obtain⟨hS0,hR0⟩:=HS.out _ rfl;have HS0:=waV hS0;have HR0:=waV hR0;have hb:=hS0.km0.2.2;clear hS0 hR0 HS;unfold zdm at HS0 HR0 hb;generalize ((w1.alloc (.map #[] 0)).alloc (.cells ((Tryz.zeroCells141.setIfInBounds 0 (.slice A' n c')).setIfInBounds 2 (.map (some w1.heap.size))) 141))=W3 at *;generalize hbb:w1.heap.size+1=b at *;generalize w1.heap.size=km at *
  go_loopw [23] (fun iv wr=>∃(k:Nat) (d:NewD) (vl vp:Value),k<=n/\iv=.int .i64 (k:Int)/\Hid (NewS W b km A' n L k k d wr)/\Hid (NewR b km A' n c' k k d vl vp wr)) (fun iv _=>n - (intOf iv).toNat)
  case atStart=>exact⟨0,_,_,_,waK _,rfl,HS0,HR0⟩
  case round=>
   obtain⟨k,d,vl,vp,hk,rfl,HSr,HRr⟩:=hrel;clear HS0 HR0;have hbr:=HSr.out.km0.2.2
   by_cases hlt:k<n
   ·have hlt':(k:Int)<(n:Int):=by omega
    obtain⟨bA,oA,c,hA1,hA2,hA3,hA4⟩:=zbh.at_ HSr.out.rd hlt
    have ec:=zqk hA3;have HLp:=waV (fun V=>zsO c (HBit.out c (List.mem_of_getElem? hA3)).1 (HBit.out c (List.mem_of_getElem? hA3)).2 V)
    subst hA1;have HI:=waV (zbV c);have Hcl:=waV hA4;have H1:Hid ((clA c).all (·.oneCell')=true):=by show _=_;kernel_rfl
    have HSz:Hid ((clA c).size=30):=by show _=_;kernel_rfl
    generalize clA c=cs at *
    go_wp2_with (first|(refine zag (by rfl) 60 _ rfl cs bA (oA+k * 30) rfl underlying60 rfl HI.out Hcl.out ?_)|(refine zaL (by rfl) 60 _ _ rfl cs _ rfl rfl HI.out H1.out HSz.out.symm ?_;intro w4 hq4 HS4 hz4)|fail)
    simp only[Act.put];have hXc:∀V,Below w4.heap.size w4 V->∀j v,cs[j]?=some v->V.cell? ⟨wr.heap.size,0+j,none⟩=some v:=fun V hV j v hj=>by
     have hlt2:=(waL.1 hj).1;rw[waH,(zad hV).1 _ _ (by omega),HS4.1 j hlt2]
     show some (cs.getD j undef)=some v;rw[wbL,hj];rfl
    have HSd:=waV (HSr.out.below hq4);have HRd:=waV (HRr.out.below hq4);have hz4':w4.heap.size=wr.heap.size+1:=hz4;have hb4:b<w4.heap.size:=by omega
    have HX:=waV hXc;have HSt:Hid (∀r,vl.ownBlock=some r\/vp.ownBlock=some r->r<wr.heap.size):=fun r hr=>by
     rcases hr with hr|hr
     ·obtain⟨_,_,h⟩:=zbr HRr.out.ol hr;exact(waL.1 h).1
     ·obtain⟨_,_,h⟩:=zbr HRr.out.op hr;exact(waL.1 h).1
    have HPm:Hid (∀i,i<k->d.pm i<wr.heap.size):=fun i hi=>(waL.1 (HSr.out.pe i hi).1).1
    clear hXc HS4 hq4 HSr HRr Hcl;have hu:=underlying60;have hi':(prog.info? 60).map (·.size)=some cs.toList.length:=by simpa using HI.out
    have hb5:Below w4.heap.size w4 w4.drew:=(waC _ _).drew;have hHeld:Hid (w4.drew.cell? ⟨b,1,none⟩=some vl/\∀j v,cs[j]?=some v->w4.drew.cell? ⟨wr.heap.size,0+j,none⟩=some v):=⟨HRd.out.c1,HX.out _ hb5⟩;refine zaB 9 (fun w'=>Hid (w'.cell? ⟨b,1,none⟩=some vl/\∀j v,cs[j]?=some v->w'.cell? ⟨wr.heap.size,0+j,none⟩=some v)) kQ ?_
    generalize w4.drew=w4d at *;refine(kP 0 27 (h:=(kP 1 28 (h:=(kP 2 29 (h:=(kP 3 30 (h:=(kR 4 31 (fun w_ hSw_=>hSw_.out.1) (h:=?_))))))))))
    simp only[Act.put,zbj,zbk,zbl];refine zai (i:=5) (dst:=some 32) (v:=.agg cs.toList.toArray) (hy:=fun o_ ho_=>?_) (hS:=hHeld) (h:=?_)
    case refine_1=>(obtain rfl:=waB ho_;exact yieldsIf_load_mid (by rfl) 60 _ rfl wr.heap.size 0 rfl cs.toList _ (fun w' hw' j v hj=>hw'.out.2 j v (by simpa using hj)) hu rfl hi')
    simp only[Act.put,zbj,zbk,zbl,Array.toArray_toList];refine zac (i:=6) kQ fun o_ ho_ K_ hK_=>?_
    obtain rfl:=waB ho_;have HK_:=waV hK_;clear hK_ ho_
    go_wp2_with (go_at_call 71;refine(HLp.out _).mono ?_;rintro e w5 ⟨g,lb,rfl,eg,hL,hq5⟩)
    have hb45:Below w4.heap.size w4 w5:=zaf hb5 hq5 hb5.size;have hH5:Hid (w5.cell? ⟨b,1,none⟩=some vl/\∀j v,cs[j]?=some v->w5.cell? ⟨wr.heap.size,0+j,none⟩=some v):=⟨((zad hb45).1 _ _ hb4).trans HRd.out.c1,HX.out _ hb45⟩;refine HK_.out _ _ hH5 ?_;clear HK_ hHeld;refine zac (i:=7) kQ fun o_ ho_ K_ hK_=>?_
    obtain rfl:=waB ho_;have HK_:=waV hK_;clear hK_ ho_;have hb6:Below w5.heap.size w5 (w5.alloc (.cells #[.func (.func g) #[] lb] 142)):=(waC _ _).alloc (waJ _) _;have hb46:Below w4.heap.size w4 (w5.alloc (.cells #[.func (.func g) #[] lb] 142)):=zaf hb45 hb6 hb45.size;have hH6:Hid ((w5.alloc (.cells #[.func (.func g) #[] lb] 142)).cell? ⟨b,1,none⟩=some vl/\∀j v,cs[j]?=some v->(w5.alloc (.cells #[.func (.func g) #[] lb] 142)).cell? ⟨wr.heap.size,0+j,none⟩=some v):=⟨((zad hb46).1 _ _ hb4).trans HRd.out.c1,HX.out _ hb46⟩;have HS6:=waV (HSd.out.below hb46);have HR6:=waV (HRd.out.below hb46);have HL6:Hid (zgN g lb (zeE L k) w4d.heap.size w5.heap.size (w5.alloc (.cells #[.func (.func g) #[] lb] 142))):=by
     rw[ec];exact hL.later (KpI.of_below hb6 (waJ _))
    have hnew:∀(j:Nat) u,[Value.func (.func g) #[] lb][j]?=some u->(w5.alloc (.cells #[.func (.func g) #[] lb] 142)).cell? ((⟨w5.heap.size,0,none⟩:Addr).add j)=some u:=by
     intro j u hu;rcases j with _|j
     ·simp at hu;subst hu;exact zaa rfl rfl
     ·simp at hu
    have hz4d:w4.heap.size<=w4d.heap.size:=hb5.size;have hz5:w4d.heap.size<=w5.heap.size:=hq5.size;have HNew:=waV hnew;go_wp2;refine HK_.out _ _ hH6 ?_;have HX6:=waV hH6.out.2;clear HK_ hH5 hnew hL hH6 HSd HRd HX hq5 hb5;have hz6:(w5.alloc (.cells #[.func (.func g) #[] lb] 142)).heap.size=w5.heap.size+1:=by simp
    generalize (w5.alloc (.cells #[.func (.func g) #[] lb] 142))=w6 at *;obtain⟨i0,hi0,hzz0,hzz1,hzz2⟩:=info_parts zvU;refine zac (i:=8) kQ fun o_ ho_ K_ hK_=>?_
    obtain rfl:=waB ho_;have HK_:=waV hK_;clear hK_ ho_;refine wpList_append_own_at _ rfl _ _ 137 rfl (b+1) 142 i0 .nilFunc 1 8 underlying137 hi0 hzz0 hzz1 hzz2 rfl dQ vl k (fnL d k) rfl HR6.out.ol ⟨w5.heap.size,0,none⟩ 1 1 [.func (.func g) #[] lb] rfl rfl HNew.out (by intro u hu;simp at hu;subst hu;rfl) (by unfold maxLen;omega) oQ oQ ?_
    intro vl' w7 hown7 hg7 _ hat7;obtain⟨A7,c7,rfl,_⟩:=zfq hown7;have hbL:b<w4d.heap.size:=by omega
    have HR8:=waV (HR6.out.addL (g:=g) (lo:=w4d.heap.size) (hi:=w5.heap.size) (lb:=lb) (fun r hr=>.inl (by have:=HSt.out r hr;omega)) oQ (fun i hi=>(HS6.out.fn i hi).2.2.2) hown7 hg7 hat7)
    have HS8:=waV (HS6.out.pushL HR6.out eg HL6.out hbL oQ (fun r hr=>by have:=HSt.out r hr;omega) (fun i hi=>by have:=HPm.out i hi;omega) hg7 (.slice A7 (k+1) c7))
    have nb7:some b≠vl.ownBlock:=fun e=>by have:=(zbr HR6.out.ol e.symm).1;omega
    have c17:w7.cell? ⟨b,1,none⟩=some vl:=(wbK (hg7.block b oQ nb7)).trans HR6.out.c1;have f17:∀j,w7.frozen? ⟨b,j,none⟩=false:=fun j=>(World.frozen?_of_block (hg7.block b oQ nb7)).trans (HR6.out.fz j)
    have lb7:=waR w7 _ c17;have hc17:w7.cell? ⟨b,1,none⟩=some vl/\∀j v,cs[j]?=some v->w7.cell? ⟨wr.heap.size,0+j,none⟩=some v:=⟨c17,fun j v hj=>(wbK (hg7.block wr.heap.size oQ (fun e=>by have:=HSt.out _ (.inl e.symm);omega))).trans (HX6.out j v hj)⟩
    go_wp2;refine HK_.out _ _ hc17 ?_;clear HK_ hc17 HR6 HS6 HL6 HSt hown7 hat7 HNew HX6;have c37:w7.cell? ⟨b,3,none⟩=some vp:=(waU w7 ⟨b,1,none⟩ ⟨b,3,none⟩ (.slice A7 (k+1) c7) (by simp)).symm.trans HR8.out.c3
    have hz7:wr.heap.size<=w7.heap.size:=by have:=hg7.size;omega
    have hzs:(w7.setCell ⟨b,1,none⟩ (.slice A7 (k+1) c7)).heap.size=w7.heap.size:=by simp
    have hbx:Below (w7.setCell ⟨b,1,none⟩ (.slice A7 (k+1) c7)).heap.size (w7.setCell ⟨b,1,none⟩ (.slice A7 (k+1) c7)) (((w7.setCell ⟨b,1,none⟩ (.slice A7 (k+1) c7)).alloc (.map #[] 0)).alloc (.cells #[.map (some w7.heap.size)] 144)):=((waC _ _).alloc (waJ _) _).alloc (by simp) _
    have HRx:=waV (HR8.out.below hbx);have HSx:=waV (HS8.out.below hbx);have hnx:∀(j:Nat) u,[Value.map (some w7.heap.size)][j]?=some u->(((w7.setCell ⟨b,1,none⟩ (.slice A7 (k+1) c7)).alloc (.map #[] 0)).alloc (.cells #[.map (some w7.heap.size)] 144)).cell? ((⟨w7.heap.size+1,0,none⟩:Addr).add j)=some u:=by
     intro j u hu;rcases j with _|j
     ·simp at hu;subst hu;have h1:((w7.setCell ⟨b,1,none⟩ (.slice A7 (k+1) c7)).alloc (.map #[] 0)).heap.size=w7.heap.size+1:=by simp
      rw[<-h1];exact zaa rfl rfl
     ·simp at hu
    have hmx:(((w7.setCell ⟨b,1,none⟩ (.slice A7 (k+1) c7)).alloc (.map #[] 0)).alloc (.cells #[.map (some w7.heap.size)] 144)).heap[w7.heap.size]?=some (.map #[] 0):=by
     refine(Below.heap_alloc _ _ _ (by simp)).trans ?_
     have:=World.alloc_heap_new (w7.setCell ⟨b,1,none⟩ (.slice A7 (k+1) c7)) (.map #[] 0)
     rwa [hzs] at this
    have HNx:=waV hnx;have HMx:=waV hmx;have hghx:∀j,j<k+1->(d.addL k g w4d.heap.size w5.heap.size lb).gh j<=w7.heap.size:=fun j hj=>by have:=(HS8.out.fn j hj).2.2.2;omega
    have HGx:=waV hghx;obtain⟨j0,hj0,hjz0,hjz1,hjz2⟩:=info_parts zvV;clear hnx hmx HR8 HS8 hbx hghx;refine zaq (j:=3) dQ (.inr rfl) dQ kQ ?_;simp only[wbQ,waG,List.length_nil,Nat.reduceAdd,Nat.reduceSub,waZ,wbA]
    go_wp2_with (at_builtin;refine wpList_append_own_at _ rfl _ _ 138 rfl (b+1) 144 j0 (.map none) 1 8 underlying138 hj0 hjz0 hjz1 hjz2 rfl dQ vp k (pmL (d.addL k g w4d.heap.size w5.heap.size lb) k) rfl HRx.out.op ⟨w7.heap.size+1,0,none⟩ 1 1 [.map (some w7.heap.size)] rfl rfl HNx.out (by intro u hu;simp at hu;subst hu;rfl) (by unfold maxLen;omega) oQ (by simp;omega) ?_;intro vp' w9 hown9 hg9 _ hat9;obtain⟨A9,c9,rfl,_⟩:=zfq hown9;have HR9:=waV (HRx.out.addP (m:=w7.heap.size) (fun i hi=>(HSx.out.fn i hi).2.2.2) hown9 hg9 hat9);have HS9:=waV (HSx.out.pushP HRx.out HMx.out oQ (fun i hi=>by have h9:=HPm.out i hi;show d.pm i≠_;omega) HGx.out hg9 (.slice A9 (k+1) c9));have nb9:some b≠vp.ownBlock:=(fun e=>by have h9:=(zbr HRx.out.op e.symm).1;omega);have lbx:=waR _ _ HRx.out.c3;have c39:w9.cell? ⟨b,3,none⟩=some vp:=(wbK (hg9.block b lbx nb9)).trans HRx.out.c3;have f39:∀j,w9.frozen? ⟨b,j,none⟩=false:=(fun j=>(World.frozen?_of_block (hg9.block b lbx nb9)).trans (HRx.out.fz j));have lb9:=waR w9 _ c39;clear lbx hown9 hat9)
    go_roundw
    case rel=>exact⟨k+1,_,_,_,by omega,by go_num,HS9,HR9⟩
    case measure=>simp [intOf];omega
   ·obtain rfl:k=n:=by omega
    have hlt':¬((k:Int)<(k:Int)):=by omega
    have hbw:=HSr.out.bel;obtain⟨rd,hrb,hrd⟩:=zqB HSr.out HRr.out h8 hs HBit.out (HTz.out.below hbw) htz;have HRd:=waV hrd;have HBw:=waV hbw;clear hrd hbw HSr HRr;go_wp2
    (try simp only[Exit.inBlock,Exit.then])
    refine waY (wbM rfl _ _ _) rfl ?_;exact⟨HBw.out,.inr (.inr ⟨h8,hs,rd,by rw[hrb];rfl,HRd.out⟩)⟩
def zqD (f u n:Int):Bool:=!decide (zao (zjF f n) (zi2 u n)<0)
theorem zoc (f u n:Int) (w:World):Calls prog 127 #[.agg #[.int .i64 f,.int .i64 u],.int .i64 n] w (Ret (.bool (zqD f u n)) w):=by
 have HC:=waV (fun V=>zmD f u n V)
 by_cases h:zao (zjF f n) (zi2 u n)<0
 ·have HB:Hid (zqD f u n=false):=by show _=_;unfold zqD;rw[waP h];rfl
  rw[if_pos h] at HC;rw[HB.out];clear HB h;go_enter func127,ntmps127;go_wp2_with fail;refine(HC.out _).mono ?_;rintro e w1 ⟨rfl,hb1⟩;have hbw:=((waC _ w).alloc (waJ _) (.cells #[.int .i64 f,.int .i64 u] 129)).trans (hb1.mono (by simp))
  clear hb1;go_wp2;go_ret;exact⟨rfl,hbw⟩
 ·have HB:Hid (zqD f u n=true):=by show _=_;unfold zqD;rw[waO h];rfl
  rw[if_neg h] at HC;rw[HB.out];generalize zaw (zjF f n) (zi2 u n)%86400=x at *;generalize zao (zjF f n) (zi2 u n)%86400=y at *;clear HB h;go_enter func127,ntmps127;go_wp2_with fail;refine(HC.out _).mono ?_;rintro e w1 ⟨rfl,hb1⟩;have hbw:=((waC _ w).alloc (waJ _) (.cells #[.int .i64 f,.int .i64 u] 129)).trans (hb1.mono (by simp))
  clear hb1;go_wp2;go_ret;exact⟨rfl,hbw⟩
def zeR (a f u:Int):Int:=if zao f u<0 then a else min a (zaw f u / 86400)
def zeS (a f u:Int):Int:=if zao f u<0 then a else max a (zao f u / 86400)
def zhu (f1 u1 f2 u2:Int) (k:Nat):Int:=if k=0 then 146097 else if k=1 then zeR 146097 f1 u1 else zeR (zeR 146097 f1 u1) f2 u2
def zhv (f1 u1 f2 u2:Int) (k:Nat):Int:=if k=0 then -1 else if k=1 then zeS (-1) f1 u1 else zeS (zeS (-1) f1 u1) f2 u2
theorem zlD (b:Nat) (f1 u1 f2 u2:Int) (W:World) (c5:W.cell? ⟨b,5,none⟩=some (.int .i64 f1)) (c6:W.cell? ⟨b,6,none⟩=some (.int .i64 u1)) (c7:W.cell? ⟨b,7,none⟩=some (.int .i64 f2)) (c8:W.cell? ⟨b,8,none⟩=some (.int .i64 u2)):
 Calls prog 126 #[.pointer (some ⟨b,0,none⟩)] W (Ret (.tuple #[.int .i64 (zhu f1 u1 f2 u2 2),.int .i64 (zhv f1 u1 f2 u2 2)]) W):=by
 have HD:=waV (fun f u V=>zgM f u V)
 have lb:=waR W _ c5;have hx0:∀V,(Instr.index 130 (.agg #[.int .i64 f1,.int .i64 u1,.int .i64 f2,.int .i64 u2]) (.int .i64 0)).run prog V=.ok (.agg #[.int .i64 f1,.int .i64 u1]) V:=fun V=>by kernel_rfl
 have hx1:∀V,(Instr.index 130 (.agg #[.int .i64 f1,.int .i64 u1,.int .i64 f2,.int .i64 u2]) (.int .i64 1)).run prog V=.ok (.agg #[.int .i64 f2,.int .i64 u2]) V:=fun V=>by kernel_rfl
 go_enter func126,ntmps126;go_wp2
 go_loopw [4,5,15] (fun a z i wr=>∃k:Nat,k<=2/\i=.int .i64 (k:Int)/\a=.int .i64 (zhu f1 u1 f2 u2 k)/\z=.int .i64 (zhv f1 u1 f2 u2 k)/\Below W.heap.size W wr) (fun _ _ i _=>2 - (intOf i).toNat)
 case atStart=>exact⟨0,by decide,rfl,rfl,rfl,waC _ _⟩
 case round=>
  obtain⟨k,hk,rfl,rfl,rfl,hb⟩:=hrel;obtain rfl|rfl|rfl:k=0\/k=1\/k=2:=by omega
  ·have HF:Hid (zhu f1 u1 f2 u2 1=zeR (zhu f1 u1 f2 u2 0) f1 u1):=rfl;have HU:Hid (zhv f1 u1 f2 u2 1=zeS (zhv f1 u1 f2 u2 0) f1 u1):=rfl;have HDk:=waV (fun V=>HD.out f1 u1 V)
   have hz:=hb.size;generalize zhu f1 u1 f2 u2 0=aF at *;generalize zhv f1 u1 f2 u2 0=aU at *;unfold zj1 at HDk;unfold zeR at HF;unfold zeS at HU
   by_cases h:zao f1 u1<0
   ·rw[if_pos h] at HDk HF HU;clear h;go_wp2_with fail;refine(HDk.out _).mono ?_;rintro e w1 ⟨rfl,hb1⟩;have hbw:=(hb.alloc oQ (.cells #[.int .i64 f1,.int .i64 u1] 129)).trans (hb1.mono (by simp;omega))
    clear hb1;go_wp2;go_roundw
    case rel=>exact⟨1,by decide,by go_num,by rw[HF.out],by rw[HU.out],hbw⟩
    case measure=>simp [intOf]
   ·rw[if_neg h] at HDk HF HU;generalize zaw f1 u1 / 86400=x at *;generalize zao f1 u1 / 86400=y at *;clear h;go_wp2_with fail;refine(HDk.out _).mono ?_;rintro e w1 ⟨rfl,hb1⟩;have hbw:=(hb.alloc oQ (.cells #[.int .i64 f1,.int .i64 u1] 129)).trans (hb1.mono (by simp;omega))
    clear hb1;go_wp2
    all_goals (
     go_roundw
     case rel=>exact⟨1,by decide,by go_num,by rw[HF.out];all_goals (congr 1;omega),by rw[HU.out];all_goals (congr 1;omega),hbw⟩
     case measure=>simp [intOf])
  ·have HF:Hid (zhu f1 u1 f2 u2 2=zeR (zhu f1 u1 f2 u2 1) f2 u2):=rfl;have HU:Hid (zhv f1 u1 f2 u2 2=zeS (zhv f1 u1 f2 u2 1) f2 u2):=rfl;have HDk:=waV (fun V=>HD.out f2 u2 V)
   have hz:=hb.size;generalize zhu f1 u1 f2 u2 1=aF at *;generalize zhv f1 u1 f2 u2 1=aU at *;unfold zj1 at HDk;unfold zeR at HF;unfold zeS at HU
   by_cases h:zao f2 u2<0
   ·rw[if_pos h] at HDk HF HU;clear h;go_wp2_with fail;refine(HDk.out _).mono ?_;rintro e w1 ⟨rfl,hb1⟩;have hbw:=(hb.alloc oQ (.cells #[.int .i64 f2,.int .i64 u2] 129)).trans (hb1.mono (by simp;omega))
    clear hb1;go_wp2;go_roundw
    case rel=>exact⟨2,by decide,by go_num,by rw[HF.out],by rw[HU.out],hbw⟩
    case measure=>simp [intOf]
   ·rw[if_neg h] at HDk HF HU;generalize zaw f2 u2 / 86400=x at *;generalize zao f2 u2 / 86400=y at *;clear h;go_wp2_with fail;refine(HDk.out _).mono ?_;rintro e w1 ⟨rfl,hb1⟩;have hbw:=(hb.alloc oQ (.cells #[.int .i64 f2,.int .i64 u2] 129)).trans (hb1.mono (by simp;omega))
    clear hb1;go_wp2
    all_goals (
     go_roundw
     case rel=>exact⟨2,by decide,by go_num,by rw[HF.out];all_goals (congr 1;omega),by rw[HU.out];all_goals (congr 1;omega),hbw⟩
     case measure=>simp [intOf])
  ·go_wp2
   (try simp only[Exit.inBlock,Exit.then])
   refine waY (wbM rfl _ _ _) rfl ?_;exact⟨rfl,hb⟩
end Go.Proofs.YtllcdbgjeidlkaaGreatDoor
