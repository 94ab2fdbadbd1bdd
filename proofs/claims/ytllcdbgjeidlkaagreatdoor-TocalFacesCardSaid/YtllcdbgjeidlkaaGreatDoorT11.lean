/- A part of the proof: WIter -/
import Derived.RangeFuncNested
import Derived.RangeFuncBound
import Derived.RangeFuncCalls
import Derived.RangeFuncLeaves
import Derived.Shelf.RegionOpen
import Derived.OwnWalkIn
import Derived.TacticsInMore
import Derived.LoopNIn
import Derived.LoopIn
import Derived.Test.YtllcdbgjeidlkaaGreatDoorT04
import Derived.Lib.TrailingZeros
import Derived.Test.YtllcdbgjeidlkaaGreatDoorT00
import Derived.Shelf.Spec.TrailingZeros
import Derived.Test.YtllcdbgjeidlkaaGreatDoorT05
import Derived.StillTailTactics
set_option maxHeartbeats 80000000
set_option maxRecDepth 100000
set_option linter.unusedSimpArgs false
set_option linter.unusedVariables false
namespace Go.Proofs.YtllcdbgjeidlkaaGreatDoor
open Go.Proofs.Tryz
open Go.RowKit Go.Shelf
structure Rl (lo hi B:Nat) (W W':World):Prop where
 os:W'.os=W.os
 tape:W'.tape=W.tape
 output:W'.output=W.output
 size:W.heap.size<=W'.heap.size
 block:∀k o,W.heap[k]?=some o->(k<lo\/hi<=k)->(k<B\/o.isCells=true)->W'.heap[k]?=some o
theorem Rl.refl (lo hi B:Nat) (W:World):Rl lo hi B W W:=⟨rfl,rfl,rfl,waJ _,fun _ _ h _ _=>h⟩
theorem Rl.trans {lo hi B:Nat} {X Y Z:World} (h:Rl lo hi B X Y) (k:Rl lo hi B Y Z):Rl lo hi B X Z:=
 ⟨k.os.trans h.os,k.tape.trans h.tape,k.output.trans h.output,waW h.size k.size,fun i o hi h1 h2=>k.block i o (h.block i o hi h1 h2) h1 h2⟩
theorem Rl.mono {lo hi B B':Nat} {X Y:World} (h:Rl lo hi B' X Y) (hB:B<=B'):Rl lo hi B X Y:=
 ⟨h.os,h.tape,h.output,h.size,fun i o hi h1 h2=>h.block i o hi h1 (h2.imp (fun h=>by omega) id)⟩
theorem Rl.alloc {lo hi B:Nat} {X Y:World} (h:Rl lo hi B X Y) (o:Obj):Rl lo hi B X (Y.alloc o):=
 h.trans ⟨rfl,rfl,rfl,by simp,fun k o' hk _ _=>(Below.heap_alloc Y o k (waL.1 hk).1).trans hk⟩
theorem Rl.drew {lo hi B:Nat} {X Y:World} (h:Rl lo hi B X Y):Rl lo hi B X Y.drew:=⟨h.os,h.tape,h.output,h.size,h.block⟩
theorem Rl.below {lo hi B:Nat} {X Y Z:World} (h:Rl lo hi B X Y) (hb:Below Y.heap.size Y Z):Rl lo hi B X Z:=
 h.trans ⟨hb.os,hb.tape,hb.output,hb.size,fun k o' hk _ _=>(hb.block k (waL.1 hk).1).trans hk⟩
theorem Rl.put {lo hi B:Nat} {X Y:World} (h:Rl lo hi B X Y) {l:Nat} {o:Obj} (o':Obj) (hl:Y.heap[l]?=some o) (ho:o.isCells=false) (hB:B<=l):Rl lo hi B X (Y.putObj l o'):=
 h.trans ⟨rfl,rfl,rfl,by simp,fun k q hk _ hq=>by
  by_cases e:k=l
  ·subst e;rw[hl] at hk;cases hk;rcases hq with h1|h1
   ·omega
   ·rw[ho] at h1;cases h1
  ·rw[World.putObj_heap_other e];exact hk⟩
theorem Rl.set {lo hi B:Nat} {X Y:World} (h:Rl lo hi B X Y) (a:Addr) (v:Value) (h1:lo<=a.block) (h2:a.block<hi):Rl lo hi B X (Y.setCell a v):=
 h.trans ⟨rfl,rfl,rfl,(KeepsWalks.setCell Y a v).size,fun k q hk hr _=>by
  rw[wbJ _ _ _ _ (by omega)];exact hk⟩
theorem Rl.keeps {lo hi B:Nat} {X Y:World} (h:Rl lo hi B X Y) {l:Nat} {o:Obj} (hl:X.heap[l]?=some o) (hh:hi<=l) (hB:l<B):Y.heap[l]?=some o:=h.block l o hl (.inr hh) (.inl hB)
theorem Rl.cell {lo hi B:Nat} {X Y:World} (h:Rl lo hi B X Y) {b o:Nat} {v:Value} (hc:X.cell? ⟨b,o,none⟩=some v) (hr:b<lo\/hi<=b):Y.cell? ⟨b,o,none⟩=some v:=by
 obtain⟨q,hq,hcells⟩:=cells_of_cell hc;exact(wbK ((h.block b q hq hr (.inr hcells)).trans hq.symm)).trans hc
theorem KpI.putObj {p q:Nat} {W:World} (l:Nat) (o':Obj) (h:q<=l):KpI p q W (W.putObj l o'):=⟨by simp,fun k _ h2=>World.putObj_heap_other oQ⟩
theorem Rl.own {lo hi B:Nat} {X Y Z:World} {row:Option Nat} (h:Rl lo hi B X Y) (hg:Y.grownBy Z row) (hr:∀r,row=some r->B<=r/\∃o:Obj,Y.heap[r]?=some o/\o.isCells=false):Rl lo hi B X Z:=
 h.trans ⟨hg.os,hg.tape,hg.output,hg.size,fun k q hk _ h2=>(hg.block k (waL.1 hk).1 (fun e=>by
  obtain⟨h3,o,ho,hc⟩:=hr k e.symm;rw[hk] at ho;cases ho;rcases h2 with h4|h4
  ·omega
  ·rw[hc] at h4;cases h4)).trans hk⟩
theorem zaM {β:Type} {lo hi B:Nat} {J:β->World->Prop} (h:∀s X Y,J s X->Rl lo hi B X Y->J s Y):OwnFrom B J:=fun s X Y row hs hg hr=>h s X Y hs ((Rl.refl lo hi B X).own hg hr)
structure KpM (M:Nat->Prop) (W W':World):Prop where
 size:W.heap.size<=W'.heap.size
 cells:∀k o,W.heap[k]?=some o->o.isCells=true->¬M k->W'.heap[k]?=some o
theorem KpM.refl (M:Nat->Prop) (W:World):KpM M W W:=⟨waJ _,fun _ _ h _ _=>h⟩
theorem KpM.trans {M:Nat->Prop} {X Y Z:World} (h:KpM M X Y) (k:KpM M Y Z):KpM M X Z:=⟨waW h.size k.size,fun i o h1 h2 h3=>k.cells i o (h.cells i o h1 h2 h3) h2 h3⟩
theorem KpM.putObj {M:Nat->Prop} {W:World} {l:Nat} {o:Obj} (o':Obj) (hl:W.heap[l]?=some o) (ho:o.isCells=false):KpM M W (W.putObj l o'):=⟨by simp,fun k q h1 h2 _=>by
 by_cases e:k=l
 ·subst e;rw[hl] at h1;cases h1;rw[ho] at h2;cases h2
 ·rw[World.putObj_heap_other e];exact h1⟩
theorem KpM.of_below {M:Nat->Prop} {W W':World} (h:Below W.heap.size W W'):KpM M W W':=⟨h.size,fun k o h1 _ _=>(h.block k (waL.1 h1).1).trans h1⟩
theorem KpM.of_rl {M:Nat->Prop} {lo hi B:Nat} {W W':World} (h:Rl lo hi B W W') (hM:∀k,lo<=k->k<hi->M k):KpM M W W':=⟨h.size,fun k o h1 h2 h3=>h.block k o h1 (by
 false_or_by_contra
 exact h3 (hM k oQ oQ)) (.inr h2)⟩
theorem KpM.alloc {M:Nat->Prop} {X Y:World} (h:KpM M X Y) (o:Obj):KpM M X (Y.alloc o):=h.trans ⟨by simp,fun k q h1 _ _=>(Below.heap_alloc Y o k (waL.1 h1).1).trans h1⟩
theorem KpM.block {M:Nat->Prop} {W W':World} (h:KpM M W W') {b o:Nat} {v:Value} (hc:W.cell? ⟨b,o,none⟩=some v) (hM:¬M b):W'.heap[b]?=W.heap[b]? :=by
 obtain⟨q,hq,hcells⟩:=cells_of_cell hc;exact(h.cells b q hq hcells hM).trans hq.symm
theorem KpM.cell {M:Nat->Prop} {W W':World} (h:KpM M W W') {b o:Nat} {v:Value} (hc:W.cell? ⟨b,o,none⟩=some v) (hM:¬M b):W'.cell? ⟨b,o,none⟩=some v:=
 (wbK (h.block hc hM)).trans hc
theorem zan {B B':Nat} {X Y:World} (h:KeepsFrom B X Y) (hB:B<=B'):KeepsFrom B' X Y:=⟨h.size,fun i o h1 h2 h3=>h.same i o oQ h2 h3⟩
theorem zfe {B:Nat} {X Y:World} (h:KeepsFrom B X Y) (l:Nat) (o:Obj) (hl:l<B):KeepsFrom B X (Y.putObj l o):=
 h.trans ⟨by simp,fun i o h1 h2 h3=>(World.putObj_heap_other oQ).trans h2⟩
section
variable {F : Fence} {n : Nat} {P : Program}
def zxj {α:Type} (F:Fence) (n:Nat) (P:Program) (g:Nat) (lb:Array Value) (encs:α->Array Value) (E:α->World->Prop) (Kp:World->World->Prop) (S Sp:List α->Prop) (N lo hi:Nat) (St:World->Prop):Prop:=
 ∀(l:Nat) (J Jx:List α->World->Prop) (W:World),St W->(∀s A B,J s A->Rl lo hi W.heap.size A B->J s B)->(∀s A B,Jx s A->Rl lo hi W.heap.size A B->Jx s B)->
  (∀pre x W1,J pre W1->E x W1->pre.length<N->YieldAt F (n - 1) P l (encs x) W1 fun e W'=>
    (e=.returned (.bool true)/\J (pre++[x]) W'/\Kp W1 W'/\KeepsFrom W.heap.size W1 W')\/(e=.returned (.bool false)/\Jx (pre++[x]) W'/\KeepsFrom W.heap.size W1 W'))->
  J [] W->
  CallsIn F n P g (#[.func (.yield l) #[] #[]]++lb) W fun e W'=>(∃v,e=.returned v)/\((∃xs,S xs/\J xs W')\/(∃pre,Sp pre/\Jx pre W'))
theorem zxk {lo hi B:Nat} {w:World} (o o':Obj):Rl lo hi B w ((w.alloc o).alloc o'):=((Rl.refl lo hi B w).alloc o).alloc o'
theorem za4 {α:Type} {g:Operand} {ps:Array Tmp} {assign body:Code} {Q:Exit->Act->World->Prop} {a:Act} {w:World}
 (hro:F.round=none) (h1:1<=n) {gf:Nat} {lb:Array Value} (hg:a.eval g=.func (.func gf) #[] lb) (hFg:F.fn gf) (eg:∀args w,(callFunc gf args).run P w=.ok (.enter gf args) w)
 {encs:α->Array Value} {E:α->World->Prop} {Kp:World->World->Prop} {S Sp:List α->Prop} {N lo hi:Nat} {St:World->Prop} (hseq:zxj F (n - 1) P gf lb encs E Kp S Sp N lo hi St)
 (hKt:∀{A B C:World},Kp A B->Kp B C->Kp A C) (hKb:∀(W:World) (l:Nat) (o o':Obj),w.heap.size<=l->W.heap[l]?=some o->o.isCells=false->o.isWalk=false->Kp W (W.putObj l o'))
 (hst:∀o o',St ((w.alloc o).alloc o')) (hps:∀x,(encs x).size=ps.size) (hhi:hi<=w.heap.size)
 (I:List α->World->Prop) (Ix:Code->List α->World->Prop) (hI:∀s A B,I s A->Rl lo hi w.heap.size A B->I s B) (hIx:∀c s A B,Ix c s A->Rl lo hi w.heap.size A B->Ix c s B) (h0:I [] w)
 (Ax:α->Act->World->Prop) (hAx:∀x a' A B,Ax x a' A->Rl 0 0 w.heap.size A B->Ax x a' B) (hE:∀x A B,E x A->Rl 0 0 w.heap.size A B->E x B)
 (hassign:∀(l:Nat) (pre:List α) (x:α) (W:World) (K:Act->World->Prop),I pre W->E x W->(∀a' W',KeepsFrom w.heap.size W W'->Kp W W'->Rl 0 0 w.heap.size W W'->I pre W'->Ax x a' W'->K a' W')->
   assign.wpIn (F.inRound l) (n - 1 - 1) P (Exit.then K (fun _ _ _=>False)) {tmps:=(ps.zip (encs x)).foldl (fun t (p,v)=>t.setIfInBounds p v) a.tmps,defers:=[]} W)
 (hbody:∀(l:Nat) (pre:List α) (x:α) (a':Act) (W:World),w.heap.size<=l->(∃r,W.heap[l]?=some (.loop r))->I pre W->E x W->Ax x a' W->pre.length<N->body.wpIn (F.inRound l) (n - 1 - 1) P (ownPostG w.heap.size Kp I Ix (pre++[x]) W) a' W)
 (hdone:∀(D:Nat) (xs:List α) (W:World),w.heap.size<=D->S xs->I xs W->W.heap[D]?=some (.deferred (some []))->Q .normal {a with defers:={target:=.collected D,args:=#[]}::a.defers} W)
 (hstop:∀(D:Nat) (c:Code) (pre:List α) (W:World),w.heap.size<=D->Sp pre->Ix c pre W->W.heap[D]?=some (.deferred (some []))->c.wpIn F n P Q {a with defers:={target:=.collected D,args:=#[]}::a.defers} W):
 (Code.rangeFunc g ps assign body).wpIn F n P Q a w:=by
 refine wpIn_rangeFunc fun fn hfn=>?_
 rw[hro];obtain⟨rec,hrec⟩:∃rec:LoopState->Option Code->Loop,rec=fun st pe=>{state:=st,pending:=pe,fn,tmps:=a.tmps,params:=ps,assign,body,defers:=w.heap.size}:=⟨_,rfl⟩
 obtain⟨W1,hW1⟩:∃W1,(w.alloc (.deferred (some []))).alloc (.loop (rec .ready none))=W1:=⟨_,rfl⟩;have z1:W1.heap.size=w.heap.size+2:=by rw[<-hW1];simp
 have hL1:W1.heap[w.heap.size+1]?=some (.loop (rec .ready none)):=by
  rw[<-hW1];have:=World.alloc_heap_new (w.alloc (.deferred (some []))) (.loop (rec .ready none));rwa [World.size_alloc] at this
 have hK1:W1.heap[w.heap.size]?=some (.deferred (some [])):=by
  rw[<-hW1];exact(Below.heap_alloc _ _ _ (by simp)).trans (World.alloc_heap_new w _)
 have hI1:I [] W1:=by rw[<-hW1];exact hI _ _ _ h0 (zxk _ _)
 have hS1:St W1:=by rw[<-hW1];exact hst _ _
 refine⟨w.heap.size+1,[{target:=.collected w.heap.size,args:=#[]}],W1,{target:=.fn (.func gf) lb,args:=#[.func (.yield (w.heap.size+1)) #[] #[]]},W1,gf,
  #[.func (.yield (w.heap.size+1)) #[] #[]]++lb,W1,?_,?_,?_,?_,fun _=>h1,?_⟩
 ·rw[<-hW1,hrec];exact run_enterLoop_outer _ _ _ _ _
 ·simp only[resolve,hg];simp[go_sem]
 ·intro f' hf';simp[Target.leads] at hf';subst hf';exact hFg
 ·simp[invoke,go_sem,eg]
 ·refine(hseq (w.heap.size+1)
   (fun pre W=>I pre W/\W.heap[w.heap.size+1]?=some (.loop (rec .ready none))/\W.heap[w.heap.size]?=some (.deferred (some [])))
   (fun pre W=>∃c,Ix c pre W/\W.heap[w.heap.size+1]?=some (.loop (rec .done (some c)))/\W.heap[w.heap.size]?=some (.deferred (some [])))
   W1 hS1
   (fun s A B hs hr=>⟨hI s A B hs.1 (hr.mono oQ),hr.keeps hs.2.1 oQ oQ,hr.keeps hs.2.2 hhi oQ⟩)
   (fun s A B ⟨c,hc,hl,hk⟩ hr=>⟨c,hIx c s A B hc (hr.mono oQ),hr.keeps hl oQ oQ,hr.keeps hk hhi oQ⟩)
   ?_ ⟨hI1,hL1,hK1⟩).mono ?_
  ·rintro pre x W ⟨hi0,hl,hk⟩ he hlen;have hy:=run_yield (P:=P) (args:=encs x) hl (by rw[hrec];exact hps x)
   rw[hrec] at hy;refine⟨fn,_,assign,body,hy,roundIn_of_wpIn hfn (hassign _ pre x W _ hi0 he fun a' V hkf hkp hrl hiV hax=>?_)⟩
   clear hy;have heV:=hE x _ _ he hrl;have hlV:=hkf.same _ _ oQ hl rfl;have hkV:=hkf.same _ _ (waJ _) hk rfl;have hltV:w.heap.size+1<V.heap.size:=(waL.1 hlV).1;refine⟨_,run_beginRound hlV (by rw[hrec]),?_⟩
   obtain⟨U,hU⟩:∃U,V.putObj (w.heap.size+1) (.loop {rec .ready none with state:=.busy})=U:=⟨_,rfl⟩;rw[hU];have hlU:U.heap[w.heap.size+1]?=some (.loop {rec .ready none with state:=.busy}):=by rw[<-hU];exact World.putObj_heap_same hltV
   have hkU:U.heap[w.heap.size]?=some (.deferred (some [])):=by rw[<-hU];exact(World.putObj_heap_other (by omega)).trans hkV
   have hrU:∀{p q},Rl p q w.heap.size V U:=by rw[<-hU];exact(Rl.refl _ _ _ V).put _ hlV rfl (by omega)
   have hpU:Kp V U:=by rw[<-hU];exact hKb _ _ _ _ (by omega) hlV rfl rfl
   have hkW:∀T,KeepsFrom w.heap.size U T->∀o,KeepsFrom W1.heap.size W (T.putObj (w.heap.size+1) o):=fun T hkT o=>by
    have hVU:KeepsFrom W1.heap.size V U:=by rw[<-hU];exact zfe (KeepsFrom.refl _ _) _ _ (by omega)
    exact zfe (((zan hkf oQ).trans hVU).trans (zan hkT oQ)) _ _ oQ
   have fin:∀(jump:Option Code) (T:World),KeepsFrom w.heap.size U T->
    (Instr.endRound (w.heap.size+1) jump).run P T=.ok (.bool jump.isNone) (T.putObj (w.heap.size+1) (.loop (rec (if jump.isNone then .ready else .done) jump)))/\
    T.heap[w.heap.size+1]?=some (.loop {rec .ready none with state:=.busy})/\
    (T.putObj (w.heap.size+1) (.loop (rec (if jump.isNone then .ready else .done) jump))).heap[w.heap.size+1]?=some (.loop (rec (if jump.isNone then .ready else .done) jump))/\
    (T.putObj (w.heap.size+1) (.loop (rec (if jump.isNone then .ready else .done) jump))).heap[w.heap.size]?=some (.deferred (some [])):=fun jump T hkT=>by
    have hlT:=hkT.same _ _ oQ hlU rfl;have hr:=run_endRound (P:=P) jump hlT;rw[hrec] at hr ⊢;exact⟨hr,by rw[hrec] at hlT;exact hlT,World.putObj_heap_same (waL.1 hlT).1,(World.putObj_heap_other (by omega)).trans (hkT.same _ _ (waJ _) hkU rfl)⟩
   have out:∀(c:Code) (T:World),KeepsFrom w.heap.size U T/\Ix c (pre++[x]) T->∃v T',(Instr.endRound (w.heap.size+1) (some c)).run P T=.ok v T'/\
    ((Ending.returned v=.returned (.bool true)/\(I (pre++[x]) T'/\T'.heap[w.heap.size+1]?=some (.loop (rec .ready none))/\T'.heap[w.heap.size]?=some (.deferred (some [])))/\Kp W T'/\KeepsFrom W1.heap.size W T')\/
      (Ending.returned v=.returned (.bool false)/\(∃c,Ix c (pre++[x]) T'/\T'.heap[w.heap.size+1]?=some (.loop (rec .done (some c)))/\T'.heap[w.heap.size]?=some (.deferred (some [])))/\KeepsFrom W1.heap.size W T')):=fun c T ⟨hkT,hiT⟩=>by
    obtain⟨hr,hlT,hl4,hk4⟩:=fin (some c) T hkT;exact⟨_,_,hr,.inr ⟨rfl,⟨c,hIx _ _ _ _ hiT ((Rl.refl _ _ _ T).put _ hlT rfl oQ),hl4,hk4⟩,hkW T hkT _⟩⟩
   refine wpIn_mono (hbody _ pre x a' U oQ ⟨_,hlU⟩ (hI _ _ _ hiV hrU) (hE _ _ _ heV hrU) (hAx _ _ _ _ hax hrU) hlen) ?_;rintro e a3 T hp;cases e with
   |normal=>
    obtain⟨hkT,hpT,hiT⟩:=hp;obtain⟨hr,hlT,hl4,hk4⟩:=fin none T hkT;exact⟨_,_,hr,.inl ⟨rfl,⟨hI _ _ _ hiT ((Rl.refl _ _ _ T).put _ hlT rfl oQ),hl4,hk4⟩,hKt hkp (hKt (hKt hpU hpT) (hKb _ _ _ _ oQ hlT rfl rfl)),hkW T hkT _⟩⟩
   |ret=>exact out .ret T hp
   |exit id=>exact out (.exit id) T hp
   |goto t=>exact out (.goto t) T hp
   |panic ch=>exact hp.elim
   |outgrown=>exact hp.elim
  ·rintro e W2 ⟨⟨v,rfl⟩,(⟨xs,hS,hi2,hl,hk⟩|⟨pre,hSp,c,hi2,hl,hk⟩)⟩
   ·exact⟨none,_,by have:=run_endLoop (P:=P) hl (by rw[hrec];simp);rw[hrec] at this;exact this,hdone _ xs _ (waJ _) hS (hI _ _ _ hi2 ((Rl.refl _ _ _ W2).put _ hl rfl (by omega))) ((World.putObj_heap_other (by omega)).trans hk)⟩
   ·exact⟨some c,_,by have:=run_endLoop (P:=P) hl (by rw[hrec];simp);rw[hrec] at this;exact this,hstop _ c pre _ (waJ _) hSp (hIx _ _ _ _ hi2 ((Rl.refl _ _ _ W2).put _ hl rfl (by omega))) ((World.putObj_heap_other (by omega)).trans hk)⟩
end
end Go.Proofs.YtllcdbgjeidlkaaGreatDoor
namespace Go.Proofs.YtllcdbgjeidlkaaGreatDoor
open Go.Proofs.Tryz
def zam (m:Nat):List Nat:=(List.range 64).filter fun i=>m.testBit i
theorem zaN {m i:Nat}:i∈zam m↔i<64/\m.testBit i=true:=by simp[zam]
theorem znV:zam 0=[]:=by simp[zam]
theorem zdw (m:Nat):(zam m).length<=64:=by
 have:=List.length_filter_le (fun i=>m.testBit i) (List.range 64)
 rw[List.length_range] at this;exact this
theorem zaW (m:Nat):(zam m).Pairwise (·< ·):=List.Pairwise.filter _ List.pairwise_lt_range
theorem zvA {m:Nat} (h0:m≠0) (h:m<18446744073709551616):Go.Lib.ctz 64 m<64/\m.testBit (Go.Lib.ctz 64 m)=true/\∀j,j<Go.Lib.ctz 64 m->m.testBit j=false:=by
 have e:Go.Lib.ctz 64 m=Go.Lib.ctzFrom 64 m:=if_neg h0;obtain⟨q,hq,hk⟩:=Go.Lib.ctzFrom_spec 64 m oQ h;rw[e];generalize Go.Lib.ctzFrom 64 m=k at *;refine⟨hk,?_,fun j hj=>?_⟩
 ·rw[hq,Nat.mul_comm,Nat.testBit_mul_two_pow];simp[Nat.testBit_zero]
 ·rw[hq,Nat.mul_comm,Nat.testBit_mul_two_pow];simp;omega
theorem znW {m:Nat} (h0:m≠0) (h:m<18446744073709551616):∃r,zam m=Go.Lib.ctz 64 m::r:=by
 obtain⟨h1,h2,h3⟩:=zvA h0 h;have hm:Go.Lib.ctz 64 m∈zam m:=zaN.2 ⟨h1,h2⟩;have hs:=zaW m;cases hb:zam m with
 |nil=>rw [hb] at hm;cases hm
 |cons a r=>
  rw[hb] at hm hs;have ha:a∈zam m:=by rw[hb];simp
  rcases List.mem_cons.1 hm with e|hr
  ·exact⟨r,by rw[e]⟩
  ·have:=(List.pairwise_cons.1 hs).1 _ hr;have:=h3 a this;rw[(zaN.1 ha).2] at this;cases this
theorem znX {m k:Nat} {pre rest:List Nat} (h:zam m=pre++k::rest):zam (m>>>(k+1)<<<(k+1))=rest:=by
 have hs:=zaW m;have e:zam (m>>>(k+1)<<<(k+1))=(zam m).filter fun i=>decide (k<i):=by
  unfold zam;rw[List.filter_filter];apply List.filter_congr;intro i _;rw[Nat.testBit_shiftLeft,Nat.testBit_shiftRight]
  by_cases hi:k<i
  ·rw[show k+1+(i - (k+1))=i by omega]
   have h5:k+1<=i:=hi;simp[hi,h5]
  ·simp[hi];omega
 rw[h] at hs;obtain⟨_,h2,h3⟩:=List.pairwise_append.1 hs;obtain⟨h4,_⟩:=List.pairwise_cons.1 h2;rw[e,h,List.filter_append,List.filter_cons];rw[List.filter_eq_nil_iff.2 (fun a ha=>by simp;exact Nat.le_of_lt (h3 a ha k (by simp)))]
 simp only[Nat.lt_irrefl,decide_false,wbN];exact List.filter_eq_self.2 (fun a ha=>by simpa using h4 a ha)
theorem zmG (m k:Nat) (h:m<18446744073709551616):m>>>k<<<k<18446744073709551616:=by
 have:m>>>k<<<k<=m:=by rw[Nat.shiftRight_eq_div_pow,Nat.shiftLeft_eq];exact Nat.div_mul_le_self m (2^k)
 omega
end Go.Proofs.YtllcdbgjeidlkaaGreatDoor
namespace Go.Proofs.YtllcdbgjeidlkaaGreatDoor
open Go.Proofs.Tryz
open Go.RowKit Go.Shelf
attribute [local go_sem] Oper.semAt_some
def Tz (w:World):Prop:=TabAt 0 Go.Lib.deBruijn64tab w
theorem Tz.below {w w':World} (h:Tz w) (hb:Below w.heap.size w w'):Tz w':=fun j hj=>by
 have:=h j hj;exact(hb.cell (p:=⟨_,j,none⟩) (waR w _ this)).trans this
theorem zvB (x k idx:Nat) (w:World) (hx0:((x:Int)==0)=false)
 (key:IntKind.u64.wrap (bits BinOp.and IntKind.u64 (x:Int) (IntKind.u64.wrap (-(x:Int))) * 285870213051353865) / 288230376151711744=(idx:Int))
 (hi:idx<64) (hk:k<64) (hcell:w.cell? ⟨0,idx,none⟩=some (.int .u8 k)):Calls prog 150 #[.int .u64 x] w (zbE (.int .i64 k) w):=by
 go_enter func150,ntmps150
 go_wp2_with (simp only[key])
 go_ret;exact⟨rfl,rfl⟩
theorem zsI (x:Nat) (hx:x<18446744073709551616) (hx0:x≠0) (w:World) (hT:Tz w):Calls prog 150 #[.int .u64 x] w (zbE (.int .i64 (Go.Lib.ctz 64 x:Nat)) w):=by
 obtain⟨hlow,hk⟩:=Go.Lib.lowest_bit 64 x hx0 hx;obtain⟨hi,htab⟩:=Go.Lib.deBruijn64_at _ hk;have hcell:=hT _ hi;rw[htab] at hcell;exact zvB x _ _ w (by simp;omega) (tz64_key x _ hx hx0 hlow) hi hk hcell
def zi3:List Nat->Int
 |[]=>0
 |k::_=>k
def zhE (l:List Nat):Value:=.tuple #[.int .i64 (zi3 l),.bool (!l.isEmpty)]
def zeL (m:Nat):Value:=zhE (zam m)
theorem zff (m:Nat) (hm:m<18446744073709551616) (w:World) (hw:Tz w):Calls prog 84 #[.int .u64 m] w (zbE (zeL m) w):=by
 by_cases h0:m=0
 ·subst h0;have HE:Hid (zeL 0=.tuple #[.int .i64 0,.bool false]):=by show _=_;unfold zeL;rw[znV];rfl
  rw[HE.out];go_enter func84,ntmps84;go_wp2
  go_ret2
  exact⟨rfl,rfl⟩
 ·have H:=waV (fun W (hW:Tz W)=>zsI m hm h0 W hW)
  obtain⟨r,hr⟩:=znW h0 hm;have HE:Hid (zeL m=.tuple #[.int .i64 (Go.Lib.ctz 64 m:Nat),.bool true]):=by show _=_;unfold zeL;rw[hr];rfl
  rw[HE.out];have hm0:((m:Int)==0)=false:=by simpa using h0
  have HW:=waV hw;clear HE hr hw h0;go_enter func84,ntmps84;go_wp2_with fail;refine(H.out _ HW.out).mono ?_;rintro e w1 ⟨rfl,rfl⟩;go_wp2
  go_ret2
  exact⟨rfl,rfl⟩
theorem zh3 {m k:Nat} (h:m>>>k<<<k<18446744073709551616):IntKind.u64.wrap ((m:Int) / 2^k * 2^k)=((m>>>k<<<k:Nat):Int):=by
 rw[Nat.shiftRight_eq_div_pow,Nat.shiftLeft_eq] at h ⊢;have e:(m:Int) / 2^k * 2^k=((m / 2^k * 2^k:Nat):Int):=by push_cast;rfl
 rw[e,IntKind.wrap_u64];omega
theorem zsJ (m k:Nat) (hm:m<18446744073709551616) (pre rest:List Nat) (h:zam m=pre++k::rest) (w:World) (hw:Tz w):Calls prog 155 #[.int .u64 m,.int .i64 k] w (zbE (zhE rest) w):=by
 have hk:k<64:=(zaN.1 (show k∈zam m by rw[h];simp)).1
 have hnx:=znX h;have hlt:=zmG m (k+1) hm;have hk0:¬(k:Int)<0:=by omega
 by_cases h63:k=63
 ·subst h63;have hr:rest=[]:=by
   cases rest with
   |nil=>rfl
   |cons a r=>
    have ha:a∈zam m:=by rw[h];simp
    have:=(zaN.1 ha).1;have hs:=zaW m;rw[h] at hs;have:=(List.pairwise_cons.1 (List.pairwise_append.1 hs).2.1).1 a (by simp)
    omega
  subst hr;have HE:Hid (zhE []=.tuple #[.int .i64 0,.bool false]):=rfl;rw[HE.out];clear HE hnx hlt h hk hk0;go_enter func155,ntmps155;go_wp2
  go_ret2
  exact⟨rfl,rfl⟩
 ·have H:=waV (fun W (hW:Tz W)=>zff (m>>>(k+1)<<<(k+1)) hlt W hW)
  have HE:Hid (zeL (m>>>(k+1)<<<(k+1))=zhE rest):=by show _=_;unfold zeL;rw[hnx]
  rw[HE.out] at H;have HW:=waV hw;have h63':¬(63:Int)<=(k:Int):=by omega
  have HS:Hid (IntKind.u64.wrap ((m:Int) / 2^(k+1) * 2^(k+1))=((m>>>(k+1)<<<(k+1):Nat):Int)):=zh3 hlt;clear HE hw hnx h h63;generalize hv:zhE rest=v at *;unfold zhE at hv;subst hv;go_enter func155,ntmps155;go_wp2_with fail;rw[HS.out];refine(H.out _ HW.out).mono ?_;rintro e w1 ⟨rfl,rfl⟩;go_wp2
  go_ret2
  exact⟨rfl,rfl⟩
def RetIt (m:Nat) (w:World) (e:Ending) (w':World):Prop:=∃b,e=.returned (.func (.func 154) #[] #[.pointer (some ⟨b,0,none⟩)])/\w'.cell? ⟨b,0,none⟩=some (.int .u64 m)/\w.heap.size<=b/\Below w.heap.size w w'
theorem zvC (m:Nat) (hm:m<18446744073709551616):bits .and .u64 18446744073709551615 (m:Int)=(m:Int):=by
 have h1:=bits_and_u64_nat 18446744073709551615 m dQ hm;have h2:(18446744073709551615:Nat)&&&m=m:=by
  rw[Nat.and_comm];exact Nat.and_two_pow_sub_one_of_lt_two_pow (n:=64) hm
 rw[h2] at h1;exact h1
theorem zc2 (m:Nat) (hm:m<18446744073709551616) (B o c:Nat) (w:World) (hc:w.cell? ⟨B,o,none⟩=some (.int .u64 m)):Calls prog 90 #[.slice (some ⟨B,o,none⟩) 1 c] w (RetIt m w):=by
 have HA:=waV (zvC m hm);have hB:=waR w _ hc;go_enter func90,ntmps90;go_wp2
 go_loopw [11] (fun i wr=>(i=.int .i64 0/\Hid (wr.cell? ⟨w.heap.size,0,none⟩=some (.int .u64 18446744073709551615))\/i=.int .i64 1/\Hid (wr.cell? ⟨w.heap.size,0,none⟩=some (.int .u64 m)))/\Hid (wr.frozen? ⟨w.heap.size,0,none⟩=false)/\Below w.heap.size w wr) (fun i _=>1 - (intOf i).toNat)
 case atStart=>exact⟨.inl ⟨rfl,by simp[Hid,go_sem]⟩,by simp[Hid,go_sem],by exact zaE⟩
 case round=>
  obtain⟨⟨rfl,h1⟩|⟨rfl,h1⟩,hf,hb⟩:=hrel
  ·have c0:=h1.out;have f0:=hf.out;have c1:wr.cell? ⟨B,o,none⟩=some (.int .u64 m):=(hb.cell (p:=⟨B,o,none⟩) hB).trans hc;have hz:=waR wr _ c0
   go_wp2_with (rw[HA.out])
   go_roundw
   case rel=>exact⟨.inr ⟨rfl,by simp[Hid,go_sem, *]⟩,by simp[Hid,go_sem, *],by exact zaE⟩
   case measure=>simp [intOf]
  ·have c0:=h1.out;go_wp2;go_ret;exact⟨_,rfl,c0,waJ _,hb⟩
end Go.Proofs.YtllcdbgjeidlkaaGreatDoor
namespace Go.Proofs.YtllcdbgjeidlkaaGreatDoor
open Go.Proofs.Tryz
open Go.RowKit Go.Shelf
def zau (p:Nat->Bool) (i:Nat):Nat:=mkN (fun j=>p (64 * i+j)) 64
theorem zbv (p:Nat->Bool) (i:Nat):zau p i<18446744073709551616:=zcI _ 64
theorem zb2 (p:Nat->Bool) (i j:Nat) (h:j<64):(zau p i).testBit j=p (64 * i+j):=by
 unfold zau;rw[za9];simp[h]
structure DiscAt (w:World) (b:Nat) (p:Nat->Bool):Prop where
 cells:∀j,j<1350->w.cell? ⟨b,j,none⟩=some (.int .u64 (zau p j:Nat))
 obj:∃cs,w.heap[b]?=some (.cells cs 162 (0,0))
theorem DiscAt.lt {w:World} {b:Nat} {p:Nat->Bool} (h:DiscAt w b p):b<w.heap.size:=by
 obtain⟨cs,hc⟩:=h.obj;exact(waL.1 hc).1
theorem DiscAt.frozen {w:World} {b:Nat} {p:Nat->Bool} (h:DiscAt w b p) (j:Nat):w.frozen? ⟨b,j,none⟩=false:=by
 obtain⟨cs,hc⟩:=h.obj;unfold World.frozen?;rw[hc];simp
theorem DiscAt.same {w w':World} {b:Nat} {p:Nat->Bool} (h:DiscAt w b p) (e:w'.heap[b]?=w.heap[b]?):DiscAt w' b p:=
 ⟨fun j hj=>(wbK e).trans (h.cells j hj),by obtain⟨cs,hc⟩:=h.obj;exact⟨cs,e.trans hc⟩⟩
theorem DiscAt.below {w w':World} {b:Nat} {p:Nat->Bool} (h:DiscAt w b p) (hb:Below w.heap.size w w'):DiscAt w' b p:=h.same (hb.block b h.lt)
theorem DiscAt.congr {w:World} {b:Nat} {p q:Nat->Bool} (h:DiscAt w b p) (e:∀s,s<86400->p s=q s):DiscAt w b q:=
 ⟨fun j hj=>by rw[h.cells j hj];unfold zau;rw[zbe (fun i hi=>e _ (by omega))],h.obj⟩
def zdN (w:World) (v:Value) (p:Nat->Bool):Prop:=(v=.pointer none/\∀s,s<86400->p s=false)\/∃b,v=.pointer (some ⟨b,0,none⟩)/\DiscAt w b p
theorem zgm (s:Int) (w:World):Calls prog 83 #[.int .i64 s] w (zbE (.bool (decide (0<=s/\s<86400))) w):=by
 by_cases h:0<=s
 ·by_cases h2:s<86400
  ·have HR:Hid (decide (0<=s/\s<86400)=true):=waP ⟨h,h2⟩;rw[HR.out];go_enter func83,ntmps83;go_wp2;go_ret;exact⟨rfl,rfl⟩
  ·have HR:Hid (decide (0<=s/\s<86400)=false):=waO (fun h=>h2 h.2)
   rw[HR.out];go_enter func83,ntmps83;go_wp2;go_ret;exact⟨rfl,rfl⟩
 ·have HR:Hid (decide (0<=s/\s<86400)=false):=waO (fun g=>h g.1)
  rw[HR.out];go_enter func83,ntmps83;go_wp2;go_ret;exact⟨rfl,rfl⟩
theorem zpZ (p:Nat->Bool) (i j:Nat) (h:j<64):zbA (zau p i:Nat) (j:Nat)=p (64 * i+j):=by
 have e:((zau p i:Nat):Int) / 2^(j:Int).toNat%2=((zau p i / 2^j%2:Nat):Int):=by
  rw[Int.toNat_natCast];push_cast;rfl
 unfold zbA;rw[e,<-zb2 p i j h,Nat.testBit_eq_decide_div_mod_eq];rw[waQ,waM,waM];omega
theorem zmH (b s:Nat) (p:Nat->Bool) (hs:s<86400) (w:World) (hd:DiscAt w b p):Calls prog 68 #[.pointer (some ⟨b,0,none⟩),.int .i64 s] w (zbE (.bool (p s)) w):=by
 obtain⟨i,hi⟩:∃i,i=s / 64:=⟨_,rfl⟩;obtain⟨j,hj⟩:∃j,j=s%64:=⟨_,rfl⟩;have hij:s=64 * i+j:=by omega
 have hj64:j<64:=by omega
 have hi1:i<1350:=by omega
 have c0:=hd.cells i hi1;have hb:=hd.lt;have q1:(s:Int) / 64=(i:Int):=by omega
 have q2:(s:Int)%64=(j:Int):=by omega
 have HM:=waV (fun W=>zgm (s:Int) W)
 rw[waP (p:=0<=(s:Int)/\(s:Int)<86400) (by omega)] at HM
 have HH:=waV (fun W=>zcp (zau p i:Nat) (j:Nat) oQ (by have:=zbv p i;omega) W)
 rw[zpZ p i j hj64,<-hij] at HH;generalize p s=B at *;generalize zau p i=W0 at *;clear hd hi hj hij;have i0:(0:Int)<=(i:Int):=by omega
 have i1:(i:Int)<1350:=by omega
 go_enter func68,ntmps68;go_wp2_with fail;refine(HM.out _).mono ?_;rintro e w1 ⟨rfl,rfl⟩;go_wp2_with fail;refine(HH.out _).mono ?_;rintro e w1 ⟨rfl,rfl⟩;go_wp2;go_ret;exact⟨rfl,rfl⟩
theorem zp0 (i:Int) (w:World):Calls prog 131 #[.pointer none,.int .i64 i] w (zbE (.int .u64 0) w):=by
 go_enter func131,ntmps131;go_wp2;go_ret;exact⟨rfl,rfl⟩
theorem zp1 (b i:Nat) (p:Nat->Bool) (hi:i<1350) (w:World) (hd:DiscAt w b p):Calls prog 131 #[.pointer (some ⟨b,0,none⟩),.int .i64 i] w (zbE (.int .u64 (zau p i:Nat)) w):=by
 have c0:=hd.cells i hi;have hb:=hd.lt;generalize zau p i=W0 at *;clear hd;have i0:(0:Int)<=(i:Int):=by omega
 have i1:(i:Int)<1350:=by omega
 go_enter func131,ntmps131;go_wp2;go_ret;exact⟨rfl,rfl⟩
def zlk (p:Nat->Bool) (s:Nat) (x:Nat):Bool:=p x||decide (x=s)
theorem zp2 (p:Nat->Bool) (i j:Nat) (hj:j<64):bits .or .u64 (zau p i:Nat) (2^j)=(zau (zlk p (64 * i+j)) i:Nat):=by
 have h1:=bits_or_u64_nat (zau p i) (2^j) (zbv p i) (Nat.pow_lt_pow_right dQ hj);have h2:zau p i|||2^j=zau (zlk p (64 * i+j)) i:=by
  unfold zau;rw[<-ziH j 64 hj,zmo];refine zbe fun x hx=>?_
  unfold zlk;congr 1;rw[wbH];omega
 rw[h2] at h1;rw[<-h1];congr 1
theorem znY (p:Nat->Bool) (i j:Nat) (hj:j<64):bits .or .u64 (zau p i:Nat) (IntKind.u64.wrap (2^j))=(zau (zlk p (64 * i+j)) i:Nat):=by
 rw[<-zp2 p i j hj];congr 1;have h1:(2:Nat)^j<18446744073709551616:=Nat.pow_lt_pow_right (m:=j) (n:=64) dQ hj;have e:(2:Int)^j=((2^j:Nat):Int):=by push_cast;rfl
 rw[e,IntKind.wrap_u64];generalize (2:Nat)^j=q at *;omega
theorem zll (p:Nat->Bool) (s i:Nat) (h:i≠s / 64):zau (zlk p s) i=zau p i:=by
 unfold zau;refine zbe fun x hx=>?_
 unfold zlk;rw[waO (by omega),Bool.or_false]
theorem zsK {w:World} {b s:Nat} {p:Nat->Bool} (hd:DiscAt w b p) (hs:s<86400):DiscAt (w.setCell ⟨b,s / 64,none⟩ (.int .u64 (zau (zlk p s) (s / 64):Nat))) b (zlk p s):=by
 refine⟨fun j hj=>?_,?_⟩
 ·by_cases e:j=s / 64
  ·subst e;exact World.cell?_setCell_same' _ _ _ (by rw[hd.cells _ hj];rfl)
  ·rw[waU _ _ _ _ (by simp[e])]
   rw[hd.cells j hj,zll p s j e]
 ·obtain⟨cs,hc⟩:=hd.obj;refine⟨cs.setIfInBounds (s / 64) (.int .u64 (zau (zlk p s) (s / 64):Nat)),?_⟩;show(w.heap.modify b _)[b]?=_;obtain⟨hlt,hk⟩:=waL.1 hc;rw[wbI (by rw[Array.size_modify];exact hlt),Array.getElem_modify_self,hk]
  simp
theorem zmI (b s B o c:Nat) (p:Nat->Bool) (hs:s<86400) (w:World) (hd:DiscAt w b p) (hc:w.cell? ⟨B,o,none⟩=some (.int .i64 s)) (hB:B≠b):
 Calls prog 237 #[.pointer (some ⟨b,0,none⟩),.slice (some ⟨B,o,none⟩) 1 c] w (fun e w'=>(∃k:Int,e=.returned (.int .i64 k))/\DiscAt w' b (zlk p s)/\Rl b (b+1) w.heap.size w w'):=by
 obtain⟨i,hi⟩:∃i,i=s / 64:=⟨_,rfl⟩;obtain⟨j,hj⟩:∃j,j=s%64:=⟨_,rfl⟩;have hij:s=64 * i+j:=by omega
 have hj64:j<64:=by omega
 have hi1:i<1350:=by omega
 have q1:(s:Int) / 64=(i:Int):=by omega
 have q2:(s:Int)%64=(j:Int):=by omega
 have HP:=waV (zsK hd hs);have ho:=znY p i j hj64;rw[<-hij] at ho;rw[<-hi] at HP;rw[<-ho] at HP;clear ho;have HS:Hid (p s=true->DiscAt w b (zlk p s)):=fun h=>hd.congr fun x _=>by
  unfold zlk
  by_cases e:x=s
  ·subst e;rw[h];rfl
  ·rw[waO e,Bool.or_false]
 have c0:=hd.cells i hi1;have f0:=hd.frozen i;have hb:=hd.lt;have hBl:=waR w _ hc;have HM:=waV (fun W=>zgm (s:Int) W)
 rw[waP (p:=0<=(s:Int)/\(s:Int)<86400) (by omega)] at HM
 have HH:=waV (zmH b s p hs w hd);generalize zlk p s=pp at *;generalize p s=hb0 at *;generalize zau p i=W0 at *;clear hd hi hj hij;have i0:(0:Int)<=(i:Int):=by omega
 have i1:(i:Int)<1350:=by omega
 have j0:(0:Int)<=(j:Int):=by omega
 have j1:(j:Int)<64:=by omega
 have jn:¬(j:Int)<0:=by omega
 go_enter func237,ntmps237;go_wp2
 go_loopw [12,5] (fun i m wr=>(i=.int .i64 0/\m=.int .i64 0/\wr=w)\/(i=.int .i64 1/\(∃k:Int,m=.int .i64 k)/\Hid (DiscAt wr b pp)/\Rl b (b+1) w.heap.size w wr)) (fun i _ _=>1 - (intOf i).toNat)
 case atStart=>exact .inl ⟨rfl,rfl,rfl⟩
 case round=>
  rcases hrel with ⟨rfl,rfl,rfl⟩|⟨rfl,⟨k,rfl⟩,hD,hR⟩
  ·cases hb0 with
   |true=>
    go_wp2_with fail;refine(HM.out _).mono ?_;rintro e w1 ⟨rfl,rfl⟩;go_wp2_with fail;refine HH.out.mono ?_;rintro e w1 ⟨rfl,rfl⟩;go_wp2;go_roundw
    case rel=>exact .inr ⟨rfl,⟨0,rfl⟩,HS.out trivial,Rl.refl _ _ _ _⟩
    case measure=>simp [intOf]
   |false=>
    go_wp2_with fail;refine(HM.out _).mono ?_;rintro e w1 ⟨rfl,rfl⟩;go_wp2_with fail;refine HH.out.mono ?_;rintro e w1 ⟨rfl,rfl⟩;go_wp2;have c0':wr.drew.cell? ⟨b,i,none⟩=some (.int .u64 W0):=c0;have f0':wr.drew.frozen? ⟨b,i,none⟩=false:=f0;have wi:IntKind.i64.wrap (i:Int)=(i:Int):=zcr oQ oQ;have wj:IntKind.i64.wrap (j:Int)=(j:Int):=zcr oQ oQ;have tj:(s:Int).tmod 64=(j:Int):=by rw[Int.tmod_eq_emod_of_nonneg (by omega)];exact q2
    go_still_tail 14,kQ
    change wpList _ _ _ _ _ wr.drew
    go_wp2;go_roundw
    case rel=>exact .inr ⟨rfl,⟨1,rfl⟩,⟨HP.out.cells,HP.out.obj⟩,((Rl.refl b (b+1) wr.heap.size wr).drew).set ⟨b,i,none⟩ _ (waJ _) (Nat.lt_succ_self _)⟩
    case measure=>simp [intOf]
  ·go_wp2;go_ret;exact⟨⟨k,rfl⟩,hD.out,hR⟩
theorem zp3 (b c:Nat) (w:World):Calls prog 237 #[.pointer (some ⟨b,0,none⟩),.slice none 0 c] w (zbE (.int .i64 0) w):=by
 go_enter func237,ntmps237;go_wp2
 go_loopw [12,5] (fun i m wr=>i=.int .i64 0/\m=.int .i64 0/\wr=w) (fun _ _ _=>0)
 case atStart=>exact⟨rfl,rfl,rfl⟩
 case round=>
  obtain⟨rfl,rfl,rfl⟩:=hrel;go_wp2;go_ret;exact⟨rfl,rfl⟩
theorem zsL:Tryz.zeroCells162=Array.replicate 1350 (.int .u64 0):=by kernel_rfl
theorem zh4 (i:Nat):zau (fun _=>false) i=0:=ze0 64
theorem zsM (w:World):DiscAt (w.alloc (.cells Tryz.zeroCells162 162)) w.heap.size (fun _=>false):=by
 refine⟨fun j hj=>?_,⟨_,heap_alloc_new w _⟩⟩
 rw[zh4];refine zaa rfl ?_;rw[zsL,Array.getElem?_replicate,if_pos hj];rfl
theorem zi4 (c:Nat) (w:World):Calls prog 204 #[.slice none 0 c] w (fun e w'=>e=.returned (.pointer (some ⟨w.heap.size,0,none⟩))/\DiscAt w' w.heap.size (fun _=>false)/\Below w.heap.size w w'):=by
 have HP:=waV (fun b W=>zp3 b c W)
 have HD:=waV (zsM w);go_enter func204,ntmps204;go_wp2_with fail;refine(HP.out _ _).mono ?_;rintro e w1 ⟨rfl,rfl⟩;go_wp2;go_ret;exact⟨rfl,HD.out,by exact zaE⟩
end Go.Proofs.YtllcdbgjeidlkaaGreatDoor
namespace Go.Proofs.YtllcdbgjeidlkaaGreatDoor
open Go.Proofs.Tryz
def zj5 (h m s:Nat):List Nat:=(zam h).flatMap fun a=>(zam m).flatMap fun b=>(zam s).map fun c=>a * 3600+b * 60+c
theorem zsN {h m s x:Nat}:x∈zj5 h m s↔∃a∈zam h,∃b∈zam m,∃c∈zam s,a * 3600+b * 60+c=x:=by
 unfold zj5;simp only[List.mem_flatMap,List.mem_map]
theorem zfg {m k:Nat} (hm:m<2^k) {i:Nat} (h:i∈zam m):i<k:=by
 false_or_by_contra
 have:=(zaN.1 h).2;rw[waX (waD hm (Nat.pow_le_pow_right (by decide) (by omega)))] at this
 cases this
def zeu (p:Nat->Bool):List Nat:=(List.range 86400).filter p
theorem zev {p:Nat->Bool} {s:Nat}:s∈zeu p↔s<86400/\p s=true:=by simp[zeu]
def wdL (p:Nat->Bool) (k:Nat):List Nat:=(List.range k).flatMap fun i=>(zam (zau p i)).map fun n=>i * 64+n
theorem zp4 (p:Nat->Bool) (i:Nat):(zam (zau p i)).map (fun n=>i * 64+n)=(List.range' (64 * i) 64).filter p:=by
 rw[List.range'_eq_map_range,List.filter_map];have e:zam (zau p i)=(List.range 64).filter (p∘fun x=>64 * i+x):=by
  unfold zam;refine List.filter_congr fun j hj=>?_
  rw[zb2 p i j (wbG.1 hj)];rfl
 rw[e];refine List.map_congr_left fun x _=>?_
 omega
theorem zmJ (p:Nat->Bool) (k:Nat):wdL p (k+1)=wdL p k++(zam (zau p k)).map fun n=>k * 64+n:=by
 unfold wdL;rw[List.range_succ,List.flatMap_append];simp
theorem zxl (p:Nat->Bool) (k:Nat):wdL p k=(List.range (64 * k)).filter p:=by
 induction k with
 |zero=>rfl
 |succ k ih=>
  rw[zmJ,ih,zp4,<-List.filter_append];congr 1;rw[List.range_eq_range',List.range_eq_range',Nat.mul_succ,<-List.range'_append_1 (s:=0),waH]
theorem zp5 (p:Nat->Bool):wdL p 1350=zeu p:=zxl p 1350
end Go.Proofs.YtllcdbgjeidlkaaGreatDoor
