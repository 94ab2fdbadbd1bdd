/- A part of the proof: WArr -/
import Derived.WalkKit
import Derived.WalkSpells
import Derived.WalkLawsBesides
import Derived.BigQuiet
import Derived.Lib.Hide
import Derived.Handy
import Derived.Test.YtllcdbgjeidlkaaGreatDoorRows
import Derived.Lib.OwnBridge
import Derived.Sort.OwnSortedInts
import Derived.Deep.QuietTactic
import Derived.Deep.RegionHeld3
import Derived.Deep.DrawnRows
import Derived.Shelf.Abstract
set_option maxHeartbeats 80000000
set_option maxRecDepth 100000
set_option linter.unusedSimpArgs false
set_option linter.unusedVariables false
namespace Go.Proofs.YtllcdbgjeidlkaaGreatDoor
theorem waA : ∀ {p : Prop} [inst : Decidable p], Decidable.decide p = Bool.true -> p := @_root_.of_decide_eq_true
theorem waB.{u} : ∀ {α : Type u} {val val_1 : α}, Option.some val = Option.some val_1 -> val = val_1 := @_root_.Option.some.inj
theorem waC : ∀ (B : Nat) (w : Go.World), Go.RowKit.Below B w w := @_root_.Go.RowKit.Below.refl
theorem waD : ∀ {n m k : Nat}, n < m -> m <= k -> n < k := @_root_.Nat.lt_of_lt_of_le
theorem waE.{u_1} : ∀ {α : Type u_1} {l : List α} {i : Nat} (h : i < l.length), l[i]? = Option.some l[i] := @_root_.List.getElem?_eq_getElem
theorem waF.{u} : ∀ {α : Type u} {as1 bs : List α}, (as1 ++ bs).length = as1.length + bs.length := @_root_.List.length_append
theorem waG.{u} : ∀ {α : Type u} {a : α} {as1 : List α}, (a :: as1).length = as1.length + 1 := @_root_.List.length_cons
theorem waH : ∀ (n : Nat), 0 + n = n := @_root_.Nat.zero_add
theorem waI.{u_1} : ∀ {α : Type u_1} {i : Nat} {a : α} {l : List α}, l[i]? = Option.some a ↔ ∃ (h : i < l.length), l[i] = a := @_root_.List.getElem?_eq_some_iff
theorem waJ : ∀ (n : Nat), n <= n := @_root_.Nat.le_refl
theorem waK : ∀ (n : Nat), 0 <= n := @_root_.Nat.zero_le
theorem waL.{u_1} : ∀ {α : Type u_1} {i : Nat} {b : α} {xs : Array α}, xs[i]? = Option.some b ↔ ∃ (h : i < xs.size), xs[i] = b := @_root_.Array.getElem?_eq_some_iff
theorem waM : ∀ {p : Prop} [inst : Decidable p], (Decidable.decide p = Bool.true) = p := @_root_.decide_eq_true_eq
theorem waN : ∀ (a b : Bool), ((a && b) = Bool.true) = (a = Bool.true /\ b = Bool.true) := @_root_.Bool.and_eq_true
theorem waO : ∀ {p : Prop} [inst : Decidable p], ¬p -> Decidable.decide p = Bool.false := @_root_.decide_eq_false
theorem waP : ∀ {p : Prop} [inst : Decidable p], p -> Decidable.decide p = Bool.true := @_root_.decide_eq_true
theorem waQ : ∀ {a b : Bool}, a = b ↔ (a = Bool.true ↔ b = Bool.true) := @_root_.Bool.eq_iff_iff
theorem waR : ∀ (w : Go.World) (a : Go.Addr) {u : Go.Value}, w.cell? a = Option.some u -> a.block < w.heap.size := @_root_.Go.World.block_lt_of_cell?
theorem waS : ∀ (w : Go.World) (a b : Go.Addr) (v : Go.Value), (w.setCell a v).frozen? b = w.frozen? b := @_root_.Go.World.frozen?_setCell
theorem waT : ∀ (w : Go.World) (a : Go.Addr) (v : Go.Value) {u : Go.Value}, w.cell? a = Option.some u -> (w.setCell a v).cell? a = Option.some v := @_root_.Go.World.cell?_setCell_same
theorem waU : ∀ (w : Go.World) (a b : Go.Addr) (v : Go.Value), a ≠ b -> (w.setCell a v).cell? b = w.cell? b := @_root_.Go.World.cell?_setCell_other
theorem waV : ∀ {p : Prop}, p -> Go.RowKit.Hid p := @_root_.Go.Lib.hid
theorem waW : ∀ {n m k : Nat}, n <= m -> m <= k -> n <= k := @_root_.Nat.le_trans
theorem waX : ∀ {x i : Nat}, x < 2 ^ i -> x.testBit i = Bool.false := @_root_.Nat.testBit_lt_two_pow
theorem waY : ∀ {P : Go.Program} {fn : Go.Func} {R : Go.Ending -> Go.World -> Prop} {a : Go.Act} {w : Go.World} {v : Go.Value}, Go.Sem.run P (Go.results fn a.tmps) w = Go.Result.ok v w -> a.defers = [] -> R (Go.Ending.returned v) w -> Go.bodyPost P fn R Go.Exit.ret a w := @_root_.Go.bodyPost_ret
theorem waZ.{u} : ∀ {α : Type u} {a : α} {l : List α} {i : Nat}, List.drop (i + 1) (a :: l) = List.drop i l := @_root_.List.drop_succ_cons
theorem wbA.{u} : ∀ {α : Type u} {l : List α}, List.drop 0 l = l := @_root_.List.drop_zero
theorem wbB.{u_1} : ∀ {α : Type u_1} {a : α} {s t : List α}, a ∈ s ++ t ↔ a ∈ s \/ a ∈ t := @_root_.List.mem_append
theorem wbC.{u_1} : ∀ {α : Type u_1} {a b : α}, a ∈ [b] ↔ a = b := @_root_.List.mem_singleton
theorem wbD : ∀ {a : Int}, 0 <= a -> ∃ (n : Nat), a = ↑n := @_root_.Int.eq_ofNat_of_zero_le
theorem wbE.{u_1} : ∀ {α : Type u_1} [inst : BEq α] [LawfulBEq α] {a b : α}, (a == b) = Bool.false ↔ a ≠ b := @_root_.beq_eq_false_iff_ne
theorem wbF : ∀ (a b : Bool), ((a || b) = Bool.true) = (a = Bool.true \/ b = Bool.true) := @_root_.Bool.or_eq_true
theorem wbG : ∀ {m n : Nat}, m ∈ List.range n ↔ m < n := @_root_.List.mem_range
theorem wbH : ∀ {p q : Prop} {x : Decidable p} {x_1 : Decidable q}, Decidable.decide p = Decidable.decide q ↔ (p ↔ q) := @_root_.decide_eq_decide
theorem wbI.{u_1} : ∀ {α : Type u_1} {xs : Array α} {i : Nat} (h : i < xs.size), xs[i]? = Option.some xs[i] := @_root_.Array.getElem?_eq_getElem
theorem wbJ : ∀ (w : Go.World) (a : Go.Addr) (u : Go.Value) (k : Nat), k ≠ a.block -> (w.setCell a u).heap[k]? = w.heap[k]? := @_root_.Go.RowKit.Below.heap_setCell
theorem wbK : ∀ {w w' : Go.World} {a : Go.Addr}, w'.heap[a.block]? = w.heap[a.block]? -> w'.cell? a = w.cell? a := @_root_.Go.World.cell?_of_block
theorem wbL.{u_1} : ∀ {α : Type u_1} {xs : Array α} {i : Nat} {d : α}, xs.getD i d = xs[i]?.getD d := @_root_.Array.getD_eq_getD_getElem?
theorem wbM : ∀ {fn : Go.Func} {t u : Go.Tmp}, fn.results = #[Go.ResultVar.tmp t, Go.ResultVar.tmp u] -> ∀ (tmps : Array Go.Value) (P : Go.Program) (w : Go.World), Go.Sem.run P (Go.results fn tmps) w = Go.Result.ok (Go.Value.tuple #[tmps.getD t Go.undef, tmps.getD u Go.undef]) w := @_root_.Go.results_tmp2
theorem wbN.{u} : ∀ {α : Type u} (as1 : List α), [] ++ as1 = as1 := @_root_.List.nil_append
theorem wbO.{u_1} : ∀ {α : Type u_1} {x : Option α}, x.isSome = Bool.true ↔ ∃ (a : α), x = Option.some a := @_root_.Option.isSome_iff_exists
theorem wbP : ∀ {n : Nat} {P : Go.Program} {f : Go.FuncId} {args : Array Go.Value} {w : Go.World} {R : Go.Ending -> Go.World -> Prop}, Go.CallsIn Go.Fence.wide n P f args w R ↔ Go.Calls P f args w R := @_root_.Go.callsIn_wide
theorem wbQ.{u} : ∀ {α : Type u} {as1 : List α}, as1.toArray.size = as1.length := @_root_.List.size_toArray
theorem wbR.{u_1} : ∀ {n : Nat} {α : Type u_1} {a : α}, Array.replicate (n + 1) a = (Array.replicate n a).push a := @_root_.Array.replicate_succ
theorem wbS.{u_1} : ∀ {α : Type u_1} {a : α}, Array.replicate 0 a = #[] := @_root_.Array.replicate_zero
theorem wbT.{u} : ∀ {α : Type u} {a : α} {as1 bs : List α}, a :: as1 ++ bs = a :: (as1 ++ bs) := @_root_.List.cons_append
theorem wbU.{u_1} : ∀ {α : Type u_1} (l : List α) (i : Nat) (a : α), l.toArray.setIfInBounds i a = (l.set i a).toArray := @_root_.List.setIfInBounds_toArray
theorem wbV.{u_1} : ∀ {α : Type u_1} {x : α} {xs : List α} {i : Nat} {a : α}, (x :: xs).set (i + 1) a = x :: xs.set i a := @_root_.List.set_cons_succ
theorem wbW.{u_1} : ∀ {α : Type u_1} {x : α} {xs : List α} {a : α}, (x :: xs).set 0 a = a :: xs := @_root_.List.set_cons_zero
theorem oQ {p : Prop} (h : p := by omega) : p := h
theorem dQ {p : Prop} (h : p := by decide) : p := h
theorem kQ {p : Prop} (h : p := by kernel_rfl) : p := h
end Go.Proofs.YtllcdbgjeidlkaaGreatDoor
namespace Go.Proofs.YtllcdbgjeidlkaaGreatDoor
open Go.Proofs.Tryz
open Go.RowKit
def zbE (v:Value) (w:World) (e:Ending) (w':World):Prop:=e=.returned v/\w=w'
def ziA (v:Value) (w:World) (e:Ending) (w':World):Prop:=e=.returned v/\∃n,w'=w.drewN n
def Ret (v:Value) (w:World) (e:Ending) (w':World):Prop:=e=.returned v/\Below w.heap.size w w'
theorem zaj {B:Nat} {a w:World} (h:Below B a w) (n:Nat):Below B a (w.drewN n):=⟨h.os,h.tape,h.output,h.size,h.block⟩
theorem zaE {p:Prop} (h:p:=by(repeat' (first|(with_reducible exact waC _ _)|(with_reducible assumption)|(with_reducible refine zaj ?_ _)|(with_reducible refine Below.alloc ?_ ?_ _)|(with_reducible refine Below.drew ?_)|(with_reducible refine Below.setCell ?_ ?_ _)|go_size))):p:=h
theorem zbE.toN {v:Value} {w w':World} {e:Ending} (h:zbE v w e w'):ziA v w e w':=⟨h.1,0,h.2.symm⟩
theorem ziA.toB {v:Value} {w w':World} {e:Ending} (h:ziA v w e w'):Ret v w e w':=by
 obtain⟨rfl,n,rfl⟩:=h;exact⟨rfl,zaj (waC _ _) n⟩
theorem zbE.toB {v:Value} {w w':World} {e:Ending} (h:zbE v w e w'):Ret v w e w':=h.toN.toB
theorem zad {W w1:World} (hb:Below W.heap.size W w1):(∀b o,b<W.heap.size->w1.cell? ⟨b,o,none⟩=W.cell? ⟨b,o,none⟩)/\(∀b o,b<W.heap.size->w1.frozen? ⟨b,o,none⟩=W.frozen? ⟨b,o,none⟩):=
 ⟨fun b o h=>hb.cell (p:=⟨b,o,none⟩) h,fun b o h=>hb.frozen (p:=⟨b,o,none⟩) h⟩
theorem zaf {B:Nat} {w w1 w2:World} (h:Below B w w1) (hb:Below w1.heap.size w1 w2) (hB:B<=w1.heap.size):Below B w w2:=h.trans (hb.mono hB)
theorem zaa {w:World} {C:Array Value} {t:TypeId} {b o:Nat} {v:Value} (hb:b=w.heap.size) (h:C[o]?=some v):(w.alloc (.cells C t)).cell? ⟨b,o,none⟩=some v:=by
 subst hb;have h1:=heap_alloc_new w (.cells C t);unfold World.cell?;rw[h1];exact h
theorem zab {a b:Bool} (h:a=b):Ending.returned (.bool a)=.returned (.bool b):=by rw[h]
theorem zaR {k:IntKind} {a b:Int} (h:a=b):Ending.returned (.int k a)=.returned (.int k b):=by rw[h]
structure It where
 k:Int
 f:Int
 t:Int
 s:Int
 deriving DecidableEq
def Rd {α:Type} (k:Nat) (enc:α->List Value) (w:World) (A:Option Addr) (n:Nat) (l:List α):Prop:=
 l.length=n/\(0<n->∃b o,A=some ⟨b,o,none⟩/\b<w.heap.size/\∀(i:Nat) x,l[i]?=some x->∀(j:Nat) v,(enc x)[j]?=some v->w.cell? ⟨b,o+i * k+j,none⟩=some v)
section
variable {α : Type} {k : Nat} {enc : α -> List Value} {w w' : World} {A : Option Addr} {n : Nat} {l : List α}
theorem Rd.below {B:Nat} (h:Rd k enc w A n l) (hb:Below B w w') (hB:w.heap.size<=B):Rd k enc w' A n l:=
 ⟨h.1,fun hn=>by
  obtain⟨b,o,e,hlt,hc⟩:=h.2 hn;exact⟨b,o,e,waD hlt hb.size,fun i x hi j v hj=>(hb.cell (p:=⟨b,_,none⟩) (by show b<B;omega)).trans (hc i x hi j v hj)⟩⟩
theorem Rd.nil:Rd k enc w A 0 ([]:List α):=⟨rfl,fun h=>absurd h (Nat.lt_irrefl 0)⟩
theorem Rd.gen (h:Rd k enc w A n l) {i:Nat} (hi:i<n):
 ∃b o x,A=some ⟨b,o,none⟩/\b<w.heap.size/\l[i]?=some x/\∀(j:Nat) v,(enc x)[j]?=some v->w.cell? ⟨b,o+i * k+j,none⟩=some v:=by
 obtain⟨b,o,e,hlt,hc⟩:=h.2 oQ;have hl:i<l.length:=by rw[h.1];exact hi
 exact⟨b,o,l[i],e,hlt,waE hl,hc i _ (waE hl)⟩
theorem zeZ (hk:∀x,(enc x).length=k) (l:List α):(l.flatMap enc).length=l.length * k:=by
 induction l with
 |nil=>simp
 |cons a l ih=>simp only[List.flatMap_cons,waF,ih,hk,waG,Nat.succ_mul];omega
theorem zml (hk:∀x,(enc x).length=k) (l:List α) (i j:Nat) (x:α) (hx:l[i]?=some x) (hj:j<k):(l.flatMap enc)[i * k+j]?=(enc x)[j]? :=by
 induction l generalizing i with
 |nil=>simp at hx
 |cons a l ih=>
  rw[List.flatMap_cons];cases i with
  |zero=>
   obtain rfl:a=x:=by simpa using hx
   rw[Nat.zero_mul,waH,List.getElem?_append_left (by rw[hk];exact hj)]
  |succ i=>
   rw[List.getElem?_append_right (by rw[hk,Nat.succ_mul];omega),hk,show(i+1) * k+j - k=i * k+j from by rw[Nat.succ_mul];omega]
   exact ih i (by simpa using hx)
theorem ziB (hk:∀x,(enc x).length=k) (l:List α) (m:Nat) (u:Value) (h:(l.flatMap enc)[m]?=some u):∃i j x,m=i * k+j/\l[i]?=some x/\(enc x)[j]?=some u:=by
 have hm:m<l.length * k:=by rw[<-zeZ hk];exact(waI.1 h).1
 have hk0:0<k:=by
  rcases Nat.eq_zero_or_pos k with rfl|h0
  ·simp at hm
  ·exact h0
 have hi:m / k<l.length:=(Nat.div_lt_iff_lt_mul hk0).2 hm;have hj:m%k<k:=Nat.mod_lt _ hk0;have e:m=m / k * k+m%k:=by have:=Nat.div_add_mod m k;rw[Nat.mul_comm] at this;omega
 refine⟨m / k,m%k,l[m / k],e,waE hi,?_⟩;rw[<-zml hk l (m / k) (m%k) _ (waE hi) hj,<-e];exact h
theorem Rd.news (hk:∀x,(enc x).length=k) {b o:Nat} (h:Rd k enc w (some ⟨b,o,none⟩) n l):∀(j:Nat) u,(l.flatMap enc)[j]?=some u->w.cell? ((⟨b,o,none⟩:Addr).add j)=some u:=by
 intro m u hm;obtain⟨i,j,x,rfl,hx,hu⟩:=ziB hk l m u hm;have hn:0<n:=by
  have:=(waI.1 hx).1;rw[h.1] at this;omega
 obtain⟨b',o',e,_,hc⟩:=h.2 hn;cases e;have:=hc i x hx j u hu;rw[show (⟨b,o,none⟩:Addr).add (i * k+j)=⟨b,o+i * k+j,none⟩ from by unfold Addr.add;split<;>simp_all [Nat.add_assoc]]
 exact this
theorem Rd.of_own (hk:∀x,(enc x).length=k) {base:Nat} {e:TypeId} {v:Value} (h:w.ownsRow base e k v n (l.flatMap enc)) (hl:l.length=n):
 ∃A c,v=.slice A n c/\n<=c/\c<=maxLen/\Rd k enc w A n l/\(∀a,A=some a->base<=a.block):=by
 rcases h.2 with ⟨rfl,rfl⟩|⟨g,cap,cur,rfl,hb,hg,hnc,hcm,hcs,htake⟩
 ·obtain rfl:l=[]:=List.length_eq_zero_iff.1 hl;exact⟨none,0,rfl,waJ _,waK _,Rd.nil,fun a h=>by cases h⟩
 ·refine⟨_,cap,rfl,hnc,hcm,⟨hl,fun hn=>⟨g,0,rfl,(waL.1 hg).1,fun i x hx j v hj=>?_⟩⟩,fun a h=>by cases h;exact hb⟩
  have hjk:j<k:=by have:=(waI.1 hj).1;rwa [hk] at this
  have h1:=h.cells (g:=g) rfl (i * k+j) v (by rw[zml hk l i j x hx hjk];exact hj)
  rwa [show (⟨g,0,none⟩:Addr).add (i * k+j)=⟨g,0+i * k+j,none⟩ from by unfold Addr.add;split<;>simp_all [Nat.add_assoc]] at h1
end
def zdb (i:It):List Value:=[.int .i64 i.k,.int .i64 i.f,.int .i64 i.t,.int .i64 i.s]
theorem zcG (x:It):(zdb x).length=4:=rfl
abbrev zcV (w:World) (A:Option Addr) (n:Nat) (l:List It):Prop:=Rd 4 zdb w A n l
theorem zcV.at_ {w:World} {A:Option Addr} {n:Nat} {l:List It} (h:zcV w A n l) {i:Nat} (hi:i<n):
 ∃b o it,A=some ⟨b,o,none⟩/\b<w.heap.size/\l[i]?=some it/\w.cell? ⟨b,o+i * 4,none⟩=some (.int .i64 it.k)/\w.cell? ⟨b,o+i * 4+1,none⟩=some (.int .i64 it.f)/\
 w.cell? ⟨b,o+i * 4+2,none⟩=some (.int .i64 it.t)/\w.cell? ⟨b,o+i * 4+3,none⟩=some (.int .i64 it.s):=by
 obtain⟨b,o,it,e,hlt,hl,hc⟩:=h.gen hi;exact⟨b,o,it,e,hlt,hl,hc 0 _ rfl,hc 1 _ rfl,hc 2 _ rfl,hc 3 _ rfl⟩
def zcY (i:Int):List Value:=[.int .i64 i]
theorem zfC (x:Int):(zcY x).length=1:=rfl
abbrev zaI (w:World) (A:Option Addr) (n:Nat) (l:List Int):Prop:=Rd 1 zcY w A n l
theorem zuu {α:Type} {f:α->Value} {w:World} {A:Option Addr} {n:Nat} {l:List α} (h:Rd 1 (fun x=>[f x]) w A n l) {i:Nat} (hi:i<n):
 ∃b o x,A=some ⟨b,o,none⟩/\b<w.heap.size/\l[i]?=some x/\w.cell? ⟨b,o+i,none⟩=some (f x):=by
 obtain⟨b,o,x,e,hlt,hl,hc⟩:=h.gen hi;have:=hc 0 _ rfl;rw[Nat.mul_one,Nat.add_zero] at this;exact⟨b,o,x,e,hlt,hl,this⟩
theorem zaI.at_ {w:World} {A:Option Addr} {n:Nat} {l:List Int} (h:zaI w A n l) {i:Nat} (hi:i<n):
 ∃b o x,A=some ⟨b,o,none⟩/\b<w.heap.size/\l[i]?=some x/\w.cell? ⟨b,o+i,none⟩=some (.int .i64 x):=zuu (f:=fun x=>.int .i64 x) h hi
def zgx (s:Int):Bool:=decide (1<=s/\s<=999)
abbrev zwT (i:It) (lo hi:Int):Prop:=
 0<=lo/\lo<=hi/\hi<=9999/\((i.k=0/\i.f=0/\i.t=0/\1<=i.s/\i.s<=999)\/(i.k=1/\lo<=i.f/\i.f<=hi/\i.t=0/\i.s=0)\/
  (i.k=2/\lo<=i.f/\i.f<=hi/\lo<=i.t/\i.t<=hi/\i.f<=i.t/\1<=i.s/\i.s<=999)\/(i.k=3/\lo<=i.f/\i.f<=hi/\i.t=0/\1<=i.s/\i.s<=999))
def zbK (i:It) (lo hi:Int):Bool:=decide (zwT i lo hi)
def ofB (lo hi:Int):List Int->Bool
 |[]=>true
 |[a]=>decide (lo<=a/\a<=hi)
 |a::b::l=>decide (lo<=a/\a<=hi/\a<=b)&&ofB lo hi (b::l)
theorem zk7 (lo hi:Int) (l:List Int):ofB lo hi l=true↔∀i a,l[i]?=some a->lo<=a/\a<=hi/\∀b,l[i+1]?=some b->a<=b:=by
 induction l with
 |nil=>simp [ofB]
 |cons a l ih=>
  cases l with
  |nil=>
   simp only[ofB,waM];constructor
   ·rintro h (_|i) x hx
    ·obtain rfl:a=x:=by simpa using hx
     exact⟨h.1,h.2,by simp⟩
    ·simp at hx
   ·intro h;have:=h 0 a rfl;exact⟨this.1,this.2.1⟩
  |cons b l=>
   simp only[ofB,waN,waM,ih];constructor
   ·rintro ⟨h,h2⟩ (_|i) x hx
    ·obtain rfl:a=x:=by simpa using hx
     refine⟨h.1,h.2.1,fun y hy=>?_⟩
     obtain rfl:b=y:=by simpa using hy
     exact h.2.2
    ·exact h2 i x (by simpa using hx)
   ·intro h;have h0:=h 0 a rfl;exact⟨⟨h0.1,h0.2.1,h0.2.2 b rfl⟩,fun i x hx=>h (i+1) x (by simpa using hx)⟩
def OfP (lo hi:Int) (l:List Int) (k:Nat):Prop:=∀i a,i<k->l[i]?=some a->lo<=a/\a<=hi/\∀b,i+1<k->l[i+1]?=some b->a<=b
theorem OfP.zero (lo hi:Int) (l:List Int):OfP lo hi l 0:=fun _ _ h=>absurd h (Nat.not_lt_zero _)
theorem OfP.one {lo hi x:Int} {l:List Int} (hx:l[0]?=some x) (h:lo<=x/\x<=hi):OfP lo hi l 1:=by
 intro i a hi ha;obtain rfl:i=0:=by omega
 rw[hx] at ha;cases ha;exact⟨h.1,h.2,fun b hb=>by omega⟩
theorem OfP.succ {lo hi x y:Int} {l:List Int} {k:Nat} (H:OfP lo hi l (k+1)) (hx:l[k+1]?=some x) (hy:l[k]?=some y) (h:lo<=x/\x<=hi/\y<=x):OfP lo hi l (k+1+1):=by
 intro i a hi ha;rcases Nat.lt_or_ge i (k+1) with h1|h1
 ·obtain⟨p,q,r⟩:=H i a h1 ha;refine⟨p,q,fun b hb hlb=>?_⟩
  rcases Nat.lt_or_ge (i+1) (k+1) with h2|h2
  ·exact r b h2 hlb
  ·obtain rfl:i=k:=by omega
   rw[hx] at hlb;cases hlb;rw[hy] at ha;cases ha;exact h.2.2
 ·obtain rfl:i=k+1:=by omega
  rw[hx] at ha;cases ha;exact⟨h.1,h.2.1,fun b hb=>by omega⟩
theorem OfP.all {lo hi:Int} {l:List Int} (H:OfP lo hi l l.length):ofB lo hi l=true:=by
 rw[zk7];intro i a ha;have hi:i<l.length:=(waI.1 ha).1;obtain⟨p,q,r⟩:=H i a hi ha;exact⟨p,q,fun b hb=>r b (waI.1 hb).1 hb⟩
theorem zk8 {lo hi x:Int} {l:List Int} {k:Nat} (hx:l[k]?=some x) (h:x<lo\/hi<x):ofB lo hi l=false:=by
 cases hb:ofB lo hi l with
 |false=>rfl
 |true=>have:=(zk7 lo hi l).1 hb k x hx;omega
theorem zvc {lo hi x y:Int} {l:List Int} {k:Nat} (hx:l[k+1]?=some x) (hy:l[k]?=some y) (h:x<y):ofB lo hi l=false:=by
 cases hb:ofB lo hi l with
 |false=>rfl
 |true=>have:=((zk7 lo hi l).1 hb k y hy).2.2 x hx;omega
theorem zwU {lo hi x y:Int} {l:List Int} {k:Nat} (hx:l[k+1]?=some x) (hy:l[k]?=some y) (h:x<lo\/hi<x\/x<y):ofB lo hi l=false:=by
 rcases h with h|h|h
 ·exact zk8 hx (.inl h)
 ·exact zk8 hx (.inr h)
 ·exact zvc hx hy h
def zdS (lo hi most:Int) (l:List It):Bool:=decide (0<l.length/\(l.length:Int)<=most)&&l.all (fun i=>zbK i lo hi)
theorem zo1 {lo hi most:Int} {l:List It} (h:l.length=0\/most<(l.length:Int)):zdS lo hi most l=false:=by
 rw[zdS,waO (by omega),Bool.false_and]
theorem zmm {α:Type} {p:α->Bool} {b:Bool} {l:List α} {k:Nat} {x:α} (H:∀j it,j<k->l[j]?=some it->p it=b) (hx:l[k]?=some x) (h:p x=b):∀j it,j<k+1->l[j]?=some it->p it=b:=by
 intro j it hj hl;rcases Nat.lt_or_ge j k with h1|h1
 ·exact H j it h1 hl
 ·obtain rfl:j=k:=by omega
  rw[hx] at hl;cases hl;exact h
def cLo (f:Int):Int:=if f=2\/f=3 then 1 else 0
def cHi (f:Int):Int:=if f=0 then 59 else if f=1 then 23 else if f=2 then 31 else if f=3 then 12 else if f=4 then 7 else 0
def zuv (k:Nat) (l:List It):Int:=
 if l.length=0 then 11 else if 64<l.length then 5 else if l.any (fun i=>i.k==3||!zbK i (cLo k) (cHi k)) then 1 else 0
def chkN (l:Nat->List It):Nat->Int×Int
 |0=>(5,0)
 |q+1=>if zuv (4 - q) (l (4 - q))=0 then chkN l q else(((4 - q:Nat):Int),zuv (4 - q) (l (4 - q)))
def chk (l:Nat->List It):Int×Int:=chkN l 5
theorem zgy {p:Nat->Prop} {k:Nat} (H:∀j,j<k->p j) (h:p k):∀j,j<k+1->p j:=by
 intro j hj;rcases Nat.lt_or_ge j k with h1|h1
 ·exact H j h1
 ·obtain rfl:j=k:=by omega
  exact h
def zwV:List It->Bool
 |[]=>false
 |i::_=>decide (i.k=0)
abbrev za8 (w:World) (B:Nat) (v:Value) (l:List Int):Prop:=w.ownsRow B 3 1 v l.length (l.map (Value.int .i64))
theorem zgg:(prog.info? 3).map (fun i=>(i.zero,i.size,i.bytes))=some (some (.int .i64 0),1,8):=by kernel_rfl
theorem zbO {w:World} {B n:Nat} {v:Value} {t:TypeId} {k:Nat} {xs:List Value} (h:w.ownsRow B t k v n xs):v=.slice none 0 0/\n=0\/∃g cap,v=.slice (some ⟨g,0,none⟩) n cap/\B<=g/\g<w.heap.size:=by
 rcases h.2 with h|⟨g,cap,cur,hv,hb,hg,_⟩
 ·exact .inl h
 ·exact .inr ⟨g,cap,hv,hb,(waL.1 hg).1⟩
theorem zo2 (l:List Int):l.flatMap zcY=l.map (Value.int .i64):=by
 induction l with
 |nil=>rfl
 |cons a l ih=>rw [List.flatMap_cons,ih];rfl
theorem za8.rd {w:World} {B:Nat} {v:Value} {l:List Int} (h:za8 w B v l):∃A c,v=.slice A l.length c/\l.length<=c/\c<=maxLen/\zaI w A l.length l/\(∀a,A=some a->B<=a.block):=
 Rd.of_own (enc:=zcY) zfC (l:=l) (by rw[zo2];exact h) rfl
theorem zak {w w':World} {B k n:Nat} {v:Value} {t:TypeId} {xs:List Value} (h:w.ownsRow B t k v n xs) (hb:Below w.heap.size w w'):w'.ownsRow B t k v n xs:=
 h.kept (row:=none) ⟨hb.os,hb.tape,hb.output,hb.size,fun i hi _=>hb.block i hi⟩ (by cases v.ownBlock<;>simp)
def zuw (l:List Int) (w:World) (e:Ending) (w':World):Prop:=∃v,e=.returned v/\za8 w' w.heap.size v l/\Below w.heap.size w w'
structure Ext (w:World) where
 W:World
 h:Below w.heap.size w W
instance (w:World):Nonempty (Ext w):=⟨⟨w,waC _ _⟩⟩
abbrev zwW (w:World) (W:World):Prop:=∃x:Ext w,W=x.W
theorem Ext.cell {w:World} (x:Ext w) {b o:Nat} {v:Value} (h:w.cell? ⟨b,o,none⟩=some v):x.W.cell? ⟨b,o,none⟩=some v:=
 (x.h.cell (p:=⟨b,o,none⟩) (waR w _ h)).trans h
theorem zbP {P:Program} {f:FuncId} {args:Array Value} {w:World} {v:Value} (x:Ext w) (h:Calls P f args x.W (Ret v x.W)):Calls P f args x.W fun e w''=>e=.returned v/\∃y:Ext w,w''=y.W:=
 h.mono fun _ w1 ⟨he,hb⟩=>⟨he,⟨w1,x.h.trans (hb.mono x.h.size)⟩,rfl⟩
theorem zaA {P:Program} {l:List Oper} {id:Nat} {Q:Exit->Act->World->Prop} {a:Act} {w:World} (hm:P.follows .mixedOrders=true) (hB:Region.lexB .any l.toArray=true)
 (h:wpQuiet P l.toArray (zwW w) (fun a'=>∀w',zwW w w'->Q .normal a' w') l a):(Code.region id l.toArray true).wp P Q a w:=
 wp_region_quiet (C:=zwW w) hm hB ⟨⟨_,(waC w.heap.size w).drew⟩,rfl⟩ (by simpa using h)
def za2 (l:List UInt8):ByteArray:=⟨l.toArray⟩
theorem zcH (l:List UInt8):(za2 l).size=l.length:=by simp[za2,ByteArray.size]
theorem zbd (l:List UInt8):(za2 l).data.toList=l:=by simp[za2]
theorem zk9 {S:ByteArray} {l:List UInt8} (h:S.data.toList=l):S=za2 l:=by
 subst h;apply ByteArray.ext;simp[za2]
theorem ziC (a b:ByteArray):(a++b).data.toList=a.data.toList++b.data.toList:=by simp
theorem zbT {S:ByteArray} {l:List UInt8} (h:S.data.toList=l):Ending.returned (.string S)=.returned (.string (za2 l)):=by rw[zk9 h]
def Arr (w:World) (b m:Nat) (g:Nat->Value):Prop:=(∀j,j<m->w.cell? ⟨b,j,none⟩=some (g j))/\∀j,w.frozen? ⟨b,j,none⟩=false
section
variable {w w' : World} {b m : Nat} {g g' : Nat -> Value}
theorem Arr.set (h:Arr w b m g) (i:Nat) (hi:i<m) (v:Value) (h1:g' i=v) (h2:∀j,j<m->j≠i->g' j=g j):Arr (w.setCell ⟨b,i,none⟩ v) b m g':=by
 refine⟨fun j hj=>?_,fun j=>by rw[waS];exact h.2 j⟩
 by_cases e:j=i
 ·subst e;rw[waT _ _ _ (h.1 j hj),h1]
 ·rw[waU _ _ _ _ (by intro e2;injection e2 with _ e3;exact e e3.symm),h.1 j hj,h2 j hj e]
theorem Arr.other {b' i:Nat} {v:Value} (h:Arr w b m g) (hne:b'≠b):Arr (w.setCell ⟨b',i,none⟩ v) b m g:=
 ⟨fun j hj=>by rw[waU _ _ _ _ (by intro e2;injection e2 with e3;exact hne e3)];exact h.1 j hj,fun j=>by rw[waS];exact h.2 j⟩
theorem Arr.below (h:Arr w b m g) (hb:b<w.heap.size) (hb1:Below w.heap.size w w'):Arr w' b m g:=
 ⟨fun j hj=>(hb1.cell (p:=⟨b,j,none⟩) hb).trans (h.1 j hj),fun j=>(hb1.frozen (p:=⟨b,j,none⟩) hb).trans (h.2 j)⟩
theorem Arr.alloc (h:Arr w b m g) (hb:b<w.heap.size) (o:Obj):Arr (w.alloc o) b m g:=h.below hb ((waC _ w).alloc (waJ _) _)
theorem Arr.lt (h:Arr w b m g) (hm:0<m):b<w.heap.size:=waR w _ (h.1 0 hm)
theorem zdq (w:World) (C:Array Value) (t:TypeId) (g:Nat->Value) (h:∀j,j<C.size->C[j]?=some (g j)):Arr (w.alloc (.cells C t)) w.heap.size C.size g:=by
 have h1:=heap_alloc_new w (.cells C t);refine⟨fun j hj=>?_,fun j=>?_⟩
 ·unfold World.cell?;rw[h1];exact h j hj
 ·unfold World.frozen?;rw[h1];rfl
end
theorem zah {fn:Func} {p:Tmp} {ty:TypeId} (h:fn.results=#[.cell p ty]) (tmps:Array Value) (P:Program) (w:World):
 (results fn tmps).run P w=((asAddr (tmps.getD p undef)).run P w).andThen fun a w₁=>(loadVar ty a).run P w₁:=by
 simp only[results,h];simp[Sem.run_bind,Result.andThen]
def zbU (l r:List It):Bool:=decide (l=r)
def zwX (a b:It):Bool:=decide (a=b)
def zux (a b:It):Bool:=!zwX a b
theorem zr6 (a b:It):zwX a b=(decide (a.k=b.k)&&(decide (a.f=b.f)&&(decide (a.t=b.t)&&decide (a.s=b.s)))):=by
 cases a;cases b;simp[zwX]
theorem zwY (a b:It) (w:World):(binOp .neq 64 (.agg #[.int .i64 a.k,.int .i64 a.f,.int .i64 a.t,.int .i64 a.s]) (.agg #[.int .i64 b.k,.int .i64 b.f,.int .i64 b.t,.int .i64 b.s])).run prog w=.ok (.bool (zux a b)) w:=by
 rw[run_neq_struct,zux,zr6]
 by_cases h1:a.k=b.k<;>by_cases h2:a.f=b.f<;>by_cases h3:a.t=b.t<;>by_cases h4:a.s=b.s<;>simp [go_sem,h1,h2,h3,h4]
theorem zo3 {a b:It} (h:zux a b=true):a≠b:=by simpa[zux,zwX] using h
theorem zny {a b:It} (h:zux a b=false):a=b:=by simpa[zux,zwX] using h
theorem zla {l r:List It} (h:l.length≠r.length):zbU l r=false:=by
 simp only[zbU,decide_eq_false_iff_not];rintro rfl;exact h rfl
theorem znz {l r:List It} {k:Nat} {a b:It} (ha:l[k]?=some a) (hb:r[k]?=some b) (h:a≠b):zbU l r=false:=by
 simp only[zbU,decide_eq_false_iff_not];rintro rfl;rw[ha] at hb;exact h (waB hb)
theorem zo4 {l r:List It} {k:Nat} {a b:It} (ht:l.take k=r.take k) (ha:l[k]?=some a) (hb:r[k]?=some b) (h:a=b):l.take (k+1)=r.take (k+1):=by
 rw[List.take_add_one,List.take_add_one,ha,hb,ht,h]
def zmn (g:Nat) (lb:Array Value) (p:It->Bool) (w:World):Prop:=
 ∀(W:World) (x:It),Below w.heap.size w W->Calls prog g (#[.agg #[.int .i64 x.k,.int .i64 x.f,.int .i64 x.t,.int .i64 x.s]]++lb) W (Ret (.bool (p x)) W)
def zjH (p:It->Bool) (l:List It):Int:=match l.findIdx? p with|some i=>i|none=>-1
theorem zo5 {p:It->Bool} {l:List It} {k:Nat} {x:It} (H:∀j it,j<k->l[j]?=some it->p it=false) (hx:l[k]?=some x) (h:p x=true):zjH p l=k:=by
 have hk:=(waI.1 hx);have:l.findIdx? p=some k:=by
  rw[List.findIdx?_eq_some_iff_getElem];refine⟨hk.1,by rw[hk.2];exact h,fun j hj=>by
   rw[Bool.not_eq_true];exact H j _ hj (waE (Nat.lt_trans hj hk.1))⟩
 simp[zjH,this]
theorem znA {p:It->Bool} {l:List It} (H:∀j it,j<l.length->l[j]?=some it->p it=false):zjH p l=-1:=by
 have:l.findIdx? p=none:=by
  rw[List.findIdx?_eq_none_iff];intro x hx;obtain⟨j,hj⟩:=List.getElem?_of_mem hx;exact H j x (waI.1 hj).1 hj
 simp[zjH,this]
theorem zo6 (p:It->Bool) (l:List It):decide (0<=zjH p l)=l.any p:=by
 unfold zjH;cases h:l.findIdx? p with
 |none=>
  rw[List.findIdx?_eq_none_iff] at h;have:l.any p=false:=by rw[List.any_eq_false];intro x hx;simp[h x hx]
  simp[this]
 |some i=>
  rw[List.findIdx?_eq_some_iff_getElem] at h;obtain⟨hi,hp,_⟩:=h;have:l.any p=true:=by rw[List.any_eq_true];exact⟨_,List.getElem_mem hi,hp⟩
  simp[this]
theorem ziD (A:Option Addr) (n c:Nat) (l:List It) (g:Nat) (lb:Array Value) (p:It->Bool) (w:World) (hA:zcV w A n l) (hn:n<=9223372036854775807)
 (eg:∀args w,(callFunc g args).run prog w=.ok (.enter g args) w) (hp:zmn g lb p w):
 Calls prog 223 #[.slice A n c,.func (.func g) #[] lb] w (Ret (.int .i64 (zjH p l)) w):=by
 have HL:Hid (l.length=n):=hA.1;go_enter func223,ntmps223;go_wp2
 go_loopw [8] (fun i wr=>∃k:Nat,k<=n/\i=.int .i64 k/\Hid (∀j it,j<k->l[j]?=some it->p it=false)/\Below w.heap.size w wr) (fun i _=>n - (intOf i).toNat)
 case atStart=>exact⟨0,waK _,rfl,fun j _ h=>absurd h (Nat.not_lt_zero _),waC _ _⟩
 case round=>
  obtain⟨k,hk,rfl,H,hb⟩:=hrel;have hsz:=hb.size
  by_cases hlt:k<n
  ·obtain⟨b,o,it,rfl,hbl,hx,c0,c1,c2,c3⟩:=zcV.at_ (hA.below hb (waJ _)) hlt
   have hlt':(k:Int)<(n:Int):=by omega
   have Hx:=waV hx;clear hx;have hcall:=waV (hp wr it hb);clear hp;cases hm:p it with
   |true=>
    have Hm:=waV hm;rw[hm] at hcall;clear hm
    go_wp2_with (go_at_fn g;refine hcall.out.mono ?_;rintro e w1 ⟨rfl,hb1⟩)
    go_ret;exact⟨zaR (zo5 H.out Hx.out Hm.out).symm,zaf hb hb1 hsz⟩
   |false=>
    have Hm:=waV hm;rw[hm] at hcall;clear hm
    go_wp2_with (go_at_fn g;refine hcall.out.mono ?_;rintro e w1 ⟨rfl,hb1⟩)
    go_roundw
    case rel=>exact⟨k+1,by omega,by go_num,zmm H.out Hx.out Hm.out,zaf hb hb1 hsz⟩
    case measure=>simp [intOf];omega
  ·obtain rfl:k=n:=by omega
   go_wp2;go_ret;exact⟨zaR (znA (HL.out▸H.out)).symm,hb⟩
theorem zdH (A:Option Addr) (n c:Nat) (l:List It) (g:Nat) (lb:Array Value) (p:It->Bool) (w:World) (hA:zcV w A n l) (hn:n<=9223372036854775807)
 (eg:∀args w,(callFunc g args).run prog w=.ok (.enter g args) w) (hp:zmn g lb p w):
 Calls prog 171 #[.slice A n c,.func (.func g) #[] lb] w (Ret (.bool (l.any p)) w):=by
 have HC:=waV (ziD A n c l g lb p w hA hn eg hp);rw[<-zo6];generalize zjH p l=q at HC ⊢;clear hp hA eg;go_enter func171,ntmps171
 go_wp2_with (go_at_call 223;refine HC.out.mono ?_;rintro e w1 ⟨rfl,hb1⟩)
 go_ret;exact⟨rfl,hb1⟩
abbrev zaY (w:World) (B:Nat) (v:Value) (l:List It):Prop:=w.ownsRow B 64 4 v l.length (l.flatMap zdb)
theorem zar {w:World} {B B' k n:Nat} {v:Value} {t:TypeId} {xs:List Value} (h:w.ownsRow B t k v n xs) (hB:B'<=B):w.ownsRow B' t k v n xs:=by
 refine⟨h.1,?_⟩;rcases h.2 with h|⟨g,cap,cur,hv,hb,h3⟩
 ·exact .inl h
 ·exact .inr ⟨g,cap,cur,hv,waW hB hb,h3⟩
theorem ziE (w:World) (cur:Array Value) (e:TypeId) (size n:Nat) (hm:n<=maxLen) (hs:cur.size=n * size):(w.alloc (.cells cur e)).ownsRow w.heap.size e size (.slice (some ⟨w.heap.size,0,none⟩) n n) n cur.toList:=
 ⟨by simpa using hs,.inr ⟨w.heap.size,n,cur,rfl,waJ _,heap_alloc_new w _,waJ _,hm,hs,List.take_of_length_le (by rw[<-hs];exact waJ _)⟩⟩
theorem ziF:(prog.info? 64).map (fun i=>(i.zero,i.size,i.bytes))=some (some (.agg #[.int .i64 0,.int .i64 0,.int .i64 0,.int .i64 0]),4,32):=by kernel_rfl
theorem zlb (l:List It):∀u∈l.flatMap zdb,u.oneCell'=true:=by
 intro u hu;simp only[List.mem_flatMap,zdb,List.mem_cons,List.not_mem_nil,or_false] at hu;obtain⟨x,_,h⟩:=hu;rcases h with rfl|rfl|rfl|rfl<;>rfl
def zo7 (n:Nat) (l:List It) (w:World) (e:Ending) (w':World):Prop:=∃A c,e=.returned (.slice A n c)/\zcV w' A n l/\Below w.heap.size w w'
theorem zo8 (A:Option Addr) (n c:Nat) (l:List It) (w:World) (hA:zcV w A n l) (hn:n<=4294967296) (hnil:A=none->n=0):
 Calls prog 120 #[.slice A n c] w (zo7 n l w):=by
 have HL:Hid (l.length=n):=hA.1;have heql:=fun W=>Lib.run_eql_slice_nil (P:=prog) W 24 64 A n c 0 0 underlying24
 rcases A with _|⟨b,o,sp⟩
 ·have h0:n=0:=hnil rfl;subst h0;go_enter func120,ntmps120;go_wp2;go_ret;exact⟨none,0,rfl,hA,waC _ _⟩
 ·have hsp:0<n->sp=none:=fun h=>by
   obtain⟨b',o',e,_⟩:=hA.2 h;cases e;rfl
  obtain⟨i0,hi0,hz0,hz1,hz2⟩:=info_parts ziF;have hnews:∀(j:Nat) u,(l.flatMap zdb)[j]?=some u->w.cell? ((⟨b,o,sp⟩:Addr).add j)=some u:=by
   intro j u hu;have hn0:0<n:=by
    obtain⟨i,_,x,_,hx,_⟩:=ziB zcG l j u hu;have:=(waI.1 hx).1;have:=HL.out;omega
   have:=hsp hn0;subst this;exact Rd.news zcG hA j u hu
  have hall:∀(O:Obj) (j:Nat) u,(l.flatMap zdb)[j]?=some u->(w.alloc O).cell? ((⟨b,o,sp⟩:Addr).add j)=some u:=fun O j u hu=>by
   have h1:=hnews j u hu;have hlt:=waR w _ h1;exact(World.cell?_alloc_lt w O _ hlt).trans h1
  have hlen:(l.flatMap zdb).length=n * 4:=by rw[zeZ zcG,HL.out]
  have HN:=waV hall;clear hall hnews hsp;go_enter func120,ntmps120
  go_wp2_with (at_builtin;refine wpList_append_own _ rfl _ _ 24 rfl w.heap.size 64 i0 _ 4 32 underlying24 hi0 hz0 hz1 hz2 rfl dQ _ 0 [] rfl ?c0 ⟨b,o,sp⟩ n c (l.flatMap zdb) rfl hlen ?c1 (zlb l) ?c2 ?c3 ?c4 ?c5)
  case c0=>exact World.ownsRow_made w #[] 0 (waJ _) (waK _) rfl
  case c1=>exact HN.out _
  case c2=>simp only[maxLen];omega
  case c3=>omega
  case c4=>simp
  case c5=>
   intro v' w' hown hg _;have hown:w'.ownsRow w.heap.size 64 4 v' n (l.flatMap zdb):=by simpa using hown
   obtain⟨A',c',rfl,_,_,hr,_⟩:=Rd.of_own zcG hown HL.out;have hbl:Below w.heap.size w w':=((waC _ w).alloc (waJ _) _).grown hg (by simp) (by simp[Value.ownBlock])
   go_wp2;go_ret;exact⟨A',c',rfl,hr,hbl⟩
end Go.Proofs.YtllcdbgjeidlkaaGreatDoor
namespace Go.Proofs.YtllcdbgjeidlkaaGreatDoor
open Go.Proofs.Tryz
def mkN (p:Nat->Bool):Nat->Nat
 |0=>0
 |k+1=>mkN p k+(if p k then 2^k else 0)
theorem zcI (p:Nat->Bool):∀k,mkN p k<2^k
 |0=>by simp[mkN]
 |k+1=>by
  have:=zcI p k;simp only[mkN,Nat.pow_succ];split<;>omega
theorem za9 (p:Nat->Bool):∀k i,(mkN p k).testBit i=(decide (i<k)&&p i)
 |0,i=>by simp[mkN]
 |k+1,i=>by
  have ih:=za9 p k i;have hl:=zcI p k;simp only[mkN]
  by_cases hp:p k=true
  ·simp only[hp,if_true];rw[Nat.add_comm];rcases Nat.lt_trichotomy i k with h|h|h
   ·rw[Nat.testBit_two_pow_add_gt h,ih];simp[h,show i<k+1 by omega]
   ·subst h;rw[Nat.testBit_two_pow_add_eq,ih];simp[hp]
   ·rw[waX (x:=2^k+mkN p k) (i:=i) (by
     have:2^(k+1)<=2^i:=Nat.pow_le_pow_right oQ oQ;rw[Nat.pow_succ] at this;omega)]
    simp[show ¬i<k+1 by omega]
  ·simp only[hp];rcases Nat.lt_trichotomy i k with h|h|h
   ·simp[ih,h,show i<k+1 by omega]
   ·subst h;simp[ih];simp at hp;simp[hp]
   ·simp[ih,show ¬i<k by omega,show ¬i<k+1 by omega]
theorem zbe {p q:Nat->Bool}:∀{k},(∀i,i<k->p i=q i)->mkN p k=mkN q k
 |0,_=>rfl
 |k+1,h=>by rw[mkN,mkN,zbe (fun i hi=>h i (by omega)),h k (by omega)]
theorem zmo (p q:Nat->Bool) (k:Nat):mkN p k|||mkN q k=mkN (fun i=>p i||q i) k:=by
 apply Nat.eq_of_testBit_eq;intro i;rw[Nat.testBit_or,za9,za9,za9];cases decide (i<k)<;>rfl
theorem ziG (p q:Nat->Bool) (k:Nat):mkN p k&&&mkN q k=mkN (fun i=>p i&&q i) k:=by
 apply Nat.eq_of_testBit_eq;intro i;rw[Nat.testBit_and,za9,za9,za9];cases decide (i<k)<;>simp
theorem ziH (n k:Nat) (h:n<k):mkN (fun i=>decide (i=n)) k=2^n:=by
 apply Nat.eq_of_testBit_eq;intro i;rw[za9,Nat.testBit_two_pow]
 by_cases hi:i=n
 ·subst hi;simp[h]
 ·have:¬n=i:=fun e=>hi e.symm
  simp[hi,this]
theorem zr7 (m k:Nat) (h:m<2^k):mkN (fun i=>m.testBit i) k=m:=by
 apply Nat.eq_of_testBit_eq;intro i;rw[za9]
 by_cases hi:i<k
 ·simp[hi]
 ·rw[waX (waD h (Nat.pow_le_pow_right (by omega) (by omega)))]
  simp
theorem zo9 (p:Nat->Bool):∀k,mkN p (k+1)=(if p 0 then 1 else 0)+2 * mkN (fun i=>p (i+1)) k
 |0=>by simp[mkN]
 |k+1=>by
  rw[mkN,zo9 p k,mkN];split<;>split<;>simp [Nat.pow_succ]<;>omega
theorem ze0 (k:Nat):mkN (fun _=>false) k=0:=by
 induction k with
 |zero=>rfl
 |succ k ih=>simp [mkN,ih]
end Go.Proofs.YtllcdbgjeidlkaaGreatDoor
