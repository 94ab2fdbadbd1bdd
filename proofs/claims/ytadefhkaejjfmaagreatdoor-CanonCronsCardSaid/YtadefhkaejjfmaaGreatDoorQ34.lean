/- A part of the proof: WClM -/
import Derived.Test.YtadefhkaejjfmaaGreatDoorQ07
import Derived.Test.YtadefhkaejjfmaaGreatDoorQ33
import Derived.Test.YtadefhkaejjfmaaGreatDoorQ08
import Derived.Test.YtadefhkaejjfmaaGreatDoorQ29
set_option maxHeartbeats 80000000
set_option maxRecDepth 100000
set_option linter.unusedSimpArgs false
set_option linter.unusedVariables false
namespace Go.Proofs.YtadefhkaejjfmaaGreatDoor
open Go.Proofs.Tryz
open Go.RowKit
theorem zqY {w:World} {b c o n:Nat} {v:Value} (h:w.there b 0 n) (hne:c≠b):(w.setCell ⟨c,o,none⟩ v).there b 0 n:=fun j hj=>by
 rw[waU _ _ _ _ (by intro e;injection e with e1;exact hne e1),waS]
 exact h j hj
theorem zdC (c:Cl):(clA c).all (·.oneCell')=true:=by kernel_rfl
def zgv:Cl:={m:=fun _=>0,or:=false,oi:=0,ob:=false,od:=fun _=>0,y:=fun _=>0,u:=0,s:=0,a:=0,f:=0,t:=0}
theorem zhI:∀(l:List Value) (k:Nat) (Z:Array Value) (j:Nat),((l.zipIdx k).foldl (fun(a:Array Value) (x:Value×Nat)=>a.setIfInBounds x.2 x.1) Z)[j]?=if k≤j∧j<k+l.length then(if j<Z.size then l[j - k]? else none) else Z[j]?
 |[],k,Z,j=>by
  have h:¬(k≤j∧j<k+([]:List Value).length):=by simp only[List.length_nil];omega
  rw[if_neg h];rfl
 |v::l,k,Z,j=>by
  rw[List.zipIdx_cons,List.foldl_cons,zhI l (k+1) _ j,Array.size_setIfInBounds]
  by_cases h1:k=j
  ·subst h1;have h2:¬(k+1≤k∧k<k+1+l.length):=by omega
   have h3:k≤k∧k<k+(v::l).length:=by simp only[waG];omega
   rw[if_neg h2,if_pos h3,Array.getElem?_setIfInBounds_self];simp
  ·by_cases h2:k+1≤j∧j<k+1+l.length
   ·have h3:k≤j∧j<k+(v::l).length:=by simp only[waG];omega
    rw[if_pos h2,if_pos h3];have e:j - k=(j - (k+1))+1:=by omega
    rw[e,List.getElem?_cons_succ]
   ·have h3:¬(k≤j∧j<k+(v::l).length):=by simp only[waG];omega
    rw[if_neg h2,if_neg h3,Array.getElem?_setIfInBounds_ne h1]
theorem zne (cs Z:Array Value) (m:Nat) (h:Z.size=m) (hm:cs.size=m):Array.foldl (fun(a:Array Value) (x:Value×Nat)=>a.setIfInBounds x.2 x.1) Z (cs.zipIdx 0) 0 m=cs:=by
 have e1:Array.foldl (fun(a:Array Value) (x:Value×Nat)=>a.setIfInBounds x.2 x.1) Z (cs.zipIdx 0) 0 m=(cs.toList.zipIdx 0).foldl (fun(a:Array Value) (x:Value×Nat)=>a.setIfInBounds x.2 x.1) Z:=by
  rw[←Array.toList_zipIdx,Array.foldl_toList];simp[hm]
 rw[e1];apply Array.ext_getElem?;intro j;rw[zhI]
 by_cases hj:j<cs.size
 ·have h1:0≤j∧j<0+cs.toList.length:=by simp[hj]
  rw[if_pos h1,if_pos (by omega)]
  simp
 ·have h1:¬(0≤j∧j<0+cs.toList.length):=by simp;omega
  rw[if_neg h1,Array.getElem?_eq_none (by omega),Array.getElem?_eq_none (by omega)]
theorem zk2 (w:World) (c:Cl) (t:TypeId):zbB (w.alloc (.cells (clA c) t)) (some ⟨w.heap.size,0,none⟩) 1 [c]:=
 ⟨rfl,fun _=>⟨w.heap.size,0,rfl,by simp,fun i x hx j v hj=>by
  have hi:i<1:=(waI.1 hx).1;obtain rfl:i=0:=by omega
  cases hx;simp only[Nat.zero_mul,waH];exact zmA w (clA c) t j v (by unfold zg4 at hj;simpa using hj)⟩⟩
def zs1 (c:Cl) (w:World) (x:Ending) (w':World):Prop:=∃b,x=.returned (.tuple #[.slice (some ⟨b,0,none⟩) 1 1,.int .i64 0])∧zbB w' (some ⟨b,0,none⟩) 1 [c]∧Below w.heap.size w w'
end Go.Proofs.YtadefhkaejjfmaaGreatDoor
