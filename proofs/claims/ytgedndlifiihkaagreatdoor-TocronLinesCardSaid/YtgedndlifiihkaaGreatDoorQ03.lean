/- A part of the proof: Open WRefVal WVal2 RItv RCiv2 -/
import Derived.Test.YtgedndlifiihkaaGreatDoorQ02
import Derived.ProofKit
import Derived.OpenShut
import Derived.ShutString
import Derived.ChangeOld
import Derived.Below
import Derived.Deep.Slices
import Derived.Deep.Fields
import Derived.Test.YtgedndlifiihkaaGreatDoorQ01
import Derived.Test.YtgedndlifiihkaaGreatDoorQ00
set_option maxHeartbeats 80000000
set_option maxRecDepth 100000
set_option linter.unusedSimpArgs false
set_option linter.unusedVariables false
namespace Go.Proofs.YtgedndlifiihkaaGreatDoor
open Go.Proofs.Tryz
open Go.ChangeShapes Go.WideShapes Go.ChangeAt Go.RowKit Go.Deep
def zq6 (x:Int):Prop:=-9223372036854775808≤x∧x≤9223372036854775807
def It.wf (i:It):Prop:=zq6 i.k∧zq6 i.f∧zq6 i.t∧zq6 i.s
theorem ziH {x:Int} (h:(Lit.int .i64 x).wf=true):zq6 x:=by simpa[Lit.wf,IntKind.min,IntKind.max,IntKind.signed,IntKind.bits,zq6] using h
section
variable {H : Type} {enc : TypeId × Value → H} {w : World} {base : Nat} {spare : Nat → Bool} {held : Bool}
theorem zlZ:prog.cellsOf 81=4:=by kernel_rfl
theorem ztn {fuel:Nat} {cs:List Value} {x:DataW H×List MemPlace} (h:DataW.trod enc prog w base spare held fuel 81 cs=some x):
 ∃it:It,cs=zcU it∧it.wf:=by
 obtain⟨xs,n,_,hx,hlen,hxl,hf⟩:=DataW.trod_struct underlying81 h;rw[zlZ] at hlen
 match cs,hlen with
 |[c0,c1,c2,c3],_=>
  have i0:=hf 0 _ rfl;have i1:=hf 1 _ rfl;have i2:=hf 2 _ rfl;have i3:=hf 3 _ rfl;have hl:xs.length=4:=hxl
  match xs,hl with
  |[y0,y1,y2,y3],_=>
   have one:prog.cellsOf 3=1:=by kernel_rfl
   change DataW.trod enc prog w base spare held n 3 (([c0,c1,c2,c3].drop 0).take (prog.cellsOf 3))=_ at i0
   change DataW.trod enc prog w base spare held n 3 (([c0,c1,c2,c3].drop 1).take (prog.cellsOf 3))=_ at i1
   change DataW.trod enc prog w base spare held n 3 (([c0,c1,c2,c3].drop 2).take (prog.cellsOf 3))=_ at i2
   change DataW.trod enc prog w base spare held n 3 (([c0,c1,c2,c3].drop 3).take (prog.cellsOf 3))=_ at i3
   rw[one] at i0 i1 i2 i3;obtain⟨k,e0,_,w0⟩:=DataW.trod_int underlying3 i0;obtain⟨f,e1,_,w1⟩:=DataW.trod_int underlying3 i1;obtain⟨t,e2,_,w2⟩:=DataW.trod_int underlying3 i2;obtain⟨s,e3,_,w3⟩:=DataW.trod_int underlying3 i3;simp at e0 e1 e2 e3;subst e0 e1 e2 e3;exact⟨⟨k,f,t,s⟩,rfl,ziH w0,ziH w1,ziH w2,ziH w3⟩
theorem zq7 (b o j:Nat):(⟨b,o,none⟩:Addr).add j=⟨b,o+j,none⟩:=by
 unfold Addr.add;split
 ·subst_vars;rfl
 ·rfl
theorem zdh {fuel:Nat} {v:Value} {x:DataW H×List MemPlace} (h:DataW.trod enc prog w base spare held fuel 22 [v]=some x):
 ∃A n c l,v=.slice A n c∧zcz w A n l∧n≤c∧c≤maxLen∧(A=none→n=0)∧∀it∈l,it.wf:=by
 rcases open_slice underlying22 h with ⟨h0,_⟩|⟨a,len,cap,m,q,D,Pl,hcs,hb,hl,hm,hmm,_,hi⟩
 ·simp at h0;subst h0;exact⟨none,0,0,[],rfl,Rd.nil,waJ _,waK _,fun _=>rfl,fun it hit=>by simp at hit⟩
 ·simp at hcs;subst hcs;have hlm:len≤m:=by rw[hmm];split<;>omega
  have hall:∀i,i<len→∃it:It,it.wf∧(∀(j:Nat) v,(zcU it)[j]?=some v→w.cell? (a.add (i * 4+j))=some v)∧a.block<w.heap.size:=by
   intro i hil;obtain⟨cs',hc,ht⟩:=hi i oQ;obtain⟨it,rfl,hwf⟩:=ztn ht;rw[zlZ] at hc;obtain⟨_,_,hat⟩:=World.cells?_some hc;refine⟨it,hwf,fun j v hj=>?_,?_⟩
   ·have hj4:j<4:=by have:=(waI.1 hj).1;simpa[zcU] using this
    have:=hat j hj4;rw[←Go.Deep.add_add,this,hj]
   ·have:=hat 0 dQ;have h2:=waR w _ this;rw[Go.Deep.add_add] at h2;unfold Addr.add at h2;split at h2<;>exact h2
  let F:Nat→It:=fun i=>if hh:i<len then Classical.choose (hall i hh) else⟨0,0,0,0⟩
  have hF:∀i,i<len→(F i).wf∧(∀(j:Nat) v,(zcU (F i))[j]?=some v→w.cell? (a.add (i * 4+j))=some v)∧a.block<w.heap.size:=by
   intro i hil;have:=Classical.choose_spec (hall i hil);simpa[F,hil] using this
  refine⟨some a,len,cap,(List.range len).map F,rfl,⟨by simp,fun hn=>?_⟩,hl,hm,(fun h=>by cases h),?_⟩
  ·obtain⟨b,o,s⟩:=a;have h00:=(hF 0 hn).2.1 0 _ rfl;have hs:s=none:=by
    have:=World.cell?_spot h00;simpa[Addr.add] using this
   subst hs;refine⟨b,o,rfl,(hF 0 hn).2.2,fun i x hx j v hj=>?_⟩
   have hil:i<len:=by have:=(waI.1 hx).1;simpa using this
   obtain rfl:F i=x:=by simpa[List.getElem?_map,List.getElem?_range hil] using hx
   have:=(hF i hil).2.1 j v hj;rw[zq7] at this;rw[show o+i * 4+j=o+(i * 4+j) from by omega];exact this
  ·intro it hit;simp only[List.mem_map,wbG] at hit;obtain⟨i,hil,rfl⟩:=hit;exact(hF i hil).1
theorem zm9:prog.cellsOf 24=5:=by kernel_rfl
theorem zoG {fuel:Nat} {cs:List Value} {x:DataW H×List MemPlace} (h:DataW.trod enc prog w base spare held fuel 24 cs=some x):
 ∃(A:Nat→Option Addr) (n c:Nat→Nat) (l:Nat→List It),cs=[.slice (A 0) (n 0) (c 0),.slice (A 1) (n 1) (c 1),.slice (A 2) (n 2) (c 2),.slice (A 3) (n 3) (c 3),.slice (A 4) (n 4) (c 4)]∧
  zbX w A n l∧(∀k,n k≤c k)∧(∀k,c k≤maxLen)∧(∀k,A k=none→n k=0)∧∀k,∀it∈l k,it.wf:=by
 obtain⟨xs,q,_,hx,hlen,hxl,hf⟩:=DataW.trod_struct underlying24 h;rw[zm9] at hlen
 match cs,hlen with
 |[c0,c1,c2,c3,c4],_=>
  have i0:=hf 0 _ rfl;have i1:=hf 1 _ rfl;have i2:=hf 2 _ rfl;have i3:=hf 3 _ rfl;have i4:=hf 4 _ rfl;have hl:xs.length=5:=hxl
  match xs,hl with
  |[y0,y1,y2,y3,y4],_=>
   have one:prog.cellsOf 22=1:=by kernel_rfl
   change DataW.trod enc prog w base spare held q 22 (([c0,c1,c2,c3,c4].drop 0).take (prog.cellsOf 22))=_ at i0
   change DataW.trod enc prog w base spare held q 22 (([c0,c1,c2,c3,c4].drop 1).take (prog.cellsOf 22))=_ at i1
   change DataW.trod enc prog w base spare held q 22 (([c0,c1,c2,c3,c4].drop 2).take (prog.cellsOf 22))=_ at i2
   change DataW.trod enc prog w base spare held q 22 (([c0,c1,c2,c3,c4].drop 3).take (prog.cellsOf 22))=_ at i3
   change DataW.trod enc prog w base spare held q 22 (([c0,c1,c2,c3,c4].drop 4).take (prog.cellsOf 22))=_ at i4
   rw[one] at i0 i1 i2 i3 i4;obtain⟨A0,n0,k0,l0,e0,r0,p0,q0,z0,w0⟩:=zdh i0;obtain⟨A1,n1,k1,l1,e1,r1,p1,q1,z1,w1⟩:=zdh i1;obtain⟨A2,n2,k2,l2,e2,r2,p2,q2,z2,w2⟩:=zdh i2;obtain⟨A3,n3,k3,l3,e3,r3,p3,q3,z3,w3⟩:=zdh i3;obtain⟨A4,n4,k4,l4,e4,r4,p4,q4,z4,w4⟩:=zdh i4;subst e0 e1 e2 e3 e4;refine⟨fun k=>match k with|0=>A0|1=>A1|2=>A2|3=>A3|_=>A4,fun k=>match k with|0=>n0|1=>n1|2=>n2|3=>n3|_=>n4,fun k=>match k with|0=>k0|1=>k1|2=>k2|3=>k3|_=>k4,
    fun k=>match k with|0=>l0|1=>l1|2=>l2|3=>l3|_=>l4,rfl,?_,?_,?_,?_,?_⟩
   ·intro k hk;obtain rfl|rfl|rfl|rfl|rfl:k=0∨k=1∨k=2∨k=3∨k=4:=by omega
    all_goals assumption
   all_goals
    intro k;rcases k with _|_|_|_|k
    all_goals assumption
end
end Go.Proofs.YtgedndlifiihkaaGreatDoor
namespace Go.Proofs.YtgedndlifiihkaaGreatDoor
open Go.Proofs.Tryz
open Go.RowKit
def zoH (i:It) (lo hi n:Int):Bool:=decide (bF i lo≤n∧n≤bT i hi∧(n - bF i lo)%bS i=0)
theorem zoI {i:It} {lo hi n:Int} (h:zbq i lo hi=true):n∈itL i lo hi↔zoH i lo hi n=true:=by
 obtain⟨h1,h2,h3,h4,h5⟩:=zoE h;simp only[itL,zoH,waM,List.mem_map,wbG];generalize bF i lo=F at *;generalize bT i hi=T at *;generalize bS i=S at *;have hd:0≤(T - F) / S:=Int.ediv_nonneg oQ oQ;constructor
 ·rintro ⟨k,hk,rfl⟩;have hk':(k:Int)≤(T - F) / S:=by omega
  have:=Int.ediv_mul_le (T - F) (show S≠0 by omega)
  have h6:(k:Int) * S≤(T - F) / S * S:=Int.mul_le_mul_of_nonneg_right hk' oQ;have h7:0≤(k:Int) * S:=Int.mul_nonneg oQ oQ;refine⟨by omega,by omega,?_⟩
  rw[show F+(k:Int) * S - F=(k:Int) * S by omega]
  exact Int.mul_emod_left _ _
 ·rintro ⟨h6,h7,h8⟩;have h9:(n - F) / S * S=n - F:=by
   have:=Int.mul_ediv_add_emod (n - F) S;rw[h8,Int.mul_comm] at this;omega
  have h10:0≤(n - F) / S:=Int.ediv_nonneg oQ oQ;have h11:(n - F) / S≤(T - F) / S:=Int.ediv_le_ediv oQ oQ;refine⟨((n - F) / S).toNat,by omega,?_⟩
  rw[show ((((n - F) / S).toNat:Nat):Int)=(n - F) / S by omega,h9]
  omega
def zeM (lo hi n:Int) (i:It):Bool:=zbq i lo hi&&zoH i lo hi n
def inB (l:List It) (lo hi n:Int):Bool:=l.any (zeM lo hi n)
def zaD (l:List It) (lo hi:Int):List Int:=((List.range (min hi 9999 - max 0 lo+1).toNat).map fun(k:Nat)=>max 0 lo+(k:Int)).filter (inB l lo hi)
theorem zsP:∀{a b:List Int},a.Pairwise (·< ·)→b.Pairwise (·< ·)→(∀x,x∈a↔x∈b)→a=b
 |[],[],_,_,_=>rfl
 |[],y::b,_,_,h=>by have:=(h y).2 (by simp);simp at this
 |x::a,[],_,_,h=>by have:=(h x).1 (by simp);simp at this
 |x::a,y::b,ha,hb,h=>by
  have ha1:=List.pairwise_cons.1 ha;have hb1:=List.pairwise_cons.1 hb;have hxy:x=y:=by
   have h1:=(h x).1 (by simp)
   have h2:=(h y).2 (by simp)
   rcases List.mem_cons.1 h1 with h1|h1
   ·exact h1
   ·rcases List.mem_cons.1 h2 with h2|h2
    ·exact h2.symm
    ·have:=hb1.1 x h1;have:=ha1.1 y h2;omega
  subst hxy;congr 1;refine zsP ha1.2 hb1.2 fun z=>⟨fun hz=>?_,fun hz=>?_⟩
  ·rcases List.mem_cons.1 ((h z).1 (List.mem_cons_of_mem _ hz)) with rfl|h1
   ·exact absurd (ha1.1 z hz) oQ
   ·exact h1
  ·rcases List.mem_cons.1 ((h z).2 (List.mem_cons_of_mem _ hz)) with rfl|h1
   ·exact absurd (hb1.1 z hz) oQ
   ·exact h1
theorem zcZ (d:Array Int) (hd:∀i j,i≤j→j<d.size→d[i]!≤d[j]!):∀m,m≤d.size→
 (Lib.compactUpTo d m).Pairwise (·< ·)∧(∀x,x∈Lib.compactUpTo d m↔∃j,j<m∧d[j]! =x)
 |0,_=>by simp[Lib.compactUpTo]
 |m+1,hm=>by
  obtain⟨h1,h2⟩:=zcZ d hd m oQ;rw[Lib.compactUpTo_succ]
  by_cases hk:m=0∨d[m]!≠d[m - 1]!
  ·have hk':Lib.keeps d m=true:=by simp[Lib.keeps,hk]
   rw[if_pos hk'];refine⟨List.pairwise_append.2 ⟨h1,by simp,?_⟩,?_⟩
   ·intro a ha b hb;obtain rfl:b=d[m]!:=by simpa using hb
    obtain⟨j,hj,rfl⟩:=(h2 a).1 ha;have h3:=hd j (m - 1) oQ oQ;have h4:=hd (m - 1) m oQ oQ;rcases hk with hk|hk
    ·omega
    ·omega
   ·intro x;rw[wbB,h2];constructor
    ·rintro (⟨j,hj,rfl⟩|hx)
     ·exact⟨j,by omega,rfl⟩
     ·exact⟨m,by omega,(wbC.1 hx).symm⟩
    ·rintro ⟨j,hj,rfl⟩;rcases Nat.lt_or_eq_of_le (Nat.le_of_lt_succ hj) with h|rfl
     ·exact .inl ⟨j,h,rfl⟩
     ·exact .inr (by simp)
  ·have hk':¬Lib.keeps d m=true:=by simpa[Lib.keeps] using hk
   rw[if_neg hk',List.append_nil];refine⟨h1,fun x=>?_⟩
   rw[h2];constructor
   ·rintro ⟨j,hj,rfl⟩;exact⟨j,by omega,rfl⟩
   ·rintro ⟨j,hj,rfl⟩;rcases Nat.lt_or_eq_of_le (Nat.le_of_lt_succ hj) with h|rfl
    ·exact⟨j,h,rfl⟩
    ·have h5:j≠0:=fun e=>hk (.inl e)
     have h6:d[j]! =d[j - 1]!:=by
      rcases Classical.em (d[j]! =d[j - 1]!) with h|h
      ·exact h
      ·exact absurd (.inr h) hk
     exact⟨j - 1,by omega,h6.symm⟩
theorem zhJ {l:List Int} (h:l.Pairwise (·≤·)):(Lib.compact l).Pairwise (·< ·)∧∀x,x∈Lib.compact l↔x∈l:=by
 have hd:∀i j,i≤j→j<l.toArray.size→l.toArray[i]!≤l.toArray[j]!:=by
  intro i j hij hj;have hj':j<l.length:=by simpa using hj
  rw[getElem!_pos l.toArray i (by simp;omega),getElem!_pos l.toArray j (by simp;omega)]
  simp only[List.getElem_toArray];rcases Nat.lt_or_eq_of_le hij with h1|rfl
  ·exact(List.pairwise_iff_getElem.1 h) i j oQ hj' h1
  ·exact Int.le_refl _
 obtain⟨h1,h2⟩:=zcZ l.toArray hd l.length (by simp)
 refine⟨h1,fun x=>(h2 x).trans ?_⟩
 rw[List.mem_iff_getElem];constructor
 ·rintro ⟨j,hj,rfl⟩;exact⟨j,hj,by rw[getElem!_pos l.toArray j (by simpa using hj)];simp⟩
 ·rintro ⟨j,hj,rfl⟩;exact⟨j,hj,by rw[getElem!_pos l.toArray j (by simpa using hj)];simp⟩
theorem zjJ (lo hi:Int) (l:List It):(zsO lo hi l).Pairwise (·< ·)∧∀x,x∈zsO lo hi l↔inB l lo hi x=true:=by
 have hs:((zeQ lo hi l).mergeSort fun x y=>decide (x≤y)).Pairwise (·≤·):=by
  have:=List.pairwise_mergeSort (le:=fun x y:Int=>decide (x≤y)) (fun a b c h1 h2=>by simp at *;omega) (fun a b=>by simp;omega) (zeQ lo hi l)
  simpa using this
 obtain⟨h1,h2⟩:=zhJ hs;refine⟨h1,fun x=>(h2 x).trans ?_⟩
 rw[List.mem_mergeSort];simp only[zeQ,List.mem_flatMap,inB,List.any_eq_true,zeM,waN];constructor
 ·rintro ⟨i,hil,hx⟩
  by_cases hm:zbq i lo hi=true
  ·rw[if_pos hm] at hx;exact⟨i,hil,hm,(zoI hm).1 hx⟩
  ·rw[if_neg hm] at hx;simp at hx
 ·rintro ⟨i,hil,hm,hh⟩;exact⟨i,hil,by rw[if_pos hm];exact(zoI hm).2 hh⟩
theorem zoJ {i:It} {lo hi:Int} (h:zbq i lo hi=true):0≤lo∧lo≤bF i lo∧bT i hi≤hi∧hi≤9999:=by
 simp only[zbq,zuv,waM] at h;unfold bF bT;split<;>(try split)<;>(try split)<;>omega
theorem zco (lo hi:Int) (l:List It):(zaD l lo hi).Pairwise (·< ·)∧∀x,x∈zaD l lo hi↔inB l lo hi x=true:=by
 constructor
 ·unfold zaD;refine List.Pairwise.filter _ ?_;rw[List.pairwise_map];refine List.Pairwise.imp ?_ List.pairwise_lt_range;intro a b h;omega
 ·intro x;unfold zaD;rw[List.mem_filter];constructor
  ·rintro ⟨_,h⟩;exact h
  ·intro h;refine⟨?_,h⟩;simp only[inB,List.any_eq_true,zeM,waN,zoH,waM] at h;obtain⟨i,_,hm,h1,h2,_⟩:=h;obtain⟨h3,h4,h5,h6⟩:=zoJ hm;rw[List.mem_map];exact⟨(x - max 0 lo).toNat,wbG.2 oQ,by omega⟩
theorem zuM (lo hi:Int) (l:List It):zsO lo hi l=zaD l lo hi:=
 zsP (zjJ lo hi l).1 (zco lo hi l).1 fun x=>((zjJ lo hi l).2 x).trans ((zco lo hi l).2 x).symm
theorem zgO (l:List Int) (n:Nat) (hn:n<64):zan l / 2^n%2=if(n:Int)∈l then 1 else 0:=by
 have h:=zbi (inL l) 64 n;rw[Nat.testBit_eq_decide_div_mod_eq] at h;have h2:(mkN (inL l) 64 / 2^n)%2=0∨(mkN (inL l) 64 / 2^n)%2=1:=by omega
 have h3:zan l / 2^n%2=(((mkN (inL l) 64 / 2^n)%2:Nat):Int):=by
  unfold zan
  push_cast
  rfl
 rw[h3];simp only[inL,hn,decide_true,Bool.true_and,wbH] at h;split
 ·rename_i hm;rw[h.2 hm];rfl
 ·rename_i hm;rcases h2 with h2|h2
  ·rw[h2];rfl
  ·exact absurd (h.1 h2) hm
end Go.Proofs.YtgedndlifiihkaaGreatDoor
namespace Go.Proofs.YtgedndlifiihkaaGreatDoor
open Go.Proofs.Tryz
theorem zff {p:Option Int} {l:List Int}:zch p l=true↔(∀x∈l,0≤x∧x≤9999)∧l.Pairwise (·< ·)∧∀y,p=some y→∀x∈l,y<x:=by
 induction l generalizing p with
 |nil=>simp [zch]
 |cons a l ih=>
  unfold zch;rw[waN,waM,ih,List.pairwise_cons];constructor
  ·rintro ⟨⟨h0,h1,h2⟩,h3,h4,h5⟩;refine⟨fun x hx=>?_,⟨fun x hx=>h5 a rfl x hx,h4⟩,fun y hy x hx=>?_⟩
   ·rcases List.mem_cons.1 hx with rfl|hx
    ·exact⟨h0,h1⟩
    ·exact h3 x hx
   ·rcases List.mem_cons.1 hx with rfl|hx
    ·exact h2 y hy
    ·exact Int.lt_trans (h2 y hy) (h5 a rfl x hx)
  ·rintro ⟨h1,⟨h2,h3⟩,h4⟩;obtain⟨a0,a1⟩:=h1 a (by simp)
   refine⟨⟨a0,a1,fun y hy=>h4 y hy a (by simp)⟩,fun x hx=>h1 x (by simp[hx]),h3,?_⟩
   rintro y hy x hx;cases hy;exact h2 x hx
theorem zsQ {s:Int}:∀(l:List Int) (a:Int) (k:Nat),k≤zjx s a l→(a::l)[k]?=some (a+(k:Int) * s)
 |_,a,0,_=>by simp
 |[],a,k+1,h=>by simp[zjx] at h
 |b::l,a,k+1,h=>by
  unfold zjx at h;split at h
  ·rename_i e;rw[List.getElem?_cons_succ,zsQ (s:=s) l b k (by omega)]
   congr 1
   push_cast
   rw[Int.add_mul];omega
  ·omega
def zhK (p:Pc):List Int:=(List.range (zdQ p).toNat).map fun(k:Nat)=>p.f+(k:Int) * p.s
def zna (p:Pc):Prop:=zq3 p∧(p.s=1∨p.s≤p.t - p.f)
theorem znb {a:Int} {l:List Int} (h:zch none (a::l)=true):zna (za9 a l).1∧zhK (za9 a l).1=(a::l).take (za9 a l).2∧1≤(za9 a l).2:=by
 obtain⟨h1,h2,_⟩:=zff.1 h;obtain⟨a0,a1⟩:=h1 a (by simp)
 unfold za9;split
 ·have hl:zq3 ⟨a,a,1⟩:=⟨a0,Int.le_refl _,a1,Int.le_refl 1,by simp⟩
  refine⟨⟨hl,.inl rfl⟩,?_,waJ 1⟩;unfold zhK zdQ;rw[if_pos hl];simp
 ·rename_i hn;have hm:zfa a l=zjx (zhI a l) a l+1:=rfl;obtain⟨m,hmm⟩:∃m,m=zjx (zhI a l) a l:=⟨_,rfl⟩;have hm1:1≤m:=by omega
  cases l with
  |nil=>simp [zjx] at hmm;omega
  |cons b l=>
   have hs:zhI a (b::l)=b - a:=rfl;have hb:a<b:=(List.pairwise_cons.1 h2).1 b (by simp)
   obtain⟨s,hss⟩:∃s,s=b - a:=⟨_,rfl⟩;rw[hs,←hss] at hmm;have hat:=fun k hk=>zsQ (s:=s) (b::l) a k hk
   rw[←hmm] at hat;have hlast:(a::b::l).getD (zfa a (b::l) - 1) 0=a+(m:Int) * s:=by
    rw[hm,hs,←hss,←hmm,Nat.add_sub_cancel,List.getD_eq_getElem?_getD,hat m (waJ _)];rfl
   have hz:=List.mem_of_getElem? (hat m (waJ _));have hzb:=h1 _ hz;have hs1:1≤s:=by omega
   have hpos:s≤(m:Int) * s:=by
    have:=Int.mul_le_mul_of_nonneg_right (show(1:Int)≤(m:Int) by omega) (show 0≤s by omega)
    omega
   have hl:zq3 ⟨a,a+(m:Int) * s,s⟩:=⟨a0,by show a≤a+(m:Int) * s;omega,hzb.2,hs1,by
    show(a+(m:Int) * s - a)%s=0;rw[show a+(m:Int) * s - a=(m:Int) * s by omega,Int.mul_emod_left]⟩
   rw[hlast,hs,←hss,hm,hs,←hss,←hmm];refine⟨⟨hl,.inr (by show s≤a+(m:Int) * s - a;omega)⟩,?_,by show 1≤m+1;omega⟩
   unfold zhK zdQ;rw[if_pos hl];dsimp only;rw[show a+(m:Int) * s - a=(m:Int) * s by omega,Int.mul_ediv_cancel _ (show s≠0 by omega)]
   have e:((m:Int)+1).toNat=m+1:=by omega
   rw[e];have hlen:m+1≤(a::b::l).length:=by
    have:=(waI.1 (hat m (waJ _))).1;omega
   apply List.ext_getElem?;intro k
   by_cases hk:k<m+1
   ·rw[List.getElem?_map,List.getElem?_range hk,List.getElem?_take_of_lt hk,hat k (by omega)];rfl
   ·rw[List.getElem?_eq_none (by simp;omega),List.getElem?_eq_none (by rw[List.length_take];omega)]
theorem zoK {l r:List Int} (h:zch none l=true) (hs:r.Sublist l):zch none r=true:=by
 obtain⟨h1,h2,_⟩:=zff.1 h;exact zff.2 ⟨fun x hx=>h1 x (hs.subset hx),h2.sublist hs,fun y hy=>by cases hy⟩
theorem zgP:∀(k:Nat) (l:List Int),l.length≤k→zch none l=true→(zcl k l).flatMap zhK=l∧∀p∈zcl k l,zna p
 |0,l,hk,h=>by
  have:l=[]:=List.length_eq_zero_iff.1 oQ;subst this;simp[zcl]
 |k+1,[],_,_=>by simp[zcl]
 |k+1,a::l,hk,h=>by
  obtain⟨h1,h2,h3⟩:=znb h;obtain⟨h4,h5⟩:=zgP k ((a::l).drop (za9 a l).2) (by simp only[List.length_drop,waG] at hk ⊢;omega) (zoK h (List.drop_sublist _ _))
  unfold zcl;refine⟨?_,fun p hp=>?_⟩
  ·rw[List.flatMap_cons,h4,h2,List.take_append_drop]
  ·rcases List.mem_cons.1 hp with rfl|hp
   ·exact h1
   ·exact h5 p hp
theorem zdA {l:List Int} (h:zch none l=true):(zb3 l).flatMap zhK=l∧∀p∈zb3 l,zna p:=by
 unfold zb3;rw[if_pos h];exact zgP _ _ (waJ _) h
theorem zfg {p:Pc} (h:zq3 p) {x:Int}:x∈zhK p↔p.f≤x∧x≤p.t∧(x - p.f)%p.s=0:=by
 obtain⟨h0,h1,h2,h3,h4⟩:=h;have hd:(p.t - p.f) / p.s * p.s=p.t - p.f:=Int.ediv_mul_cancel (Int.dvd_of_emod_eq_zero h4);have hq:0≤(p.t - p.f) / p.s:=Int.ediv_nonneg oQ oQ;unfold zhK zdQ;rw[if_pos ⟨h0,h1,h2,h3,h4⟩,List.mem_map];constructor
 ·rintro ⟨k,hk,rfl⟩;have hk:=wbG.1 hk;have h5:(k:Int) * p.s≤(p.t - p.f) / p.s * p.s:=Int.mul_le_mul_of_nonneg_right oQ oQ;have h6:0≤(k:Int) * p.s:=Int.mul_nonneg oQ oQ;refine⟨by omega,by omega,?_⟩
  rw[show p.f+(k:Int) * p.s - p.f=(k:Int) * p.s by omega,Int.mul_emod_left]
 ·rintro ⟨h5,h6,h7⟩;have he:(x - p.f) / p.s * p.s=x - p.f:=Int.ediv_mul_cancel (Int.dvd_of_emod_eq_zero h7);have hk0:0≤(x - p.f) / p.s:=Int.ediv_nonneg oQ oQ;have hk1:(x - p.f) / p.s≤(p.t - p.f) / p.s:=Int.ediv_le_ediv oQ oQ;refine⟨((x - p.f) / p.s).toNat,wbG.2 oQ,?_⟩;rw[show ((((x - p.f) / p.s).toNat:Nat):Int)=(x - p.f) / p.s by omega,he]
  omega
theorem zoL {p:Pc} (h:zna p) {lo hi:Int} (h0:0≤lo) (h1:lo≤p.f) (h2:p.t≤hi) (h3:hi≤999):zbq (itP p) lo hi=true:=by
 obtain⟨⟨g0,g1,g2,g3,g4⟩,g5⟩:=h;unfold zbq itP;split
 ·exact waP ⟨h0,by omega,by omega,.inr (.inl ⟨rfl,h1,by show p.f≤hi;omega,rfl,rfl⟩)⟩
 ·exact waP ⟨h0,by omega,by omega,.inr (.inr (.inl ⟨rfl,h1,by show p.f≤hi;omega,by show lo≤p.t;omega,h2,g1,g3,by show p.s≤999;omega⟩))⟩
theorem zoM {p:Pc} (h:zna p) {lo hi:Int} (h0:0≤lo) (h1:lo≤p.f) (h2:p.t≤hi) (h3:hi≤999) (n:Int):zeM lo hi n (itP p)=decide (n∈zhK p):=by
 unfold zeM;rw[zoL h h0 h1 h2 h3,Bool.true_and];unfold zoH;rw[wbH,zfg h.1];unfold itP;split
 ·rename_i e;obtain⟨⟨g0,g1,g2,g3,g4⟩,g5⟩:=h;have hft:p.t=p.f:=by
   unfold zdQ at e;rw[if_pos ⟨g0,g1,g2,g3,g4⟩] at e;have hd:(p.t - p.f) / p.s * p.s=p.t - p.f:=Int.ediv_mul_cancel (Int.dvd_of_emod_eq_zero g4);rw[show (p.t - p.f) / p.s=0 by omega] at hd
   omega
  show(bF ⟨1,p.f,0,0⟩ lo≤n∧n≤bT ⟨1,p.f,0,0⟩ hi∧(n - bF ⟨1,p.f,0,0⟩ lo)%bS ⟨1,p.f,0,0⟩=0)↔_;simp only[bF,bT,bS];constructor
  ·rintro ⟨a,b,c⟩;have a:p.f≤n:=a;have b:n≤p.f:=b;obtain rfl:n=p.f:=by omega
   exact⟨by omega,by omega,by simp⟩
  ·rintro ⟨a,b,c⟩;obtain rfl:n=p.f:=by omega
   refine⟨?_,?_,?_⟩<;>simp
 ·show(bF ⟨2,p.f,p.t,p.s⟩ lo≤n∧n≤bT ⟨2,p.f,p.t,p.s⟩ hi∧(n - bF ⟨2,p.f,p.t,p.s⟩ lo)%bS ⟨2,p.f,p.t,p.s⟩=0)↔_;simp only[bF,bT,bS];exact Iff.rfl
structure Numb (lo hi:Int) (l:List Int):Prop where
 lo0:0≤lo
 hi9:hi≤999
 le:lo≤hi
 bd:∀x∈l,lo≤x∧x≤hi
 up:l.Pairwise (·< ·)
theorem Numb.may {lo hi:Int} {l:List Int} (h:Numb lo hi l):zch none l=true:=zff.2 ⟨fun x hx=>by
 have:=h.bd x hx;have:=h.lo0;have:=h.hi9;omega,h.up,fun y hy=>by cases hy⟩
theorem Numb.piece {lo hi:Int} {l:List Int} (h:Numb lo hi l) {p:Pc} (hp:p∈zb3 l):zna p∧lo≤p.f∧p.t≤hi∧∀x∈zhK p,x∈l:=by
 obtain⟨h1,h2⟩:=zdA h.may;have hg:=h2 p hp;have hsub:∀x∈zhK p,x∈l:=fun x hx=>by rw[←h1];exact List.mem_flatMap.2 ⟨p,hp,hx⟩
 obtain⟨g0,g1,g2,g3,g4⟩:=hg.1;have hf:=h.bd _ (hsub p.f ((zfg hg.1).2 ⟨Int.le_refl _,g1,by simp⟩))
 have ht:=h.bd _ (hsub p.t ((zfg hg.1).2 ⟨g1,Int.le_refl _,g4⟩));exact⟨hg,hf.1,ht.2,hsub⟩
theorem zq8 {lo hi:Int} {l:List Int} (h:Numb lo hi l) (hc:zb3 l=[⟨lo,hi,1⟩]) (n:Int):n∈l↔lo≤n∧n≤hi:=by
 obtain⟨h1,h2⟩:=zdA h.may;rw[hc] at h1 h2;have hg:=h2 ⟨lo,hi,1⟩ (by simp)
 rw[←h1,List.flatMap_singleton,zfg hg.1];simp[Int.emod_one]
theorem zoN {lo hi:Int} {l:List Int} (h:Numb lo hi l) (S:Bool) (n:Int):inB (zab lo hi l S) lo hi n=decide (n∈l):=by
 unfold zab;split
 ·rename_i hc;rw[waQ,waM,zq8 h hc.2];unfold inB zeM;have hm:zbq ⟨0,0,0,1⟩ lo hi=true:=waP ⟨h.lo0,h.le,by have:=h.hi9;omega,.inl ⟨rfl,rfl,rfl,by decide,by decide⟩⟩
  simp only[List.any_cons,List.any_nil,Bool.or_false,hm,Bool.true_and,zoH,bF,bT,bS,waM];simp
 ·rw[waQ,waM];unfold inB;rw[List.any_map,List.any_eq_true];obtain⟨h1,h2⟩:=zdA h.may;constructor
  ·rintro ⟨p,hp,hn⟩;obtain⟨hg,hf,ht,hsub⟩:=h.piece hp;have hn:zeM lo hi n (itP p)=true:=hn;rw[zoM hg h.lo0 hf ht h.hi9,waM] at hn;exact hsub n hn
  ·intro hn;rw[←h1] at hn;obtain⟨p,hp,hx⟩:=List.mem_flatMap.1 hn;obtain⟨hg,hf,ht,hsub⟩:=h.piece hp;refine⟨p,hp,?_⟩;show zeM lo hi n (itP p)=true;rw[zoM hg h.lo0 hf ht h.hi9,waM];exact hx
theorem zjK {lo hi:Int} {l:List Int} (h:Numb lo hi l) (S:Bool):((zab lo hi l S).length=0↔l=[])∧(zab lo hi l S).length≤l.length:=by
 obtain⟨h1,h2⟩:=zdA h.may;have hn:zb3 l=[]↔l=[]:=by
  constructor
  ·intro e;rw[←h1,e];rfl
  ·rintro rfl;rfl
 unfold zab;split
 ·rename_i hc;have hne:l≠[]:=fun e=>by rw[hn.2 e] at hc;cases hc.2
  have:0<l.length:=List.length_pos_iff.2 hne;exact⟨⟨(fun e=>by cases e),fun e=>absurd e hne⟩,by simp only[waG,List.length_nil];omega⟩
 ·rw[List.length_map];exact⟨by rw[List.length_eq_zero_iff,hn],zhX l⟩
theorem zgQ {lo hi:Int} {l:List Int} (h:Numb lo hi l) (S:Bool):∀i∈zab lo hi l S,zbq i lo hi=true∧i.k≠3:=by
 unfold zab;split
 ·intro i hi;rw[wbC] at hi;subst hi;exact⟨waP ⟨h.lo0,h.le,by have:=h.hi9;omega,.inl ⟨rfl,rfl,rfl,by decide,by decide⟩⟩,by decide⟩
 ·intro i hi;obtain⟨p,hp,rfl⟩:=List.mem_map.1 hi;obtain⟨hg,hf,ht,_⟩:=h.piece hp;refine⟨zoL hg h.lo0 hf ht h.hi9,?_⟩;unfold itP;split
  ·show(1:Int)≠3;decide
  ·show(2:Int)≠3;decide
theorem zge {lo hi:Int} (l:List Int):zbv (zab lo hi l false)=false:=by
 unfold zab;rw[if_neg (by rintro ⟨h,_⟩;cases h)]
 cases zb3 l with
 |nil=>rfl
 |cons p ps=>
  show decide ((itP p).k=0)=false;unfold itP;split<;>rfl
end Go.Proofs.YtgedndlifiihkaaGreatDoor
namespace Go.Proofs.YtgedndlifiihkaaGreatDoor
open Go.Proofs.Tryz
open Go.RowKit
def zdR (y:Int):Bool:=decide (y%4=0∧(y%100≠0∨y%400=0))
def zsR (m:Int):Int:=if m=2 then 28 else if m=4∨m=6∨m=9∨m=11 then 30 else 31
def zbl (y m:Int):Int:=if m<1∨12<m then 0 else if m=2∧zdR y=true then 29 else zsR m
def zq9 (y m d:Int):Bool:=decide (-1000000000≤y∧y≤1000000000∧1≤d∧d≤zbl y m)
def zbc (k:Int):Int:=365 * k+k / 4 - k / 100+k / 400
def gY (o:Int):Int:=o - o / 1460+o / 36524 - o / 146096
def yrs (o:Int):Int:=gY o / 365
theorem zto {x:Int} (h0:0≤x) (h:x+1<146097):gY x≤gY (x+1):=by
 unfold gY
 by_cases e:x=146095
 ·subst e;decide
 ·have h1:x / 146096=0:=by omega
  have h2:(x+1) / 146096=0:=by omega
  rw[h1,h2];omega
theorem zoO {a b:Int} (h0:0≤a) (h:a≤b) (hb:b<146097):gY a≤gY b:=by
 obtain⟨d,rfl⟩:∃d:Nat,b=a+d:=⟨(b - a).toNat,by omega⟩
 clear h;induction d with
 |zero=>simp
 |succ d ih=>
  have h1:=ih oQ;have h2:=zto (x:=a+(d:Int)) oQ oQ;rw[show a+((d+1:Nat):Int)=a+(d:Int)+1 by omega]
  omega
def zuN (k:Nat):Bool:=decide (365 * (k:Int)≤gY (zbc k)∧gY (zbc ((k:Int)+1) - 1)≤365 * (k:Int)+364∧0≤zbc k∧zbc ((k:Int)+1)≤146097)
theorem ztp:(List.range 400).all zuN=true:=by decide+kernel
theorem zl0 (o:Int) (h0:0≤o):∀K:Nat,o<zbc K→∃k:Nat,k<K∧zbc k≤o∧o<zbc ((k:Int)+1)
 |0,h=>by simp[zbc] at h;omega
 |K+1,h=>by
  by_cases h1:o<zbc K
  ·obtain⟨k,hk,h2⟩:=zl0 o h0 K h1;exact⟨k,by omega,h2⟩
  ·exact⟨K,by omega,by omega,by simpa using h⟩
theorem zl1 {o:Int} (h0:0≤o) (h1:o<146097):0≤yrs o∧yrs o<400∧zbc (yrs o)≤o∧o<zbc (yrs o+1):=by
 obtain⟨k,hk,h2,h3⟩:=zl0 o h0 400 (by simp[zbc];omega)
 have ha:=List.all_eq_true.1 ztp k (wbG.2 hk);unfold zuN at ha;rw[waM] at ha;obtain⟨a1,a2,a3,a4⟩:=ha;have m1:=zoO a3 h2 h1;have m2:=zoO h0 (show o≤zbc ((k:Int)+1) - 1 by omega) oQ
 have e:yrs o=(k:Int):=by unfold yrs;omega
 rw[e];exact⟨by omega,by omega,h2,h3⟩
def lft (o:Int):Int:=o - (yrs o * 365+yrs o / 4 - yrs o / 100)
theorem zoP {o:Int} (h0:0≤o) (h1:o<146097):lft o=o - zbc (yrs o)∧0≤lft o∧lft o≤365:=by
 obtain⟨a,b,c,d⟩:=zl1 h0 h1;unfold lft;generalize yrs o=k at *;have e0:k / 400=0:=by omega
 have e1:zbc k=k * 365+k / 4 - k / 100:=by unfold zbc;omega
 have e2:zbc (k+1)≤zbc k+366:=by
  by_cases hk:k=399
  ·subst hk;decide
  ·have:(k+1) / 400=0:=by omega
   unfold zbc;omega
 omega
def mm (o:Int):Int:=(5 * lft o+2) / 153
def dd (o:Int):Int:=lft o - (153 * mm o+2) / 5+1
def mon (o:Int):Int:=(mm o+2)%12+1
def zjL (n:Int):Int:=(n+719468) / 146097
def zbO (n:Int):Int:=(n+719468)%146097
def dD (n:Int):Int:=dd (zbO n)
def mD (n:Int):Int:=mon (zbO n)
def yD (n:Int):Int:=zjL n * 400+yrs (zbO n)+if mD n≤2 then 1 else 0
theorem zk4 {n:Int} (h:0≤n):0≤zbO n∧zbO n<146097:=by unfold zbO;omega
theorem zoQ {n:Int} (h:0≤n) (h1:n<146097):4≤zjL n∧zjL n≤5:=by unfold zjL;omega
theorem zuO {o:Int} (h0:0≤lft o) (h1:lft o≤365):0≤mm o∧mm o≤11∧1≤dd o∧dd o≤31∧1≤mon o∧mon o≤12:=by
 unfold dd mon mm;omega
def zuP (l:Nat):Bool:=
 let m:=(5 * (l:Int)+2) / 153
 let d:=(l:Int) - (153 * m+2) / 5+1
 let mo:=(m+2)%12+1
 decide (1≤d∧1≤mo∧mo≤12∧(d≤zsR mo∨l=365∧mo=2∧d=29))
theorem ztq:(List.range 366).all zuP=true:=by decide+kernel
theorem ziI {n:Int} (h:0≤n) (h1:n<146097):zq9 (yD n) (mD n) (dD n)=true∧1969≤yD n∧yD n≤2401:=by
 obtain⟨o0,o1⟩:=zk4 h;obtain⟨e0,e1⟩:=zoQ h h1;obtain⟨y0,y1,y2,y3⟩:=zl1 o0 o1;obtain⟨l0,l1,l2⟩:=zoP o0 o1;obtain⟨L,hL⟩:=wbD l1;have ha:=List.all_eq_true.1 ztq L (wbG.2 oQ);unfold zuP at ha;simp only[waM] at ha;have em:mm (zbO n)=(5 * (L:Int)+2) / 153:=by unfold mm;rw[hL]
 have ed:dd (zbO n)=(L:Int) - (153 * ((5 * (L:Int)+2) / 153)+2) / 5+1:=by unfold dd;rw[em,hL]
 have eo:mon (zbO n)=((5 * (L:Int)+2) / 153+2)%12+1:=by unfold mon;rw[em]
 rw[←eo,←ed] at ha;obtain⟨a1,a2,a3,a4⟩:=ha;have hyl:yD n=zjL n * 400+yrs (zbO n)+if mon (zbO n)≤2 then 1 else 0:=rfl
 have hy1:1969≤yD n∧yD n≤2401:=by
  rw[hyl];have hn:zjL n=4→3≤400:=fun _=>by decide
  by_cases he:zjL n=4
  ·have:zbO n=n+719468 - 584388:=by unfold zbO zjL at *;omega
   have hy:369≤yrs (zbO n):=by
    false_or_by_contra
    rename_i hc;have:zbc (yrs (zbO n)+1)≤zbc 369:=by unfold zbc;omega
    have e2:zbc 369=134774:=by decide
    omega
   split<;>omega
  ·split<;>omega
 refine⟨?_,hy1⟩;unfold zq9;refine waP ⟨by omega,by omega,a1,?_⟩
 show dd (zbO n)≤zbl (yD n) (mon (zbO n));unfold zbl;rw[if_neg (by omega)]
 rcases a4 with a4|⟨b1,b2,b3⟩
 ·split
  ·rename_i hq;have:zsR (mon (zbO n))=28:=by rw[hq.1];rfl
   omega
  ·exact a4
 ·have hleap:zdR (yD n)=true:=by
   have hl:zbc (yrs (zbO n)+1) - zbc (yrs (zbO n))=366:=by
    have hu:zbc (yrs (zbO n)+1) - zbc (yrs (zbO n))≤366:=by unfold zbc;omega
    omega
   have hq:(yrs (zbO n)+1)%4=0∧((yrs (zbO n)+1)%100≠0∨(yrs (zbO n)+1)%400=0):=by unfold zbc at hl;omega
   unfold zdR;rw[hyl,if_pos (by omega)]
   exact waP ⟨by omega,by omega⟩
  rw[if_pos ⟨b2,hleap⟩,b3];decide
def jan (y:Int):Int:=365 * (y - 1970)+(y - 1) / 4 - (y - 1) / 100+(y - 1) / 400 - 477
def lpC (y:Int):Int:=if zdR y=true then 1 else 0
def zuw (m:Int):Int:=if m=1 then 0 else if m=2 then 31 else if m=3 then 59 else if m=4 then 90 else if m=5 then 120 else if m=6 then 151 else if m=7 then 181 else if m=8 then 212 else if m=9 then 243 else if m=10 then 273 else if m=11 then 304 else if m=12 then 334 else 365
def zb4 (y m:Int):Int:=zuw m+if 2<m then lpC y else 0
theorem zsS (y:Int):lpC y=y / 4 - (y - 1) / 4 - (y / 100 - (y - 1) / 100)+(y / 400 - (y - 1) / 400):=by
 unfold lpC zdR
 by_cases h:y%4=0∧(y%100≠0∨y%400=0)
 ·rw[if_pos (by simpa using h)];omega
 ·rw[if_neg (by simpa using h)];omega
theorem zl2 (y:Int):lpC y=0∨lpC y=1:=by unfold lpC;split<;>omega
theorem zfh (y:Int):jan (y+1)=jan y+365+lpC y:=by
 rw[zsS];unfold jan;rw[show y+1 - 1=y by omega]
 omega
theorem zd0 {y m:Int} (h1:1≤m) (h2:m≤12):zb4 y (m+1)=zb4 y m+zbl y m:=by
 have hl:lpC y=if zdR y=true then 1 else 0:=rfl
 obtain rfl|rfl|rfl|rfl|rfl|rfl|rfl|rfl|rfl|rfl|rfl|rfl:m=1∨m=2∨m=3∨m=4∨m=5∨m=6∨m=7∨m=8∨m=9∨m=10∨m=11∨m=12:=by omega
 all_goals (unfold zb4 zbl zsR zuw;simp[hl];try(split<;>omega);try omega)
theorem zc0 (y:Int):zb4 y 1=0:=by unfold zb4 zuw;simp
theorem zew (y:Int):zb4 y 13=365+lpC y:=by unfold zb4 zuw;simp
def zsT (l:Nat):Bool:=
 let m:=(5 * (l:Int)+2) / 153
 let d:=(l:Int) - (153 * m+2) / 5+1
 let mo:=(m+2)%12+1
 decide ((2<mo→(l:Int)+59=zuw mo+d - 1)∧(mo≤2→(l:Int) - 306=zuw mo+d - 1))
theorem zra:(List.range 366).all zsT=true:=by decide+kernel
theorem zc1 {n:Int} (h:0≤n) (h1:n<146097):n=jan (yD n)+zb4 (yD n) (mD n)+dD n - 1∧1≤mD n∧mD n≤12∧1≤dD n∧dD n≤zbl (yD n) (mD n):=by
 obtain⟨o0,o1⟩:=zk4 h;obtain⟨y0,y1,y2,y3⟩:=zl1 o0 o1;obtain⟨l0,l1,l2⟩:=zoP o0 o1;obtain⟨m0,m1,d0,d1,q0,q1⟩:=zuO l1 l2;obtain⟨hmay,_,_⟩:=ziI h h1;unfold zq9 at hmay;rw[waM] at hmay;obtain⟨L,hL⟩:=wbD l1;have ha:=List.all_eq_true.1 zra L (wbG.2 oQ);unfold zsT at ha;simp only[waM] at ha;have em:mm (zbO n)=(5 * (L:Int)+2) / 153:=by unfold mm;rw[hL]
 have ed:dd (zbO n)=(L:Int) - (153 * ((5 * (L:Int)+2) / 153)+2) / 5+1:=by unfold dd;rw[em,hL]
 have eo:mon (zbO n)=((5 * (L:Int)+2) / 153+2)%12+1:=by unfold mon;rw[em]
 rw[←eo,←ed] at ha;have hD:dD n=dd (zbO n):=rfl;have hM:mD n=mon (zbO n):=rfl;have hn:n+719468=zjL n * 146097+zbO n:=by unfold zjL zbO;omega
 have hk4:yrs (zbO n) / 400=0:=by omega
 have hs:zbc (yrs (zbO n))=365 * yrs (zbO n)+yrs (zbO n) / 4 - yrs (zbO n) / 100:=by unfold zbc;omega
 have hmar:∀e k:Int,0≤k→k<400→jan (e * 400+k)+lpC (e * 400+k)+59=e * 146097+(365 * k+k / 4 - k / 100) - 719468:=by
  intro e k hk0 hk1;rw[zsS];unfold jan;omega
 have hm0:=hmar (zjL n) (yrs (zbO n)) y0 y1;refine⟨?_,by rw[hM];omega,by rw[hM];omega,by rw[hD];omega,hmay.2.2.2⟩
 rw[hD,hM]
 by_cases h2:mon (zbO n)≤2
 ·have hy:yD n=zjL n * 400+yrs (zbO n)+1:=by show _+(if mon (zbO n)≤2 then 1 else 0)=_;rw[if_pos h2]
  have hq:=ha.2 h2;rw[hy,zfh];unfold zb4;rw[if_neg (by omega)]
  omega
 ·have hy:yD n=zjL n * 400+yrs (zbO n):=by show _+(if mon (zbO n)≤2 then 1 else 0)=_;rw[if_neg h2];omega
  have hq:=ha.1 oQ;rw[hy];unfold zb4;rw[if_pos (by omega)]
  omega
theorem zgt {a b:Int} (h:a≤b):jan a≤jan b:=by
 obtain⟨d,rfl⟩:∃d:Nat,b=a+d:=⟨(b - a).toNat,by omega⟩
 clear h;induction d with
 |zero=>simp
 |succ d ih=>
  have h1:=zfh (a+d);have h2:=zl2 (a+d);rw[show a+((d+1:Nat):Int)=a+(d:Int)+1 by omega]
  omega
theorem zb5 {y m:Int} (h1:1≤m) (h2:m≤12):28≤zbl y m∧zbl y m≤31:=by
 unfold zbl zsR
 repeat' split
 all_goals omega
theorem zbr {y a b:Int} (h1:1≤a) (h:a≤b) (h2:b≤13):zb4 y a≤zb4 y b:=by
 obtain⟨d,rfl⟩:∃d:Nat,b=a+d:=⟨(b - a).toNat,by omega⟩
 clear h;induction d with
 |zero=>simp
 |succ d ih=>
  have h3:=ih oQ;have h4:=zd0 (y:=y) (m:=a+d) oQ oQ;have h5:=zb5 (y:=y) (m:=a+d) oQ oQ;rw[show a+((d+1:Nat):Int)=a+(d:Int)+1 by omega]
  omega
theorem zgR {n:Int} (h:0≤n) (h1:n<146097):jan (yD n)≤n∧n<jan (yD n+1)∧jan (yD n)+zb4 (yD n) (mD n)≤n∧n<jan (yD n)+zb4 (yD n) (mD n+1)∧1970≤yD n∧yD n≤2369:=by
 obtain⟨e,m1,m2,d1,d2⟩:=zc1 h h1;have a1:=zbr (y:=yD n) (a:=1) (b:=mD n) oQ m1 oQ;have a2:=zbr (y:=yD n) (a:=mD n+1) (b:=13) oQ oQ oQ;rw[zc0] at a1;rw[zew] at a2;have a3:=zd0 (y:=yD n) m1 m2;have a4:=zfh (yD n);have b1:jan 1970=0:=by decide
 have b2:jan 2370=146097:=by decide
 have b3:1970≤yD n:=by
  false_or_by_contra
  have:=zgt (a:=yD n+1) (b:=1970) oQ;omega
 have b4:yD n≤2369:=by
  false_or_by_contra
  have:=zgt (a:=2370) (b:=yD n) oQ;omega
 omega
end Go.Proofs.YtgedndlifiihkaaGreatDoor
