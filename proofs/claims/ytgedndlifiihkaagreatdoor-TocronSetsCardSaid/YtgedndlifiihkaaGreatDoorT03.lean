/- A part of the proof: WVal2 RItv RCiv2 WMoA -/
import Derived.Test.YtgedndlifiihkaaGreatDoorT02
import Derived.Test.YtgedndlifiihkaaGreatDoorT01
import Derived.Test.YtgedndlifiihkaaGreatDoorT00
import Derived.OwnWalk
import Derived.Laws.ResultCell
set_option maxHeartbeats 80000000
set_option maxRecDepth 100000
set_option linter.unusedSimpArgs false
set_option linter.unusedVariables false
namespace Go.Proofs.YtgedndlifiihkaaGreatDoor
open Go.Proofs.Tryz
open Go.RowKit
theorem ztr:∀{a b:List Int},a.Pairwise (·< ·)→b.Pairwise (·< ·)→(∀x,x∈a↔x∈b)→a=b
 |[],[],_,_,_=>rfl
 |[],y::b,_,_,h=>by have:=(h y).2 (by simp);simp at this
 |x::a,[],_,_,h=>by have:=(h x).1 (by simp);simp at this
 |x::a,y::b,ha,hb,h=>by
  have ha1:=List.pairwise_cons.1 ha;have hb1:=List.pairwise_cons.1 hb;have hxy:x=y:=by
   have h1:=(h x).1 (by simp)
   have h2:=(h y).2 (by simp)
   rcases List.mem_cons.1 h1 with h1|h1
   ·exact h1
   ·rcases List.mem_cons.1 h2 with h2|h2
    ·exact h2.symm
    ·have:=hb1.1 x h1;have:=ha1.1 y h2;omega
  subst hxy;congr 1;refine ztr ha1.2 hb1.2 fun z=>⟨fun hz=>?_,fun hz=>?_⟩
  ·rcases List.mem_cons.1 ((h z).1 (List.mem_cons_of_mem _ hz)) with rfl|h1
   ·exact absurd (ha1.1 z hz) oQ
   ·exact h1
  ·rcases List.mem_cons.1 ((h z).2 (List.mem_cons_of_mem _ hz)) with rfl|h1
   ·exact absurd (hb1.1 z hz) oQ
   ·exact h1
theorem zc6 (d:Array Int) (hd:∀i j,i≤j→j<d.size→d[i]!≤d[j]!):∀m,m≤d.size→
 (Lib.compactUpTo d m).Pairwise (·< ·)∧(∀x,x∈Lib.compactUpTo d m↔∃j,j<m∧d[j]! =x)
 |0,_=>by simp[Lib.compactUpTo]
 |m+1,hm=>by
  obtain⟨h1,h2⟩:=zc6 d hd m oQ;rw[Lib.compactUpTo_succ]
  by_cases hk:m=0∨d[m]!≠d[m - 1]!
  ·have hk':Lib.keeps d m=true:=by simp[Lib.keeps,hk]
   rw[if_pos hk'];refine⟨List.pairwise_append.2 ⟨h1,by simp,?_⟩,?_⟩
   ·intro a ha b hb;obtain rfl:b=d[m]!:=by simpa using hb
    obtain⟨j,hj,rfl⟩:=(h2 a).1 ha;have h3:=hd j (m - 1) oQ oQ;have h4:=hd (m - 1) m oQ oQ;rcases hk with hk|hk
    ·omega
    ·omega
   ·intro x;rw[wbB,h2];constructor
    ·rintro (⟨j,hj,rfl⟩|hx)
     ·exact⟨j,by omega,rfl⟩
     ·exact⟨m,by omega,(wbC.1 hx).symm⟩
    ·rintro ⟨j,hj,rfl⟩;rcases Nat.lt_or_eq_of_le (Nat.le_of_lt_succ hj) with h|rfl
     ·exact .inl ⟨j,h,rfl⟩
     ·exact .inr (by simp)
  ·have hk':¬Lib.keeps d m=true:=by simpa[Lib.keeps] using hk
   rw[if_neg hk',List.append_nil];refine⟨h1,fun x=>?_⟩
   rw[h2];constructor
   ·rintro ⟨j,hj,rfl⟩;exact⟨j,by omega,rfl⟩
   ·rintro ⟨j,hj,rfl⟩;rcases Nat.lt_or_eq_of_le (Nat.le_of_lt_succ hj) with h|rfl
    ·exact⟨j,h,rfl⟩
    ·have h5:j≠0:=fun e=>hk (.inl e)
     have h6:d[j]! =d[j - 1]!:=by
      rcases Classical.em (d[j]! =d[j - 1]!) with h|h
      ·exact h
      ·exact absurd (.inr h) hk
     exact⟨j - 1,by omega,h6.symm⟩
theorem zhU {l:List Int} (h:l.Pairwise (·≤·)):(Lib.compact l).Pairwise (·< ·)∧∀x,x∈Lib.compact l↔x∈l:=by
 have hd:∀i j,i≤j→j<l.toArray.size→l.toArray[i]!≤l.toArray[j]!:=by
  intro i j hij hj;have hj':j<l.length:=by simpa using hj
  rw[getElem!_pos l.toArray i (by simp;omega),getElem!_pos l.toArray j (by simp;omega)]
  simp only[List.getElem_toArray];rcases Nat.lt_or_eq_of_le hij with h1|rfl
  ·exact(List.pairwise_iff_getElem.1 h) i j oQ hj' h1
  ·exact Int.le_refl _
 obtain⟨h1,h2⟩:=zc6 l.toArray hd l.length (by simp)
 refine⟨h1,fun x=>(h2 x).trans ?_⟩
 rw[List.mem_iff_getElem];constructor
 ·rintro ⟨j,hj,rfl⟩;exact⟨j,hj,by rw[getElem!_pos l.toArray j (by simpa using hj)];simp⟩
 ·rintro ⟨j,hj,rfl⟩;exact⟨j,hj,by rw[getElem!_pos l.toArray j (by simpa using hj)];simp⟩
theorem zjS (lo hi:Int) (l:List It):(ztq lo hi l).Pairwise (·< ·)∧∀x,x∈ztq lo hi l↔inB l lo hi x=true:=by
 have hs:((zeS lo hi l).mergeSort fun x y=>decide (x≤y)).Pairwise (·≤·):=by
  have:=List.pairwise_mergeSort (le:=fun x y:Int=>decide (x≤y)) (fun a b c h1 h2=>by simp at *;omega) (fun a b=>by simp;omega) (zeS lo hi l)
  simpa using this
 obtain⟨h1,h2⟩:=zhU hs;refine⟨h1,fun x=>(h2 x).trans ?_⟩
 rw[List.mem_mergeSort];simp only[zeS,List.mem_flatMap,inB,List.any_eq_true,zfj,waN];constructor
 ·rintro ⟨i,hil,hx⟩
  by_cases hm:zbJ i lo hi=true
  ·rw[if_pos hm] at hx;exact⟨i,hil,hm,(zo5 hm).1 hx⟩
  ·rw[if_neg hm] at hx;simp at hx
 ·rintro ⟨i,hil,hm,hh⟩;exact⟨i,hil,by rw[if_pos hm];exact(zo5 hm).2 hh⟩
theorem zo6 {i:It} {lo hi:Int} (h:zbJ i lo hi=true):0≤lo∧lo≤bF i lo∧bT i hi≤hi∧hi≤9999:=by
 simp only[zbJ,zvk,waM] at h;unfold bF bT;split<;>(try split)<;>(try split)<;>omega
theorem zcq (lo hi:Int) (l:List It):(zaD l lo hi).Pairwise (·< ·)∧∀x,x∈zaD l lo hi↔inB l lo hi x=true:=by
 constructor
 ·unfold zaD;refine List.Pairwise.filter _ ?_;rw[List.pairwise_map];refine List.Pairwise.imp ?_ List.pairwise_lt_range;intro a b h;omega
 ·intro x;unfold zaD;rw[List.mem_filter];constructor
  ·rintro ⟨_,h⟩;exact h
  ·intro h;refine⟨?_,h⟩;simp only[inB,List.any_eq_true,zfj,waN,zrv,waM] at h;obtain⟨i,_,hm,h1,h2,_⟩:=h;obtain⟨h3,h4,h5,h6⟩:=zo6 hm;rw[List.mem_map];exact⟨(x - max 0 lo).toNat,wbG.2 oQ,by omega⟩
theorem zvz (lo hi:Int) (l:List It):ztq lo hi l=zaD l lo hi:=
 ztr (zjS lo hi l).1 (zcq lo hi l).1 fun x=>((zjS lo hi l).2 x).trans ((zcq lo hi l).2 x).symm
theorem zgR (l:List Int) (n:Nat) (hn:n<64):zal l / 2^n%2=if(n:Int)∈l then 1 else 0:=by
 have h:=za8 (inL l) 64 n;rw[Nat.testBit_eq_decide_div_mod_eq] at h;have h2:(mkN (inL l) 64 / 2^n)%2=0∨(mkN (inL l) 64 / 2^n)%2=1:=by omega
 have h3:zal l / 2^n%2=(((mkN (inL l) 64 / 2^n)%2:Nat):Int):=by
  unfold zal
  push_cast
  rfl
 rw[h3];simp only[inL,hn,decide_true,Bool.true_and,wbH] at h;split
 ·rename_i hm;rw[h.2 hm];rfl
 ·rename_i hm;rcases h2 with h2|h2
  ·rw[h2];rfl
  ·exact absurd (h.1 h2) hm
end Go.Proofs.YtgedndlifiihkaaGreatDoor
namespace Go.Proofs.YtgedndlifiihkaaGreatDoor
open Go.Proofs.Tryz
theorem zfk {p:Option Int} {l:List Int}:zcj p l=true↔(∀x∈l,0≤x∧x≤9999)∧l.Pairwise (·< ·)∧∀y,p=some y→∀x∈l,y<x:=by
 induction l generalizing p with
 |nil=>simp [zcj]
 |cons a l ih=>
  unfold zcj;rw[waN,waM,ih,List.pairwise_cons];constructor
  ·rintro ⟨⟨h0,h1,h2⟩,h3,h4,h5⟩;refine⟨fun x hx=>?_,⟨fun x hx=>h5 a rfl x hx,h4⟩,fun y hy x hx=>?_⟩
   ·rcases List.mem_cons.1 hx with rfl|hx
    ·exact⟨h0,h1⟩
    ·exact h3 x hx
   ·rcases List.mem_cons.1 hx with rfl|hx
    ·exact h2 y hy
    ·exact Int.lt_trans (h2 y hy) (h5 a rfl x hx)
  ·rintro ⟨h1,⟨h2,h3⟩,h4⟩;obtain⟨a0,a1⟩:=h1 a (by simp)
   refine⟨⟨a0,a1,fun y hy=>h4 y hy a (by simp)⟩,fun x hx=>h1 x (by simp[hx]),h3,?_⟩
   rintro y hy x hx;cases hy;exact h2 x hx
theorem zts {s:Int}:∀(l:List Int) (a:Int) (k:Nat),k≤zjI s a l→(a::l)[k]?=some (a+(k:Int) * s)
 |_,a,0,_=>by simp
 |[],a,k+1,h=>by simp[zjI] at h
 |b::l,a,k+1,h=>by
  unfold zjI at h;split at h
  ·rename_i e;rw[List.getElem?_cons_succ,zts (s:=s) l b k (by omega)]
   congr 1
   push_cast
   rw[Int.add_mul];omega
  ·omega
def zhV (p:Pc):List Int:=(List.range (zdY p).toNat).map fun(k:Nat)=>p.f+(k:Int) * p.s
def znv (p:Pc):Prop:=zrq p∧(p.s=1∨p.s≤p.t - p.f)
theorem znw {a:Int} {l:List Int} (h:zcj none (a::l)=true):znv (za4 a l).1∧zhV (za4 a l).1=(a::l).take (za4 a l).2∧1≤(za4 a l).2:=by
 obtain⟨h1,h2,_⟩:=zfk.1 h;obtain⟨a0,a1⟩:=h1 a (by simp)
 unfold za4;split
 ·have hl:zrq ⟨a,a,1⟩:=⟨a0,Int.le_refl _,a1,Int.le_refl 1,by simp⟩
  refine⟨⟨hl,.inl rfl⟩,?_,waJ 1⟩;unfold zhV zdY;rw[if_pos hl];simp
 ·rename_i hn;have hm:zff a l=zjI (zhT a l) a l+1:=rfl;obtain⟨m,hmm⟩:∃m,m=zjI (zhT a l) a l:=⟨_,rfl⟩;have hm1:1≤m:=by omega
  cases l with
  |nil=>simp [zjI] at hmm;omega
  |cons b l=>
   have hs:zhT a (b::l)=b - a:=rfl;have hb:a<b:=(List.pairwise_cons.1 h2).1 b (by simp)
   obtain⟨s,hss⟩:∃s,s=b - a:=⟨_,rfl⟩;rw[hs,←hss] at hmm;have hat:=fun k hk=>zts (s:=s) (b::l) a k hk
   rw[←hmm] at hat;have hlast:(a::b::l).getD (zff a (b::l) - 1) 0=a+(m:Int) * s:=by
    rw[hm,hs,←hss,←hmm,Nat.add_sub_cancel,List.getD_eq_getElem?_getD,hat m (waJ _)];rfl
   have hz:=List.mem_of_getElem? (hat m (waJ _));have hzb:=h1 _ hz;have hs1:1≤s:=by omega
   have hpos:s≤(m:Int) * s:=by
    have:=Int.mul_le_mul_of_nonneg_right (show(1:Int)≤(m:Int) by omega) (show 0≤s by omega)
    omega
   have hl:zrq ⟨a,a+(m:Int) * s,s⟩:=⟨a0,by show a≤a+(m:Int) * s;omega,hzb.2,hs1,by
    show(a+(m:Int) * s - a)%s=0;rw[show a+(m:Int) * s - a=(m:Int) * s by omega,Int.mul_emod_left]⟩
   rw[hlast,hs,←hss,hm,hs,←hss,←hmm];refine⟨⟨hl,.inr (by show s≤a+(m:Int) * s - a;omega)⟩,?_,by show 1≤m+1;omega⟩
   unfold zhV zdY;rw[if_pos hl];dsimp only;rw[show a+(m:Int) * s - a=(m:Int) * s by omega,Int.mul_ediv_cancel _ (show s≠0 by omega)]
   have e:((m:Int)+1).toNat=m+1:=by omega
   rw[e];have hlen:m+1≤(a::b::l).length:=by
    have:=(waI.1 (hat m (waJ _))).1;omega
   apply List.ext_getElem?;intro k
   by_cases hk:k<m+1
   ·rw[List.getElem?_map,List.getElem?_range hk,List.getElem?_take_of_lt hk,hat k (by omega)];rfl
   ·rw[List.getElem?_eq_none (by simp;omega),List.getElem?_eq_none (by rw[List.length_take];omega)]
theorem zo7 {l r:List Int} (h:zcj none l=true) (hs:r.Sublist l):zcj none r=true:=by
 obtain⟨h1,h2,_⟩:=zfk.1 h;exact zfk.2 ⟨fun x hx=>h1 x (hs.subset hx),h2.sublist hs,fun y hy=>by cases hy⟩
theorem zgS:∀(k:Nat) (l:List Int),l.length≤k→zcj none l=true→(zck k l).flatMap zhV=l∧∀p∈zck k l,znv p
 |0,l,hk,h=>by
  have:l=[]:=List.length_eq_zero_iff.1 oQ;subst this;simp[zck]
 |k+1,[],_,_=>by simp[zck]
 |k+1,a::l,hk,h=>by
  obtain⟨h1,h2,h3⟩:=znw h;obtain⟨h4,h5⟩:=zgS k ((a::l).drop (za4 a l).2) (by simp only[List.length_drop,waG] at hk ⊢;omega) (zo7 h (List.drop_sublist _ _))
  unfold zck;refine⟨?_,fun p hp=>?_⟩
  ·rw[List.flatMap_cons,h4,h2,List.take_append_drop]
  ·rcases List.mem_cons.1 hp with rfl|hp
   ·exact h1
   ·exact h5 p hp
theorem zdI {l:List Int} (h:zcj none l=true):(zcl l).flatMap zhV=l∧∀p∈zcl l,znv p:=by
 unfold zcl;rw[if_pos h];exact zgS _ _ (waJ _) h
theorem zfl {p:Pc} (h:zrq p) {x:Int}:x∈zhV p↔p.f≤x∧x≤p.t∧(x - p.f)%p.s=0:=by
 obtain⟨h0,h1,h2,h3,h4⟩:=h;have hd:(p.t - p.f) / p.s * p.s=p.t - p.f:=Int.ediv_mul_cancel (Int.dvd_of_emod_eq_zero h4);have hq:0≤(p.t - p.f) / p.s:=Int.ediv_nonneg oQ oQ;unfold zhV zdY;rw[if_pos ⟨h0,h1,h2,h3,h4⟩,List.mem_map];constructor
 ·rintro ⟨k,hk,rfl⟩;have hk:=wbG.1 hk;have h5:(k:Int) * p.s≤(p.t - p.f) / p.s * p.s:=Int.mul_le_mul_of_nonneg_right oQ oQ;have h6:0≤(k:Int) * p.s:=Int.mul_nonneg oQ oQ;refine⟨by omega,by omega,?_⟩
  rw[show p.f+(k:Int) * p.s - p.f=(k:Int) * p.s by omega,Int.mul_emod_left]
 ·rintro ⟨h5,h6,h7⟩;have he:(x - p.f) / p.s * p.s=x - p.f:=Int.ediv_mul_cancel (Int.dvd_of_emod_eq_zero h7);have hk0:0≤(x - p.f) / p.s:=Int.ediv_nonneg oQ oQ;have hk1:(x - p.f) / p.s≤(p.t - p.f) / p.s:=Int.ediv_le_ediv oQ oQ;refine⟨((x - p.f) / p.s).toNat,wbG.2 oQ,?_⟩;rw[show ((((x - p.f) / p.s).toNat:Nat):Int)=(x - p.f) / p.s by omega,he]
  omega
theorem zo8 {p:Pc} (h:znv p) {lo hi:Int} (h0:0≤lo) (h1:lo≤p.f) (h2:p.t≤hi) (h3:hi≤999):zbJ (itP p) lo hi=true:=by
 obtain⟨⟨g0,g1,g2,g3,g4⟩,g5⟩:=h;unfold zbJ itP;split
 ·exact waP ⟨h0,by omega,by omega,.inr (.inl ⟨rfl,h1,by show p.f≤hi;omega,rfl,rfl⟩)⟩
 ·exact waP ⟨h0,by omega,by omega,.inr (.inr (.inl ⟨rfl,h1,by show p.f≤hi;omega,by show lo≤p.t;omega,h2,g1,g3,by show p.s≤999;omega⟩))⟩
theorem zo9 {p:Pc} (h:znv p) {lo hi:Int} (h0:0≤lo) (h1:lo≤p.f) (h2:p.t≤hi) (h3:hi≤999) (n:Int):zfj lo hi n (itP p)=decide (n∈zhV p):=by
 unfold zfj;rw[zo8 h h0 h1 h2 h3,Bool.true_and];unfold zrv;rw[wbH,zfl h.1];unfold itP;split
 ·rename_i e;obtain⟨⟨g0,g1,g2,g3,g4⟩,g5⟩:=h;have hft:p.t=p.f:=by
   unfold zdY at e;rw[if_pos ⟨g0,g1,g2,g3,g4⟩] at e;have hd:(p.t - p.f) / p.s * p.s=p.t - p.f:=Int.ediv_mul_cancel (Int.dvd_of_emod_eq_zero g4);rw[show (p.t - p.f) / p.s=0 by omega] at hd
   omega
  show(bF ⟨1,p.f,0,0⟩ lo≤n∧n≤bT ⟨1,p.f,0,0⟩ hi∧(n - bF ⟨1,p.f,0,0⟩ lo)%bS ⟨1,p.f,0,0⟩=0)↔_;simp only[bF,bT,bS];constructor
  ·rintro ⟨a,b,c⟩;have a:p.f≤n:=a;have b:n≤p.f:=b;obtain rfl:n=p.f:=by omega
   exact⟨by omega,by omega,by simp⟩
  ·rintro ⟨a,b,c⟩;obtain rfl:n=p.f:=by omega
   refine⟨?_,?_,?_⟩<;>simp
 ·show(bF ⟨2,p.f,p.t,p.s⟩ lo≤n∧n≤bT ⟨2,p.f,p.t,p.s⟩ hi∧(n - bF ⟨2,p.f,p.t,p.s⟩ lo)%bS ⟨2,p.f,p.t,p.s⟩=0)↔_;simp only[bF,bT,bS];exact Iff.rfl
structure Numb (lo hi:Int) (l:List Int):Prop where
 lo0:0≤lo
 hi9:hi≤999
 le:lo≤hi
 bd:∀x∈l,lo≤x∧x≤hi
 up:l.Pairwise (·< ·)
theorem Numb.may {lo hi:Int} {l:List Int} (h:Numb lo hi l):zcj none l=true:=zfk.2 ⟨fun x hx=>by
 have:=h.bd x hx;have:=h.lo0;have:=h.hi9;omega,h.up,fun y hy=>by cases hy⟩
theorem Numb.piece {lo hi:Int} {l:List Int} (h:Numb lo hi l) {p:Pc} (hp:p∈zcl l):znv p∧lo≤p.f∧p.t≤hi∧∀x∈zhV p,x∈l:=by
 obtain⟨h1,h2⟩:=zdI h.may;have hg:=h2 p hp;have hsub:∀x∈zhV p,x∈l:=fun x hx=>by rw[←h1];exact List.mem_flatMap.2 ⟨p,hp,hx⟩
 obtain⟨g0,g1,g2,g3,g4⟩:=hg.1;have hf:=h.bd _ (hsub p.f ((zfl hg.1).2 ⟨Int.le_refl _,g1,by simp⟩))
 have ht:=h.bd _ (hsub p.t ((zfl hg.1).2 ⟨g1,Int.le_refl _,g4⟩));exact⟨hg,hf.1,ht.2,hsub⟩
theorem zrw {lo hi:Int} {l:List Int} (h:Numb lo hi l) (hc:zcl l=[⟨lo,hi,1⟩]) (n:Int):n∈l↔lo≤n∧n≤hi:=by
 obtain⟨h1,h2⟩:=zdI h.may;rw[hc] at h1 h2;have hg:=h2 ⟨lo,hi,1⟩ (by simp)
 rw[←h1,List.flatMap_singleton,zfl hg.1];simp[Int.emod_one]
theorem zpa {lo hi:Int} {l:List Int} (h:Numb lo hi l) (S:Bool) (n:Int):inB (zab lo hi l S) lo hi n=decide (n∈l):=by
 unfold zab;split
 ·rename_i hc;rw[waQ,waM,zrw h hc.2];unfold inB zfj;have hm:zbJ ⟨0,0,0,1⟩ lo hi=true:=waP ⟨h.lo0,h.le,by have:=h.hi9;omega,.inl ⟨rfl,rfl,rfl,by decide,by decide⟩⟩
  simp only[List.any_cons,List.any_nil,Bool.or_false,hm,Bool.true_and,zrv,bF,bT,bS,waM];simp
 ·rw[waQ,waM];unfold inB;rw[List.any_map,List.any_eq_true];obtain⟨h1,h2⟩:=zdI h.may;constructor
  ·rintro ⟨p,hp,hn⟩;obtain⟨hg,hf,ht,hsub⟩:=h.piece hp;have hn:zfj lo hi n (itP p)=true:=hn;rw[zo9 hg h.lo0 hf ht h.hi9,waM] at hn;exact hsub n hn
  ·intro hn;rw[←h1] at hn;obtain⟨p,hp,hx⟩:=List.mem_flatMap.1 hn;obtain⟨hg,hf,ht,hsub⟩:=h.piece hp;refine⟨p,hp,?_⟩;show zfj lo hi n (itP p)=true;rw[zo9 hg h.lo0 hf ht h.hi9,waM];exact hx
theorem zjT {lo hi:Int} {l:List Int} (h:Numb lo hi l) (S:Bool):((zab lo hi l S).length=0↔l=[])∧(zab lo hi l S).length≤l.length:=by
 obtain⟨h1,h2⟩:=zdI h.may;have hn:zcl l=[]↔l=[]:=by
  constructor
  ·intro e;rw[←h1,e];rfl
  ·rintro rfl;rfl
 unfold zab;split
 ·rename_i hc;have hne:l≠[]:=fun e=>by rw[hn.2 e] at hc;cases hc.2
  have:0<l.length:=List.length_pos_iff.2 hne;exact⟨⟨(fun e=>by cases e),fun e=>absurd e hne⟩,by simp only[waG,List.length_nil];omega⟩
 ·rw[List.length_map];exact⟨by rw[List.length_eq_zero_iff,hn],zh8 l⟩
theorem zgT {lo hi:Int} {l:List Int} (h:Numb lo hi l) (S:Bool):∀i∈zab lo hi l S,zbJ i lo hi=true∧i.k≠3:=by
 unfold zab;split
 ·intro i hi;rw[wbC] at hi;subst hi;exact⟨waP ⟨h.lo0,h.le,by have:=h.hi9;omega,.inl ⟨rfl,rfl,rfl,by decide,by decide⟩⟩,by decide⟩
 ·intro i hi;obtain⟨p,hp,rfl⟩:=List.mem_map.1 hi;obtain⟨hg,hf,ht,_⟩:=h.piece hp;refine⟨zo8 hg h.lo0 hf ht h.hi9,?_⟩;unfold itP;split
  ·show(1:Int)≠3;decide
  ·show(2:Int)≠3;decide
end Go.Proofs.YtgedndlifiihkaaGreatDoor
namespace Go.Proofs.YtgedndlifiihkaaGreatDoor
open Go.Proofs.Tryz
open Go.RowKit
def zeZ (y:Int):Bool:=decide (y%4=0∧(y%100≠0∨y%400=0))
def zt1 (m:Int):Int:=if m=2 then 28 else if m=4∨m=6∨m=9∨m=11 then 30 else 31
def zbw (y m:Int):Int:=if m<1∨12<m then 0 else if m=2∧zeZ y=true then 29 else zt1 m
def zrx (y m d:Int):Bool:=decide (-1000000000≤y∧y≤1000000000∧1≤d∧d≤zbw y m)
def za9 (k:Int):Int:=365 * k+k / 4 - k / 100+k / 400
def gY (o:Int):Int:=o - o / 1460+o / 36524 - o / 146096
def yrs (o:Int):Int:=gY o / 365
theorem zt2 {x:Int} (h0:0≤x) (h:x+1<146097):gY x≤gY (x+1):=by
 unfold gY
 by_cases e:x=146095
 ·subst e;decide
 ·have h1:x / 146096=0:=by omega
  have h2:(x+1) / 146096=0:=by omega
  rw[h1,h2];omega
theorem zpb {a b:Int} (h0:0≤a) (h:a≤b) (hb:b<146097):gY a≤gY b:=by
 obtain⟨d,rfl⟩:∃d:Nat,b=a+d:=⟨(b - a).toNat,by omega⟩
 clear h;induction d with
 |zero=>simp
 |succ d ih=>
  have h1:=ih oQ;have h2:=zt2 (x:=a+(d:Int)) oQ oQ;rw[show a+((d+1:Nat):Int)=a+(d:Int)+1 by omega]
  omega
def zvA (k:Nat):Bool:=decide (365 * (k:Int)≤gY (za9 k)∧gY (za9 ((k:Int)+1) - 1)≤365 * (k:Int)+364∧0≤za9 k∧za9 ((k:Int)+1)≤146097)
theorem zt3:(List.range 400).all zvA=true:=by decide+kernel
theorem zmg (o:Int) (h0:0≤o):∀K:Nat,o<za9 K→∃k:Nat,k<K∧za9 k≤o∧o<za9 ((k:Int)+1)
 |0,h=>by simp[za9] at h;omega
 |K+1,h=>by
  by_cases h1:o<za9 K
  ·obtain⟨k,hk,h2⟩:=zmg o h0 K h1;exact⟨k,by omega,h2⟩
  ·exact⟨K,by omega,by omega,by simpa using h⟩
theorem zmh {o:Int} (h0:0≤o) (h1:o<146097):0≤yrs o∧yrs o<400∧za9 (yrs o)≤o∧o<za9 (yrs o+1):=by
 obtain⟨k,hk,h2,h3⟩:=zmg o h0 400 (by simp[za9];omega)
 have ha:=List.all_eq_true.1 zt3 k (wbG.2 hk);unfold zvA at ha;rw[waM] at ha;obtain⟨a1,a2,a3,a4⟩:=ha;have m1:=zpb a3 h2 h1;have m2:=zpb h0 (show o≤za9 ((k:Int)+1) - 1 by omega) oQ
 have e:yrs o=(k:Int):=by unfold yrs;omega
 rw[e];exact⟨by omega,by omega,h2,h3⟩
def lft (o:Int):Int:=o - (yrs o * 365+yrs o / 4 - yrs o / 100)
theorem zpc {o:Int} (h0:0≤o) (h1:o<146097):lft o=o - za9 (yrs o)∧0≤lft o∧lft o≤365:=by
 obtain⟨a,b,c,d⟩:=zmh h0 h1;unfold lft;generalize yrs o=k at *;have e0:k / 400=0:=by omega
 have e1:za9 k=k * 365+k / 4 - k / 100:=by unfold za9;omega
 have e2:za9 (k+1)≤za9 k+366:=by
  by_cases hk:k=399
  ·subst hk;decide
  ·have:(k+1) / 400=0:=by omega
   unfold za9;omega
 omega
def mm (o:Int):Int:=(5 * lft o+2) / 153
def dd (o:Int):Int:=lft o - (153 * mm o+2) / 5+1
def mon (o:Int):Int:=(mm o+2)%12+1
def zjU (n:Int):Int:=(n+719468) / 146097
def zbQ (n:Int):Int:=(n+719468)%146097
def dD (n:Int):Int:=dd (zbQ n)
def mD (n:Int):Int:=mon (zbQ n)
def yD (n:Int):Int:=zjU n * 400+yrs (zbQ n)+if mD n≤2 then 1 else 0
theorem zlf {n:Int} (h:0≤n):0≤zbQ n∧zbQ n<146097:=by unfold zbQ;omega
theorem zpd {n:Int} (h:0≤n) (h1:n<146097):4≤zjU n∧zjU n≤5:=by unfold zjU;omega
theorem zvB {o:Int} (h0:0≤lft o) (h1:lft o≤365):0≤mm o∧mm o≤11∧1≤dd o∧dd o≤31∧1≤mon o∧mon o≤12:=by
 unfold dd mon mm;omega
def zvC (l:Nat):Bool:=
 let m:=(5 * (l:Int)+2) / 153
 let d:=(l:Int) - (153 * m+2) / 5+1
 let mo:=(m+2)%12+1
 decide (1≤d∧1≤mo∧mo≤12∧(d≤zt1 mo∨l=365∧mo=2∧d=29))
theorem zt4:(List.range 366).all zvC=true:=by decide+kernel
theorem ziT {n:Int} (h:0≤n) (h1:n<146097):zrx (yD n) (mD n) (dD n)=true∧1969≤yD n∧yD n≤2401:=by
 obtain⟨o0,o1⟩:=zlf h;obtain⟨e0,e1⟩:=zpd h h1;obtain⟨y0,y1,y2,y3⟩:=zmh o0 o1;obtain⟨l0,l1,l2⟩:=zpc o0 o1;obtain⟨L,hL⟩:=wbD l1;have ha:=List.all_eq_true.1 zt4 L (wbG.2 oQ);unfold zvC at ha;simp only[waM] at ha;have em:mm (zbQ n)=(5 * (L:Int)+2) / 153:=by unfold mm;rw[hL]
 have ed:dd (zbQ n)=(L:Int) - (153 * ((5 * (L:Int)+2) / 153)+2) / 5+1:=by unfold dd;rw[em,hL]
 have eo:mon (zbQ n)=((5 * (L:Int)+2) / 153+2)%12+1:=by unfold mon;rw[em]
 rw[←eo,←ed] at ha;obtain⟨a1,a2,a3,a4⟩:=ha;have hyl:yD n=zjU n * 400+yrs (zbQ n)+if mon (zbQ n)≤2 then 1 else 0:=rfl
 have hy1:1969≤yD n∧yD n≤2401:=by
  rw[hyl];have hn:zjU n=4→3≤400:=fun _=>by decide
  by_cases he:zjU n=4
  ·have:zbQ n=n+719468 - 584388:=by unfold zbQ zjU at *;omega
   have hy:369≤yrs (zbQ n):=by
    false_or_by_contra
    rename_i hc;have:za9 (yrs (zbQ n)+1)≤za9 369:=by unfold za9;omega
    have e2:za9 369=134774:=by decide
    omega
   split<;>omega
  ·split<;>omega
 refine⟨?_,hy1⟩;unfold zrx;refine waP ⟨by omega,by omega,a1,?_⟩
 show dd (zbQ n)≤zbw (yD n) (mon (zbQ n));unfold zbw;rw[if_neg (by omega)]
 rcases a4 with a4|⟨b1,b2,b3⟩
 ·split
  ·rename_i hq;have:zt1 (mon (zbQ n))=28:=by rw[hq.1];rfl
   omega
  ·exact a4
 ·have hleap:zeZ (yD n)=true:=by
   have hl:za9 (yrs (zbQ n)+1) - za9 (yrs (zbQ n))=366:=by
    have hu:za9 (yrs (zbQ n)+1) - za9 (yrs (zbQ n))≤366:=by unfold za9;omega
    omega
   have hq:(yrs (zbQ n)+1)%4=0∧((yrs (zbQ n)+1)%100≠0∨(yrs (zbQ n)+1)%400=0):=by unfold za9 at hl;omega
   unfold zeZ;rw[hyl,if_pos (by omega)]
   exact waP ⟨by omega,by omega⟩
  rw[if_pos ⟨b2,hleap⟩,b3];decide
def jan (y:Int):Int:=365 * (y - 1970)+(y - 1) / 4 - (y - 1) / 100+(y - 1) / 400 - 477
def lpC (y:Int):Int:=if zeZ y=true then 1 else 0
def zvl (m:Int):Int:=if m=1 then 0 else if m=2 then 31 else if m=3 then 59 else if m=4 then 90 else if m=5 then 120 else if m=6 then 151 else if m=7 then 181 else if m=8 then 212 else if m=9 then 243 else if m=10 then 273 else if m=11 then 304 else if m=12 then 334 else 365
def zcG (y m:Int):Int:=zvl m+if 2<m then lpC y else 0
theorem ztt (y:Int):lpC y=y / 4 - (y - 1) / 4 - (y / 100 - (y - 1) / 100)+(y / 400 - (y - 1) / 400):=by
 unfold lpC zeZ
 by_cases h:y%4=0∧(y%100≠0∨y%400=0)
 ·rw[if_pos (by simpa using h)];omega
 ·rw[if_neg (by simpa using h)];omega
theorem zmi (y:Int):lpC y=0∨lpC y=1:=by unfold lpC;split<;>omega
theorem zfm (y:Int):jan (y+1)=jan y+365+lpC y:=by
 rw[ztt];unfold jan;rw[show y+1 - 1=y by omega]
 omega
theorem zd8 {y m:Int} (h1:1≤m) (h2:m≤12):zcG y (m+1)=zcG y m+zbw y m:=by
 have hl:lpC y=if zeZ y=true then 1 else 0:=rfl
 obtain rfl|rfl|rfl|rfl|rfl|rfl|rfl|rfl|rfl|rfl|rfl|rfl:m=1∨m=2∨m=3∨m=4∨m=5∨m=6∨m=7∨m=8∨m=9∨m=10∨m=11∨m=12:=by omega
 all_goals (unfold zcG zbw zt1 zvl;simp[hl];try(split<;>omega);try omega)
theorem zdJ (y:Int):zcG y 1=0:=by unfold zcG zvl;simp
theorem zfn (y:Int):zcG y 13=365+lpC y:=by unfold zcG zvl;simp
def ztu (l:Nat):Bool:=
 let m:=(5 * (l:Int)+2) / 153
 let d:=(l:Int) - (153 * m+2) / 5+1
 let mo:=(m+2)%12+1
 decide ((2<mo→(l:Int)+59=zvl mo+d - 1)∧(mo≤2→(l:Int) - 306=zvl mo+d - 1))
theorem zry:(List.range 366).all ztu=true:=by decide+kernel
theorem zc7 {n:Int} (h:0≤n) (h1:n<146097):n=jan (yD n)+zcG (yD n) (mD n)+dD n - 1∧1≤mD n∧mD n≤12∧1≤dD n∧dD n≤zbw (yD n) (mD n):=by
 obtain⟨o0,o1⟩:=zlf h;obtain⟨y0,y1,y2,y3⟩:=zmh o0 o1;obtain⟨l0,l1,l2⟩:=zpc o0 o1;obtain⟨m0,m1,d0,d1,q0,q1⟩:=zvB l1 l2;obtain⟨hmay,_,_⟩:=ziT h h1;unfold zrx at hmay;rw[waM] at hmay;obtain⟨L,hL⟩:=wbD l1;have ha:=List.all_eq_true.1 zry L (wbG.2 oQ);unfold ztu at ha;simp only[waM] at ha;have em:mm (zbQ n)=(5 * (L:Int)+2) / 153:=by unfold mm;rw[hL]
 have ed:dd (zbQ n)=(L:Int) - (153 * ((5 * (L:Int)+2) / 153)+2) / 5+1:=by unfold dd;rw[em,hL]
 have eo:mon (zbQ n)=((5 * (L:Int)+2) / 153+2)%12+1:=by unfold mon;rw[em]
 rw[←eo,←ed] at ha;have hD:dD n=dd (zbQ n):=rfl;have hM:mD n=mon (zbQ n):=rfl;have hn:n+719468=zjU n * 146097+zbQ n:=by unfold zjU zbQ;omega
 have hk4:yrs (zbQ n) / 400=0:=by omega
 have hs:za9 (yrs (zbQ n))=365 * yrs (zbQ n)+yrs (zbQ n) / 4 - yrs (zbQ n) / 100:=by unfold za9;omega
 have hmar:∀e k:Int,0≤k→k<400→jan (e * 400+k)+lpC (e * 400+k)+59=e * 146097+(365 * k+k / 4 - k / 100) - 719468:=by
  intro e k hk0 hk1;rw[ztt];unfold jan;omega
 have hm0:=hmar (zjU n) (yrs (zbQ n)) y0 y1;refine⟨?_,by rw[hM];omega,by rw[hM];omega,by rw[hD];omega,hmay.2.2.2⟩
 rw[hD,hM]
 by_cases h2:mon (zbQ n)≤2
 ·have hy:yD n=zjU n * 400+yrs (zbQ n)+1:=by show _+(if mon (zbQ n)≤2 then 1 else 0)=_;rw[if_pos h2]
  have hq:=ha.2 h2;rw[hy,zfm];unfold zcG;rw[if_neg (by omega)]
  omega
 ·have hy:yD n=zjU n * 400+yrs (zbQ n):=by show _+(if mon (zbQ n)≤2 then 1 else 0)=_;rw[if_neg h2];omega
  have hq:=ha.1 oQ;rw[hy];unfold zcG;rw[if_pos (by omega)]
  omega
theorem zgw {a b:Int} (h:a≤b):jan a≤jan b:=by
 obtain⟨d,rfl⟩:∃d:Nat,b=a+d:=⟨(b - a).toNat,by omega⟩
 clear h;induction d with
 |zero=>simp
 |succ d ih=>
  have h1:=zfm (a+d);have h2:=zmi (a+d);rw[show a+((d+1:Nat):Int)=a+(d:Int)+1 by omega]
  omega
theorem zcD {y m:Int} (h1:1≤m) (h2:m≤12):28≤zbw y m∧zbw y m≤31:=by
 unfold zbw zt1
 repeat' split
 all_goals omega
theorem zbR {y a b:Int} (h1:1≤a) (h:a≤b) (h2:b≤13):zcG y a≤zcG y b:=by
 obtain⟨d,rfl⟩:∃d:Nat,b=a+d:=⟨(b - a).toNat,by omega⟩
 clear h;induction d with
 |zero=>simp
 |succ d ih=>
  have h3:=ih oQ;have h4:=zd8 (y:=y) (m:=a+d) oQ oQ;have h5:=zcD (y:=y) (m:=a+d) oQ oQ;rw[show a+((d+1:Nat):Int)=a+(d:Int)+1 by omega]
  omega
theorem zgU {n:Int} (h:0≤n) (h1:n<146097):jan (yD n)≤n∧n<jan (yD n+1)∧jan (yD n)+zcG (yD n) (mD n)≤n∧n<jan (yD n)+zcG (yD n) (mD n+1)∧1970≤yD n∧yD n≤2369:=by
 obtain⟨e,m1,m2,d1,d2⟩:=zc7 h h1;have a1:=zbR (y:=yD n) (a:=1) (b:=mD n) oQ m1 oQ;have a2:=zbR (y:=yD n) (a:=mD n+1) (b:=13) oQ oQ oQ;rw[zdJ] at a1;rw[zfn] at a2;have a3:=zd8 (y:=yD n) m1 m2;have a4:=zfm (yD n);have b1:jan 1970=0:=by decide
 have b2:jan 2370=146097:=by decide
 have b3:1970≤yD n:=by
  false_or_by_contra
  have:=zgw (a:=yD n+1) (b:=1970) oQ;omega
 have b4:yD n≤2369:=by
  false_or_by_contra
  have:=zgw (a:=2370) (b:=yD n) oQ;omega
 omega
theorem zgV (a b:Int) (ha:0≤a) (ha1:a≤1000000000000000) (hb:1≤b) (hb1:b≤1000000) (w:World):Calls prog 184 #[.int .i64 a,.int .i64 b] w (zbO (.int .i64 (a / b)) w):=by
 have h1:0≤a / b:=Int.ediv_nonneg ha oQ;have h2:0≤a%b:=Int.emod_nonneg _ oQ;have h3:¬a%b<0:=by omega
 have hq:¬b<1:=by omega
 have hb0:(b==0)=false:=by simp;omega
 go_enter func184,ntmps184;go_wp2;go_ret;exact⟨rfl,rfl⟩
theorem ziU (a b:Int) (ha:0≤a) (ha1:a≤1000000000000000) (hb:1≤b) (hb1:b≤1000000) (w:World):Calls prog 185 #[.int .i64 a,.int .i64 b] w (zbO (.int .i64 (a%b)) w):=by
 have h2:0≤a%b:=Int.emod_nonneg _ oQ;have h3:¬a%b<0:=by omega
 have hq:¬b<1:=by omega
 have hb0:(b==0)=false:=by simp;omega
 go_enter func185,ntmps185;go_wp2;go_ret;exact⟨rfl,rfl⟩
theorem zmj (y:Int) (h0:0≤y) (h1:y≤3000000000) (w:World):Calls prog 187 #[.int .i64 y] w (zbO (.bool (zeZ y)) w):=by
 generalize hq:zeZ y=q;have HQ:=waV hq;clear hq;go_enter func187,ntmps187;go_wp2
 all_goals go_ret
 all_goals (refine⟨zaf ?_,rfl⟩;rw[←HQ.out];((try simp only[beq_iff_eq,wbE,bne_iff_ne,ne_eq,zeZ,waM,decide_eq_false_iff_not,waN,wbF,Bool.not_eq_true',Bool.not_eq_false',Bool.and_eq_false_iff,Bool.or_eq_false_iff] at *)
                                            rw[waQ]
                                            (try simp only[zeZ,waM,beq_iff_eq,bne_iff_ne,ne_eq,waN,wbF,Bool.not_eq_true',Bool.not_eq_false',wbE,decide_eq_false_iff_not,iff_true,true_iff,Bool.false_eq_true,false_iff,iff_false,reduceCtorEq])
                                            omega))
theorem zpe {y m:Int} (h1:1≤m) (h2:m≤12) (h:¬(m=2∧zeZ y=true)):zbw y m=zt1 m:=by
 unfold zbw;rw[if_neg (by omega),if_neg h]
theorem zdo (y m:Int) (h0:0≤y) (h1:y≤3000000000) (w:World):Calls prog 132 #[.int .i64 y,.int .i64 m] w (Ret (.int .i64 (zbw y m)) w):=by
 by_cases hm1:m<1
 ·have HR:Hid (zbw y m=0):=by show _=_;unfold zbw;rw[if_pos (.inl hm1)]
  go_enter func132,ntmps132;go_wp2;go_ret;exact⟨zaR HR.out.symm,waC _ _⟩
 by_cases hm2:12<m
 ·have HR:Hid (zbw y m=0):=by show _=_;unfold zbw;rw[if_pos (.inr hm2)]
  go_enter func132,ntmps132;go_wp2;go_ret;exact⟨zaR HR.out.symm,waC _ _⟩
 by_cases hm:m=2
 ·subst hm;have HL:=waV (zmj y h0 h1);cases hl:zeZ y with
  |true=>
   have HR:Hid (zbw y 2=29):=by show _=_;unfold zbw;rw[if_neg (by omega),if_pos ⟨rfl,hl⟩]
   rw[hl] at HL;clear hl;go_enter func132,ntmps132;go_wp2_with fail;refine(HL.out _).mono ?_;rintro e w1 ⟨rfl,rfl⟩;go_wp2;go_ret;exact⟨zaR HR.out.symm,by exact zaI⟩
  |false=>
   have HR:Hid (zbw y 2=28):=by show _=_;rw[zpe (by omega) (by omega) (by rw[hl];simp)];rfl
   rw[hl] at HL;clear hl;go_enter func132,ntmps132;go_wp2_with fail;refine(HL.out _).mono ?_;rintro e w1 ⟨rfl,rfl⟩;go_wp2;go_ret;exact⟨zaR HR.out.symm,by exact zaI⟩
 ·have HR:Hid (zbw y m=zt1 m):=zpe oQ oQ oQ;obtain rfl|rfl|rfl|rfl|rfl|rfl|rfl|rfl|rfl|rfl|rfl:m=1∨m=3∨m=4∨m=5∨m=6∨m=7∨m=8∨m=9∨m=10∨m=11∨m=12:=by omega
  all_goals
   clear hm1 hm2 hm;go_enter func132,ntmps132;go_wp2;go_ret;exact⟨zaR HR.out.symm,by exact zaI⟩
theorem zjV (y m d:Int) (h0:0≤y) (h1:y≤1000000000) (w:World):Calls prog 186 #[.int .i64 y,.int .i64 m,.int .i64 d] w (Ret (.bool (zrx y m d)) w):=by
 have HL:=waV (zdo y m h0 oQ);have hy:-1000000000≤y:=by omega
 by_cases hd:1≤d
 ·have HR:Hid (zrx y m d=decide (d≤zbw y m)):=by show _=_;unfold zrx;simp only[hy,h1,hd,true_and]
  generalize zbw y m=q at *;go_enter func186,ntmps186;go_wp2_with fail;refine(HL.out _).mono ?_;rintro e w1 ⟨rfl,hb⟩;go_wp2;go_ret;exact⟨zaf HR.out.symm,hb⟩
 ·have HR:Hid (zrx y m d=false):=by show _=_;unfold zrx;exact waO oQ
  go_enter func186,ntmps186;go_wp2;go_ret;exact⟨zaf HR.out.symm,waC _ _⟩
theorem zd9 {fn:Func} {t u v x:Tmp} (h:fn.results=#[.tmp t,.tmp u,.tmp v,.tmp x]) (tmps:Array Value) (P:Program) (w:World):
 (results fn tmps).run P w=.ok (.tuple #[tmps.getD t undef,tmps.getD u undef,tmps.getD v undef,tmps.getD x undef]) w:=by
 simp[results,h]
theorem zmk (n:Int) (h:0≤n) (h1:n<146097) (w:World):Calls prog 129 #[.int .i64 n] w (Ret (.tuple #[.int .i64 (yD n),.int .i64 (mD n),.int .i64 (dD n),.bool true]) w):=by
 obtain⟨o0,o1⟩:=zlf h;obtain⟨e0,e1⟩:=zpd h h1;obtain⟨y0,y1,_,_⟩:=zmh o0 o1;obtain⟨l0,l1,l2⟩:=zpc o0 o1;obtain⟨m0,m1,d0,d1,q0,q1⟩:=zvB l1 l2;obtain⟨hmay,hy0,hy1⟩:=ziT h h1;have HM:=waV (zjV (yD n) (mD n) (dD n) oQ oQ);rw[hmay] at HM;have HF1:=waV (zgV n 365 h oQ oQ oQ);have HF2:=waV (zgV (n+719468) 146097 oQ oQ oQ oQ);have HM2:=waV (ziU (n+719468) 146097 oQ oQ oQ oQ);have f0:0≤n / 365:=by omega
 have f1:n / 365≤2000000000:=by omega
 have HY:Hid (yD n=if mD n≤2 then zjU n * 400+yrs (zbQ n)+1 else zjU n * 400+yrs (zbQ n)):=by
  show _=_;unfold yD;split<;>omega
 rw[show (n+719468) / 146097=zjU n from rfl] at HF2
 rw[show (n+719468)%146097=zbQ n from rfl] at HM2
 have E1:(zbQ n - zbQ n / 1460+zbQ n / 36524 - zbQ n / 146096) / 365=yrs (zbQ n):=rfl;have E2:zbQ n - (yrs (zbQ n) * 365+yrs (zbQ n) / 4 - yrs (zbQ n) / 100)=lft (zbQ n):=rfl;have E3:(5 * lft (zbQ n)+2) / 153=mm (zbQ n):=rfl;have E4:lft (zbQ n) - (153 * mm (zbQ n)+2) / 5+1=dD n:=rfl;have E5:(mm (zbQ n)+2)%12+1=mD n:=rfl
 change 1≤dD n at d0
 change dD n≤31 at d1
 change 1≤mD n at q0
 change mD n≤12 at q1
 clear hmay l0;generalize yD n=YY at *;generalize mD n=MM at *;generalize dD n=DD at *;generalize mm (zbQ n)=M at *;generalize lft (zbQ n)=L at *;generalize yrs (zbQ n)=Y at *;generalize zjU n=E at *;generalize zbQ n=o at *
 by_cases hm:MM≤2
 ·have HY2:=HY.out;rw[if_pos hm] at HY2;subst HY2;clear HY;go_enter func129,ntmps129;go_wp2_with fail;refine(HF1.out _).mono ?_;rintro e w1 ⟨rfl,rfl⟩;go_wp2_with fail;refine(HF1.out _).mono ?_;rintro e w1 ⟨rfl,rfl⟩;go_wp2_with fail;refine(HF2.out _).mono ?_;rintro e w1 ⟨rfl,rfl⟩;go_wp2_with fail;refine(HM2.out _).mono ?_;rintro e w1 ⟨rfl,rfl⟩;go_wp2_with fail;refine(HM.out _).mono ?_;rintro e w1 ⟨rfl,hb⟩;go_wp2
  (try simp only[Exit.inBlock,Exit.then])
  refine waY (zd9 rfl _ _ _) rfl ?_;exact⟨rfl,hb⟩
 ·have HY2:=HY.out;rw[if_neg hm] at HY2;subst HY2;clear HY;go_enter func129,ntmps129;go_wp2_with fail;refine(HF1.out _).mono ?_;rintro e w1 ⟨rfl,rfl⟩;go_wp2_with fail;refine(HF1.out _).mono ?_;rintro e w1 ⟨rfl,rfl⟩;go_wp2_with fail;refine(HF2.out _).mono ?_;rintro e w1 ⟨rfl,rfl⟩;go_wp2_with fail;refine(HM2.out _).mono ?_;rintro e w1 ⟨rfl,rfl⟩;go_wp2_with fail;refine(HM.out _).mono ?_;rintro e w1 ⟨rfl,hb⟩;go_wp2
  (try simp only[Exit.inBlock,Exit.then])
  refine waY (zd9 rfl _ _ _) rfl ?_;exact⟨rfl,hb⟩
theorem zjW (s:Int) (h:0≤s) (h1:s<86400) (w:World):Calls prog 180 #[.int .i64 s] w (zbO (.tuple #[.int .i64 (s / 3600),.int .i64 (s / 60%60),.int .i64 (s%60),.bool true]) w):=by
 have e1:0≤s / 60:=by omega
 have h2:¬s<0:=by omega
 have h3:¬86400≤s:=by omega
 go_enter func180,ntmps180;go_wp2
 (try simp only[Exit.inBlock,Exit.then])
 refine waY (zd9 rfl _ _ _) rfl ?_;exact⟨rfl,rfl⟩
def inC (t:Int):Bool:=decide (0≤t∧t<12622780800)
theorem zpf (t:Int) (w:World):Calls prog 158 #[.int .i64 t] w (zbO (.bool (inC t)) w):=by
 generalize hq:inC t=q;have HQ:=waV hq;clear hq;go_enter func158,ntmps158;go_wp2
 all_goals go_ret
 all_goals (refine⟨zaf ?_,rfl⟩;rw[←HQ.out];((try simp only[beq_iff_eq,wbE,bne_iff_ne,ne_eq,inC,waM,decide_eq_false_iff_not,waN,wbF,Bool.not_eq_true',Bool.not_eq_false',Bool.and_eq_false_iff,Bool.or_eq_false_iff] at *)
                                            rw[waQ]
                                            (try simp only[inC,waM,beq_iff_eq,bne_iff_ne,ne_eq,waN,wbF,Bool.not_eq_true',Bool.not_eq_false',wbE,decide_eq_false_iff_not,iff_true,true_iff,Bool.false_eq_true,false_iff,iff_false,reduceCtorEq])
                                            omega))
theorem zez (t:Int) (h:inC t=true) (w:World):Calls prog 219 #[.int .i64 t] w (zbO (.tuple #[.int .i64 (t / 86400),.int .i64 (t%86400),.bool true]) w):=by
 have HI:=waV (zpf t);rw[h] at HI;unfold inC at h;rw[waM] at h;obtain⟨h0,h1⟩:=h;go_enter func219,ntmps219;go_wp2_with fail;refine(HI.out _).mono ?_;rintro e w1 ⟨rfl,rfl⟩;go_wp2
 go_ret3
 exact⟨rfl,rfl⟩
theorem zgW (t:Int) (h:inC t=false) (w:World):Calls prog 219 #[.int .i64 t] w (zbO (.tuple #[.int .i64 0,.int .i64 0,.bool false]) w):=by
 have HI:=waV (zpf t);rw[h] at HI;clear h;go_enter func219,ntmps219;go_wp2_with fail;refine(HI.out _).mono ?_;rintro e w1 ⟨rfl,rfl⟩;go_wp2
 go_ret3
 exact⟨rfl,rfl⟩
end Go.Proofs.YtgedndlifiihkaaGreatDoor
