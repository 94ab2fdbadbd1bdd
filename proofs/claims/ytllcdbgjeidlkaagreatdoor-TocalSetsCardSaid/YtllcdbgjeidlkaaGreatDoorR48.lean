/- A part of the proof: OpenCl -/
import Derived.Test.YtllcdbgjeidlkaaGreatDoorR29
import Derived.Test.YtllcdbgjeidlkaaGreatDoorR08
set_option maxHeartbeats 80000000
set_option maxRecDepth 100000
set_option linter.unusedSimpArgs false
set_option linter.unusedVariables false
namespace Go.Proofs.YtllcdbgjeidlkaaGreatDoor
open Go.Proofs.Tryz
open Go.ChangeShapes Go.WideShapes Go.ChangeAt Go.RowKit Go.Deep
section
variable {H : Type} {enc : TypeId × Value -> H} {w : World} {base : Nat} {spare : Nat -> Bool} {held : Bool}
theorem zbG {x:Int} (h:(Lit.int .u64 x).wf=true):M64 x:=by
 have:0<=x/\x<=18446744073709551615:=by simpa[Lit.wf,IntKind.min,IntKind.max,IntKind.signed,IntKind.bits] using h
 exact⟨this.1,by omega⟩
theorem zb6:prog.cellsOf 39=1:=by kernel_rfl
theorem znc:prog.cellsOf 41=8:=by kernel_rfl
theorem zvR {fuel:Nat} {cs:List Value} {x:DataW H×List MemPlace} (h:DataW.trod enc prog w base spare held fuel 41 cs=some x):∃g:Nat->Int,cs=[.int .u64 (g 0),.int .u64 (g 1),.int .u64 (g 2),.int .u64 (g 3),.int .u64 (g 4),.int .u64 (g 5),.int .u64 (g 6),.int .u64 (g 7)]/\∀k,k<8->M64 (g k):=by
 obtain⟨xs,n,_,hx,hlen,hxl,hf⟩:=DataW.trod_array underlying41 h;rw[znc] at hlen
 match cs,hlen with
 |[c0,c1,c2,c3,c4,c5,c6,c7],_=>
  have i0:=hf 0 dQ;have i1:=hf 1 dQ;have i2:=hf 2 dQ;have i3:=hf 3 dQ;have i4:=hf 4 dQ;have i5:=hf 5 dQ;have i6:=hf 6 dQ;have i7:=hf 7 dQ
  match xs,hxl with
  |[y0,y1,y2,y3,y4,y5,y6,y7],_=>
   rw[zb6] at i0 i1 i2 i3 i4 i5 i6 i7;obtain⟨z0,e0,_,w0⟩:=DataW.trod_int underlying39 i0;obtain⟨z1,e1,_,w1⟩:=DataW.trod_int underlying39 i1;obtain⟨z2,e2,_,w2⟩:=DataW.trod_int underlying39 i2;obtain⟨z3,e3,_,w3⟩:=DataW.trod_int underlying39 i3;obtain⟨z4,e4,_,w4⟩:=DataW.trod_int underlying39 i4;obtain⟨z5,e5,_,w5⟩:=DataW.trod_int underlying39 i5;obtain⟨z6,e6,_,w6⟩:=DataW.trod_int underlying39 i6;obtain⟨z7,e7,_,w7⟩:=DataW.trod_int underlying39 i7;simp at e0 e1 e2 e3 e4 e5 e6 e7;subst e0 e1 e2 e3 e4 e5 e6 e7;refine⟨fun k=>match k with|0=>z0|1=>z1|2=>z2|3=>z3|4=>z4|5=>z5|6=>z6|_=>z7,rfl,fun k hk=>?_⟩
   obtain rfl|rfl|rfl|rfl|rfl|rfl|rfl|rfl:k=0\/k=1\/k=2\/k=3\/k=4\/k=5\/k=6\/k=7:=by omega
   ·exact zbG w0
   ·exact zbG w1
   ·exact zbG w2
   ·exact zbG w3
   ·exact zbG w4
   ·exact zbG w5
   ·exact zbG w6
   ·exact zbG w7
theorem znd:prog.cellsOf 40=7:=by kernel_rfl
theorem zvS {fuel:Nat} {cs:List Value} {x:DataW H×List MemPlace} (h:DataW.trod enc prog w base spare held fuel 40 cs=some x):∃g:Nat->Int,cs=[.int .u64 (g 0),.int .u64 (g 1),.int .u64 (g 2),.int .u64 (g 3),.int .u64 (g 4),.int .u64 (g 5),.int .u64 (g 6)]/\∀k,k<7->M64 (g k):=by
 obtain⟨xs,n,_,hx,hlen,hxl,hf⟩:=DataW.trod_array underlying40 h;rw[znd] at hlen
 match cs,hlen with
 |[c0,c1,c2,c3,c4,c5,c6],_=>
  have i0:=hf 0 dQ;have i1:=hf 1 dQ;have i2:=hf 2 dQ;have i3:=hf 3 dQ;have i4:=hf 4 dQ;have i5:=hf 5 dQ;have i6:=hf 6 dQ
  match xs,hxl with
  |[y0,y1,y2,y3,y4,y5,y6],_=>
   rw[zb6] at i0 i1 i2 i3 i4 i5 i6;obtain⟨z0,e0,_,w0⟩:=DataW.trod_int underlying39 i0;obtain⟨z1,e1,_,w1⟩:=DataW.trod_int underlying39 i1;obtain⟨z2,e2,_,w2⟩:=DataW.trod_int underlying39 i2;obtain⟨z3,e3,_,w3⟩:=DataW.trod_int underlying39 i3;obtain⟨z4,e4,_,w4⟩:=DataW.trod_int underlying39 i4;obtain⟨z5,e5,_,w5⟩:=DataW.trod_int underlying39 i5;obtain⟨z6,e6,_,w6⟩:=DataW.trod_int underlying39 i6;simp at e0 e1 e2 e3 e4 e5 e6;subst e0 e1 e2 e3 e4 e5 e6;refine⟨fun k=>match k with|0=>z0|1=>z1|2=>z2|3=>z3|4=>z4|5=>z5|_=>z6,rfl,fun k hk=>?_⟩
   obtain rfl|rfl|rfl|rfl|rfl|rfl|rfl:k=0\/k=1\/k=2\/k=3\/k=4\/k=5\/k=6:=by omega
   ·exact zbG w0
   ·exact zbG w1
   ·exact zbG w2
   ·exact zbG w3
   ·exact zbG w4
   ·exact zbG w5
   ·exact zbG w6
theorem zkJ:prog.cellsOf 58=10:=by kernel_rfl
theorem zib:prog.cellsOf 3=1:=by kernel_rfl
theorem zfr:prog.cellsOf 2=1:=by kernel_rfl
theorem zhe:prog.cellsOf 4=1:=by kernel_rfl
theorem ztM {fuel:Nat} {cs:List Value} {x:DataW H×List MemPlace} (h:DataW.trod enc prog w base spare held fuel 58 cs=some x):∃(i:Int) (b:Bool) (g:Nat->Int),cs=[.int .i64 i,.bool b,.int .u64 (g 0),.int .u64 (g 1),.int .u64 (g 2),.int .u64 (g 3),.int .u64 (g 4),.int .u64 (g 5),.int .u64 (g 6),.int .u64 (g 7)]/\∀k,k<8->M64 (g k):=by
 obtain⟨xs,q,_,hx,hlen,hxl,hf⟩:=DataW.trod_struct underlying58 h;rw[zkJ] at hlen
 match cs,hlen with
 |[c0,c1,c2,c3,c4,c5,c6,c7,c8,c9],_=>
  have i0:=hf 0 _ rfl;have i1:=hf 1 _ rfl;have i2:=hf 2 _ rfl;have hl:xs.length=3:=hxl
  match xs,hl with
  |[y0,y1,y2],_=>
   change DataW.trod enc prog w base spare held q 3 (([c0,c1,c2,c3,c4,c5,c6,c7,c8,c9].drop 0).take (prog.cellsOf 3))=_ at i0
   change DataW.trod enc prog w base spare held q 4 (([c0,c1,c2,c3,c4,c5,c6,c7,c8,c9].drop 1).take (prog.cellsOf 4))=_ at i1
   change DataW.trod enc prog w base spare held q 41 (([c0,c1,c2,c3,c4,c5,c6,c7,c8,c9].drop 2).take (prog.cellsOf 41))=_ at i2
   rw[zib] at i0;rw[zhe] at i1;rw[znc] at i2;obtain⟨a,e0,_,_⟩:=DataW.trod_int underlying3 i0;obtain⟨b,e1,_⟩:=DataW.trod_bool underlying4 i1;obtain⟨g,e2,hg⟩:=zvR i2;simp at e0 e1 e2;obtain⟨f0,f1,f2,f3,f4,f5,f6,f7⟩:=e2;subst e0 e1 f0 f1 f2 f3 f4 f5 f6 f7;exact⟨a,b,g,rfl,hg⟩
theorem zic:prog.cellsOf 60=30:=by kernel_rfl
theorem zvT {fuel:Nat} {cs:List Value} {x:DataW H×List MemPlace} (h:DataW.trod enc prog w base spare held fuel 60 cs=some x):∃c:Cl,cs=zdg c/\zbH c/\c.s<=9223372036854775807:=by
 obtain⟨xs,q,_,hx,hlen,hxl,hf⟩:=DataW.trod_struct underlying60 h;rw[zic] at hlen
 match cs,hlen with
 |[c0,c1,c2,c3,c4,c5,c6,c7,c8,c9,c10,c11,c12,c13,c14,c15,c16,c17,c18,c19,c20,c21,c22,c23,c24,c25,c26,c27,c28,c29],_=>
  have i0:=hf 0 _ rfl;have i1:=hf 1 _ rfl;have i2:=hf 2 _ rfl;have i3:=hf 3 _ rfl;have i4:=hf 4 _ rfl;have i5:=hf 5 _ rfl;have i6:=hf 6 _ rfl;have i7:=hf 7 _ rfl;have i8:=hf 8 _ rfl;have i9:=hf 9 _ rfl;have i10:=hf 10 _ rfl;have i11:=hf 11 _ rfl;have i12:=hf 12 _ rfl;have i13:=hf 13 _ rfl;have i14:=hf 14 _ rfl;have hl:xs.length=15:=hxl
  match xs,hl with
  |[y0,y1,y2,y3,y4,y5,y6,y7,y8,y9,y10,y11,y12,y13,y14],_=>
   change DataW.trod enc prog w base spare held q 39 (([c0,c1,c2,c3,c4,c5,c6,c7,c8,c9,c10,c11,c12,c13,c14,c15,c16,c17,c18,c19,c20,c21,c22,c23,c24,c25,c26,c27,c28,c29].drop 0).take (prog.cellsOf 39))=_ at i0
   rw[zb6] at i0
   change DataW.trod enc prog w base spare held q 39 (([c0,c1,c2,c3,c4,c5,c6,c7,c8,c9,c10,c11,c12,c13,c14,c15,c16,c17,c18,c19,c20,c21,c22,c23,c24,c25,c26,c27,c28,c29].drop 1).take (prog.cellsOf 39))=_ at i1
   rw[zb6] at i1
   change DataW.trod enc prog w base spare held q 39 (([c0,c1,c2,c3,c4,c5,c6,c7,c8,c9,c10,c11,c12,c13,c14,c15,c16,c17,c18,c19,c20,c21,c22,c23,c24,c25,c26,c27,c28,c29].drop 2).take (prog.cellsOf 39))=_ at i2
   rw[zb6] at i2
   change DataW.trod enc prog w base spare held q 39 (([c0,c1,c2,c3,c4,c5,c6,c7,c8,c9,c10,c11,c12,c13,c14,c15,c16,c17,c18,c19,c20,c21,c22,c23,c24,c25,c26,c27,c28,c29].drop 3).take (prog.cellsOf 39))=_ at i3
   rw[zb6] at i3
   change DataW.trod enc prog w base spare held q 39 (([c0,c1,c2,c3,c4,c5,c6,c7,c8,c9,c10,c11,c12,c13,c14,c15,c16,c17,c18,c19,c20,c21,c22,c23,c24,c25,c26,c27,c28,c29].drop 4).take (prog.cellsOf 39))=_ at i4
   rw[zb6] at i4
   change DataW.trod enc prog w base spare held q 39 (([c0,c1,c2,c3,c4,c5,c6,c7,c8,c9,c10,c11,c12,c13,c14,c15,c16,c17,c18,c19,c20,c21,c22,c23,c24,c25,c26,c27,c28,c29].drop 5).take (prog.cellsOf 39))=_ at i5
   rw[zb6] at i5
   change DataW.trod enc prog w base spare held q 39 (([c0,c1,c2,c3,c4,c5,c6,c7,c8,c9,c10,c11,c12,c13,c14,c15,c16,c17,c18,c19,c20,c21,c22,c23,c24,c25,c26,c27,c28,c29].drop 6).take (prog.cellsOf 39))=_ at i6
   rw[zb6] at i6
   change DataW.trod enc prog w base spare held q 4 (([c0,c1,c2,c3,c4,c5,c6,c7,c8,c9,c10,c11,c12,c13,c14,c15,c16,c17,c18,c19,c20,c21,c22,c23,c24,c25,c26,c27,c28,c29].drop 7).take (prog.cellsOf 4))=_ at i7
   rw[zhe] at i7
   change DataW.trod enc prog w base spare held q 58 (([c0,c1,c2,c3,c4,c5,c6,c7,c8,c9,c10,c11,c12,c13,c14,c15,c16,c17,c18,c19,c20,c21,c22,c23,c24,c25,c26,c27,c28,c29].drop 8).take (prog.cellsOf 58))=_ at i8
   rw[zkJ] at i8
   change DataW.trod enc prog w base spare held q 40 (([c0,c1,c2,c3,c4,c5,c6,c7,c8,c9,c10,c11,c12,c13,c14,c15,c16,c17,c18,c19,c20,c21,c22,c23,c24,c25,c26,c27,c28,c29].drop 18).take (prog.cellsOf 40))=_ at i9
   rw[znd] at i9
   change DataW.trod enc prog w base spare held q 3 (([c0,c1,c2,c3,c4,c5,c6,c7,c8,c9,c10,c11,c12,c13,c14,c15,c16,c17,c18,c19,c20,c21,c22,c23,c24,c25,c26,c27,c28,c29].drop 25).take (prog.cellsOf 3))=_ at i10
   rw[zib] at i10
   change DataW.trod enc prog w base spare held q 2 (([c0,c1,c2,c3,c4,c5,c6,c7,c8,c9,c10,c11,c12,c13,c14,c15,c16,c17,c18,c19,c20,c21,c22,c23,c24,c25,c26,c27,c28,c29].drop 26).take (prog.cellsOf 2))=_ at i11
   rw[zfr] at i11
   change DataW.trod enc prog w base spare held q 2 (([c0,c1,c2,c3,c4,c5,c6,c7,c8,c9,c10,c11,c12,c13,c14,c15,c16,c17,c18,c19,c20,c21,c22,c23,c24,c25,c26,c27,c28,c29].drop 27).take (prog.cellsOf 2))=_ at i12
   rw[zfr] at i12
   change DataW.trod enc prog w base spare held q 2 (([c0,c1,c2,c3,c4,c5,c6,c7,c8,c9,c10,c11,c12,c13,c14,c15,c16,c17,c18,c19,c20,c21,c22,c23,c24,c25,c26,c27,c28,c29].drop 28).take (prog.cellsOf 2))=_ at i13
   rw[zfr] at i13
   change DataW.trod enc prog w base spare held q 2 (([c0,c1,c2,c3,c4,c5,c6,c7,c8,c9,c10,c11,c12,c13,c14,c15,c16,c17,c18,c19,c20,c21,c22,c23,c24,c25,c26,c27,c28,c29].drop 29).take (prog.cellsOf 2))=_ at i14
   rw[zfr] at i14;obtain⟨z0,e0,_,w0⟩:=DataW.trod_int underlying39 i0;obtain⟨z1,e1,_,w1⟩:=DataW.trod_int underlying39 i1;obtain⟨z2,e2,_,w2⟩:=DataW.trod_int underlying39 i2;obtain⟨z3,e3,_,w3⟩:=DataW.trod_int underlying39 i3;obtain⟨z4,e4,_,w4⟩:=DataW.trod_int underlying39 i4;obtain⟨z5,e5,_,w5⟩:=DataW.trod_int underlying39 i5;obtain⟨z6,e6,_,w6⟩:=DataW.trod_int underlying39 i6;obtain⟨z7,e7,_⟩:=DataW.trod_bool underlying4 i7;obtain⟨oi,ob,od,e8,hod⟩:=ztM i8;obtain⟨yy,e9,hyy⟩:=zvS i9;obtain⟨z10,e10,_,w10⟩:=DataW.trod_int underlying3 i10;obtain⟨z11,e11,_,w11⟩:=DataW.trod_int underlying2 i11;obtain⟨z12,e12,_,w12⟩:=DataW.trod_int underlying2 i12;obtain⟨z13,e13,_,w13⟩:=DataW.trod_int underlying2 i13;obtain⟨z14,e14,_,w14⟩:=DataW.trod_int underlying2 i14;simp at e0 e1 e2 e3 e4 e5 e6 e7 e8 e9 e10 e11 e12 e13 e14;obtain⟨f0,f1,f2,f3,f4,f5,f6,f7,f8,f9⟩:=e8;obtain⟨g0,g1,g2,g3,g4,g5,g6⟩:=e9;subst e0 e1 e2 e3 e4 e5 e6 e7 e10 e11 e12 e13 e14 f0 f1 f2 f3 f4 f5 f6 f7 f8 f9 g0 g1 g2 g3 g4 g5 g6;refine⟨⟨fun k=>match k with|0=>z0|1=>z1|2=>z2|3=>z3|4=>z4|5=>z5|_=>z6,z7,oi,ob,od,yy,z10,z11,z12,z13,z14⟩,rfl,⟨fun k hk=>?_,hod,hyy⟩,(zvb w11).2⟩
   obtain rfl|rfl|rfl|rfl|rfl|rfl|rfl:k=0\/k=1\/k=2\/k=3\/k=4\/k=5\/k=6:=by omega
   ·exact zbG w0
   ·exact zbG w1
   ·exact zbG w2
   ·exact zbG w3
   ·exact zbG w4
   ·exact zbG w5
   ·exact zbG w6
theorem zkK {fuel:Nat} {v:Value} {x:DataW H×List MemPlace} (h:DataW.trod enc prog w base spare held fuel 22 [v]=some x):
 ∃A n c l,v=.slice A n c/\zbd w A n l/\n<=c/\c<=maxLen/\(A=none->n=0)/\∀k∈l,zbH k/\k.s<=9223372036854775807:=by
 rcases open_slice underlying22 h with ⟨h0,_⟩|⟨a,len,cap,m,q,D,Pl,hcs,hb,hl,hm,hmm,_,hi⟩
 ·simp at h0;subst h0;exact⟨none,0,0,[],rfl,Rd.nil,waJ _,waK _,fun _=>rfl,fun it hit=>by simp at hit⟩
 ·simp at hcs;subst hcs;have hlm:len<=m:=by rw[hmm];split<;>omega
  have hall:∀i,i<len->∃it:Cl,(zbH it/\it.s<=9223372036854775807)/\(∀(j:Nat) v,(zdg it)[j]?=some v->w.cell? (a.add (i * 30+j))=some v)/\a.block<w.heap.size:=by
   intro i hil;obtain⟨cs',hc,ht⟩:=hi i oQ;obtain⟨it,rfl,hwf⟩:=zvT ht;rw[zic] at hc;obtain⟨_,_,hat⟩:=World.cells?_some hc;refine⟨it,hwf,fun j v hj=>?_,?_⟩
   ·have hj4:j<30:=by have:=(waI.1 hj).1;simpa[zdg,clA] using this
    have:=hat j hj4;rw[<-Go.Deep.add_add,this,hj]
   ·have:=hat 0 dQ;have h2:=waR w _ this;rw[Go.Deep.add_add] at h2;unfold Addr.add at h2;split at h2<;>exact h2
  let F:Nat->Cl:=fun i=>if hh:i<len then Classical.choose (hall i hh) else zbl
  have hF:∀i,i<len->(zbH (F i)/\(F i).s<=9223372036854775807)/\(∀(j:Nat) v,(zdg (F i))[j]?=some v->w.cell? (a.add (i * 30+j))=some v)/\a.block<w.heap.size:=by
   intro i hil;have:=Classical.choose_spec (hall i hil);simpa[F,hil] using this
  refine⟨some a,len,cap,(List.range len).map F,rfl,⟨by simp,fun hn=>?_⟩,hl,hm,(fun h=>by cases h),?_⟩
  ·obtain⟨b,o,s⟩:=a;have h00:=(hF 0 hn).2.1 0 _ rfl;have hs:s=none:=by
    have:=World.cell?_spot h00;simpa[Addr.add] using this
   subst hs;refine⟨b,o,rfl,(hF 0 hn).2.2,fun i x hx j v hj=>?_⟩
   have hil:i<len:=by have:=(waI.1 hx).1;simpa using this
   obtain rfl:F i=x:=by simpa[List.getElem?_map,List.getElem?_range hil] using hx
   have:=(hF i hil).2.1 j v hj;rw[zsI] at this;rw[show o+i * 30+j=o+(i * 30+j) from by omega];exact this
  ·intro it hit;simp only[List.mem_map,wbG] at hit;obtain⟨i,hil,rfl⟩:=hit;exact(hF i hil).1
end
end Go.Proofs.YtllcdbgjeidlkaaGreatDoor
