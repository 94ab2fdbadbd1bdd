/- A part of the proof: WLap2 -/
import Derived.Test.YtllcdbgjeidlkaaGreatDoorT10
import Derived.Test.YtllcdbgjeidlkaaGreatDoorT12
import Derived.Test.YtllcdbgjeidlkaaGreatDoorT11
set_option maxHeartbeats 80000000
set_option maxRecDepth 100000
set_option linter.unusedSimpArgs false
set_option linter.unusedVariables false
namespace Go.Proofs.YtllcdbgjeidlkaaGreatDoor
open Go.Proofs.Tryz
open Go.RowKit
def zxn (c:Cl) (w:World) (x:Ending) (w':World):Prop:=∃g lb,x=.returned (.func (.func g) #[] lb)/\(∀args w,(callFunc g args).run prog w=.ok (.enter g args) w)/\zgN g lb c w.heap.size w'.heap.size w'/\Below w.heap.size w w'
structure LapI (c:Cl) (cs:Array Value) (gc:Nat->Value) (P:Int->Bool) (F U:Int) (w w':World) (l0 l1 l2 l3 l4 l5 l6 l7:Bool) (t3 t4 t8 t9 t10 t11:Value) (g:Nat) (lb:Array Value) (lo hi b3 b4:Nat):Prop where
 below:Below w.heap.size w w'
 arr:Arr w' w.heap.size 30 gc
 h0:l0=true->t8=.agg cs
 h2:l2=true->t10=.agg cs
 h1:l1=true->t9=.func (.func g) #[] lb/\(∀args w,(callFunc g args).run prog w=.ok (.enter g args) w)/\zbu g lb P lo hi w'/\w.heap.size<lo/\hi<=w'.heap.size
 h3:l3=true->t11=.agg #[.int .i64 F,.int .i64 U]
 h4:l4=true->t3=.pointer (some ⟨b3,0,none⟩)/\w.heap.size<b3/\b3<w'.heap.size/\(w'.cell? ⟨b3,0,none⟩).isSome=true/\(∀o,w'.frozen? ⟨b3,o,none⟩=false)/\(l1=true->b3<lo\/hi<=b3)
 h5:l5=true->t4=.pointer (some ⟨b4,0,none⟩)/\w.heap.size<b4/\b4<w'.heap.size/\(w'.cell? ⟨b4,0,none⟩).isSome=true/\(w'.cell? ⟨b4,1,none⟩).isSome=true/\(∀o,w'.frozen? ⟨b4,o,none⟩=false)/\(l1=true->b4<lo\/hi<=b4)
 hne:l4=true->l5=true->b3≠b4
 h6a:l6=true->l1=true/\l3=true/\l4=true/\l5=true
 h6:l6=true->w'.cell? ⟨b3,0,none⟩=some t9
 h7a:l7=true->l1=true/\l3=true/\l4=true/\l5=true/\l6=true
 h7:l7=true->w'.cell? ⟨b4,0,none⟩=some (.int .i64 F)/\w'.cell? ⟨b4,1,none⟩=some (.int .i64 U)
theorem LapI.mono {c:Cl} {cs:Array Value} {gc:Nat->Value} {P:Int->Bool} {F U:Int} {w w' w1:World} {l0 l1 l2 l3 l4 l5 l6 l7:Bool} {t3 t4 t8 t9 t10 t11:Value} {g:Nat} {lb:Array Value} {lo hi b3 b4:Nat}
 (H:LapI c cs gc P F U w w' l0 l1 l2 l3 l4 l5 l6 l7 t3 t4 t8 t9 t10 t11 g lb lo hi b3 b4) (hq:Below w'.heap.size w' w1):LapI c cs gc P F U w w1 l0 l1 l2 l3 l4 l5 l6 l7 t3 t4 t8 t9 t10 t11 g lb lo hi b3 b4:=by
 have c:=fun b o (hl:b<w'.heap.size)=>(zad hq).1 b o hl
 have f:=fun b o (hl:b<w'.heap.size)=>(zad hq).2 b o hl
 have hz:=hq.size;refine⟨zaf H.below hq H.below.size,Arr.below H.arr (Arr.lt H.arr dQ) hq,H.h0,H.h2,fun h=>?_,H.h3,fun h=>?_,fun h=>?_,H.hne,H.h6a,fun h=>?_,H.h7a,fun h=>?_⟩
 ·obtain⟨a1,a2,a3,a4,a5⟩:=H.h1 h;exact⟨a1,a2,a3.later (KpI.of_below hq a5),a4,by omega⟩
 ·obtain⟨a1,a2,a3,a4,a5,a6⟩:=H.h4 h;exact⟨a1,a2,by omega,by rw[c _ _ a3];exact a4,fun o=>(f _ _ a3).trans (a5 o),a6⟩
 ·obtain⟨a1,a2,a3,a4,a5,a6,a7⟩:=H.h5 h;exact⟨a1,a2,by omega,by rw[c _ _ a3];exact a4,by rw[c _ _ a3];exact a5,fun o=>(f _ _ a3).trans (a6 o),a7⟩
 ·obtain⟨_,_,a3,_⟩:=H.h4 (H.h6a h).2.2.1;exact(c _ _ a3).trans (H.h6 h)
 ·obtain⟨_,_,a3,_⟩:=H.h5 (H.h7a h).2.2.2.1;exact⟨(c _ _ a3).trans (H.h7 h).1,(c _ _ a3).trans (H.h7 h).2⟩
theorem zlm {lo hi:Nat} {w:World} (a:Addr) (v:Value) (h:a.block<lo\/hi<=a.block):KpI lo hi w (w.setCell a v):=⟨by simp,fun k h1 h2=>wbJ _ _ _ _ oQ⟩
theorem zln {w:World} {b m:Nat} {g:Nat->Value} (h:Arr w b m g) (a:Addr) (v:Value) (hb:b≠a.block):Arr (w.setCell a v) b m g:=
 ⟨fun j hj=>by rw[waU _ _ _ _ (by intro e;subst e;exact hb rfl)];exact h.1 j hj,fun j=>by rw[waS];exact h.2 j⟩
theorem LapI.set3 {c:Cl} {cs:Array Value} {gc:Nat->Value} {P:Int->Bool} {F U:Int} {w w':World} {l0 l2:Bool} {t3 t4 t8 t9 t10 t11:Value} {g:Nat} {lb:Array Value} {lo hi b3 b4:Nat}
 (H:LapI c cs gc P F U w w' l0 true l2 true true true false false t3 t4 t8 t9 t10 t11 g lb lo hi b3 b4):LapI c cs gc P F U w (w'.setCell ⟨b3,0,none⟩ t9) l0 true l2 true true true true false t3 t4 t8 t9 t10 t11 g lb lo hi b3 b4:=by
 obtain⟨x1,x2,x3,x4,x5,x6⟩:=H.h4 rfl;obtain⟨y1,y2,y3,y4,y5,y6,y7⟩:=H.h5 rfl;have hne:=H.hne rfl rfl;have hz:(w'.setCell ⟨b3,0,none⟩ t9).heap.size=w'.heap.size:=by simp
 have o:∀k,(w'.setCell ⟨b3,0,none⟩ t9).cell? ⟨b4,k,none⟩=w'.cell? ⟨b4,k,none⟩:=fun k=>waU _ _ _ _ (by simp<;>omega)
 obtain⟨v0,hv0⟩:=wbO.1 x4;have hs:(w'.setCell ⟨b3,0,none⟩ t9).cell? ⟨b3,0,none⟩=some t9:=World.cell?_setCell_same' _ _ _ (by rw[hv0];rfl)
 refine⟨H.below.setCell (p:=⟨b3,0,none⟩) (by show w.heap.size<=b3;omega) _,zln H.arr _ _ (by show w.heap.size≠b3;omega),H.h0,H.h2,fun _=>?_,H.h3,fun _=>⟨x1,x2,by omega,by rw[hs];rfl,fun o=>by rw[waS];exact x5 o,x6⟩,fun _=>⟨y1,y2,by omega,by rw[o];exact y4,by rw[o];exact y5,fun o=>by rw[waS];exact y6 o,y7⟩,fun _ _=>hne,fun _=>⟨rfl,rfl,rfl,rfl⟩,fun _=>hs,by simp,by simp⟩
 obtain⟨a1,a2,a3,a4,a5⟩:=H.h1 rfl;exact⟨a1,a2,a3.later (zlm _ _ (x6 rfl)),a4,by omega⟩
theorem LapI.set4 {c:Cl} {cs:Array Value} {gc:Nat->Value} {P:Int->Bool} {F U:Int} {w w':World} {l0 l2:Bool} {t3 t4 t8 t9 t10 t11:Value} {g:Nat} {lb:Array Value} {lo hi b3 b4:Nat}
 (H:LapI c cs gc P F U w w' l0 true l2 true true true true false t3 t4 t8 t9 t10 t11 g lb lo hi b3 b4):LapI c cs gc P F U w ((w'.setCell ⟨b4,0,none⟩ (.int .i64 F)).setCell ⟨b4,1,none⟩ (.int .i64 U)) l0 true l2 true true true true true t3 t4 t8 t9 t10 t11 g lb lo hi b3 b4:=by
 obtain⟨x1,x2,x3,x4,x5,x6⟩:=H.h4 rfl;obtain⟨y1,y2,y3,y4,y5,y6,y7⟩:=H.h5 rfl;have hne:=H.hne rfl rfl;have h6:=H.h6 rfl;obtain⟨W,hW⟩:∃W,(w'.setCell ⟨b4,0,none⟩ (.int .i64 F)).setCell ⟨b4,1,none⟩ (.int .i64 U)=W:=⟨_,rfl⟩;have hz:W.heap.size=w'.heap.size:=by rw[<-hW];simp
 have o:∀k,W.cell? ⟨b3,k,none⟩=w'.cell? ⟨b3,k,none⟩:=fun k=>by rw[<-hW,waU _ _ _ _ (by simp<;>omega),waU _ _ _ _ (by simp<;>omega)]
 have fr:∀b k,W.frozen? ⟨b,k,none⟩=w'.frozen? ⟨b,k,none⟩:=fun b k=>by rw[<-hW,waS,waS]
 have s0:W.cell? ⟨b4,0,none⟩=some (.int .i64 F):=by
  rw[<-hW,waU _ _ _ _ (by simp)]
  obtain⟨v0,hv0⟩:=wbO.1 y4;exact World.cell?_setCell_same' _ _ _ (by rw[hv0];rfl)
 have s1:W.cell? ⟨b4,1,none⟩=some (.int .i64 U):=by
  rw[<-hW];obtain⟨v0,hv0⟩:=wbO.1 y5;exact World.cell?_setCell_same' _ _ _ (by rw[waU _ _ _ _ (by simp),hv0];rfl)
 have kp:KpI lo hi w' W:=by rw[<-hW];exact(zlm _ _ (y7 rfl)).trans (zlm _ _ (y7 rfl))
 have hb:Below w.heap.size w W:=by rw[<-hW];exact(H.below.setCell (p:=⟨b4,0,none⟩) (by show w.heap.size<=b4;omega) _).setCell (p:=⟨b4,1,none⟩) (by show w.heap.size<=b4;omega) _
 have ha:Arr W w.heap.size 30 gc:=by rw[<-hW];exact zln (zln H.arr _ _ (by show w.heap.size≠b4;omega)) _ _ (by show w.heap.size≠b4;omega)
 rw[hW];refine⟨hb,ha,H.h0,H.h2,fun _=>?_,H.h3,fun _=>⟨x1,x2,by omega,by rw[o];exact x4,fun o=>by rw[fr];exact x5 o,x6⟩,fun _=>⟨y1,y2,by omega,by rw[s0];rfl,by rw[s1];rfl,fun o=>by rw[fr];exact y6 o,y7⟩,fun _ _=>hne,fun _=>⟨rfl,rfl,rfl,rfl⟩,fun _=>by rw[o];exact h6,fun _=>⟨rfl,rfl,rfl,rfl,rfl⟩,fun _=>⟨s0,s1⟩⟩
 obtain⟨a1,a2,a3,a4,a5⟩:=H.h1 rfl;exact⟨a1,a2,a3.later kp,a4,by omega⟩
theorem zsO (c:Cl) (hc:zbC c) (hs:c.s<=9223372036854775807) (w:World):Calls prog 71 #[.agg (clA c)] w (zxn c w):=by
 have eg:∀args w,(callFunc 135 args).run prog w=.ok (.enter 135 args) w:=enters_of func135 kQ rfl;have EG:=waV eg;have HD:=waV (fun W=>zpP c hc W)
 have HS:=waV (fun W=>zjW c W)
 have HY:=waV (fun W=>zgM (spF c) (spU c) W)
 have HI:=waV (zbV c);have HA:=waV (fun w b h=>@zvu c w b h)
 have hX:Below w.heap.size w (w.alloc (.cells (clA c) 60))/\Arr (w.alloc (.cells (clA c) 60)) w.heap.size 30 (gC c):=⟨(waC _ w).alloc (waJ _) _,zgH w c 60⟩;have HX:=waV hX;have h1c:(Value.agg (clA c)).oneCell'=false:=rfl;have HR:Hid (∀bS bF bU bH bA bC g lb sm F1 U1 lo' hi' w',(w.heap.size<=bS/\bS<w'.heap.size)->(w.heap.size<=bF/\bF<w'.heap.size)->(w.heap.size<=bU/\bU<w'.heap.size)->(w.heap.size<=bH/\bH<w'.heap.size)->(w.heap.size<=bA/\bA<w'.heap.size)->(w.heap.size<=bC/\bC<w'.heap.size)->w.heap.size<=lo'->hi'<=w'.heap.size->
  w'.cell? ⟨bS,0,none⟩=some (.bool sm)->w'.cell? ⟨bF,0,none⟩=some (.int .i64 F1)->w'.cell? ⟨bU,0,none⟩=some (.int .i64 U1)->w'.cell? ⟨bH,0,none⟩=some (.func (.func g) #[] lb)->w'.cell? ⟨bA,0,none⟩=some (.int .i64 (spF c))->w'.cell? ⟨bA,1,none⟩=some (.int .i64 (spU c))->Arr w' bC 30 (gC c)->
  (∀args w,(callFunc g args).run prog w=.ok (.enter g args) w)->zbu g lb (zjY c) lo' hi' w'->((sm=false/\spU c<0)\/(sm=true/\0<=spU c/\F1=spF c / 86400/\U1=spU c / 86400))->
  zgN 135 #[.pointer (some ⟨bS,0,none⟩),.pointer (some ⟨bF,0,none⟩),.pointer (some ⟨bU,0,none⟩),.pointer (some ⟨bH,0,none⟩),.pointer (some ⟨bA,0,none⟩),.pointer (some ⟨bC,0,none⟩)] c w.heap.size w'.heap.size w'):=
  fun bS bF bU bH bA bC g lb sm F1 U1 lo' hi' w' a1 a2 a3 a4 a5 a6 a7 a8 b1 b2 b3 b4 b5 b6 b7 b8 b9 b10=>zpY c bS bF bU bH bA bC g lb sm F1 U1 w.heap.size w'.heap.size lo' hi' w' a1 a2 a3 a4 a5 a6 a7 a8 (waJ _) b1 b2 b3 b4 b5 b6 b7 b8 b9 hs b10
 have hy:(spU c<0/\zj1 (spF c) (spU c)=.tuple #[.int .i64 0,.int .i64 0,.bool false])\/(0<=spU c/\zj1 (spF c) (spU c)=.tuple #[.int .i64 (spF c / 86400),.int .i64 (spU c / 86400),.bool true]):=by
  obtain⟨e1,e2⟩:=zpV c.f c.t;unfold zj1;have e3:zaw (spF c) (spU c)=spF c:=e1;have e4:zao (spF c) (spU c)=spU c:=e2;rw[e3,e4]
  by_cases h:spU c<0
  ·exact .inl ⟨h,if_pos h⟩
  ·exact .inr ⟨by omega,if_neg h⟩
 have hsp:spF c=zaw c.f c.t/\spU c=zao c.f c.t:=⟨rfl,rfl⟩;rw[<-hsp.1,<-hsp.2] at HS;clear hX hc eg hsp;generalize zjY c=P at *;generalize spF c=F at *;generalize spU c=U at *;generalize gC c=gc at *;generalize clA c=cs at *;go_enter func71,ntmps71;go_wp2_with fail;refine zfd kQ kQ (I:=fun L a w'=>∃(l0 l1 l2 l3 l4 l5 l6 l7:Bool) (t3 t4 t8 t9 t10 t11:Value) (g:Nat) (lb:Array Value) (lo hi b3 b4:Nat),L=#[l0,l1,l2,l3,l4,l5,l6,l7]/\
  a={tmps:=#[.agg cs,.pointer (some ⟨w.heap.size,0,none⟩),.nilFunc,t3,t4,undef,undef,undef,t8,t9,t10,t11,undef,undef,undef,undef,undef,undef,undef],defers:=[]}/\
  Hid (LapI c cs gc P F U w w' l0 l1 l2 l3 l4 l5 l6 l7 t3 t4 t8 t9 t10 t11 g lb lo hi b3 b4)) ?size ?start ?step ?done
 case size=>
  rintro L a w' ⟨l0,l1,l2,l3,l4,l5,l6,l7,t3,t4,t8,t9,t10,t11,g,lb,lo,hi,b3,b4,rfl,_⟩;rfl
 case start=>exact⟨false,false,false,false,false,false,false,false,_,_,_,_,_,_,0,#[],0,0,0,0,rfl,rfl,⟨HX.out.1.drew,HX.out.2,by simp,by simp,by simp,by simp,by simp,by simp,by simp,by simp,by simp,by simp,by simp⟩⟩
 case step=>
  rintro L a w' i o ⟨l0,l1,l2,l3,l4,l5,l6,l7,t3,t4,t8,t9,t10,t11,g,lb,lo,hi,b3,b4,rfl,rfl,H⟩ ho h2 h3;have hi8:i<8:=(waL.1 ho).1;obtain rfl|rfl|rfl|rfl|rfl|rfl|rfl|rfl:i=0\/i=1\/i=2\/i=3\/i=4\/i=5\/i=6\/i=7:=by omega
  ·have e0:l0=false:=h2;subst e0;obtain rfl:=waB ho;refine zcM rfl ?_;have HB:=waV (zdM (HA.out _ _ H.out.arr))
   go_wp2_with (first|(refine zag (by rfl) 60 _ rfl cs w.heap.size 0 rfl underlying60 rfl HI.out HB.out ?_)|fail)
   exact⟨true,l1,l2,l3,l4,l5,l6,l7,t3,t4,.agg cs,t9,t10,t11,g,lb,lo,hi,b3,b4,rfl,rfl,{H.out with h0:=fun _=>rfl}⟩
  ·have e0:l1=false:=h2;subst e0;obtain rfl:=waB ho;have d0:l0=true:=h3 ⟨0,.data⟩ (by simp) rfl
   obtain rfl:=H.out.h0 d0;have n6:l6=false:=by cases h:l6 with|false=>rfl|true=>exact absurd (H.out.h6a h).1 dQ
   have n7:l7=false:=by cases h:l7 with|false=>rfl|true=>exact absurd (H.out.h7a h).1 dQ
   subst n6 n7;clear h3 h2 ho;refine zcM rfl ?_
   go_wp2_with (go_at_call 132;refine(HD.out _).mono ?_;rintro e w1 ⟨g',lb',rfl,hg,hp,hq1⟩)
   have HM:=H.out.mono hq1;have hz:=Arr.lt H.out.arr dQ;exact⟨l0,true,l2,l3,l4,l5,false,false,t3,t4,.agg cs,.func (.func g') #[] lb',t10,t11,g',lb',w'.heap.size,w1.heap.size,b3,b4,rfl,rfl,⟨HM.below,HM.arr,HM.h0,HM.h2,fun _=>⟨rfl,hg,hp,hz,waJ _⟩,HM.h3,
    fun h=>by obtain⟨a1,a2,a3,a4,a5,a6⟩:=HM.h4 h;exact⟨a1,a2,a3,a4,a5,fun _=>.inl (H.out.h4 h).2.2.1⟩,fun h=>by obtain⟨a1,a2,a3,a4,a5,a6,a7⟩:=HM.h5 h;exact⟨a1,a2,a3,a4,a5,a6,fun _=>.inl (H.out.h5 h).2.2.1⟩,HM.hne,by simp,by simp,by simp,by simp⟩⟩
  ·have e0:l2=false:=h2;subst e0;obtain rfl:=waB ho;clear h3 h2 ho;refine zcM rfl ?_;have HB:=waV (zdM (HA.out _ _ H.out.arr))
   go_wp2_with (first|(refine zag (by rfl) 60 _ rfl cs w.heap.size 0 rfl underlying60 rfl HI.out HB.out ?_)|fail)
   exact⟨l0,l1,true,l3,l4,l5,l6,l7,t3,t4,t8,t9,.agg cs,t11,g,lb,lo,hi,b3,b4,rfl,rfl,{H.out with h2:=fun _=>rfl}⟩
  ·have e0:l3=false:=h2;subst e0;obtain rfl:=waB ho;have d2:l2=true:=h3 ⟨2,.data⟩ (by simp) rfl
   obtain rfl:=H.out.h2 d2;have n6:l6=false:=by cases h:l6 with|false=>rfl|true=>exact absurd (H.out.h6a h).2.1 dQ
   have n7:l7=false:=by cases h:l7 with|false=>rfl|true=>exact absurd (H.out.h7a h).2.1 dQ
   subst n6 n7;clear h3 h2 ho;refine zcM rfl ?_
   go_wp2_with (go_at_call 133;refine(HS.out _).mono ?_;rintro e w1 ⟨rfl,hq1⟩)
   have HM:=H.out.mono hq1;exact⟨l0,l1,l2,true,l4,l5,false,false,t3,t4,t8,t9,.agg cs,.agg #[.int .i64 F,.int .i64 U],g,lb,lo,hi,b3,b4,rfl,rfl,{HM with h3:=fun _=>rfl,h6a:=by simp,h6:=by simp,h7a:=by simp,h7:=by simp}⟩
  ·have e0:l4=false:=h2;subst e0;obtain rfl:=waB ho;have n6:l6=false:=by cases h:l6 with|false=>rfl|true=>exact absurd (H.out.h6a h).2.2.1 dQ
   have n7:l7=false:=by cases h:l7 with|false=>rfl|true=>exact absurd (H.out.h7a h).2.2.1 dQ
   subst n6 n7;clear h3 h2 ho;refine zcM rfl ?_;go_wp2;have hqa:Below w'.heap.size w' (w'.alloc (.cells #[.nilFunc] 218)):=(waC _ w').alloc (waJ _) _;have HM:=H.out.mono hqa;have hz:=Arr.lt H.out.arr dQ;exact⟨l0,l1,l2,l3,true,l5,false,false,_,t4,t8,t9,t10,t11,g,lb,lo,hi,w'.heap.size,b4,rfl,rfl,{HM with h4:=fun _=>⟨rfl,hz,by simp,by rw[zaa rfl rfl];rfl,fun o=>by go_simp,fun h=>.inr (H.out.h1 h).2.2.2.2⟩,hne:=fun _ h e=>by have:=(H.out.h5 h).2.2.1;omega,h6a:=by simp,h6:=by simp,h7a:=by simp,h7:=by simp}⟩
  ·have e0:l5=false:=h2;subst e0;obtain rfl:=waB ho;have n6:l6=false:=by cases h:l6 with|false=>rfl|true=>exact absurd (H.out.h6a h).2.2.2 dQ
   have n7:l7=false:=by cases h:l7 with|false=>rfl|true=>exact absurd (H.out.h7a h).2.2.2.1 dQ
   subst n6 n7;clear h3 h2 ho;refine zcM rfl ?_;go_wp2;have hqa:Below w'.heap.size w' (w'.alloc (.cells #[.int .i64 0,.int .i64 0] 129)):=(waC _ w').alloc (waJ _) _;have HM:=H.out.mono hqa;have hz:=Arr.lt H.out.arr dQ;exact⟨l0,l1,l2,l3,l4,true,false,false,t3,_,t8,t9,t10,t11,g,lb,lo,hi,b3,w'.heap.size,rfl,rfl,{HM with h5:=fun _=>⟨rfl,hz,by simp,by rw[zaa rfl rfl];rfl,by rw[zaa rfl rfl];rfl,fun o=>by go_simp,fun h=>.inr (H.out.h1 h).2.2.2.2⟩,hne:=fun h _ e=>by have:=(H.out.h4 h).2.2.1;omega,h6a:=by simp,h6:=by simp,h7a:=by simp,h7:=by simp}⟩
  ·have e0:l6=false:=h2;subst e0;obtain rfl:=waB ho;have d1:l1=true:=h3 ⟨1,.data⟩ (by simp) rfl
   have d4:l4=true:=h3 ⟨4,.data⟩ (by simp) rfl
   have d3:l3=true:=h3 ⟨3,.chain⟩ (by simp) rfl
   have d5:l5=true:=h3 ⟨5,.phase⟩ (by simp) rfl
   have n7:l7=false:=by cases h:l7 with|false=>rfl|true=>exact absurd (H.out.h7a h).2.2.2.2 dQ
   subst n7 d1 d4 d3 d5;have HM:=waV H.out.set3;obtain⟨rfl,x2,x3,x4,x5,x6⟩:=H.out.h4 rfl;obtain⟨rfl,y2,y3,y4,y5⟩:=H.out.h1 rfl;obtain⟨v0,x4⟩:=wbO.1 x4;clear h3 h2 ho H;refine za3 rfl fun K' hK=>?_
   have HK:=waV hK;clear hK;go_wp2;exact HK.out _ _ ⟨l0,true,l2,true,true,true,true,false,_,_,_,_,_,_,g,lb,lo,hi,b3,b4,rfl,rfl,HM.out⟩
  ·have e0:l7=false:=h2;subst e0;obtain rfl:=waB ho;have d5:l5=true:=h3 ⟨5,.data⟩ (by simp) rfl
   have d3:l3=true:=h3 ⟨3,.data⟩ (by simp) rfl
   have d6:l6=true:=h3 ⟨6,.chain⟩ (by simp) rfl
   have d1:l1=true:=h3 ⟨1,.phase⟩ (by simp) rfl
   have d4:l4=true:=h3 ⟨4,.phase⟩ (by simp) rfl
   subst d1 d4 d3 d5 d6;have HM:=waV H.out.set4;obtain⟨rfl,y2,y3,y4,y5,y6,y7⟩:=H.out.h5 rfl;obtain rfl:=H.out.h3 rfl;obtain⟨v0,x4⟩:=wbO.1 y4;obtain⟨v1,x5⟩:=wbO.1 y5;clear h3 h2 ho H y4 y5;refine za3 rfl fun K' hK=>?_
   have HK:=waV hK;clear hK;go_wp2;exact HK.out _ _ ⟨l0,true,l2,true,true,true,true,true,_,_,_,_,_,_,g,lb,lo,hi,b3,b4,rfl,rfl,HM.out⟩
 case done=>
  rintro L a w' ⟨l0,l1,l2,l3,l4,l5,l6,l7,t3,t4,t8,t9,t10,t11,g,lb,lo,hi,b3,b4,rfl,rfl,H⟩ hd;have d0:l0=true:=hd 0 dQ;have d1:l1=true:=hd 1 dQ;have d2:l2=true:=hd 2 dQ;have d3:l3=true:=hd 3 dQ;have d4:l4=true:=hd 4 dQ;have d5:l5=true:=hd 5 dQ;have d6:l6=true:=hd 6 dQ;have d7:l7=true:=hd 7 dQ;clear hd;subst d0 d1 d2 d3 d4 d5 d6 d7;obtain⟨rfl,x2,x3,x4,x5,x6⟩:=H.out.h4 rfl;obtain⟨rfl,y2,y3,y4,y5,y6,y7⟩:=H.out.h5 rfl;obtain⟨rfl,z2,z3,z4,z5⟩:=H.out.h1 rfl;have c3:=H.out.h6 rfl;obtain⟨c40,c41⟩:=H.out.h7 rfl;have HBw:=waV H.out.below;have HAr:=waV H.out.arr;have HP:=waV z3;have HZ:=waV z2;have hwz:=Arr.lt H.out.arr dQ;clear H x4 y4 y5 z2 z3;go_wp2_with fail;refine(HY.out _).mono ?_;rintro e w3 ⟨rfl,hq3⟩;have bc:=zad hq3;have k3:=(bc.1 b3 0 x3).trans c3;have k40:=(bc.1 b4 0 y3).trans c40;have k41:=(bc.1 b4 1 y3).trans c41;have HA3:=waV (Arr.below HAr.out hwz hq3);have HB3:=waV (zaf HBw.out hq3 HBw.out.size);have HP3:=waV (HP.out.later (KpI.of_below hq3 z5));have hz3:=hq3.size;clear bc c3 c40 c41 HAr HBw HP hq3;rcases hy with ⟨hy1,hy2⟩|⟨hy1,hy2⟩
  ·rw[hy2];go_wp2;go_ret;obtain⟨q0,q1,q2⟩:=zeQ w3 (.int .i64 0) (.int .i64 0) (.bool false) 2 2 4;have hb5:Below w3.heap.size w3 (((w3.alloc (.cells #[.int .i64 0] 2)).alloc (.cells #[.int .i64 0] 2)).alloc (.cells #[.bool false] 4)):=(((waC _ w3).alloc (waJ _) _).alloc (by simp) _).alloc (by simp;omega) _
   have hz5:w3.heap.size+3=(((w3.alloc (.cells #[.int .i64 0] 2)).alloc (.cells #[.int .i64 0] 2)).alloc (.cells #[.bool false] 4)).heap.size:=by simp
   have hwz3:=HB3.out.size;generalize (((w3.alloc (.cells #[.int .i64 0] 2)).alloc (.cells #[.int .i64 0] 2)).alloc (.cells #[.bool false] 4))=w5 at *;have bc5:=zad hb5;exact⟨_,_,rfl,EG.out,HR.out _ _ _ _ _ _ g lb false 0 0 lo hi w5 ⟨by omega,by omega⟩ ⟨by omega,by omega⟩ ⟨by omega,by omega⟩ ⟨by omega,by omega⟩ ⟨by omega,by omega⟩ ⟨by omega,by omega⟩ oQ oQ q2 q0 q1 ((bc5.1 b3 0 oQ).trans k3) ((bc5.1 b4 0 oQ).trans k40) ((bc5.1 b4 1 oQ).trans k41) (Arr.below HA3.out oQ hb5) HZ.out
    (HP3.out.later (KpI.of_below hb5 oQ)) (.inl ⟨rfl,hy1⟩),zaf HB3.out hb5 hwz3⟩
  ·rw[hy2];go_wp2;go_ret;obtain⟨q0,q1,q2⟩:=zeQ w3 (.int .i64 (F / 86400)) (.int .i64 (U / 86400)) (.bool true) 2 2 4;have hb5:Below w3.heap.size w3 (((w3.alloc (.cells #[.int .i64 (F / 86400)] 2)).alloc (.cells #[.int .i64 (U / 86400)] 2)).alloc (.cells #[.bool true] 4)):=(((waC _ w3).alloc (waJ _) _).alloc (by simp) _).alloc (by simp;omega) _
   have hz5:w3.heap.size+3=(((w3.alloc (.cells #[.int .i64 (F / 86400)] 2)).alloc (.cells #[.int .i64 (U / 86400)] 2)).alloc (.cells #[.bool true] 4)).heap.size:=by simp
   have hwz3:=HB3.out.size;generalize (((w3.alloc (.cells #[.int .i64 (F / 86400)] 2)).alloc (.cells #[.int .i64 (U / 86400)] 2)).alloc (.cells #[.bool true] 4))=w5 at *;have bc5:=zad hb5;exact⟨_,_,rfl,EG.out,HR.out _ _ _ _ _ _ g lb true (F / 86400) (U / 86400) lo hi w5 ⟨by omega,by omega⟩ ⟨by omega,by omega⟩ ⟨by omega,by omega⟩ ⟨by omega,by omega⟩ ⟨by omega,by omega⟩ ⟨by omega,by omega⟩ oQ oQ q2 q0 q1 ((bc5.1 b3 0 oQ).trans k3) ((bc5.1 b4 0 oQ).trans k40) ((bc5.1 b4 1 oQ).trans k41) (Arr.below HA3.out oQ hb5) HZ.out
    (HP3.out.later (KpI.of_below hb5 oQ)) (.inr ⟨rfl,hy1,rfl,rfl⟩),zaf HB3.out hb5 hwz3⟩
end Go.Proofs.YtllcdbgjeidlkaaGreatDoor
namespace Go.Proofs.YtllcdbgjeidlkaaGreatDoor
open Go.Proofs.Tryz
theorem zlo {h m s:Nat} (hh:h<16777216) (hm:m<1152921504606846976) (hs:s<1152921504606846976):(zj5 h m s).Pairwise (·< ·):=by
 have s3:∀a b,(zdi a b (zam s)).Pairwise (·< ·):=fun a b=>by
  unfold zdi;rw[List.pairwise_map];exact(zaW s).imp (fun h=>by omega)
 have m3:∀a b x,x∈zdi a b (zam s)->∃c,c<60/\x=a * 3600+b * 60+c:=fun a b x hx=>by
  unfold zdi at hx;obtain⟨c,hc,rfl⟩:=List.mem_map.1 hx;exact⟨c,zfg (k:=60) hs hc,rfl⟩
 have s2:∀a,(zdx s a (zam m)).Pairwise (·< ·):=fun a=>by
  unfold zdx;rw[List.pairwise_flatMap];refine⟨fun b _=>s3 a b,(zaW m).imp fun {b b'} hb x hx y hy=>?_⟩
  obtain⟨c,hc,rfl⟩:=m3 a b x hx;obtain⟨c',hc',rfl⟩:=m3 a b' y hy;omega
 have m2:∀a x,x∈zdx s a (zam m)->∃c,c<3600/\x=a * 3600+c:=fun a x hx=>by
  unfold zdx at hx;obtain⟨b,hb,hx⟩:=List.mem_flatMap.1 hx;obtain⟨c,hc,rfl⟩:=m3 a b x hx;have:=zfg (k:=60) hm hb;exact⟨b * 60+c,by omega,by omega⟩
 show(zfh m s (zam h)).Pairwise (·< ·);unfold zfh;rw[List.pairwise_flatMap];refine⟨fun a _=>s2 a,(zaW h).imp fun {a a'} ha x hx y hy=>?_⟩
 obtain⟨c,hc,rfl⟩:=m2 a x hx;obtain⟨c',hc',rfl⟩:=m2 a' y hy;omega
theorem zbw (m n:Nat) (hn:n<64):zbA (m:Int) (n:Int)=m.testBit n:=by
 have e:(m:Int) / 2^(n:Int).toNat%2=((m / 2^n%2:Nat):Int):=by
  rw[Int.toNat_natCast];push_cast;rfl
 unfold zbA;rw[e,Nat.testBit_eq_decide_div_mod_eq,waQ,waM,waM];omega
theorem zmO {h m s k:Nat}:k∈zj5 (h&&&16777215) (m&&&1152921504606846975) (s&&&1152921504606846975)↔k<86400/\zdh (k:Int) (h:Int) (m:Int) (s:Int)=true:=by
 have e1:((k:Int) / 3600)=((k / 3600:Nat):Int):=by omega
 have e2:((k:Int) / 60%60)=((k / 60%60:Nat):Int):=by omega
 have e3:((k:Int)%60)=((k%60:Nat):Int):=by omega
 have b:∀x n c:Nat,c<64->(c∈zam (x&&&(2^n - 1))↔c<n/\x.testBit c=true):=fun x n c hc=>by
  rw[zaN,Nat.testBit_and,Nat.testBit_two_pow_sub_one];simp only[waN,waM];constructor
  ·rintro ⟨_,h1,h2⟩;exact⟨h2,h1⟩
  ·rintro ⟨h1,h2⟩;exact⟨hc,h2,h1⟩
 have b1:∀x c:Nat,(c∈zam (x&&&16777215)↔c<24/\x.testBit c=true):=fun x c=>by
  by_cases hc:c<64
  ·exact b x 24 c hc
  ·constructor
   ·intro h;exact absurd (zaN.1 h).1 hc
   ·rintro ⟨h,_⟩;omega
 have b2:∀x c:Nat,(c∈zam (x&&&1152921504606846975)↔c<60/\x.testBit c=true):=fun x c=>by
  by_cases hc:c<64
  ·exact b x 60 c hc
  ·constructor
   ·intro h;exact absurd (zaN.1 h).1 hc
   ·rintro ⟨h,_⟩;omega
 rw[zsN];unfold zdh;constructor
 ·rintro ⟨a,ha,b',hb,c,hc,rfl⟩;obtain⟨a1,a2⟩:=(b1 h a).1 ha;obtain⟨c1,c2⟩:=(b2 m b').1 hb;obtain⟨d1,d2⟩:=(b2 s c).1 hc;refine⟨by omega,?_⟩
  rw[e1,e2,e3,show(a * 3600+b' * 60+c) / 3600=a by omega,show(a * 3600+b' * 60+c) / 60%60=b' by omega,show(a * 3600+b' * 60+c)%60=c by omega,
   zbw _ _ oQ,zbw _ _ oQ,zbw _ _ oQ,a2,c2,d2]
  rfl
 ·rintro ⟨hk,ht⟩;rw[e1,e2,e3,zbw _ _ (by omega),zbw _ _ (by omega),zbw _ _ (by omega)] at ht
  simp only[waN] at ht;exact⟨k / 3600,(b1 _ _).2 ⟨by omega,ht.1⟩,k / 60%60,(b2 _ _).2 ⟨by omega,ht.2.1⟩,k%60,(b2 _ _).2 ⟨by omega,ht.2.2⟩,by omega⟩
theorem zka {L p:List Nat} {x:Nat} (hs:L.Pairwise (·< ·)) (hp:p++[x]<+:L) {k:Nat} (hk:k∈L) (hn:k ∉ p++[x]):x<k:=by
 obtain⟨r,rfl⟩:=hp;rcases wbB.1 hk with h|h
 ·exact absurd h hn
 ·exact(List.pairwise_append.1 hs).2.2 x (by simp) k h
end Go.Proofs.YtllcdbgjeidlkaaGreatDoor
namespace Go.Proofs.YtllcdbgjeidlkaaGreatDoor
open Go.Proofs.Tryz
open Go.RowKit Go.Shelf
def zcx (p:Nat->Bool) (s k:Nat):Nat:=mkN (fun j=>p (64 * k+j)&&decide (s<=64 * k+j)) 64
theorem zmP (p:Nat->Bool) (s k:Nat):zcx p s k<18446744073709551616:=zcI _ 64
theorem zgP {p:Nat->Bool} {s k:Nat} (h:s<=64 * k):zcx p s k=zau p k:=by
 unfold zcx zau;refine zbe fun j _=>?_
 rw[waP (by omega),Bool.and_true]
theorem zlp {p:Nat->Bool} {s k r:Nat} (h:s=64 * k+r) (hr:r<64):zau p k>>>r<<<r=zcx p s k:=by
 apply Nat.eq_of_testBit_eq;intro j;rw[Nat.testBit_shiftLeft,Nat.testBit_shiftRight];unfold zcx zau;rw[za9,za9]
 by_cases h1:r<=j
 ·rw[show r+(j - r)=j by omega]
  rw[waP (p:=s<=64 * k+j) (by omega)]
  simp[h1]
 ·rw[waO (p:=s<=64 * k+j) (by omega)]
  simp[h1]
theorem zfj {p:Nat->Bool} {s k j:Nat}:j∈zam (zcx p s k)↔j<64/\p (64 * k+j)=true/\s<=64 * k+j:=by
 rw[zaN];unfold zcx;rw[za9]
 by_cases h:j<64
 ·simp[h]
 ·simp[h]
def zea (p:Nat->Bool) (s x:Nat):Prop:=x<86400/\s<=x/\p x=true/\∀y,s<=y->y<x->p y=false
def zcO (p:Nat->Bool) (s:Nat):Prop:=∀y,s<=y->y<86400->p y=false
def zgQ (p:Nat->Bool) (s:Nat) (w:World) (e:Ending) (w':World):Prop:=w=w'/\((∃x,e=.returned (.tuple #[.int .i64 (x:Nat),.bool true])/\zea p s x)\/(e=.returned (.tuple #[.int .i64 0,.bool false])/\zcO p s))
theorem zh6 {p:Nat->Bool} {s k j:Nat} {r:List Nat} (hk:k<1350) (hb:zam (zcx p s k)=j::r) (hl:∀y,s<=y->y<64 * k->p y=false):zea p s (64 * k+j):=by
 have hj:=zfj.1 (show j∈zam (zcx p s k) by rw[hb];simp)
 refine⟨by omega,hj.2.2,hj.2.1,fun y h1 h2=>?_⟩
 by_cases hy:y<64 * k
 ·exact hl y h1 hy
 ·false_or_by_contra
  rename_i hn;have hp:p y=true:=by simpa using hn
  obtain⟨q,hq⟩:∃q,y=64 * k+q:=⟨y - 64 * k,by omega⟩
  subst hq;have hm:=zfj.2 (⟨by omega,hp,h1⟩:q<64/\p (64 * k+q)=true/\s<=64 * k+q)
  have hs:=zaW (zcx p s k);rw[hb] at hm hs;rcases List.mem_cons.1 hm with e|hm
  ·omega
  ·have:=(List.pairwise_cons.1 hs).1 q hm;omega
theorem zkb {p:Nat->Bool} {s k:Nat} (hb:zam (zcx p s k)=[]) (hl:∀y,s<=y->y<64 * k->p y=false):∀y,s<=y->y<64 * (k+1)->p y=false:=by
 intro y h1 h2
 by_cases hy:y<64 * k
 ·exact hl y h1 hy
 ·false_or_by_contra
  rename_i hn;obtain⟨q,hq⟩:∃q,y=64 * k+q:=⟨y - 64 * k,by omega⟩
  subst hq;have hm:=zfj.2 (⟨by omega,by simpa using hn,h1⟩:q<64/\p (64 * k+q)=true/\s<=64 * k+q)
  rw[hb] at hm;cases hm
theorem zuM {k:IntKind} {a b:Int} {c:Bool} (h:a=b):Ending.returned (.tuple #[.int k a,.bool c])=.returned (.tuple #[.int k b,.bool c]):=by rw[h]
theorem zp7 (s:Int) (w:World):Calls prog 31 #[.pointer none,.int .i64 s] w (zbE (.tuple #[.int .i64 0,.bool false]) w):=by
 go_enter func31,ntmps31;go_wp2
 all_goals go_ret2
 all_goals exact⟨rfl,rfl⟩
theorem zkc (b s:Nat) (p:Nat->Bool) (w:World) (hd:DiscAt w b p) (hw:Tz w) (hs9:s<=1000000):Calls prog 31 #[.pointer (some ⟨b,0,none⟩),.int .i64 s] w (zgQ p s w):=by
 have HM:=waV (fun W=>zgm (s:Int) W)
 have s0:(0:Int)<=(s:Int):=by omega
 have s0':¬(s:Int)<0:=by omega
 by_cases hs:s<86400
 ·rw[waP (p:=0<=(s:Int)/\(s:Int)<86400) (by omega)] at HM
  obtain⟨k0,hk0⟩:∃i,i=s / 64:=⟨_,rfl⟩;obtain⟨r,hr⟩:∃j,j=s%64:=⟨_,rfl⟩;have hkr:s=64 * k0+r:=by omega
  have hr64:r<64:=by omega
  have hk1:k0<1350:=by omega
  have q1:(s:Int) / 64=(k0:Int):=by omega
  have q2:(s:Int)%64=(r:Int):=by omega
  have c0:=hd.cells k0 hk1;have hb:=hd.lt;have HW:Hid (IntKind.u64.wrap ((zau p k0:Nat) / 2^r * 2^r)=(zcx p s k0:Nat)):=by
   have:=zh3 (m:=zau p k0) (k:=r) (zmG _ _ (zbv p k0));rw[zlp hkr hr64] at this;exact this
  have HL0:Hid (∀y,s<=y->y<64 * k0->p y=false):=fun y h1 h2=>by omega
  have HD:=waV hd;have HTz:=waV hw;have hks:s<64 * k0+64:=by omega
  clear hd hw hkr hk0 hr hs;generalize zau p k0=W0 at *;have k0':(0:Int)<=(k0:Int):=by omega
  have k1':(k0:Int)<1350:=by omega
  have jn:¬(r:Int)<0:=by omega
  go_enter func31,ntmps31;go_wp2_with fail;refine(HM.out _).mono ?_;rintro e w1 ⟨rfl,rfl⟩;go_wp2;rw[HW.out];clear HW c0 q1 q2 jn k0' k1' hr64
  go_loopw [6,7] (fun m i wr=>(∃k:Nat,i=.int .i64 k/\k<1350/\m=.int .u64 (zcx p s k:Nat)/\s<64 * k+64/\Hid (∀y,s<=y->y<64 * k->p y=false))/\wr=w) (fun _ i _=>1350 - (intOf i).toNat)
  case atStart=>exact⟨⟨k0,rfl,hk1,rfl,hks,HL0⟩,rfl⟩
  case round=>
   obtain⟨⟨k,rfl,hk,rfl,hs2,HL⟩,rfl⟩:=hrel;have HA:=waV (fun W (hW:Tz W)=>zff (zcx p s k) (zmP p s k) W hW)
   unfold zeL zhE at HA;have HF:=waV (fun j r (h:zam (zcx p s k)=j::r)=>zh6 hk h HL.out)
   have HN:=waV (fun(h:zam (zcx p s k)=[])=>zkb h HL.out)
   have hj:∀j r,zam (zcx p s k)=j::r->j<64:=fun j r h=>(zfj.1 (show j∈zam (zcx p s k) by rw[h];simp)).1
   generalize zcx p s k=M at *;cases hl:zam M with
   |nil=>
    have hn:=HN.out hl;rw[hl] at HA;simp only[zi3,List.isEmpty_nil,Bool.not_true] at HA
    by_cases h9:k+1=1350
    ·have HNo:Hid (zcO p s):=fun y h1 h2=>hn y h1 oQ
     have e9:((k:Int)+1==1350)=true:=by simp;omega
     clear hn hl hj HF HN HL HM HD;go_wp2_with fail;refine(HA.out _ HTz.out).mono ?_;rintro e w1 ⟨rfl,rfl⟩;go_wp2
     go_ret2
     exact⟨rfl,.inr ⟨rfl,HNo.out⟩⟩
    ·have e9:((k:Int)+1==1350)=false:=by simp;omega
     have c1:=HD.out.cells (k+1) oQ;have hb2:=HD.out.lt;have HLn:=waV hn;have HE:Hid (zcx p s (k+1)=zau p (k+1)):=by
      show _=_;exact zgP oQ
     clear hn hl hj HF HN HL HM HD;go_wp2_with fail;refine(HA.out _ HTz.out).mono ?_;rintro e w1 ⟨rfl,rfl⟩;go_wp2;go_roundw
     case rel=>exact⟨⟨k+1,by go_num,by omega,by rw[HE.out],by omega,HLn⟩,trivial⟩
     case measure=>simp [intOf];omega
   |cons j r=>
    have hf:=HF.out j r hl;have hj64:=hj j r hl;rw[hl] at HA;simp only[zi3,List.isEmpty_cons,Bool.not_false] at HA;have HF2:=waV hf;clear hf hl hj HF HN HL HM HD;go_wp2_with fail;refine(HA.out _ HTz.out).mono ?_;rintro e w1 ⟨rfl,rfl⟩;go_wp2
    go_ret2
    exact⟨rfl,.inl ⟨64 * k+j,zuM (by push_cast;omega),HF2.out⟩⟩
 ·rw[waO (p:=0<=(s:Int)/\(s:Int)<86400) (by omega)] at HM
  have HNo:Hid (zcO p s):=fun y h1 h2=>by omega
  have hb:=hd.lt;clear hd hw;go_enter func31,ntmps31;go_wp2_with fail;refine(HM.out _).mono ?_;rintro e w1 ⟨rfl,rfl⟩;go_wp2
  go_ret2
  exact⟨rfl,.inr ⟨rfl,HNo.out⟩⟩
theorem zkd {v:Value} {p:Nat->Bool} (i:Nat) (hi:i<1350) (w:World) (h:zdN w v p):Calls prog 131 #[v,.int .i64 i] w (zbE (.int .u64 (zau p i:Nat)) w):=by
 rcases h with ⟨rfl,hn⟩|⟨b,rfl,hd⟩
 ·have e:zau p i=0:=by
   rw[<-zh4 i];unfold zau;exact zbe fun j hj=>hn _ oQ
  rw[e];exact zp0 _ w
 ·exact zp1 b i p hi w hd
def zi8 (f:Nat->Nat->Nat) (h:Bool->Bool->Bool):Prop:=∀x y,x<18446744073709551616->y<18446744073709551616->f x y<18446744073709551616/\∀j,(f x y).testBit j=h (x.testBit j) (y.testBit j)
theorem zke {f:Nat->Nat->Nat} {h:Bool->Bool->Bool} (hf:zi8 f h) (p q:Nat->Bool) (i:Nat):f (zau p i) (zau q i)=zau (fun x=>h (p x) (q x)) i:=by
 obtain⟨h1,h2⟩:=hf _ _ (zbv p i) (zbv q i);apply Nat.eq_of_testBit_eq;intro j
 by_cases hj:j<64
 ·rw[h2,zb2 p i j hj,zb2 q i j hj,zb2 (fun x=>h (p x) (q x)) i j hj]
 ·have h64:18446744073709551616<=2^j:=Nat.pow_le_pow_right (n:=2) dQ (show 64<=j by omega)
  rw[waX (waD h1 h64),waX (waD (zbv _ i) h64)]
theorem zlq:zi8 (fun x y=>x^^^y) (fun a b=>a^^b):=fun x y hx hy=>⟨Nat.xor_lt_two_pow (n:=64) hx hy,fun j=>Nat.testBit_xor _ _ _⟩
theorem zmQ (va vb:Value) (p q:Nat->Bool) (g:Nat) (f:Nat->Nat->Nat) (h:Bool->Bool->Bool) (hf:zi8 f h) (w:World) (hw:Tz w) (ha:zdN w va p) (hb:zdN w vb q)
 (eg:∀args w,(callFunc g args).run prog w=.ok (.enter g args) w) (hg:∀x y:Nat,x<18446744073709551616->y<18446744073709551616->Calls prog g #[.int .u64 x,.int .u64 y] w (zbE (.int .u64 (f x y:Nat)) w)):
 Calls prog 69 #[va,vb,.func (.func g) #[] #[]] w (zgQ (fun x=>h (p x) (q x)) 0 w):=by
 have HA:=waV (fun i hi=>zkd i hi w ha)
 have HB:=waV (fun i hi=>zkd i hi w hb)
 have HG:=waV (fun i=>hg (zau p i) (zau q i) (zbv p i) (zbv q i))
 have HE:=waV eg;have HW:=waV hw;have HBW:=waV hf;clear ha hb hg eg hw;go_enter func69,ntmps69;go_wp2
 go_loopw [11] (fun i wr=>(∃k:Nat,i=.int .i64 k/\k<=1350/\Hid (∀y,0<=y->y<64 * k->h (p y) (q y)=false))/\wr=w) (fun i _=>1350 - (intOf i).toNat)
 case atStart=>exact⟨⟨0,rfl,by omega,fun y _ h2=>by omega⟩,rfl⟩
 case round=>
  obtain⟨⟨k,rfl,hk,HL⟩,rfl⟩:=hrel
  by_cases hlt:k<1350
  ·have hlt':(k:Int)<1350:=by omega
   have H1:=waV (HA.out k hlt);have H2:=waV (HB.out k hlt);have H3:=waV (HG.out k);have hwd:f (zau p k) (zau q k)=zcx (fun x=>h (p x) (q x)) 0 k:=by rw[zke HBW.out,zgP (waK _)]
   rw[hwd] at H3;have H4:=waV (zff (zcx (fun x=>h (p x) (q x)) 0 k) (zmP _ 0 k) wr HW.out)
   unfold zeL zhE at H4;have HF:=waV (fun j r (e:zam (zcx (fun x=>h (p x) (q x)) 0 k)=j::r)=>zh6 hlt e HL.out)
   have HN:=waV (fun(e:zam (zcx (fun x=>h (p x) (q x)) 0 k)=[])=>zkb e HL.out)
   generalize zcx (fun x=>h (p x) (q x)) 0 k=M at *
   generalize zau p k=W1 at *;generalize zau q k=W2 at *;cases hl:zam M with
   |nil=>
    have HLn:=waV (HN.out hl);rw[hl] at H4;simp only[zi3,List.isEmpty_nil,Bool.not_true] at H4;clear hl HF HN HL hwd;have eg:=HE.out;go_wp2_with fail;refine H1.out.mono ?_;rintro e w1 ⟨rfl,rfl⟩;go_wp2_with fail;refine H2.out.mono ?_;rintro e w1 ⟨rfl,rfl⟩
    go_wp2_with (go_at_fn g;refine H3.out.mono ?_;rintro e w1 ⟨rfl,rfl⟩)
    refine H4.out.mono ?_;rintro e w1 ⟨rfl,rfl⟩;go_wp2;go_roundw
    case rel=>exact⟨⟨k+1,by go_num,by omega,HLn⟩,trivial⟩
    case measure=>simp [intOf];omega
   |cons j r=>
    have HX:=waV (HF.out j r hl);rw[hl] at H4;simp only[zi3,List.isEmpty_cons,Bool.not_false] at H4;have hj64:j<64:=(zaN.1 (show j∈zam M by rw[hl];simp)).1
    clear hl HF HN HL hwd;have eg:=HE.out;go_wp2_with fail;refine H1.out.mono ?_;rintro e w1 ⟨rfl,rfl⟩;go_wp2_with fail;refine H2.out.mono ?_;rintro e w1 ⟨rfl,rfl⟩
    go_wp2_with (go_at_fn g;refine H3.out.mono ?_;rintro e w1 ⟨rfl,rfl⟩)
    refine H4.out.mono ?_;rintro e w1 ⟨rfl,rfl⟩;go_wp2
    go_ret2
    exact⟨rfl,.inl ⟨64 * k+j,zuM (by push_cast;omega),HX.out⟩⟩
  ·obtain rfl:k=1350:=by omega
   have HX:Hid (zcO (fun x=>h (p x) (q x)) 0):=fun y h1 h2=>HL.out y h1 oQ
   clear HL;go_wp2
   go_ret2
   exact⟨rfl,.inr ⟨rfl,HX.out⟩⟩
theorem zlr (x y:Nat) (hx:x<18446744073709551616) (hy:y<18446744073709551616) (w:World):Calls prog 70 #[.int .u64 x,.int .u64 y] w (zbE (.int .u64 (x^^^y:Nat)) w):=by
 have HE:=waV (bits_xor_u64_nat x y hx hy);go_enter func70,ntmps70;go_wp2;go_ret;exact⟨zaR HE.out,rfl⟩
theorem zh7 (va vb:Value) (p q:Nat->Bool) (w:World) (hw:Tz w) (ha:zdN w va p) (hb:zdN w vb q):Calls prog 26 #[va,vb] w (zgQ (fun x=>p x^^q x) 0 w):=by
 have H:=waV (zmQ va vb p q 70 (fun x y=>x^^^y) (fun a b=>a^^b) zlq w hw ha hb (enters_of func70 kQ rfl) (fun x y hx hy=>zlr x y hx hy w))
 clear ha hb hw;go_enter func26,ntmps26;go_wp2_with fail;refine H.out.mono ?_;rintro e w1 ⟨rfl,⟨x,rfl,hx⟩|⟨rfl,hx⟩⟩
 ·have HX:=waV hx;clear hx;go_wp2
  go_ret2
  exact⟨rfl,.inl ⟨x,rfl,HX.out⟩⟩
 ·have HX:=waV hx;clear hx;go_wp2
  go_ret2
  exact⟨rfl,.inr ⟨rfl,HX.out⟩⟩
end Go.Proofs.YtllcdbgjeidlkaaGreatDoor
