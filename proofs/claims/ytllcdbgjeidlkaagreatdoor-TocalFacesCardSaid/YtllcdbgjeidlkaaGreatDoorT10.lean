/- A part of the proof: WLap -/
import Derived.Test.YtllcdbgjeidlkaaGreatDoorT09
import Derived.Orders
import Derived.Tactics
import Derived.Test.YtllcdbgjeidlkaaGreatDoorT05
import Derived.Laws.Bits64b
set_option maxHeartbeats 80000000
set_option maxRecDepth 100000
set_option linter.unusedSimpArgs false
set_option linter.unusedVariables false
namespace Go.Proofs.YtllcdbgjeidlkaaGreatDoor
open Go.Proofs.Tryz
open Go.RowKit
theorem zxi {F U n:Int} (h0:0<=F) (h1:F<=U) (h2:U<=12622780799) (a:F / 86400<=n) (b:n<=U / 86400):
 zao (zjF F n) (zi2 U n)=zi2 U n/\zaw (zjF F n) (zi2 U n)=zjF F n/\0<=zi2 U n/\zjF F n%86400=(if n=F / 86400 then F%86400 else 0)/\zi2 U n%86400=(if n=U / 86400 then U%86400 else 86399):=by
 have e1:zjF F n=if F<n * 86400 then n * 86400 else F:=by unfold zjF mxI zr2;(repeat' split)<;>omega
 have e2:zi2 U n=if n * 86400+86399<U then n * 86400+86399 else U:=by unfold zi2 mnI zr3;(repeat' split)<;>omega
 rw[e1,e2];unfold zaw zao;refine⟨?_,?_,?_,?_,?_⟩<;>(repeat' split)<;>omega
theorem zpV (f u:Int):zaw (zaw f u) (zao f u)=zaw f u/\zao (zaw f u) (zao f u)=zao f u:=by
 have hr:=zd6 f u;generalize zaw f u=F at *;generalize zao f u=U at *;unfold zaw zao;constructor<;>(repeat' split)<;>omega
theorem zsF {c:Cl} {n:Int} (h:zoZ c n=false):zlh c n=stZ:=by unfold zlh;rw[h];rfl
theorem zvy {c:Cl} {n:Int} (h:zoZ c n=true):zlh c n=⟨true,zhD c n,zeK c n,zbN c n⟩:=by unfold zlh;rw[h];rfl
theorem zpW {c:Cl} {n:Int} (h0:0<=n) (h1:n<146097) (h:zjY c n=true) (hs:1<c.s) (hz:0<zap c.u):zcz c.u c.s c.a n=zbN c n:=by
 have hm:zeI c zbn=true:=by unfold zjY at h;simp only[waN] at h;exact h.1
 obtain⟨h2,h3,h4,h5⟩:=zgK hm;have ho:okU c.u c.a=true:=waP ⟨h3,h4,h5⟩;unfold zcz zbN;rw[if_pos ⟨ho,⟨h0,h1⟩,h2,by omega⟩,if_pos ⟨hs,hz⟩]
 unfold zbi;rw[if_pos hz]
def zgN (g:Nat) (lb:Array Value) (c:Cl) (lo hi:Nat) (w:World):Prop:=∀W,KpI lo hi w W->∀n,0<=n->n<146097->Calls prog g (#[shV n]++lb) W (Ret (zdQ (zlh c n)) W)
theorem zgN.later {g:Nat} {lb:Array Value} {c:Cl} {lo hi:Nat} {w w':World} (h:zgN g lb c lo hi w) (hb:KpI lo hi w w'):zgN g lb c lo hi w':=fun W hW n h0 h1=>h W (hb.trans hW) n h0 h1
theorem zfc {W w2:World} {A:Array Value} {t t':TypeId} {x y z u:Value} (hq:Below ((W.alloc (.cells A t)).alloc (.cells #[x,y,z,u] t')).heap.size ((W.alloc (.cells A t)).alloc (.cells #[x,y,z,u] t')) w2):
 (w2.cell? ⟨W.heap.size+1,0,none⟩=some x/\w2.cell? ⟨W.heap.size+1,1,none⟩=some y/\w2.cell? ⟨W.heap.size+1,2,none⟩=some z/\w2.cell? ⟨W.heap.size+1,3,none⟩=some u)/\(∀j,w2.frozen? ⟨W.heap.size+1,j,none⟩=false)/\Below W.heap.size W w2/\W.heap.size+1<w2.heap.size:=by
 have hs:(W.alloc (.cells A t)).heap.size=W.heap.size+1:=by simp
 have hs2:((W.alloc (.cells A t)).alloc (.cells #[x,y,z,u] t')).heap.size=W.heap.size+2:=by simp
 have hb:Below W.heap.size W w2:=(((waC _ W).alloc (waJ _) _).alloc (by simp) _).trans (hq.mono oQ)
 have hc:∀j v,(#[x,y,z,u]:Array Value)[j]?=some v->w2.cell? ⟨W.heap.size+1,j,none⟩=some v:=fun j v hv=>by
  refine((zad hq).1 (W.heap.size+1) j oQ).trans ?_;rw[<-hs];exact zaa rfl hv
 refine⟨⟨hc 0 x rfl,hc 1 y rfl,hc 2 z rfl,hc 3 u rfl⟩,fun j=>?_,hb,by have:=hq.size;omega⟩
 refine((zad hq).2 (W.heap.size+1) j oQ).trans ?_;rw[<-hs];unfold World.frozen?;rw[heap_alloc_new];simp
structure LapW (W w:World) (B X bC:Nat) (x0 x1 x2 x3 v25 v26 v27:Value):Prop where
 hb:Below W.heap.size W w
 r:∀j,j<4->(w.cell? ⟨B,j,none⟩).isSome=true
 rf:∀j,w.frozen? ⟨B,j,none⟩=false
 xf:∀j,w.frozen? ⟨X,j,none⟩=false
 c0:w.cell? ⟨X,0,none⟩=some x0
 c1:w.cell? ⟨X,1,none⟩=some x1
 c2:w.cell? ⟨X,2,none⟩=some x2
 c3:w.cell? ⟨X,3,none⟩=some x3
 g25:w.cell? ⟨bC,25,none⟩=some v25
 g26:w.cell? ⟨bC,26,none⟩=some v26
 g27:w.cell? ⟨bC,27,none⟩=some v27
 zB:W.heap.size<=B
 zX:B<X
 zW:X<w.heap.size
 zC:bC<W.heap.size
theorem LapW.below {W w w':World} {B X bC:Nat} {x0 x1 x2 x3 v25 v26 v27:Value} (h:LapW W w B X bC x0 x1 x2 x3 v25 v26 v27) (hq:Below w.heap.size w w'):LapW W w' B X bC x0 x1 x2 x3 v25 v26 v27:=by
 have hz:=h.hb.size;have z0:=h.zB;have z1:=h.zX;have z2:=h.zW;have z3:=h.zC;have c:=fun b o (hl:b<w.heap.size)=>(zad hq).1 b o hl
 have f:=fun b o (hl:b<w.heap.size)=>(zad hq).2 b o hl
 exact⟨zaf h.hb hq hz,fun j hj=>by rw[c _ _ (by omega)];exact h.r j hj,fun j=>(f _ _ (by omega)).trans (h.rf j),fun j=>(f _ _ (by omega)).trans (h.xf j),(c _ _ (by omega)).trans h.c0,(c _ _ (by omega)).trans h.c1,(c _ _ (by omega)).trans h.c2,(c _ _ (by omega)).trans h.c3,
  (c _ _ oQ).trans h.g25,(c _ _ oQ).trans h.g26,(c _ _ oQ).trans h.g27,z0,z1,waD z2 hq.size,z3⟩
theorem LapW.set {W w:World} {B X bC:Nat} {x0 x1 x2 x3 v25 v26 v27:Value} (h:LapW W w B X bC x0 x1 x2 x3 v25 v26 v27) (y1 y2:Value):LapW W ((w.setCell ⟨X,1,none⟩ y1).setCell ⟨X,2,none⟩ y2) B X bC x0 y1 y2 x3 v25 v26 v27:=by
 have z0:=h.zB;have z1:=h.zX;have z2:=h.zW;have z3:=h.zC;have hz:=h.hb.size;have o:∀b k,(b≠X\/(k≠1/\k≠2))->((w.setCell ⟨X,1,none⟩ y1).setCell ⟨X,2,none⟩ y2).cell? ⟨b,k,none⟩=w.cell? ⟨b,k,none⟩:=fun b k hk=>by
  rw[waU _ _ _ _ (by simp;omega),waU _ _ _ _ (by simp;omega)]
 refine⟨(h.hb.setCell (p:=⟨X,1,none⟩) (by show W.heap.size<=X;omega) _).setCell (p:=⟨X,2,none⟩) (by show W.heap.size<=X;omega) _,fun j hj=>by rw[o _ _ (.inl (by omega))];exact h.r j hj,fun j=>by rw[waS,waS];exact h.rf j,fun j=>by rw[waS,waS];exact h.xf j,
  (o _ _ (.inr dQ)).trans h.c0,?_,?_,(o _ _ (.inr dQ)).trans h.c3,(o _ _ (.inl oQ)).trans h.g25,(o _ _ (.inl oQ)).trans h.g26,(o _ _ (.inl oQ)).trans h.g27,z0,z1,by simpa using z2,z3⟩
 ·rw[waU _ _ _ _ (by simp)]
  exact World.cell?_setCell_same' _ _ _ (by rw[h.c1];rfl)
 ·exact World.cell?_setCell_same' _ _ _ (by rw[waU _ _ _ _ (by simp),h.c2];rfl)
theorem zpX {W w2:World} {B bC:Nat} {x y z u x' y' z' u' v25 v26 v27:Value} {t':TypeId} (hb:Below W.heap.size W w2) (hB:W.heap.size<=B) (hz:B<w2.heap.size) (r0:w2.cell? ⟨B,0,none⟩=some x) (r1:w2.cell? ⟨B,1,none⟩=some y) (r2:w2.cell? ⟨B,2,none⟩=some z) (r3:w2.cell? ⟨B,3,none⟩=some u) (rf:∀j,w2.frozen? ⟨B,j,none⟩=false)
 (g25:w2.cell? ⟨bC,25,none⟩=some v25) (g26:w2.cell? ⟨bC,26,none⟩=some v26) (g27:w2.cell? ⟨bC,27,none⟩=some v27) (mC:bC<W.heap.size):LapW W (w2.alloc (.cells #[x',y',z',u'] t')) B w2.heap.size bC x' y' z' u' v25 v26 v27:=by
 have hq:Below w2.heap.size w2 (w2.alloc (.cells #[x',y',z',u'] t')):=(waC _ w2).alloc (waJ _) _;have c:=fun b o (hl:b<w2.heap.size)=>(zad hq).1 b o hl
 have f:=fun b o (hl:b<w2.heap.size)=>(zad hq).2 b o hl
 have hz2:=hb.size;refine⟨zaf hb hq hz2,fun j hj=>?_,fun j=>(f _ _ hz).trans (rf j),fun j=>?_,zaa rfl rfl,zaa rfl rfl,zaa rfl rfl,zaa rfl rfl,(c _ _ oQ).trans g25,(c _ _ oQ).trans g26,(c _ _ oQ).trans g27,hB,hz,by simp,mC⟩
 ·rw[c _ _ hz];obtain rfl|rfl|rfl|rfl:j=0\/j=1\/j=2\/j=3:=by omega
  ·rw[r0];rfl
  ·rw[r1];rfl
  ·rw[r2];rfl
  ·rw[r3];rfl
 ·unfold World.frozen?;rw[heap_alloc_new];simp
theorem zpY (c:Cl) (bS bF bU bH bA bC g:Nat) (lb:Array Value) (sm:Bool) (F1 U1:Int) (lo hi lo' hi':Nat) (w:World) (kS:lo<=bS/\bS<hi) (kF:lo<=bF/\bF<hi) (kU:lo<=bU/\bU<hi) (kH:lo<=bH/\bH<hi) (kA:lo<=bA/\bA<hi) (kC:lo<=bC/\bC<hi) (k1:lo<=lo') (k2:hi'<=hi) (k3:hi<=w.heap.size)
 (cS:w.cell? ⟨bS,0,none⟩=some (.bool sm)) (cF:w.cell? ⟨bF,0,none⟩=some (.int .i64 F1)) (cU:w.cell? ⟨bU,0,none⟩=some (.int .i64 U1)) (cH:w.cell? ⟨bH,0,none⟩=some (.func (.func g) #[] lb))
 (cA0:w.cell? ⟨bA,0,none⟩=some (.int .i64 (spF c))) (cA1:w.cell? ⟨bA,1,none⟩=some (.int .i64 (spU c))) (HC0:Arr w bC 30 (gC c)) (eg:∀args w,(callFunc g args).run prog w=.ok (.enter g args) w) (hp:zbu g lb (zjY c) lo' hi' w) (hs:c.s<=9223372036854775807)
 (hv:(sm=false/\spU c<0)\/(sm=true/\0<=spU c/\F1=spF c / 86400/\U1=spU c / 86400)):
 zgN 135 #[.pointer (some ⟨bS,0,none⟩),.pointer (some ⟨bF,0,none⟩),.pointer (some ⟨bU,0,none⟩),.pointer (some ⟨bH,0,none⟩),.pointer (some ⟨bA,0,none⟩),.pointer (some ⟨bC,0,none⟩)] c lo hi w:=by
 intro W hW n h0 h1;have HP:=waV (fun V (hV:Below W.heap.size W V)=>hp V ((hW.sub k1 k2).trans (KpI.of_below hV (by have:=hW.size;omega))) n h0 h1)
 have fS:=hW.cell kS.1 kS.2 cS;have fF:=hW.cell kF.1 kF.2 cF;have fU:=hW.cell kU.1 kU.2 cU;have fH:=hW.cell kH.1 kH.2 cH;have fA0:=hW.cell kA.1 kA.2 cA0;have fA1:=hW.cell kA.1 kA.2 cA1;have HC:=hW.arr kC.1 kC.2 HC0;have hr:=zd6 c.f c.t;have hsp:spF c=zaw c.f c.t/\spU c=zao c.f c.t:=⟨rfl,rfl⟩;rw[<-hsp.1,<-hsp.2] at hr;have HE:=waV eg;have o25:W.cell? ⟨bC,25,none⟩=some (.int .i64 c.u):=HC.1 25 dQ;have o26:W.cell? ⟨bC,26,none⟩=some (.int .i64 c.s):=HC.1 26 dQ;have o27:W.cell? ⟨bC,27,none⟩=some (.int .i64 c.a):=HC.1 27 dQ;have lS:=waR W _ fS;have lF:=waR W _ fF;have lU:=waR W _ fU;have lH:=waR W _ fH;have lA:=waR W _ fA0;have lC:=waR W _ o25;have HK:=waV (fun V=>zmD (spF c) (spU c) n V)
 have HZ:=waV (fun V=>zd5 c.u V)
 have HF:=waV (fun V=>znT c.u c.s c.a n hs V)
 have hV:∃y m d b k i1 i2 i3 i4:Int,shV n=.agg #[.int .i64 n,.int .i64 y,.int .i64 m,.int .i64 d,.int .i64 b,.int .i64 k,.int .i64 i1,.int .i64 i2,.int .i64 i3,.int .i64 i4]:=⟨_,_,_,_,_,_,_,_,_,rfl⟩;obtain⟨y,m,d,b,k,i1,i2,i3,i4,hV⟩:=hV;rw[hV] at HP ⊢;clear hW HC HC0 cS cF cU cH cA0 cA1 kS kF kU kH kA kC k1 k2 k3 hp eg hsp hV
 by_cases ha:zoZ c n=true
 ·have hA:=ha;unfold zoZ at ha;simp only[waN,waM] at ha;obtain⟨⟨ha1,ha2,ha3⟩,ha4⟩:=ha;rcases hv with ⟨rfl,hv⟩|⟨rfl,hv,rfl,rfl⟩
  ·exfalso;omega
  obtain⟨e1,e2,e3,e4,e5⟩:=zxi (F:=spF c) (U:=spU c) (n:=n) oQ ha1 oQ ha2 ha3;rw[e1,e2,if_neg (by omega),e4,e5] at HK
  rw[ha4] at HP;have HR:Hid (zdQ (zlh c n)=.agg #[.bool true,.int .i64 (zhD c n),.int .i64 (zeK c n),.int .i64 (zbN c n)]):=by show _=_;rw[zvy hA];rfl
  rw[HR.out];have HRf:Hid (zhD c n=if n=spF c / 86400 then spF c%86400 else 0):=rfl
  have HRu:Hid (zeK c n=if n=spU c / 86400 then spU c%86400 else 86399):=rfl
  rw[<-HRf.out,<-HRu.out] at HK;have HPh:Hid (1<c.s->0<zap c.u->zcz c.u c.s c.a n=zbN c n):=fun h2 h3=>zpW h0 h1 ha4 h2 h3
  have HP0:Hid (¬(1<c.s/\0<zap c.u)->zbN c n=0):=fun h=>if_neg h
  generalize zcz c.u c.s c.a n=PH1 at *;generalize zbN c n=PH at *;generalize zhD c n=FR at *;generalize zeK c n=UN at *;generalize zap c.u=Z at *;generalize spF c=F at *;generalize spU c=U at *;generalize F / 86400=F1 at *;generalize U / 86400=U1 at *;clear hr e1 e2 e3 e4 e5 hA ha4 hv ha1;have eg:=HE.out;have lB:W.heap.size<=W.heap.size+1:=Nat.le_succ _
  by_cases hn:n=F1\/n=U1
  ·rcases(show n=F1\/(n≠F1/\n=U1) by omega) with hF|⟨hnF0,hU⟩
   case' inl=>
    have hnF:(n==F1)=true:=by simpa using hF
    clear hF
   case' inr=>
    have hnF:(n==F1)=false:=by simpa using hnF0
    have hnU:(n==U1)=true:=by simpa using hU
    clear hU hnF0
   all_goals
    clear hn;go_enter func135,ntmps135;have hcall:=waV (HP.out _ (((waC _ W).alloc (waJ _) (.cells #[.int .i64 n,.int .i64 y,.int .i64 m,.int .i64 d,.int .i64 b,.int .i64 k,.int .i64 i1,.int .i64 i2,.int .i64 i3,.int .i64 i4] 81)).alloc (by simp) (.cells #[.bool false,.int .i64 0,.int .i64 0,.int .i64 0] 224)))
    go_wp2_with (go_at_fn g;refine hcall.out.mono ?_;rintro e w2 ⟨rfl,hq2⟩;obtain⟨⟨r0,r1,r2,r3⟩,rf,hb2,hz2⟩:=zfc hq2;have gF:=((zad hb2).1 _ 0 lF).trans fF;have gU:=((zad hb2).1 _ 0 lU).trans fU;have gA0:=((zad hb2).1 _ 0 lA).trans fA0;have gA1:=((zad hb2).1 _ 1 lA).trans fA1;have g25:=((zad hb2).1 _ 25 lC).trans o25;have g26:=((zad hb2).1 _ 26 lC).trans o26;have g27:=((zad hb2).1 _ 27 lC).trans o27;have z2:=hb2.size;have mF:bF<w2.heap.size:=waD lF z2;have mU:bU<w2.heap.size:=waD lU z2;have mA:bA<w2.heap.size:=waD lA z2;have mC:bC<w2.heap.size:=waD lC z2;clear hq2 fS fF fU fH fA0 fA1 o25 o26 o27 hcall eg)
    refine(HK.out _).mono ?_;rintro e w3 ⟨rfl,hq3⟩;have HL3a:=waV ((zpX hb2 lB hz2 r0 r1 r2 r3 rf g25 g26 g27 lC).below hq3);clear hq3 r0 r1 r2 r3 rf g25 g26 g27 gF gU gA0 gA1 mF mU mA mC z2 hz2 hb2 HK;obtain⟨hb',r',rf',xf',c0',c1',c2',c3',g25',g26',g27',zB',zX',zW',zC'⟩:=HL3a.out;obtain⟨k0,q0⟩:=wbO.1 (r' 0 dQ);obtain⟨k1,q1⟩:=wbO.1 (r' 1 dQ);obtain⟨k2,q2⟩:=wbO.1 (r' 2 dQ);obtain⟨k3,q3⟩:=wbO.1 (r' 3 dQ);have mC':=waD zC' hb'.size;clear r';have HL3:=waV (HL3a.out.set (.int .i64 FR) (.int .i64 UN));clear HL3a
    by_cases h1s:1<c.s
    ·go_wp2_with fail;refine(HZ.out _).mono ?_;rintro e w4 ⟨rfl,hq4⟩;have HL4:=waV (HL3.out.below hq4);clear hq4 hb' rf' xf' c0' c1' c2' c3' g25' g26' g27' zB' zX' zW' zC' mC' q0 q1 q2 q3 HL3 HZ;obtain⟨hb',r',rf',xf',c0',c1',c2',c3',g25',g26',g27',zB',zX',zW',zC'⟩:=HL4.out;obtain⟨k0,q0⟩:=wbO.1 (r' 0 dQ);obtain⟨k1,q1⟩:=wbO.1 (r' 1 dQ);obtain⟨k2,q2⟩:=wbO.1 (r' 2 dQ);obtain⟨k3,q3⟩:=wbO.1 (r' 3 dQ);have mC':=waD zC' hb'.size;clear r'
     by_cases hZ:0<Z
     ·have hPH:=HPh.out h1s hZ;rw[hPH] at HF;go_wp2_with fail;refine(HF.out _).mono ?_;rintro e w5 ⟨rfl,hq5⟩;have HL5:=waV (HL4.out.below hq5);clear hq5 hb' rf' xf' c0' c1' c2' c3' g25' g26' g27' zB' zX' zW' zC' mC' q0 q1 q2 q3 HL4;obtain⟨hb',r',rf',xf',c0',c1',c2',c3',g25',g26',g27',zB',zX',zW',zC'⟩:=HL5.out;obtain⟨k0,q0⟩:=wbO.1 (r' 0 dQ);obtain⟨k1,q1⟩:=wbO.1 (r' 1 dQ);obtain⟨k2,q2⟩:=wbO.1 (r' 2 dQ);obtain⟨k3,q3⟩:=wbO.1 (r' 3 dQ);have mC':=waD zC' hb'.size;clear r';go_wp2
      (try simp only[Exit.inBlock,Exit.then])
      refine waY (v:=.agg #[.bool true,.int .i64 (FR),.int .i64 (UN),.int .i64 (PH)]) ?_ rfl ⟨rfl,by exact zaE⟩
      rw[zah rfl]
      go_simp
     ·have hPH:=HP0.out (fun h=>hZ h.2)
      subst hPH;go_wp2
      (try simp only[Exit.inBlock,Exit.then])
      refine waY (v:=.agg #[.bool true,.int .i64 (FR),.int .i64 (UN),.int .i64 (0)]) ?_ rfl ⟨rfl,by exact zaE⟩
      rw[zah rfl]
      go_simp
    ·have hPH:=HP0.out (fun h=>h1s h.1)
     subst hPH;go_wp2
     (try simp only[Exit.inBlock,Exit.then])
     refine waY (v:=.agg #[.bool true,.int .i64 (FR),.int .i64 (UN),.int .i64 (0)]) ?_ rfl ⟨rfl,by exact zaE⟩
     rw[zah rfl]
     go_simp
  ·have hnF:(n==F1)=false:=by simp;omega
   have hnU:(n==U1)=false:=by simp;omega
   obtain rfl:FR=0:=by rw[HRf.out,if_neg (by omega)]
   obtain rfl:UN=86399:=by rw[HRu.out,if_neg (by omega)]
   clear hn HRf HRu;go_enter func135,ntmps135
   by_cases h1s:1<c.s
   ·have hcall:=waV (HP.out _ (((waC _ W).alloc (waJ _) (.cells #[.int .i64 n,.int .i64 y,.int .i64 m,.int .i64 d,.int .i64 b,.int .i64 k,.int .i64 i1,.int .i64 i2,.int .i64 i3,.int .i64 i4] 81)).alloc (by simp) (.cells #[.bool false,.int .i64 0,.int .i64 0,.int .i64 0] 224)))
    go_wp2_with (go_at_fn g;refine hcall.out.mono ?_;rintro e w2 ⟨rfl,hq2⟩;obtain⟨⟨r0,r1,r2,r3⟩,rf,hb2,hz2⟩:=zfc hq2;have gF:=((zad hb2).1 _ 0 lF).trans fF;have gU:=((zad hb2).1 _ 0 lU).trans fU;have gA0:=((zad hb2).1 _ 0 lA).trans fA0;have gA1:=((zad hb2).1 _ 1 lA).trans fA1;have g25:=((zad hb2).1 _ 25 lC).trans o25;have g26:=((zad hb2).1 _ 26 lC).trans o26;have g27:=((zad hb2).1 _ 27 lC).trans o27;have z2:=hb2.size;have mF:bF<w2.heap.size:=waD lF z2;have mU:bU<w2.heap.size:=waD lU z2;have mA:bA<w2.heap.size:=waD lA z2;have mC:bC<w2.heap.size:=waD lC z2;clear hq2 fS fF fU fH fA0 fA1 o25 o26 o27 hcall eg)
    refine(HZ.out _).mono ?_;rintro e w4 ⟨rfl,hq4⟩;have HL4:=waV ((zpX hb2 lB hz2 r0 r1 r2 r3 rf g25 g26 g27 lC).below hq4);clear hq4 r0 r1 r2 r3 rf g25 g26 g27 gF gU gA0 gA1 mF mU mA mC z2 hz2 hb2 HK HZ;obtain⟨hb',r',rf',xf',c0',c1',c2',c3',g25',g26',g27',zB',zX',zW',zC'⟩:=HL4.out;obtain⟨k0,q0⟩:=wbO.1 (r' 0 dQ);obtain⟨k1,q1⟩:=wbO.1 (r' 1 dQ);obtain⟨k2,q2⟩:=wbO.1 (r' 2 dQ);obtain⟨k3,q3⟩:=wbO.1 (r' 3 dQ);have mC':=waD zC' hb'.size;clear r'
    by_cases hZ:0<Z
    ·have hPH:=HPh.out h1s hZ;rw[hPH] at HF;go_wp2_with fail;refine(HF.out _).mono ?_;rintro e w5 ⟨rfl,hq5⟩;have HL5:=waV (HL4.out.below hq5);clear hq5 hb' rf' xf' c0' c1' c2' c3' g25' g26' g27' zB' zX' zW' zC' mC' q0 q1 q2 q3 HL4;obtain⟨hb',r',rf',xf',c0',c1',c2',c3',g25',g26',g27',zB',zX',zW',zC'⟩:=HL5.out;obtain⟨k0,q0⟩:=wbO.1 (r' 0 dQ);obtain⟨k1,q1⟩:=wbO.1 (r' 1 dQ);obtain⟨k2,q2⟩:=wbO.1 (r' 2 dQ);obtain⟨k3,q3⟩:=wbO.1 (r' 3 dQ);have mC':=waD zC' hb'.size;clear r';go_wp2
     (try simp only[Exit.inBlock,Exit.then])
     refine waY (v:=.agg #[.bool true,.int .i64 (0),.int .i64 (86399),.int .i64 (PH)]) ?_ rfl ⟨rfl,by exact zaE⟩
     rw[zah rfl]
     go_simp
    ·have hPH:=HP0.out (fun h=>hZ h.2)
     subst hPH;go_wp2
     (try simp only[Exit.inBlock,Exit.then])
     refine waY (v:=.agg #[.bool true,.int .i64 (0),.int .i64 (86399),.int .i64 (0)]) ?_ rfl ⟨rfl,by exact zaE⟩
     rw[zah rfl]
     go_simp
   ·have hPH:=HP0.out (fun h=>h1s h.1)
    subst hPH;have hcall:=waV (HP.out _ (((waC _ W).alloc (waJ _) (.cells #[.int .i64 n,.int .i64 y,.int .i64 m,.int .i64 d,.int .i64 b,.int .i64 k,.int .i64 i1,.int .i64 i2,.int .i64 i3,.int .i64 i4] 81)).alloc (by simp) (.cells #[.bool false,.int .i64 0,.int .i64 0,.int .i64 0] 224)))
    go_wp2_with (go_at_fn g;refine hcall.out.mono ?_;rintro e w2 ⟨rfl,hq2⟩;obtain⟨⟨r0,r1,r2,r3⟩,rf,hb2,hz2⟩:=zfc hq2;have gF:=((zad hb2).1 _ 0 lF).trans fF;have gU:=((zad hb2).1 _ 0 lU).trans fU;have gA0:=((zad hb2).1 _ 0 lA).trans fA0;have gA1:=((zad hb2).1 _ 1 lA).trans fA1;have g25:=((zad hb2).1 _ 25 lC).trans o25;have g26:=((zad hb2).1 _ 26 lC).trans o26;have g27:=((zad hb2).1 _ 27 lC).trans o27;have z2:=hb2.size;have mF:bF<w2.heap.size:=waD lF z2;have mU:bU<w2.heap.size:=waD lU z2;have mA:bA<w2.heap.size:=waD lA z2;have mC:bC<w2.heap.size:=waD lC z2;clear hq2 fS fF fU fH fA0 fA1 o25 o26 o27 hcall eg)
    (try simp only[Exit.inBlock,Exit.then])
    refine waY (v:=.agg #[.bool true,.int .i64 (0),.int .i64 (86399),.int .i64 (0)]) ?_ rfl ⟨rfl,by exact zaE⟩
    rw[zah rfl]
    go_simp
 ·have HR:Hid (zlh c n=stZ):=zsF (by simpa using ha)
  rw[HR.out];unfold zoZ at ha;simp only[waN,waM] at ha;rcases hv with ⟨rfl,hv⟩|⟨rfl,hv,rfl,rfl⟩
  ·clear ha HR HK HZ HF HP;go_enter func135,ntmps135;go_wp2
   (try simp only[Exit.inBlock,Exit.then])
   refine waY (v:=.agg #[.bool false,.int .i64 0,.int .i64 0,.int .i64 0]) ?_ rfl ⟨rfl,by exact zaE⟩
   rw[zah rfl]
   go_simp
  ·have hc:n<spF c / 86400\/(¬n<spF c / 86400/\spU c / 86400<n)\/(¬n<spF c / 86400/\¬spU c / 86400<n/\zjY c n=false):=by
    by_cases h2:n<spF c / 86400
    ·exact .inl h2
    ·by_cases h3:spU c / 86400<n
     ·exact .inr (.inl ⟨h2,h3⟩)
     ·refine .inr (.inr ⟨h2,h3,?_⟩);cases hd:zjY c n with
      |true=>exact absurd ⟨⟨by omega,by omega,by omega⟩,hd⟩ ha
      |false=>rfl
   clear ha HR HK HZ HF hr;generalize spF c / 86400=F1 at *;generalize spU c / 86400=U1 at *;rcases hc with hc|⟨hc1,hc⟩|⟨hc1,hc2,hd⟩
   rotate_left 2
   ·rw[hd] at HP;have eg:=HE.out;go_enter func135,ntmps135;have hcall:=waV (HP.out _ (((waC _ W).alloc (waJ _) (.cells #[.int .i64 n,.int .i64 y,.int .i64 m,.int .i64 d,.int .i64 b,.int .i64 k,.int .i64 i1,.int .i64 i2,.int .i64 i3,.int .i64 i4] 81)).alloc (by simp) (.cells #[.bool false,.int .i64 0,.int .i64 0,.int .i64 0] 224)))
    go_wp2_with (go_at_fn g;refine hcall.out.mono ?_;rintro e w2 ⟨rfl,hq2⟩;obtain⟨⟨r0,r1,r2,r3⟩,rf,hb2,hz2⟩:=zfc hq2;have gF:=((zad hb2).1 _ 0 lF).trans fF;have gU:=((zad hb2).1 _ 0 lU).trans fU;have gA0:=((zad hb2).1 _ 0 lA).trans fA0;have gA1:=((zad hb2).1 _ 1 lA).trans fA1;have g25:=((zad hb2).1 _ 25 lC).trans o25;have g26:=((zad hb2).1 _ 26 lC).trans o26;have g27:=((zad hb2).1 _ 27 lC).trans o27;have z2:=hb2.size;have mF:bF<w2.heap.size:=waD lF z2;have mU:bU<w2.heap.size:=waD lU z2;have mA:bA<w2.heap.size:=waD lA z2;have mC:bC<w2.heap.size:=waD lC z2;clear hq2 fS fF fU fH fA0 fA1 o25 o26 o27 hcall eg)
    (try simp only[Exit.inBlock,Exit.then])
    refine waY (v:=.agg #[.bool false,.int .i64 0,.int .i64 0,.int .i64 0]) ?_ rfl ⟨rfl,by exact zaE⟩
    rw[zah rfl]
    go_simp
   all_goals
    clear HP;go_enter func135,ntmps135;go_wp2
    (try simp only[Exit.inBlock,Exit.then])
    refine waY (v:=.agg #[.bool false,.int .i64 0,.int .i64 0,.int .i64 0]) ?_ rfl ⟨rfl,by exact zaE⟩
    rw[zah rfl]
    go_simp
end Go.Proofs.YtllcdbgjeidlkaaGreatDoor
namespace Go.Proofs.YtllcdbgjeidlkaaGreatDoor
open Go.Proofs.Tryz
section
variable {P : Program} {ops : Array Oper} {Q : Exit -> Act -> World -> Prop} {md : Region.Mode}
theorem zvz {o:Oper} {a:Act} {w:World} {K K':Act->World->Prop} (h:o.wp P a w K (Exit.then K' Q)):o.wp P a w K Q:=by
 unfold Oper.wp at *;generalize (execOp a.eval o).run P w=r at *;cases r with
 |ok n w'=>
  cases n<;>simp only[Oper.upon] at h ⊢<;>
   first
    |exact h
    |exact Calls.mono h (fun e w'' he=>by cases e<;>exact he)
    |exact Rows.mono h (fun _ _ he=>he)
 |halt x w'=>cases x<;>simp only[Oper.upon] at h ⊢<;>exact h
theorem zcM {i:Nat} {o:Oper} {K:Act->World->Prop} {a:Act} {w:World} (ho:ops[i]?=some o) (h:wpList P ops (Exit.then K Q) [o] a w):wpOp P ops Q i K a w:=by
 unfold wpOp;rw[ho];dsimp only;unfold wpList at h;split
 ·rename_i hw;rw[if_pos hw] at h;exact h.imp (fun h=>Oper.wp_mono (fun a w h=>h) (zvz h)) (fun h=>⟨h.1,h.2⟩)
 ·rename_i hw;rw[if_neg hw] at h;exact h
theorem za3 {i:Nat} {o:Oper} {K:Act->World->Prop} {a:Act} {w:World} (ho:ops[i]?=some o) (h:∀K':Act->World->Prop,(∀a w,K a w->K' a w)->wpList P ops (Exit.then K' Q) [o] a w):wpOp P ops Q i K a w:=
 zcM ho (h K fun _ _ h=>h)
def zr4 (L:Array Bool):Nat->Nat
 |0=>0
 |n+1=>zr4 L n+if L.getD n true then 0 else 1
theorem zmE {L:Array Bool} {i:Nat} (hi:L.getD i true=false):∀n,zr4 L n=zr4 (L.setIfInBounds i true) n+if i<n then 1 else 0
 |0=>rfl
 |n+1=>by
  have ih:=zmE hi n;unfold zr4
  by_cases e:i=n
  ·subst e;have hlt:i<L.size:=by
    false_or_by_contra
    rw[wbL,Array.getElem?_eq_none (by omega)] at hi
    cases hi
   have h2:(L.setIfInBounds i true).getD i true=true:=by simp[wbL,hlt]
   rw[ih,hi,h2];simp
  ·rw[getD_set_ne true e,ih]
   by_cases h:i<n
   ·rw[if_pos h,if_pos (show i<n+1 by omega)];omega
   ·rw[if_neg h,if_neg (show ¬i<n+1 by omega)];omega
theorem zsG {L:Array Bool} {n:Nat} (h:zr4 L n=0):∀i,i<n->L.getD i true=true:=by
 induction n with
 |zero=>intro i hi;omega
 |succ n ih=>
  unfold zr4 at h;intro i hi
  by_cases e:i=n
  ·subst e;cases hb:L.getD i true with
   |true=>rfl
   |false=>rw [hb] at h;simp at h
  ·exact ih oQ i oQ
def zsH (md:Region.Mode) (ops:Array Oper):Bool:=(List.range ops.size).all fun i=>((ops[i]?).map fun o=>o.after.all fun e=>!Region.binds md e||decide (e.on<i)).getD true
theorem zfL (hl:zsH md ops=true) {L:Array Bool} (hr:Region.ready md ops L=[]) (hs:L.size=ops.size):∀i,i<ops.size->L.getD i true=true:=by
 intro i;induction i using Nat.strongRecOn with
 |_ i ih=>
  intro hi
  false_or_by_contra
  rename_i hb;have hm:i∈Region.ready md ops L:=mem_ready.2 ⟨by simpa using hb,ops[i],wbI hi,fun e he hbd=>by
   have h1:=List.all_eq_true.1 hl i (wbG.2 hi);rw[wbI hi] at h1;have h2:e.on<i:=by
    have:=Array.all_eq_true_iff_forall_mem.1 h1 e he;rw[hbd] at this;exact waA this
   have h3:=ih e.on h2 oQ;rw[wbL,wbI (by omega)] at h3 ⊢
   exact h3⟩
  rw[hr] at hm;cases hm
theorem zj3 (hl:zsH md ops=true) {I:Array Bool->Act->World->Prop} (hs:∀L a w,I L a w->L.size=ops.size)
 (step:∀L a w i o,I L a w->ops[i]?=some o->L.getD i true=false->(∀e∈o.after,Region.binds md e=true->L.getD e.on false=true)->wpOp P ops Q i (I (L.setIfInBounds i true)) a w)
 (done:∀L a w,I L a w->(∀i,i<ops.size->L.getD i true=true)->Q .normal a w):
 ∀(fuel:Nat) (L:Array Bool) (a:Act) (w:World),zr4 L ops.size<=fuel->I L a w->wpAny P md ops Q fuel L a w
 |0,L,a,w,hc,h=>by
  have h1:=zsG (show zr4 L ops.size=0 by omega)
  have hr:Region.ready md ops L=[]:=by
   rw[List.eq_nil_iff_forall_not_mem];intro i hi;obtain⟨h2,o,ho,_⟩:=mem_ready.1 hi;rw[h1 i (waL.1 ho).1] at h2;cases h2
  exact⟨hr,done L a w h h1⟩
 |fuel+1,L,a,w,hc,h=>by
  refine⟨fun hr=>done L a w h (zfL hl hr (hs L a w h)),fun i hi=>?_⟩
  obtain⟨h2,o,ho,h3⟩:=mem_ready.1 hi;refine wpOp_mono (fun a' w' h'=>zj3 hl hs step done fuel _ a' w' ?_ h') (step L a w i o h ho h2 h3)
  have hcs:=zmE h2 ops.size;rw[if_pos (waL.1 ho).1] at hcs;omega
theorem zfd {id:Nat} {a:Act} {w:World} (hm:P.follows .mixedOrders=true) (hl:zsH .any ops=true) {I:Array Bool->Act->World->Prop} (hs:∀L a w,I L a w->L.size=ops.size)
 (h0:I (Array.replicate ops.size false) a w.drew)
 (step:∀L a w i o,I L a w->ops[i]?=some o->L.getD i true=false->(∀e∈o.after,Region.binds .any e=true->L.getD e.on false=true)->wpOp P ops Q i (I (L.setIfInBounds i true)) a w)
 (done:∀L a w,I L a w->(∀i,i<ops.size->L.getD i true=true)->Q .normal a w):(Code.region id ops true).wp P Q a w:=by
 refine wp_region_any hm (zj3 hl hs step done ops.size _ a _ ?_ h0);have:∀n,zr4 (Array.replicate ops.size false) n<=n:=fun n=>by
  induction n with
  |zero=>exact waJ _
  |succ n ih=>unfold zr4;split<;>omega
 exact this _
end
end Go.Proofs.YtllcdbgjeidlkaaGreatDoor
namespace Go.Proofs.YtllcdbgjeidlkaaGreatDoor
open Go.Proofs.Tryz
open Go.RowKit
theorem znU:zas 0 23=((16777215:Nat):Int):=by decide+kernel
theorem zj4:zas 0 59=((1152921504606846975:Nat):Int):=by decide+kernel
theorem zmF (h m s:Nat) (h1:h<18446744073709551616) (m1:m<18446744073709551616) (s1:s<18446744073709551616) (w:World):Calls prog 142 #[.int .u64 h,.int .u64 m,.int .u64 s] w (zbE (.tuple #[.int .u64 (h&&&16777215:Nat),.int .u64 (m&&&1152921504606846975:Nat),.int .u64 (s&&&1152921504606846975:Nat)]) w):=by
 have H1:=waV (fun W=>zbB 0 23 dQ dQ dQ dQ W)
 have H2:=waV (fun W=>zbB 0 59 dQ dQ dQ dQ W)
 rw[znU] at H1;rw[zj4] at H2;have E1:=waV (bits_and_u64_nat h 16777215 h1 dQ);have E2:=waV (bits_and_u64_nat m 1152921504606846975 m1 dQ);have E3:=waV (bits_and_u64_nat s 1152921504606846975 s1 dQ);generalize ((16777215:Nat):Int)=A at *;generalize ((1152921504606846975:Nat):Int)=B at *;go_enter func142,ntmps142;go_wp2_with fail;refine(H2.out _).mono ?_;rintro e w1 ⟨rfl,rfl⟩;go_wp2_with fail;refine(H1.out _).mono ?_;rintro e w1 ⟨rfl,rfl⟩;go_wp2
 (try simp only[Exit.inBlock,Exit.then])
 refine waY (results_tmp3 rfl _ _ _) rfl ?_;exact⟨by rw[E1.out,E2.out,E3.out];rfl,rfl⟩
end Go.Proofs.YtllcdbgjeidlkaaGreatDoor
