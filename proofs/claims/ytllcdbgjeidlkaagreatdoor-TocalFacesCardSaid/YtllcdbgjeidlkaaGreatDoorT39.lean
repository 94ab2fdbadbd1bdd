/- A part of the proof: WKlB -/
import Derived.Test.YtllcdbgjeidlkaaGreatDoorT08
import Derived.Test.YtllcdbgjeidlkaaGreatDoorT32
import Derived.Test.YtllcdbgjeidlkaaGreatDoorT36
import Derived.Test.YtllcdbgjeidlkaaGreatDoorT29
import Derived.Test.YtllcdbgjeidlkaaGreatDoorT38
set_option maxHeartbeats 80000000
set_option maxRecDepth 100000
set_option linter.unusedSimpArgs false
set_option linter.unusedVariables false
namespace Go.Proofs.YtllcdbgjeidlkaaGreatDoor
open Go.Proofs.Tryz
open Go.RowKit
structure KMs (w W:World) (b:Nat) (A:Nat->Option Addr) (n m:Nat->Nat) (bk:Bool) (S X:Nat->Int):Prop where
 ev:EvAt W w.heap.size A n m bk
 st:∀j,j<6->W.cell? ⟨w.heap.size+1,j,none⟩=some (.int .i64 (S j))
 sh:∀j,j<10->W.cell? ⟨b,j,none⟩=some (.int .i64 (X j))
 below:Below w.heap.size w W
theorem KMs.later {w W W':World} {b:Nat} {A:Nat->Option Addr} {n m:Nat->Nat} {bk:Bool} {S X:Nat->Int} (h:KMs w W b A n m bk S X) (hb:Below W.heap.size W W'):KMs w W' b A n m bk S X:=
 ⟨h.ev.below hb,fun j hj=>zjX hb (h.st j hj),fun j hj=>zjX hb (h.sh j hj),zaf h.below hb h.below.size⟩
def znm (c:CalV) (S X:Nat->Int):Bool:=
 inB (zaJ c 1) 1970 2369 (S 0)&&(inB (zaJ c 2) 1 12 (S 1)&&(inB (zaJ c 3) 1 31 (if c.back then X 4 else X 3)&&((decide ((zaJ c 0).length=0)||inB (zaJ c 0) 1 7 (X 5))&&
 (inB (zaJ c 4) 0 23 (S 3)&&(inB (zaJ c 5) 0 59 (S 4)&&inB (zaJ c 6) 0 59 (S 5))))))
theorem EvAt.other {w:World} {b q o:Nat} {A:Nat->Option Addr} {n m:Nat->Nat} {bk:Bool} {v:Value} (h:EvAt w b A n m bk) (hne:q≠b):EvAt (w.setCell ⟨q,o,none⟩ v) b A n m bk:=by
 have hn:∀j,(w.setCell ⟨q,o,none⟩ v).cell? ⟨b,j,none⟩=w.cell? ⟨b,j,none⟩:=fun j=>waU _ _ _ _ (by intro e;injection e with e1;exact hne e1)
 exact⟨(hn 0).trans h.h0,(hn 1).trans h.h1,(hn 2).trans h.h2,(hn 3).trans h.h3,(hn 4).trans h.h4,(hn 5).trans h.h5,(hn 6).trans h.h6,(hn 7).trans h.h7⟩
structure LowK (w W:World) (b:Nat) (A:Nat->Option Addr) (n m:Nat->Nat) (bk:Bool) (g:Nat->Value):Prop where
 ev:EvAt W w.heap.size A n m bk
 arr:Arr W b 30 g
 out:W.there (w.heap.size+1) 0 30
 lt:w.heap.size+1<b
 below:Below w.heap.size w W
theorem LowK.later {w W W':World} {b:Nat} {A:Nat->Option Addr} {n m:Nat->Nat} {bk:Bool} {g:Nat->Value} (h:LowK w W b A n m bk g) (hb:Below W.heap.size W W'):LowK w W' b A n m bk g:=
 have hl:=Arr.lt h.arr dQ
 ⟨h.ev.below hb,Arr.below h.arr hl hb,zaK h.out (by have:=h.lt;omega) hb,h.lt,zaf h.below hb h.below.size⟩
theorem LowK.updG {w W:World} {b:Nat} {A:Nat->Option Addr} {n m:Nat->Nat} {bk:Bool} {g:Nat->Value} (h:LowK w W b A n m bk g) (i:Nat) (hi:i<30) (v:Value):LowK w (W.setCell ⟨b,i,none⟩ v) b A n m bk (updG g i v):=
 ⟨h.ev.other (by have:=h.lt;omega),Arr.updG h.arr i hi v,zkJ h.out (by have:=h.lt;omega),h.lt,h.below.setCell (by show w.heap.size<=b;have:=h.lt;omega) _⟩
theorem LowK.other {w W:World} {b q o:Nat} {A:Nat->Option Addr} {n m:Nat->Nat} {bk:Bool} {g:Nat->Value} (h:LowK w W b A n m bk g) (hq:b<q) (v:Value):LowK w (W.setCell ⟨q,o,none⟩ v) b A n m bk g:=
 ⟨h.ev.other (by have:=h.lt;omega),⟨fun j hj=>(waU _ _ _ _ (by intro e;injection e with e1;omega)).trans (h.arr.1 j hj),fun j=>by rw[waS];exact h.arr.2 j⟩,zkJ h.out (by have:=h.lt;omega),h.lt,h.below.setCell (by show w.heap.size<=q;have:=h.lt;omega) _⟩
def updL (g:Nat->Value) (o:Nat):List Value->Nat->Value
 |[]=>g
 |v::vs=>updL (updG g o v) (o+1) vs
theorem LowK.updL {w:World} {b:Nat} {A:Nat->Option Addr} {n m:Nat->Nat} {bk:Bool}:∀(vs:List Value) (g:Nat->Value) (o:Nat) (W:World),LowK w W b A n m bk g->o+vs.length<=30->LowK w (W.setCells b o vs) b A n m bk (updL g o vs)
 |[],_,_,_,h,_=>h
 |v::vs,g,o,W,h,hl=>LowK.updL vs (Go.Proofs.YtllcdbgjeidlkaaGreatDoor.updG g o v) (o+1) (W.setCell ⟨b,o,none⟩ v) (h.updG o (by simp at hl;omega) v) (by simp at hl;omega)
theorem zkW {W:World} {b:Nat} {g:Nat->Value} (h:Arr W b 30 g) (o k:Nat) (hk:o+k<=30):W.there b o k:=fun j hj=>⟨by rw[h.1 (o+j) (by omega)];rfl,h.2 (o+j)⟩
def mkK (a0 a1 a2 a3 D:Int) (bk:Bool) (wk:Int) (y:Nat->Int):Cl:={m:=fun i=>if i=0 then a0 else if i=1 then a1 else if i=2 then a2 else if i=3 then a3 else if i=4 then(if bk then zas 1 31 else D) else if i=5 then(if bk then D else zas 1 31) else wk,or:=false,oi:=0,ob:=false,od:=fun _=>0,y:=y,u:=0,s:=1,a:=0,f:=0,t:=12622780799}
def zu3 (c:CalV):Int:=if(zaJ c 0).length=0 then zas 1 7 else zal (zaC (zaJ c 0) 1 7)
def evY (c:CalV):Nat->Int:=zaH ((zaC (zaJ c 1) 1970 2369).map (· - 1970))
def evC (c:CalV):Cl:=mkK (zal (zaC (zaJ c 6) 0 59)) (zal (zaC (zaJ c 5) 0 59)) (zal (zaC (zaJ c 4) 0 23)) (zal (zaC (zaJ c 2) 1 12)) (zal (zaC (zaJ c 3) 1 31)) c.back (zu3 c) (evY c)
def zjw:Nat->Value:=fun j=>(clA zbn).getD j undef
def yL (y:Nat->Int):List Value:=[.int .u64 (y 0),.int .u64 (y 1),.int .u64 (y 2),.int .u64 (y 3),.int .u64 (y 4),.int .u64 (y 5),.int .u64 (y 6)]
theorem j30 {p:Nat->Prop} (h:p 0/\p 1/\p 2/\p 3/\p 4/\p 5/\p 6/\p 7/\p 8/\p 9/\p 10/\p 11/\p 12/\p 13/\p 14/\p 15/\p 16/\p 17/\p 18/\p 19/\p 20/\p 21/\p 22/\p 23/\p 24/\p 25/\p 26/\p 27/\p 28/\p 29):∀j,j<30->p j:=by
 intro j hj;obtain rfl|rfl|rfl|rfl|rfl|rfl|rfl|rfl|rfl|rfl|rfl|rfl|rfl|rfl|rfl|rfl|rfl|rfl|rfl|rfl|rfl|rfl|rfl|rfl|rfl|rfl|rfl|rfl|rfl|rfl:j=0\/j=1\/j=2\/j=3\/j=4\/j=5\/j=6\/j=7\/j=8\/j=9\/j=10\/j=11\/j=12\/j=13\/j=14\/j=15\/j=16\/j=17\/j=18\/j=19\/j=20\/j=21\/j=22\/j=23\/j=24\/j=25\/j=26\/j=27\/j=28\/j=29:=by omega
 all_goals simp only[h]
theorem zwe (a0 a1 a2 a3 D wk:Int) (y:Nat->Int):∀j,j<30->updG (updG (updG (updG (updG (updL (updG zjw 6 (.int .u64 wk)) 18 (yL y)) 3 (.int .u64 a3)) 2 (.int .u64 a2)) 1 (.int .u64 a1)) 0 (.int .u64 a0)) 5 (.int .u64 D) j=(clA (mkK a0 a1 a2 a3 D true wk y)).getD j undef:=
 j30 ⟨rfl,rfl,rfl,rfl,rfl,rfl,rfl,rfl,rfl,rfl,rfl,rfl,rfl,rfl,rfl,rfl,rfl,rfl,rfl,rfl,rfl,rfl,rfl,rfl,rfl,rfl,rfl,rfl,rfl,rfl⟩
theorem zwf (a0 a1 a2 a3 D wk:Int) (y:Nat->Int):∀j,j<30->updG (updG (updG (updG (updG (updL (updG zjw 6 (.int .u64 wk)) 18 (yL y)) 3 (.int .u64 a3)) 2 (.int .u64 a2)) 1 (.int .u64 a1)) 0 (.int .u64 a0)) 4 (.int .u64 D) j=(clA (mkK a0 a1 a2 a3 D false wk y)).getD j undef:=
 j30 ⟨rfl,rfl,rfl,rfl,rfl,rfl,rfl,rfl,rfl,rfl,rfl,rfl,rfl,rfl,rfl,rfl,rfl,rfl,rfl,rfl,rfl,rfl,rfl,rfl,rfl,rfl,rfl,rfl,rfl,rfl⟩
theorem zwg (a0 a1 a2 a3 D:Int) (y:Nat->Int):∀j,j<30->updG (updG (updG (updG (updG (updL zjw 18 (yL y)) 3 (.int .u64 a3)) 2 (.int .u64 a2)) 1 (.int .u64 a1)) 0 (.int .u64 a0)) 5 (.int .u64 D) j=(clA (mkK a0 a1 a2 a3 D true (zas 1 7) y)).getD j undef:=
 j30 ⟨rfl,rfl,rfl,rfl,rfl,rfl,rfl,rfl,rfl,rfl,rfl,rfl,rfl,rfl,rfl,rfl,rfl,rfl,rfl,rfl,rfl,rfl,rfl,rfl,rfl,rfl,rfl,rfl,rfl,rfl⟩
theorem zwh (a0 a1 a2 a3 D:Int) (y:Nat->Int):∀j,j<30->updG (updG (updG (updG (updG (updL zjw 18 (yL y)) 3 (.int .u64 a3)) 2 (.int .u64 a2)) 1 (.int .u64 a1)) 0 (.int .u64 a0)) 4 (.int .u64 D) j=(clA (mkK a0 a1 a2 a3 D false (zas 1 7) y)).getD j undef:=
 j30 ⟨rfl,rfl,rfl,rfl,rfl,rfl,rfl,rfl,rfl,rfl,rfl,rfl,rfl,rfl,rfl,rfl,rfl,rfl,rfl,rfl,rfl,rfl,rfl,rfl,rfl,rfl,rfl,rfl,rfl,rfl⟩
theorem zoC (lo hi:Int) (A:Option Addr) (n c:Nat) (l:List It) (w:World) (hA:zcV w A n l) (hn:n<=100000):
 Calls prog 61 #[.int .i64 lo,.int .i64 hi,.slice A n c] w (Ret (.int .u64 (zal (zaC l lo hi))) w):=by
 have HV:=waV (zif lo hi A n c l w hA hn);have hlen:(zlI lo hi l).length<=1000000000:=by
  have h1:=zgs lo hi l;have h2:=zdB ((zeF lo hi l).mergeSort fun x y=>decide (x<=y))
  rw[zef] at h2;have h3:l.length=n:=hA.1;unfold zlI;omega
 rw[<-zuU];generalize zlI lo hi l=V at *;clear hA;go_enter func61,ntmps61;go_wp2_with fail;refine HV.out.mono ?_;rintro e w1 ⟨v,rfl,hown,hb⟩;obtain⟨A',c',rfl,_,_,hrd,_⟩:=za8.rd hown;have HM:=waV (zfD A' V.length c' V w1 hrd oQ);clear hown hrd;go_wp2_with fail;refine HM.out.mono ?_;rintro e w2 ⟨rfl,rfl⟩;go_wp2;go_ret;exact⟨rfl,hb⟩
theorem zcm (k:Nat) (hk:k<7) (lo hi:Int) (hlo:kLo k=lo) (hhi:kHi k=hi) (b:Nat) (A:Nat->Option Addr) (n m:Nat->Nat) (c:CalV) (W:World) (hE:EvAt W b A n m c.back) (hA:zjr W A n c) (hn:∀j,j<8->j≠4->n j<=100000):
 Calls prog 59 #[.int .i64 (k:Int),.pointer (some ⟨b,0,none⟩)] W (Ret (.int .u64 (zal (zaC (zaJ c k) lo hi))) W):=by
 have HB:=waV (fun W=>zeX k hk W)
 have HF:=waV (fun W' (hb:Below W.heap.size W W')=>zkS k hk c A n m c.back W' (hA.below hb) (fun j h1 h2=>by have:=hn j h1 h2;omega))
 have HM:=waV (fun A' c' W' (h:zcV W' A' (n (zby k)) (zaJ c k))=>zoC lo hi A' (n (zby k)) c' (zaJ c k) W' h (hn _ (zbR hk).1 (zbR hk).2))
 rw[hlo,hhi] at HB;have HE:=waV hE;unfold evV at HF;clear hA hE hlo hhi hn;generalize zal (zaC (zaJ c k) lo hi)=M at *;generalize c.back=bk at *;go_enter func59,ntmps59;go_wp2_with fail;refine(HB.out _).mono ?_;rintro e w1 ⟨rfl,hb1⟩;have HE1:=waV (HE.out.below hb1);have e0:=HE1.out.h0;have e1:=HE1.out.h1;have e2:=HE1.out.h2;have e3:=HE1.out.h3;have e4:=HE1.out.h4;have e5:=HE1.out.h5;have e6:=HE1.out.h6;have e7:=HE1.out.h7;go_wp2_with fail;refine(HF.out _ hb1).mono ?_;rintro e w2 ⟨A',c',rfl,hr,hb2⟩;have hbW:=zaf hb1 hb2 hb1.size;clear e0 e1 e2 e3 e4 e5 e6 e7 HE1 hb1 hb2;go_wp2_with fail;refine(HM.out _ _ _ hr).mono ?_;rintro e w3 ⟨rfl,hb3⟩;go_wp2;go_ret;exact⟨rfl,zaf hbW hb3 hbW.size⟩
theorem zwi (l:List It) (lo hi:Int):zlI lo hi l=zaC l lo hi:=zuU lo hi l
theorem znn {w W:World} {A:Nat->Option Addr} {n m:Nat->Nat} {bk:Bool} (h:(w.alloc (.cells #[.slice (A 0) (n 0) (m 0),.slice (A 1) (n 1) (m 1),.slice (A 2) (n 2) (m 2),.slice (A 3) (n 3) (m 3),.bool bk,.slice (A 5) (n 5) (m 5),.slice (A 6) (n 6) (m 6),.slice (A 7) (n 7) (m 7)] 26)).alloc (.cells #[.int .u64 0,.int .u64 0,.int .u64 0,.int .u64 0,.int .u64 0,.int .u64 0,.int .u64 0,.bool false,.int .i64 0,.bool false,.int .u64 0,.int .u64 0,.int .u64 0,.int .u64 0,.int .u64 0,.int .u64 0,.int .u64 0,.int .u64 0,.int .u64 0,.int .u64 0,.int .u64 0,.int .u64 0,.int .u64 0,.int .u64 0,.int .u64 0,.int .i64 0,.int .i64 0,.int .i64 0,.int .i64 0,.int .i64 0] 60)=W):EvAt W w.heap.size A n m bk/\W.there (w.heap.size+1) 0 30/\Below w.heap.size w W/\w.heap.size+2<=W.heap.size:=by
 subst h;have hT:=zcK (w.alloc (.cells #[.slice (A 0) (n 0) (m 0),.slice (A 1) (n 1) (m 1),.slice (A 2) (n 2) (m 2),.slice (A 3) (n 3) (m 3),.bool bk,.slice (A 5) (n 5) (m 5),.slice (A 6) (n 6) (m 6),.slice (A 7) (n 7) (m 7)] 26)) #[.int .u64 0,.int .u64 0,.int .u64 0,.int .u64 0,.int .u64 0,.int .u64 0,.int .u64 0,.bool false,.int .i64 0,.bool false,.int .u64 0,.int .u64 0,.int .u64 0,.int .u64 0,.int .u64 0,.int .u64 0,.int .u64 0,.int .u64 0,.int .u64 0,.int .u64 0,.int .u64 0,.int .u64 0,.int .u64 0,.int .u64 0,.int .u64 0,.int .i64 0,.int .i64 0,.int .i64 0,.int .i64 0,.int .i64 0] 60;rw[show (w.alloc (.cells #[.slice (A 0) (n 0) (m 0),.slice (A 1) (n 1) (m 1),.slice (A 2) (n 2) (m 2),.slice (A 3) (n 3) (m 3),.bool bk,.slice (A 5) (n 5) (m 5),.slice (A 6) (n 6) (m 6),.slice (A 7) (n 7) (m 7)] 26)).heap.size=w.heap.size+1 by simp] at hT
 exact⟨(zeC w A n m bk 26).below ((waC _ _).alloc (waJ _) _),hT,by exact zaE,by simp⟩
theorem zjx (A:Nat->Option Addr) (n m:Nat->Nat) (c:CalV) (w:World) (hA:zjr w A n c) (hn:∀j,j<8->j≠4->n j<=100000) (h:zfB c=(7,0)):
 Calls prog 24 #[evV A n m c.back] w (Ret (.tuple #[.agg (clA (evC c)),.int .i64 0]) w):=by
 have HK:=waV (fun W (hb:Below w.heap.size w W)=>zfV A n m c c.back W (hA.below hb) (fun k hk=>by have:=hn _ (zbR hk).1 (zbR hk).2;omega))
 rw[h] at HK;have HF:=waV (fun W=>zjV W)
 have eg:∀args w,(callFunc 59 args).run prog w=.ok (.enter 59 args) w:=enters_of func59 kQ rfl;have H0:=waV (fun W (hb:Below w.heap.size w W) (h:EvAt W w.heap.size A n m c.back)=>zcm 0 dQ 1 7 rfl rfl w.heap.size A n m c W h (hA.below hb) hn)
 have H2:=waV (fun W (hb:Below w.heap.size w W) (h:EvAt W w.heap.size A n m c.back)=>zcm 2 dQ 1 12 rfl rfl w.heap.size A n m c W h (hA.below hb) hn)
 have H3:=waV (fun W (hb:Below w.heap.size w W) (h:EvAt W w.heap.size A n m c.back)=>zcm 3 dQ 1 31 rfl rfl w.heap.size A n m c W h (hA.below hb) hn)
 have H4:=waV (fun W (hb:Below w.heap.size w W) (h:EvAt W w.heap.size A n m c.back)=>zcm 4 dQ 0 23 rfl rfl w.heap.size A n m c W h (hA.below hb) hn)
 have H5:=waV (fun W (hb:Below w.heap.size w W) (h:EvAt W w.heap.size A n m c.back)=>zcm 5 dQ 0 59 rfl rfl w.heap.size A n m c W h (hA.below hb) hn)
 have H6:=waV (fun W (hb:Below w.heap.size w W) (h:EvAt W w.heap.size A n m c.back)=>zcm 6 dQ 0 59 rfl rfl w.heap.size A n m c W h (hA.below hb) hn)
 have HY:Hid (∀W,Below w.heap.size w W->Calls prog 64 #[.int .i64 1970,.int .i64 2369,.slice (A 1) (n 1) (m 1)] W (Ret (.agg #[.int .u64 (evY c 0),.int .u64 (evY c 1),.int .u64 (evY c 2),.int .u64 (evY c 3),.int .u64 (evY c 4),.int .u64 (evY c 5),.int .u64 (evY c 6)]) W)):=fun W hb=>by
  have:=ztN 1970 2369 (A 1) (n 1) (m 1) (zaJ c 1) W ((hA.slot (k:=1) dQ).below hb (waJ _)) (hn 1 dQ dQ) ⟨by decide,by decide⟩
  rw[zwi] at this;exact this
 have HI:=waV (zbV zbn);have HC:=waV (zei zbn);have HI2:=waV (zbV (evC c));have HC2:=waV (zei (evC c));have HZs:Hid (30=(clA zbn).size/\(clA zbn).size=30):=⟨rfl,rfl⟩;have HS30:Hid ((clA (evC c)).size=30):=rfl;have hl0:(zaJ c 0).length=n 0:=(hA.slot (k:=0) dQ).1;have HEv:Hid (evC c=mkK (zal (zaC (zaJ c 6) 0 59)) (zal (zaC (zaJ c 5) 0 59)) (zal (zaC (zaJ c 4) 0 23)) (zal (zaC (zaJ c 2) 1 12)) (zal (zaC (zaJ c 3) 1 31)) c.back (if n 0=0 then zas 1 7 else zal (zaC (zaJ c 0) 1 7)) (evY c)):=by
  show _=_;rw[<-hl0];rfl
 clear hA hn h hl0;generalize zal (zaC (zaJ c 6) 0 59)=M0 at *;generalize zal (zaC (zaJ c 5) 0 59)=M1 at *;generalize zal (zaC (zaJ c 4) 0 23)=M2 at *;generalize zal (zaC (zaJ c 2) 1 12)=M3 at *;generalize zal (zaC (zaJ c 3) 1 31)=MD at *;generalize zal (zaC (zaJ c 0) 1 7)=MW at *;generalize evY c=y at *;generalize evC c=K at *;generalize c.back=bk at *;unfold evV;have HG0:Hid (n 0=0->∀j,j<30->(if bk then updG (updG (updG (updG (updG (updL zjw 18 (yL y)) 3 (.int .u64 M3)) 2 (.int .u64 M2)) 1 (.int .u64 M1)) 0 (.int .u64 M0)) 5 (.int .u64 MD) j else updG (updG (updG (updG (updG (updL zjw 18 (yL y)) 3 (.int .u64 M3)) 2 (.int .u64 M2)) 1 (.int .u64 M1)) 0 (.int .u64 M0)) 4 (.int .u64 MD) j)=(clA K).getD j undef):=fun h0=>by
  rw[HEv.out,if_pos h0];cases bk
  ·exact zwh M0 M1 M2 M3 MD y
  ·exact zwg M0 M1 M2 M3 MD y
 have HG1:Hid (¬n 0=0->∀j,j<30->(if bk then updG (updG (updG (updG (updG (updL (updG zjw 6 (.int .u64 MW)) 18 (yL y)) 3 (.int .u64 M3)) 2 (.int .u64 M2)) 1 (.int .u64 M1)) 0 (.int .u64 M0)) 5 (.int .u64 MD) j else updG (updG (updG (updG (updG (updL (updG zjw 6 (.int .u64 MW)) 18 (yL y)) 3 (.int .u64 M3)) 2 (.int .u64 M2)) 1 (.int .u64 M1)) 0 (.int .u64 M0)) 4 (.int .u64 MD) j)=(clA K).getD j undef):=fun h0=>by
  rw[HEv.out,if_neg h0];cases bk
  ·exact zwf M0 M1 M2 M3 MD MW y
  ·exact zwe M0 M1 M2 M3 MD MW y
 unfold zjw yL at HG0 HG1;clear HEv;generalize clA zbn=cs at *;generalize clA K=zs at *;go_enter func24,ntmps24;go_wp2_with fail;generalize hWs:World.alloc (World.alloc w _) _=w1 at *;obtain⟨hE,hT,hb1,hz1⟩:=znn hWs;have HE1:=waV hE;have HT1:=waV hT;clear hE hT hWs;refine(HK.out _ hb1).mono ?_;rintro x w1' ⟨rfl,hq⟩;replace HE1:=waV (HE1.out.below hq);replace HT1:=waV (zaK HT1.out oQ hq);replace hz1:w.heap.size+2<=w1'.heap.size:=by have:=hq.size;omega
 replace hb1:=zaf hb1 hq hb1.size;clear hq HK;go_wp2_with fail;refine(HF.out _).mono ?_;rintro x w2 ⟨rfl,hq2⟩;have hb2:=zaf hb1 hq2 hb1.size;have HE2:=waV (HE1.out.below hq2);have HT2:=waV (zaK HT1.out oQ hq2);have hz2:w.heap.size+2<=w2.heap.size:=by have:=hq2.size;omega
 clear HE1 HT1 hb1 hq2 hz1 HF
 by_cases h0:n 0=0
 case' pos=>
  have h0':¬0<(n 0:Int):=by omega
  have HG:=waV (HG0.out h0);clear HG0 HG1 h0
  go_wp2_with (refine zaL (by rfl) 60 _ _ rfl cs _ rfl rfl HI.out HC.out HZs.out.1 ?_;intro w3 hq3 HA3 hz3;have HS:Hid (LowK w w3 w2.heap.size A n m bk (fun j=>cs.getD j undef)):=⟨HE2.out.below hq3,by rw[<-HZs.out.2];exact HA3,zaK HT2.out (by omega) hq3,by omega,zaf hb2 hq3 hb2.size⟩;have e0:=HS.out.ev.h0;have e1:=HS.out.ev.h1;have e2:=HS.out.ev.h2;have e3:=HS.out.ev.h3;have e4:=HS.out.ev.h4;have e5:=HS.out.ev.h5;have e6:=HS.out.ev.h6;have e7:=HS.out.ev.h7;have hltB:w.heap.size<w2.heap.size:=by omega)
  clear hq3 HA3 hz3 HE2 HT2 hb2 hz2;generalize hB:w2.heap.size=B at *;clear hB;refine(HY.out _ HS.out.below).mono ?_;rintro x w5 ⟨rfl,hq⟩;replace HS:=waV (HS.out.later hq);clear hq HY
  ((try clear e0);(try clear e1);(try clear e2);(try clear e3);(try clear e4);(try clear e5);(try clear e6);(try clear e7);(try clear hltB))
  go_wp2_with (refine zc1 rfl 40 _ _ rfl #[.int .u64 (y 0),.int .u64 (y 1),.int .u64 (y 2),.int .u64 (y 3),.int .u64 (y 4),.int .u64 (y 5),.int .u64 (y 6)] B 18 rfl rfl kQ kQ (zkW HS.out.arr 18 7 dQ) ?_;generalize hW6:World.setCells _ _ _ _=w6;replace hW6:=waV hW6)
  have HSy:=LowK.updL [.int .u64 (y 0),.int .u64 (y 1),.int .u64 (y 2),.int .u64 (y 3),.int .u64 (y 4),.int .u64 (y 5),.int .u64 (y 6)] _ 18 _ HS.out (by simp)
  rw[show World.setCells w5 B 18 [.int .u64 (y 0),.int .u64 (y 1),.int .u64 (y 2),.int .u64 (y 3),.int .u64 (y 4),.int .u64 (y 5),.int .u64 (y 6)]=w6 from hW6.out] at HSy
  replace HS:=waV HSy;clear HSy hW6
  ((try clear e0);(try clear e1);(try clear e2);(try clear e3);(try clear e4);(try clear e5);(try clear e6);(try clear e7);(try clear hltB))
 case' neg=>
  have h0':0<(n 0:Int):=by omega
  have HG:=waV (HG1.out h0);clear HG0 HG1 h0
  go_wp2_with (refine zaL (by rfl) 60 _ _ rfl cs _ rfl rfl HI.out HC.out HZs.out.1 ?_;intro w3 hq3 HA3 hz3;have HS:Hid (LowK w w3 w2.heap.size A n m bk (fun j=>cs.getD j undef)):=⟨HE2.out.below hq3,by rw[<-HZs.out.2];exact HA3,zaK HT2.out (by omega) hq3,by omega,zaf hb2 hq3 hb2.size⟩;have e0:=HS.out.ev.h0;have e1:=HS.out.ev.h1;have e2:=HS.out.ev.h2;have e3:=HS.out.ev.h3;have e4:=HS.out.ev.h4;have e5:=HS.out.ev.h5;have e6:=HS.out.ev.h6;have e7:=HS.out.ev.h7;have hltB:w.heap.size<w2.heap.size:=by omega)
  clear hq3 HA3 hz3 HE2 HT2 hb2 hz2;generalize hB:w2.heap.size=B at *;clear hB;refine(H0.out _ HS.out.below HS.out.ev).mono ?_;rintro x w4 ⟨rfl,hq⟩;replace HS:=waV (HS.out.later hq);clear hq H0
  ((try clear e0);(try clear e1);(try clear e2);(try clear e3);(try clear e4);(try clear e5);(try clear e6);(try clear e7);(try clear hltB))
  have c0:=HS.out.arr.1 6 dQ;have f0:=HS.out.arr.2 6;have e0:=HS.out.ev.h0;have e1:=HS.out.ev.h1;have e2:=HS.out.ev.h2;have e3:=HS.out.ev.h3;have e4:=HS.out.ev.h4;have e5:=HS.out.ev.h5;have e6:=HS.out.ev.h6;have e7:=HS.out.ev.h7;have hltB:w.heap.size<B:=Nat.lt_trans (Nat.lt_succ_self _) HS.out.lt;go_wp2_with fail;replace HS:=waV (HS.out.updG 6 dQ (.int .u64 MW));clear c0 f0
  ((try clear e0);(try clear e1);(try clear e2);(try clear e3);(try clear e4);(try clear e5);(try clear e6);(try clear e7);(try clear hltB))
  generalize World.setCell w4 _ _=w5 at *;refine(HY.out _ HS.out.below).mono ?_;rintro x w5' ⟨rfl,hq⟩;replace HS:=waV (HS.out.later hq);clear hq HY
  go_wp2_with (refine zc1 rfl 40 _ _ rfl #[.int .u64 (y 0),.int .u64 (y 1),.int .u64 (y 2),.int .u64 (y 3),.int .u64 (y 4),.int .u64 (y 5),.int .u64 (y 6)] B 18 rfl rfl kQ kQ (zkW HS.out.arr 18 7 dQ) ?_;generalize hW6:World.setCells _ _ _ _=w6;replace hW6:=waV hW6)
  have HSy:=LowK.updL [.int .u64 (y 0),.int .u64 (y 1),.int .u64 (y 2),.int .u64 (y 3),.int .u64 (y 4),.int .u64 (y 5),.int .u64 (y 6)] _ 18 _ HS.out (by simp)
  rw[show World.setCells w5' B 18 [.int .u64 (y 0),.int .u64 (y 1),.int .u64 (y 2),.int .u64 (y 3),.int .u64 (y 4),.int .u64 (y 5),.int .u64 (y 6)]=w6 from hW6.out] at HSy
  replace HS:=waV HSy;clear HSy hW6
  ((try clear e0);(try clear e1);(try clear e2);(try clear e3);(try clear e4);(try clear e5);(try clear e6);(try clear e7);(try clear hltB))
 all_goals
  refine(H2.out _ HS.out.below HS.out.ev).mono ?_;rintro x w7 ⟨rfl,hq⟩;replace HS:=waV (HS.out.later hq);clear hq H2
  ((try clear e0);(try clear e1);(try clear e2);(try clear e3);(try clear e4);(try clear e5);(try clear e6);(try clear e7);(try clear hltB))
  have e0:=HS.out.ev.h0;have e1:=HS.out.ev.h1;have e2:=HS.out.ev.h2;have e3:=HS.out.ev.h3;have e4:=HS.out.ev.h4;have e5:=HS.out.ev.h5;have e6:=HS.out.ev.h6;have e7:=HS.out.ev.h7;have hltB:w.heap.size<B:=Nat.lt_trans (Nat.lt_succ_self _) HS.out.lt;go_wp2_with fail;refine(H4.out _ HS.out.below HS.out.ev).mono ?_;rintro x w8 ⟨rfl,hq⟩;replace HS:=waV (HS.out.later hq);clear hq H4
  ((try clear e0);(try clear e1);(try clear e2);(try clear e3);(try clear e4);(try clear e5);(try clear e6);(try clear e7);(try clear hltB))
  have e0:=HS.out.ev.h0;have e1:=HS.out.ev.h1;have e2:=HS.out.ev.h2;have e3:=HS.out.ev.h3;have e4:=HS.out.ev.h4;have e5:=HS.out.ev.h5;have e6:=HS.out.ev.h6;have e7:=HS.out.ev.h7;have hltB:w.heap.size<B:=Nat.lt_trans (Nat.lt_succ_self _) HS.out.lt;go_wp2_with fail;refine(H5.out _ HS.out.below HS.out.ev).mono ?_;rintro x w9 ⟨rfl,hq⟩;replace HS:=waV (HS.out.later hq);clear hq H5
  ((try clear e0);(try clear e1);(try clear e2);(try clear e3);(try clear e4);(try clear e5);(try clear e6);(try clear e7);(try clear hltB))
  have e0:=HS.out.ev.h0;have e1:=HS.out.ev.h1;have e2:=HS.out.ev.h2;have e3:=HS.out.ev.h3;have e4:=HS.out.ev.h4;have e5:=HS.out.ev.h5;have e6:=HS.out.ev.h6;have e7:=HS.out.ev.h7;have hltB:w.heap.size<B:=Nat.lt_trans (Nat.lt_succ_self _) HS.out.lt;go_wp2_with fail;refine(H6.out _ HS.out.below HS.out.ev).mono ?_;rintro x w10 ⟨rfl,hq⟩;replace HS:=waV (HS.out.later hq);clear hq H6
  ((try clear e0);(try clear e1);(try clear e2);(try clear e3);(try clear e4);(try clear e5);(try clear e6);(try clear e7);(try clear hltB))
  have e0:=HS.out.ev.h0;have e1:=HS.out.ev.h1;have e2:=HS.out.ev.h2;have e3:=HS.out.ev.h3;have e4:=HS.out.ev.h4;have e5:=HS.out.ev.h5;have e6:=HS.out.ev.h6;have e7:=HS.out.ev.h7;have hltB:w.heap.size<B:=Nat.lt_trans (Nat.lt_succ_self _) HS.out.lt;have c3:=HS.out.arr.1 3 dQ;have c2:=HS.out.arr.1 2 dQ;have c1:=HS.out.arr.1 1 dQ;have c0:=HS.out.arr.1 0 dQ;have f3:=HS.out.arr.2 3;have f2:=HS.out.arr.2 2;have f1:=HS.out.arr.2 1;have f0:=HS.out.arr.2 0;cases bk with
  |true=>
   go_wp2_with fail;replace HS:=waV ((((HS.out.updG 3 dQ (.int .u64 M3)).updG 2 dQ (.int .u64 M2)).updG 1 dQ (.int .u64 M1)).updG 0 dQ (.int .u64 M0));clear c0 c1 c2 c3 f0 f1 f2 f3
   ((try clear e0);(try clear e1);(try clear e2);(try clear e3);(try clear e4);(try clear e5);(try clear e6);(try clear e7);(try clear hltB))
   generalize World.setCell (World.setCell (World.setCell (World.setCell w10 _ _) _ _) _ _) _ _=w11 at *;refine(H3.out _ HS.out.below HS.out.ev).mono ?_;rintro x w12 ⟨rfl,hq⟩;replace HS:=waV (HS.out.later hq);clear hq H3
   ((try clear e0);(try clear e1);(try clear e2);(try clear e3);(try clear e4);(try clear e5);(try clear e6);(try clear e7);(try clear hltB))
   have c0:=HS.out.arr.1 5 dQ;have f0:=HS.out.arr.2 5;have HSo:=HS;replace HS:=waV (HS.out.updG 5 dQ (.int .u64 MD));clear HSo;have HZ14:Hid (∀j v,zs[j]?=some v->(w12.setCell ⟨B,5,none⟩ (.int .u64 MD)).cell? ⟨B,0+j,none⟩=some v):=fun j v hj=>by
    have hl:j<30:=by rw[<-HS30.out];exact(waL.1 hj).1
    rw[waH];refine((HS.out.arr.1 j hl).trans (congrArg some (HG.out j hl))).trans ?_;rw[wbL,hj];rfl
   have HT14:Hid ((w12.setCell ⟨B,5,none⟩ (.int .u64 MD)).there (w.heap.size+1) 0 zs.size):=by show World.there _ _ _ _;rw[HS30.out];exact HS.out.out
   have HB14:=waV HS.out.below;clear HG HS
   go_wp2_with (first
    |(refine zag (by rfl) 60 _ rfl zs B 0 rfl underlying60 rfl HI2.out HZ14.out ?_)
    |(refine zcL (w:=w) rfl 60 _ _ rfl zs (w.heap.size+1) oQ rfl rfl underlying60 rfl HI2.out HC2.out HB14.out HT14.out ?_;intro W' hLd hbE))
   (try simp only[Exit.inBlock,Exit.then])
   skip
   skip
   refine waY (v:=.tuple #[.agg zs,.int .i64 0]) ?_ rfl ⟨rfl,hbE⟩;rw[zaD rfl];show((loadVar 60 ⟨w.heap.size+1,0,none⟩).run prog W').andThen (fun v w₂=>Result.ok (Value.tuple #[v,Value.int .i64 0]) w₂)=_
   rw[hLd.out];rfl
  |false=>
   go_wp2_with fail;replace HS:=waV ((((HS.out.updG 3 dQ (.int .u64 M3)).updG 2 dQ (.int .u64 M2)).updG 1 dQ (.int .u64 M1)).updG 0 dQ (.int .u64 M0));clear c0 c1 c2 c3 f0 f1 f2 f3
   ((try clear e0);(try clear e1);(try clear e2);(try clear e3);(try clear e4);(try clear e5);(try clear e6);(try clear e7);(try clear hltB))
   generalize World.setCell (World.setCell (World.setCell (World.setCell w10 _ _) _ _) _ _) _ _=w11 at *;refine(H3.out _ HS.out.below HS.out.ev).mono ?_;rintro x w12 ⟨rfl,hq⟩;replace HS:=waV (HS.out.later hq);clear hq H3
   ((try clear e0);(try clear e1);(try clear e2);(try clear e3);(try clear e4);(try clear e5);(try clear e6);(try clear e7);(try clear hltB))
   have c0:=HS.out.arr.1 4 dQ;have f0:=HS.out.arr.2 4;replace HS:=waV (HS.out.updG 4 dQ (.int .u64 MD));have HZ14:Hid (∀j v,zs[j]?=some v->(w12.setCell ⟨B,4,none⟩ (.int .u64 MD)).cell? ⟨B,0+j,none⟩=some v):=fun j v hj=>by
    have hl:j<30:=by rw[<-HS30.out];exact(waL.1 hj).1
    rw[waH];refine((HS.out.arr.1 j hl).trans (congrArg some (HG.out j hl))).trans ?_;rw[wbL,hj];rfl
   have HT14:Hid ((w12.setCell ⟨B,4,none⟩ (.int .u64 MD)).there (w.heap.size+1) 0 zs.size):=by show World.there _ _ _ _;rw[HS30.out];exact HS.out.out
   have HB14:=waV HS.out.below;clear HG HS
   go_wp2_with (first
    |(refine zag (by rfl) 60 _ rfl zs B 0 rfl underlying60 rfl HI2.out HZ14.out ?_)
    |(refine zcL (w:=w) rfl 60 _ _ rfl zs (w.heap.size+1) oQ rfl rfl underlying60 rfl HI2.out HC2.out HB14.out HT14.out ?_;intro W' hLd hbE))
   (try simp only[Exit.inBlock,Exit.then])
   skip
   skip
   refine waY (v:=.tuple #[.agg zs,.int .i64 0]) ?_ rfl ⟨rfl,hbE⟩;rw[zaD rfl];show((loadVar 60 ⟨w.heap.size+1,0,none⟩).run prog W').andThen (fun v w₂=>Result.ok (Value.tuple #[v,Value.int .i64 0]) w₂)=_
   rw[hLd.out];rfl
theorem zhL (A:Nat->Option Addr) (n m:Nat->Nat) (c:CalV) (w:World) (hA:zjr w A n c) (hn:∀k,k<7->n (zby k)<=9223372036854775807) (h:(zfB c).2≠0):
 Calls prog 24 #[evV A n m c.back] w (Ret (.tuple #[.agg (clA zig),.int .i64 (zfB c).2]) w):=by
 have HK:=waV (fun W (hb:Below w.heap.size w W)=>zfV A n m c c.back W (hA.below hb) hn)
 have he:((zfB c).2 !=0)=true:=by simpa using h
 clear hA hn h;generalize (zfB c).1=f at *;generalize (zfB c).2=e at *;generalize c.back=bk at *;have HZ:Hid (Value.agg (clA zig)=.agg #[.int .u64 0,.int .u64 0,.int .u64 0,.int .u64 0,.int .u64 0,.int .u64 0,.int .u64 0,.bool false,.int .i64 0,.bool false,.int .u64 0,.int .u64 0,.int .u64 0,.int .u64 0,.int .u64 0,.int .u64 0,.int .u64 0,.int .u64 0,.int .u64 0,.int .u64 0,.int .u64 0,.int .u64 0,.int .u64 0,.int .u64 0,.int .u64 0,.int .i64 0,.int .i64 0,.int .i64 0,.int .i64 0,.int .i64 0]):=rfl;rw[HZ.out];clear HZ;unfold evV;go_enter func24,ntmps24;go_wp2_with fail;generalize hWs:World.alloc (World.alloc w _) _=w0 at *;obtain⟨_,hT,hb0,hz0⟩:=znn hWs;clear hWs;refine(HK.out _ hb0).mono ?_;rintro x w1 ⟨rfl,hb1⟩;have hbW:=zaf hb0 hb1 hb0.size;replace hT:=zaK hT oQ hb1;clear hb1 hb0 hz0
 go_wp2_with (refine zcL (w:=w) rfl 60 _ _ rfl #[.int .u64 0,.int .u64 0,.int .u64 0,.int .u64 0,.int .u64 0,.int .u64 0,.int .u64 0,.bool false,.int .i64 0,.bool false,.int .u64 0,.int .u64 0,.int .u64 0,.int .u64 0,.int .u64 0,.int .u64 0,.int .u64 0,.int .u64 0,.int .u64 0,.int .u64 0,.int .u64 0,.int .u64 0,.int .u64 0,.int .u64 0,.int .u64 0,.int .i64 0,.int .i64 0,.int .i64 0,.int .i64 0,.int .i64 0] (w.heap.size+1) oQ rfl rfl underlying60 rfl kQ kQ hbW hT ?_;intro W' hLd hbE)
 (try simp only[Exit.inBlock,Exit.then])
 refine waY (v:=.tuple #[.agg _,.int .i64 e]) ?_ rfl ⟨rfl,hbE⟩;rw[zaD rfl];show((loadVar 60 ⟨w.heap.size+1,0,none⟩).run prog W').andThen (fun v w₂=>Result.ok (Value.tuple #[v,Value.int .i64 e]) w₂)=_
 rw[hLd.out];rfl
theorem zhn (A:Nat->Option Addr) (n m:Nat->Nat) (c:CalV) (w:World) (hA:zjr w A n c) (hn:∀j,j<8->j≠4->n j<=100000) (h:zfB c=(7,0)):
 Calls prog 10 #[evV A n m c.back] w (zjo (evC c) w):=by
 have HC:=waV (fun W (hb:Below w.heap.size w W)=>zjx A n m c W (hA.below hb) hn h)
 have HI:=waV (zbV (evC c));have H1:=waV (zei (evC c));have Hs:Hid (30=(clA (evC c)).size):=rfl;have HR:=waV (fun w t=>zkK w (evC c) t)
 clear hA hn h;generalize clA (evC c)=cs at *;generalize evC c=K at *;generalize c.back=bk at *;unfold evV at *;go_enter func10,ntmps10;go_wp2_with fail;refine(HC.out _ (by exact zaE)).mono ?_
 rintro x w1 ⟨rfl,hq1⟩;have hb1:Below w.heap.size w w1:=((waC _ w).alloc (waJ _) _).trans (hq1.mono (by simp))
 clear hq1 HC;have hcs:cs.size=30:=Hs.out.symm
 go_wp2_with (first
  |(refine zaL (by rfl) 60 _ _ rfl cs _ rfl rfl HI.out H1.out Hs.out ?_;intro w2 hq2 HS2 hz2)
  |(refine zag (by rfl) 60 _ rfl cs w1.heap.size 0 rfl underlying60 rfl HI.out (zdM (ziU HS2)) ?_))
 have hb2:=zaf hb1 hq2 hb1.size;have hbE:Below w.heap.size w (w2.alloc (.cells cs 60)):=hb2.alloc hb2.size _;rw[znh cs _ 30 rfl hcs,<-hz2];refine waY (wbM rfl _ _ _) rfl ?_;exact⟨_,rfl,HR.out _ _,hbE⟩
theorem zoD (A:Nat->Option Addr) (n m:Nat->Nat) (c:CalV) (w:World) (hA:zjr w A n c) (hn:∀k,k<7->n (zby k)<=9223372036854775807) (h:(zfB c).2≠0):
 Calls prog 10 #[evV A n m c.back] w (Ret (.tuple #[.slice none 0 0,.int .i64 (zfB c).2]) w):=by
 have HC:=waV (fun W (hb:Below w.heap.size w W)=>zhL A n m c W (hA.below hb) hn h)
 have HI:=waV (zbV zig);have H1:=waV (zei zig);have Hs:Hid (30=(clA zig).size):=rfl;have he:((zfB c).2 !=0)=true:=by simpa using h
 clear hA hn h;generalize (zfB c).2=e at *;generalize clA zig=cs at *;generalize c.back=bk at *;unfold evV at *;go_enter func10,ntmps10;go_wp2_with fail;refine(HC.out _ (by exact zaE)).mono ?_
 rintro x w1 ⟨rfl,hq1⟩;have hb1:Below w.heap.size w w1:=((waC _ w).alloc (waJ _) _).trans (hq1.mono (by simp))
 clear hq1 HC
 go_wp2_with (refine zaL (by rfl) 60 _ _ rfl cs _ rfl rfl HI.out H1.out Hs.out ?_;intro w2 hq2 HS2 hz2)
 refine waY (wbM rfl _ _ _) rfl ?_;exact⟨rfl,zaf hb1 hq2 hb1.size⟩
theorem rdB2 {w:World} {B:Nat} {c d:UInt8} (h:w.cell? ⟨B,0,none⟩=some (.int .u8 (c.toNat:Int))) (h1:w.cell? ⟨B,1,none⟩=some (.int .u8 (d.toNat:Int))):zbf w (some ⟨B,0,none⟩) 2 [c,d]:=
 ⟨rfl,fun _=>⟨B,0,rfl,waR w _ h,fun i x hi j v hj=>by
  rcases j with _|j
  ·rcases i with _|_|i
   ·obtain rfl:c=x:=by simpa using hi
    obtain rfl:Value.int .u8 (c.toNat:Int)=v:=by simpa[zfG] using hj
    simpa using h
   ·obtain rfl:d=x:=by simpa using hi
    obtain rfl:Value.int .u8 (d.toNat:Int)=v:=by simpa[zfG] using hj
    simpa using h1
   ·simp at hi
  ·simp[zfG] at hj⟩⟩
section
variable {w : World} {b C B : Nat} {s : ByteArray} {σ : PS} {c : CalV} (hs : s.size <= 1000000)
include hs
end
end Go.Proofs.YtllcdbgjeidlkaaGreatDoor
