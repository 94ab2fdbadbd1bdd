/- A part of the proof: WOwn -/
import Derived.Test.YtllcdbgjeidlkaaGreatDoorT00
import Derived.Test.YtllcdbgjeidlkaaGreatDoorT04
import Derived.Test.YtllcdbgjeidlkaaGreatDoorT35
import Derived.Test.YtllcdbgjeidlkaaGreatDoorT29
import Derived.Test.YtllcdbgjeidlkaaGreatDoorT34
set_option maxHeartbeats 80000000
set_option maxRecDepth 100000
set_option linter.unusedSimpArgs false
set_option linter.unusedVariables false
namespace Go.Proofs.YtllcdbgjeidlkaaGreatDoor
open Go.Proofs.Tryz
open Go.RowKit
section
variable {w w' wr : World} {b : Nat}
theorem Chg.grown {row:Option Nat} (h:Chg b w wr) (hg:wr.grownBy w' row) (hrow:∀k,row=some k->w.heap.size<=k):Chg b w w':=
 ⟨hg.os.trans h.os,hg.tape.trans h.tape,hg.output.trans h.output,waW h.size hg.size,fun k hk hn=>(hg.block k (waD hk h.size) (fun e=>by have:=hrow k e.symm;omega)).trans (h.block k hk hn)⟩
theorem zu0 {B n k:Nat} {v:Value} {t:TypeId} {xs:List Value} (h:w.ownsRow B t k v n xs):∀g,v.ownBlock=some g->B<=g:=by
 intro g hg;rcases zbO h with ⟨rfl,_⟩|⟨g',cap,rfl,h2,_⟩
 ·simp[Value.ownBlock] at hg
 ·simp[Value.ownBlock] at hg;omega
theorem zhj {B n k:Nat} {v:Value} {t:TypeId} {xs:List Value} (h:w.ownsRow B t k v n xs) (hg:Chg b w w') (hb:b<B):w'.ownsRow B t k v n xs:=
 h.kept hg (by
  cases e:v.ownBlock with
  |none=>exact .inl rfl
  |some g=>right;have:=zu0 h g e;intro h2;cases h2;omega)
end
theorem zl3 {w:World} {B R o n k:Nat} {v x:Value} {t:TypeId} {xs:List Value} (h:w.ownsRow B t k v n xs) (hR:R<B):(w.setCell ⟨R,o,none⟩ x).ownsRow B t k v n xs:=
 zhj h ((Chg.refl R w).set o x) hR
theorem zf7 {w:World} {B n k:Nat} {v:Value} {t:TypeId} {xs:List Value} (h:w.ownsRow B t k v n xs):∃A m c,v=.slice A m c:=by
 rcases zbO h with ⟨rfl,_⟩|⟨g,cap,rfl,_⟩
 ·exact⟨_,_,_,rfl⟩
 ·exact⟨_,_,_,rfl⟩
structure Chg2 (b C:Nat) (w w':World):Prop where
 os:w'.os=w.os
 tape:w'.tape=w.tape
 output:w'.output=w.output
 size:w.heap.size<=w'.heap.size
 block:∀k,k<w.heap.size->k≠b->k≠C->w'.heap[k]?=w.heap[k]?
section
variable {w w' w'' : World} {b C : Nat}
theorem Chg.two (h:Chg b w w') (C:Nat):Chg2 b C w w':=⟨h.os,h.tape,h.output,h.size,fun k hk hb _=>h.block k hk (fun e=>hb (by injection e))⟩
theorem Chg2.trans (h:Chg2 b C w w') (g:Chg2 b C w' w''):Chg2 b C w w'':=
 ⟨g.os.trans h.os,g.tape.trans h.tape,g.output.trans h.output,waW h.size g.size,fun k hk hb hc=>(g.block k (waD hk h.size) hb hc).trans (h.block k hk hb hc)⟩
theorem Chg2.then (h:Chg2 b C w w') (g:Chg b w' w''):Chg2 b C w w'':=h.trans (g.two C)
theorem Chg2.set (h:Chg2 b C w w') (o:Nat) (v:Value):Chg2 b C w (w'.setCell ⟨C,o,none⟩ v):=
 h.trans ⟨rfl,rfl,rfl,by simp[World.setCell],fun k _ _ hc=>wbJ _ _ _ _ (fun e=>hc (by simp[e]))⟩
theorem Chg2.alloc (h:Chg2 b C w w') (o:Obj):Chg2 b C w (w'.alloc o):=h.then ((Chg.refl b w').alloc o)
theorem Chg2.cell {B o:Nat} {v:Value} (h:Chg2 b C w w') (hb:B≠b) (hC:B≠C) (hc:w.cell? ⟨B,o,none⟩=some v):w'.cell? ⟨B,o,none⟩=some v:=
 (wbK (h.block B (waR w _ hc) hb hC)).trans hc
theorem Chg2.below {B:Nat} {w0:World} (h:Below B w0 w) (g:Chg2 b C w w') (hb:B<=b) (hC:B<=C) (hs:B<=w.heap.size):Below B w0 w':=
 h.trans ⟨g.os,g.tape,g.output,g.size,fun k hk=>g.block k oQ oQ oQ⟩
end
def zhK (L:List It) (b:Nat) (s:ByteArray) (σ:PS) (w:World) (x:Ending) (w':World):Prop:=∃v,x=.returned v/\zaY w' w.heap.size v L/\L≠[]/\RdP w' b s σ/\Chg b w w'
section
variable {w : World} {b : Nat} {s : ByteArray} {σ : PS} (hs : s.size <= 1000000)
include hs
end
def zhx (c:CalV) (j:Nat):List It:=if j=0 then c.week else if j=1 then c.year else if j=2 then c.month else if j=3 then c.day else if j=5 then c.hour else if j=6 then c.minute else if j=7 then c.second else []
def zaQ (w:World) (C B:Nat) (c:CalV):Prop:=∃g:Nat->Value,Arr w C 8 g/\g 4=.bool c.back/\∀j,j<8->j≠4->zaY w B (g j) (zhx c j)/\(zhx c j=[]->g j=.slice none 0 0)
section
variable {w w' : World} {C B b : Nat} {c c' : CalV}
theorem zaQ.chg (h:zaQ w C B c) (hg:Chg b w w') (hC:C≠b) (hb:b<B):zaQ w' C B c:=by
 obtain⟨g,h1,h2,h3⟩:=h;exact⟨g,Arr.chg h1 dQ hg hC,h2,fun j hj h4=>⟨zhj (h3 j hj h4).1 hg hb,(h3 j hj h4).2⟩⟩
theorem zaQ.lt (h:zaQ w C B c):C<w.heap.size:=by obtain⟨g,h1,_⟩:=h;exact h1.lt dQ
theorem zaQ.alloc (h:zaQ w C B c) (o:Obj):zaQ (w.alloc o) C B c:=by
 obtain⟨g,h1,h2,h3⟩:=h;exact⟨g,h1.alloc (h1.lt dQ) o,h2,fun j hj h4=>⟨World.ownsRow.alloc (h3 j hj h4).1 o,(h3 j hj h4).2⟩⟩
theorem zaQ.setL (h:zaQ w C B c) (hC:C<B) (j:Nat) (hj:j<8) (h4:j≠4) (v:Value) (hv:zaY w B v (zhx c' j)) (hL:zhx c' j≠[]) (ho:∀k,k<8->k≠j->zhx c' k=zhx c k) (hb:c'.back=c.back):zaQ (w.setCell ⟨C,j,none⟩ v) C B c':=by
 obtain⟨g,h1,h2,h3⟩:=h;refine⟨fun k=>if k=j then v else g k,Arr.set h1 j hj v (if_pos rfl) (fun k _ hk=>if_neg hk),by dsimp only;rw[if_neg (fun e=>h4 e.symm),h2,hb],fun k hk hk4=>?_⟩
 by_cases e:k=j
 ·subst e;dsimp only;rw[if_pos rfl];exact⟨zl3 hv hC,fun h=>absurd h hL⟩
 ·dsimp only;rw[if_neg e,ho k hk e];exact⟨zl3 (h3 k hk hk4).1 hC,(h3 k hk hk4).2⟩
theorem zaQ.setBack (h:zaQ w C B c) (hC:C<B) (v:Bool) (ho:∀k,k<8->zhx c' k=zhx c k) (hb:c'.back=v):zaQ (w.setCell ⟨C,4,none⟩ (.bool v)) C B c':=by
 obtain⟨g,h1,h2,h3⟩:=h;refine⟨fun k=>if k=4 then .bool v else g k,Arr.set h1 4 (by decide) _ (if_pos rfl) (fun k _ hk=>if_neg hk),by dsimp only;rw[if_pos rfl,hb],fun k hk hk4=>?_⟩
 dsimp only;rw[if_neg hk4,ho k hk];exact⟨zl3 (h3 k hk hk4).1 hC,(h3 k hk hk4).2⟩
theorem zaQ.cells (h:zaQ w C B c):∃g:Nat->Value,w.cell? ⟨C,0,none⟩=some (g 0)/\w.cell? ⟨C,1,none⟩=some (g 1)/\w.cell? ⟨C,2,none⟩=some (g 2)/\w.cell? ⟨C,3,none⟩=some (g 3)/\w.cell? ⟨C,4,none⟩=some (g 4)/\w.cell? ⟨C,5,none⟩=some (g 5)/\w.cell? ⟨C,6,none⟩=some (g 6)/\w.cell? ⟨C,7,none⟩=some (g 7)/\∀j,w.frozen? ⟨C,j,none⟩=false:=by
 obtain⟨g,h1,h2,h3⟩:=h;exact⟨g,h1.1 0 dQ,h1.1 1 dQ,h1.1 2 dQ,h1.1 3 dQ,h1.1 4 dQ,h1.1 5 dQ,h1.1 6 dQ,h1.1 7 dQ,h1.2⟩
end
def zwS (v:Value) (b C B:Nat) (s:ByteArray) (σ:PS) (c:CalV) (w:World) (x:Ending) (w':World):Prop:=x=.returned v/\RdP w' b s σ/\zaQ w' C B c/\Chg2 b C w w'
section
variable {w : World} {b : Nat} {s : ByteArray} {σ : PS} (hs : s.size <= 1000000)
include hs
theorem zra (h:RdP w b s σ):Calls prog 102 #[kV b s] w (zjO (.bool (zii s.size σ).2) b s (zii s.size σ).1 w):=by
 have hs9:s.size<=9223372036854775807:=by omega
 have hlt:=h.lt;have hne:¬w.heap.size=b:=by omega
 have H:=waV h;have HD:=waV (fun W (h:RdP W b s σ)=>zpx h)
 have HM:=waV (fun W A n cp (h:RdP W b s σ) (hA:zbf W A n [32]) (hn:n<=9223372036854775807)=>ziT (cp:=cp) hs9 h hA hn)
 have HR:Hid (zii s.size σ=if zgD σ then(σ,false) else((ziR s.size [32] σ).1,true)):=rfl
 generalize zii s.size σ=R at *;generalize ziR s.size [32] σ=m at *;obtain⟨τ,mv⟩:=m;dsimp only at *;clear h;cases hd:zgD σ with
 |true=>
  rw[hd] at HD HR;have HE:Hid (R=(σ,false)):=HR.out;clear hd HR;go_enter func102,ntmps102;go_wp2_with fail;refine(HD.out _ (H.out.alloc _)).mono ?_;rintro e w1 ⟨rfl,h1,g1⟩;go_wp2;go_ret;exact⟨by rw[HE.out];rfl,by rw[HE.out];exact h1,((Chg.refl b w).alloc _).trans g1⟩
 |false=>
  rw[hd] at HD HR;have HE:Hid (R=(τ,true)):=HR.out;clear hd HR;go_enter func102,ntmps102;go_wp2_with fail;refine(HD.out _ (H.out.alloc _)).mono ?_;rintro e w1 ⟨rfl,h1,g1⟩;obtain⟨hc1,hf1⟩:=zsm g1;go_wp2_with fail;refine(HM.out _ _ _ _ (h1.alloc _) (zuG (c:=32) (zaa rfl rfl)) dQ).mono ?_;rintro e w2 ⟨rfl,h2,g2⟩;go_wp2;go_ret;exact⟨by rw[HE.out];rfl,by rw[HE.out];exact h2,((((Chg.refl b w).alloc _).trans g1).alloc _).trans g2⟩
end
theorem zrb (c:CalV) {k:Nat} (hk:k<7):zhx c (zby k)=zaJ c k:=by
 obtain rfl|rfl|rfl|rfl|rfl|rfl|rfl:k=0\/k=1\/k=2\/k=3\/k=4\/k=5\/k=6:=by omega
 all_goals rfl
theorem zbR {k:Nat} (hk:k<7):zby k<8/\zby k≠4:=by unfold zby;split<;>omega
def zjr (w:World) (A:Nat->Option Addr) (n:Nat->Nat) (c:CalV):Prop:=∀j,j<8->j≠4->zcV w (A j) (n j) (zhx c j)
theorem zjr.below {w w':World} {A:Nat->Option Addr} {n:Nat->Nat} {c:CalV} (h:zjr w A n c) (hb:Below w.heap.size w w'):zjr w' A n c:=fun j hj h4=>Rd.below (h j hj h4) hb (waJ _)
theorem zjr.slot {w:World} {A:Nat->Option Addr} {n:Nat->Nat} {c:CalV} (h:zjr w A n c) {k:Nat} (hk:k<7):zcV w (A (zby k)) (n (zby k)) (zaJ c k):=by
 have:=h (zby k) (zbR hk).1 (zbR hk).2
 rwa [zrb c hk] at this
theorem ztz {l:Nat->List It}:∀(q k:Nat),q<=7->7 - q<=k->k<7->(∀j,j<k->zaF j (l j)=0)->zaF k (l k)≠0->zq7 l q=((k:Int),zaF k (l k)):=by
 intro q;induction q with
 |zero=>intro k _ h1 h2;omega
 |succ q ih=>
  intro k hq h1 h2 H hk;unfold zq7
  by_cases e:6 - q=k
  ·rw[e,if_neg hk]
  ·rw[if_pos (H _ (by omega))]
   exact ih k oQ oQ h2 H hk
theorem zrc {c:CalV} {k:Nat} (hk:k<7) (H:∀j,j<k->zaF j (zaJ c j)=0) (h:zaF k (zaJ c k)≠0):zfB c=((k:Int),zaF k (zaJ c k)):=
 ztz 7 k (waJ _) oQ hk H h
theorem zfV (A:Nat->Option Addr) (n m:Nat->Nat) (c:CalV) (bk:Bool) (w:World) (hA:zjr w A n c) (hn:∀k,k<7->n (zby k)<=9223372036854775807):
 Calls prog 47 #[evV A n m bk] w (Ret (.tuple #[.int .i64 (zfB c).1,.int .i64 (zfB c).2]) w):=by
 have HA:=waV hA;have HN:=waV hn;clear hA hn;have HE0:=waV (zeC w A n m bk 26);unfold evV;go_enter func47,ntmps47;go_wp2
 go_loopw [6] (fun i wr=>∃k:Nat,k<=7/\i=.int .i64 k/\Hid (∀j:Nat,j<k->zaF j (zaJ c j)=0)/\Hid (EvAt wr w.heap.size A n m bk)/\w.heap.size<wr.heap.size/\Below w.heap.size w wr) (fun i _=>7 - (intOf i).toNat)
 case atStart=>exact⟨0,by omega,rfl,fun j h=>absurd h (Nat.not_lt_zero _),HE0,by(first|(simp;done)|(simp;omega)),by exact zaE⟩
 case round=>
  obtain⟨k,hk,rfl,H,HC,hlt,hb⟩:=hrel;have hsz:=hb.size
  by_cases h5:k<7
  ·have h5':(k:Int)<7:=by omega
   have HL:=waV (zgw k h5 w.heap.size A n m bk wr HC.out);have HF:=waV (fun w1 (hb1:Below wr.heap.size wr w1)=>zoy k h5 (A (zby k)) (n (zby k)) (m (zby k)) (zaJ c k) w1 (Rd.below (((HA.out.slot h5).below hb (waJ _))) hb1 (waJ _)) (HN.out k h5))
   by_cases hf:zaF k (zaJ c k)=0
   ·have Hf:=waV hf;rw[hf] at HF;clear hf;go_wp2_with fail;refine HL.out.mono ?_;rintro e w1 ⟨rfl,q,rfl⟩;go_wp2_with fail;refine(HF.out _ (zaj (waC _ _) q)).mono ?_;rintro e w1 ⟨rfl,hb1⟩;go_wp2;go_roundw
    case rel=>
     have hb2:Below wr.heap.size wr w1:=(zaj (waC _ wr) q).trans hb1;exact⟨k+1,by omega,by go_num,zgy H.out Hf.out,HC.out.below hb2,waD hlt hb2.size,zaf hb hb2 hsz⟩
    case measure=>simp [intOf];omega
   ·have HK:Hid (zfB c=((k:Int),zaF k (zaJ c k))):=zrc h5 H.out hf;have hf':(zaF k (zaJ c k) !=0)=true:=by simpa using hf
    clear hf;generalize zaF k (zaJ c k)=q at HF HK hf';go_wp2_with fail;refine HL.out.mono ?_;rintro e w1 ⟨rfl,q,rfl⟩;go_wp2_with fail;refine(HF.out _ (zaj (waC _ _) _)).mono ?_;rintro e w1 ⟨rfl,hb1⟩;go_wp2
    go_ret2
    have hb2:Below wr.heap.size wr w1:=(zaj (waC _ wr) _).trans hb1;exact⟨by rw[HK.out];rfl,zaf hb hb2 hsz⟩
  ·obtain rfl:k=7:=by omega
   have HK:Hid (zfB c=(7,0)):=zjp H.out;go_wp2
   go_ret2
   exact⟨by rw[HK.out];rfl,hb⟩
def zkQ (c d:CalV):Bool:=((List.range 7).all fun k=>zbU (zaJ c k) (zaJ d k))&&(c.back==d.back)
theorem ztA {c d:CalV} {k:Nat} (hk:k<7) (h:zbU (zaJ c k) (zaJ d k)=false):zkQ c d=false:=by
 have:((List.range 7).all fun k=>zbU (zaJ c k) (zaJ d k))=false:=by
  rw[List.all_eq_false];exact⟨k,wbG.2 hk,by simp[h]⟩
 rw[zkQ,this,Bool.false_and]
theorem zkR {c d:CalV} (H:∀k,k<7->zbU (zaJ c k) (zaJ d k)=true):zkQ c d=(c.back==d.back):=by
 have:((List.range 7).all fun k=>zbU (zaJ c k) (zaJ d k))=true:=by
  rw[List.all_eq_true];exact fun k hk=>H k (wbG.1 hk)
 rw[zkQ,this,Bool.true_and]
theorem zoz (c:CalV):zkQ c c=true:=by rw[zkR fun k _=>by simp[zbU]];simp
theorem zrd (A B:Nat->Option Addr) (n p m q:Nat->Nat) (c d:CalV) (w:World) (hA:zjr w A n c) (hB:zjr w B m d) (hn:∀k,k<7->n (zby k)<=9223372036854775807) (hm:∀k,k<7->m (zby k)<=9223372036854775807):
 Calls prog 9 #[evV A n p c.back,evV B m q d.back] w (Ret (.bool (zkQ c d)) w):=by
 have HA:=waV hA;have HB:=waV hB;have HN:=waV hn;have HM:=waV hm;clear hA hB hn hm;have HE0:=waV ((zeC w A n p c.back 26).below ((waC _ _).alloc (waJ _) (.cells #[.slice (B 0) (m 0) (q 0),.slice (B 1) (m 1) (q 1),.slice (B 2) (m 2) (q 2),.slice (B 3) (m 3) (q 3),.bool d.back,.slice (B 5) (m 5) (q 5),.slice (B 6) (m 6) (q 6),.slice (B 7) (m 7) (q 7)] 26)));have HE1:=waV (zeC (w.alloc (.cells #[.slice (A 0) (n 0) (p 0),.slice (A 1) (n 1) (p 1),.slice (A 2) (n 2) (p 2),.slice (A 3) (n 3) (p 3),.bool c.back,.slice (A 5) (n 5) (p 5),.slice (A 6) (n 6) (p 6),.slice (A 7) (n 7) (p 7)] 26)) B m q d.back 26);rw[show (w.alloc (.cells #[.slice (A 0) (n 0) (p 0),.slice (A 1) (n 1) (p 1),.slice (A 2) (n 2) (p 2),.slice (A 3) (n 3) (p 3),.bool c.back,.slice (A 5) (n 5) (p 5),.slice (A 6) (n 6) (p 6),.slice (A 7) (n 7) (p 7)] 26)).heap.size=w.heap.size+1 by simp] at HE1
 unfold evV;go_enter func9,ntmps9;go_wp2
 go_loopw [6] (fun i wr=>∃k:Nat,k<=7/\i=.int .i64 k/\Hid (∀j:Nat,j<k->zbU (zaJ c j) (zaJ d j)=true)/\Hid (EvAt wr w.heap.size A n p c.back)/\Hid (EvAt wr (w.heap.size+1) B m q d.back)/\w.heap.size+1<wr.heap.size/\Below w.heap.size w wr) (fun i _=>7 - (intOf i).toNat)
 case atStart=>
  exact⟨0,by omega,rfl,fun j h=>absurd h (Nat.not_lt_zero _),HE0,HE1,by(first|(simp;done)|(simp;omega)),by exact zaE⟩
 case round=>
  obtain⟨k,hk,rfl,H,HC,HD,hlt,hb⟩:=hrel;have hsz:=hb.size
  by_cases h5:k<7
  ·have h5':(k:Int)<7:=by omega
   have HL:=waV (zgw k h5 w.heap.size A n p c.back wr HC.out);have HR:=waV (fun z=>zgw k h5 (w.heap.size+1) B m q d.back (wr.drewN z) (HD.out.below (zaj (waC _ _) z)))
   have HE:=waV (fun z=>zqV (A (zby k)) (B (zby k)) (n (zby k)) (m (zby k)) (p (zby k)) (q (zby k)) (zaJ c k) (zaJ d k) (wr.drewN z) (Rd.below (HA.out.slot h5) (zaj hb z) (waJ _)) (Rd.below (HB.out.slot h5) (zaj hb z) (waJ _)) (HN.out k h5) (HM.out k h5))
   cases hf:zbU (zaJ c k) (zaJ d k) with
   |true=>
    have Hf:=waV hf;rw[hf] at HE;clear hf;go_wp2_with fail;refine HL.out.mono ?_;rintro e w1 ⟨rfl,z,rfl⟩;go_wp2_with fail;refine(HR.out _).mono ?_;rintro e w1 ⟨rfl,z',rfl⟩;go_wp2_with fail;refine(HE.out _).mono ?_;rintro e w1 ⟨rfl,z2,rfl⟩;go_wp2;go_roundw
    case rel=>exact⟨k+1,by omega,by go_num,zgy H.out Hf.out,HC.out.below (zaj (waC _ _) _),HD.out.below (zaj (waC _ _) _),hlt,zaj hb _⟩
    case measure=>simp [intOf];omega
   |false=>
    have HK:Hid (zkQ c d=false):=ztA h5 hf;rw[hf] at HE;clear hf;go_wp2_with fail;refine HL.out.mono ?_;rintro e w1 ⟨rfl,z,rfl⟩;go_wp2_with fail;refine(HR.out _).mono ?_;rintro e w1 ⟨rfl,z',rfl⟩;go_wp2_with fail;refine(HE.out _).mono ?_;rintro e w1 ⟨rfl,z2,rfl⟩;go_wp2;go_ret;exact⟨zab HK.out.symm,zaj hb _⟩
  ·obtain rfl:k=7:=by omega
   have HK:Hid (zkQ c d=(c.back==d.back)):=zkR H.out;have x0:=HC.out.h4;have x1:=HD.out.h4;go_wp2;go_ret;exact⟨zab (by rw[HK.out]),hb⟩
theorem zv8 {α:Type} {k:Nat} {enc:α->List Value} {w:World} {A:Option Addr} {n:Nat} {l:List α} (h:Rd k enc w A n l) (hA:A=none):n=0:=by
 rcases Nat.eq_zero_or_pos n with h0|h0
 ·exact h0
 ·obtain⟨b,o,e,_⟩:=h.2 h0;rw[hA] at e;cases e
theorem zkS (k:Nat) (hk:k<7) (c:CalV) (A:Nat->Option Addr) (n m:Nat->Nat) (bk:Bool) (w:World) (hA:zjr w A n c) (hn:∀j,j<8->j≠4->n j<=4294967296):
 Calls prog 62 #[evV A n m bk,.int .i64 k] w (zo7 (n (zby k)) (zaJ c k) w):=by
 have HA:=waV (hA.slot hk);have HL:=waV (fun W h=>zgw k hk w.heap.size A n m bk W h)
 have HC:=waV (fun W (hb:Below w.heap.size w W)=>zo8 (A (zby k)) (n (zby k)) (m (zby k)) (zaJ c k) W (HA.out.below hb (waJ _)) (hn _ (zbR hk).1 (zbR hk).2) (zv8 HA.out))
 have HE0:=waV (zeC w A n m bk 26);clear hA hn;unfold evV;go_enter func62,ntmps62;go_wp2_with fail;refine(HL.out _ HE0.out).mono ?_;rintro e w1 ⟨rfl,q,rfl⟩;go_wp2_with fail;refine(HC.out _ (by exact zaE)).mono ?_
 rintro e w1 ⟨A',c',rfl,hr,hb1⟩;go_wp2;go_ret;exact⟨A',c',rfl,hr,zaf (zaj ((waC _ w).alloc (waJ _) _) q) hb1 (by simp)⟩
end Go.Proofs.YtllcdbgjeidlkaaGreatDoor
namespace Go.Proofs.YtllcdbgjeidlkaaGreatDoor
open Go.Proofs.Tryz
open Go.RowKit
open Go.Maps
abbrev zcT:Array Value:=#[.slice none 0 0,.slice none 0 0,.slice none 0 0,.slice none 0 0,.bool false,.slice none 0 0,.slice none 0 0,.slice none 0 0]
abbrev zb9 (V:World) (b:Nat) (cs:Array Value):Prop:=V.heap[b]?=some (.cells cs 26 (0,0))
theorem zb9.below {V X:World} {b:Nat} {cs:Array Value} (h:zb9 V b cs) (hb:Below V.heap.size V X):zb9 X b cs:=(hb.block _ (waL.1 h).1).trans h
theorem zb9.lt {V:World} {b:Nat} {cs:Array Value} (h:zb9 V b cs):b<V.heap.size:=(waL.1 h).1
theorem zb9.new (V:World) (cs:Array Value):zb9 (V.alloc (.cells cs 26)) V.heap.size cs:=World.alloc_heap_new V _
theorem zb9.lies {V:World} {b:Nat} {cs:Array Value} (h:zb9 V b cs):∀j v,cs[j]?=some v->V.cell? ⟨b,j,none⟩=some v:=fun j v hj=>by rw[World.cell?_of_heap h];exact hj
theorem zb9.ld {V:World} {b:Nat} {cs:Array Value} (h:zb9 V b cs):∀j v,cs[j]?=some v->V.cell? ⟨b,0+j,none⟩=some v:=zdM h.lies
theorem zb9.rls {V X:World} {b q:Nat} {cs:Array Value} (h:zb9 V b cs) (hr:RlS (·=q) V X) (hq:b≠q):zb9 X b cs:=(hr.block _ h.lt hq).trans h
theorem zb9.there {V:World} {b:Nat} {zs:Array Value} (h:zb9 V b zs) (n:Nat) (hn:n<=zs.size):V.there b 0 n:=fun j hj=>by
 rw[waH];refine⟨?_,by simp[World.frozen?,h]⟩
 rw[World.cell?_of_heap h,wbI (by omega)]
 rfl
theorem zxF {V:World} {b:Nat} {zs cs:Array Value} (hO:zb9 V b zs) (hs:zs.size=cs.size):zb9 (V.setCells b 0 cs.toList) b cs:=by
 obtain⟨cs',hc',hs'⟩:=zel cs.toList 0 V ⟨zs,hO,rfl⟩;have e:cs'=cs:=by
  apply Array.ext oQ;intro i h1 h2;have h3:=World.rangeAt_setCells_same V b 0 cs.toList (hO.there _ (by simp;omega)) i cs[i] (by rw[Array.getElem?_toList,wbI h2])
  rw[waH,World.cell?_of_heap hc',wbI h1] at h3;exact waB h3
 rw[e] at hc';exact hc'
theorem za0 {ops:Array Oper} {rest:List Oper} {op:Oper} {a:Act} {Q:Exit->Act->World->Prop} {W:World} {b:Nat} {zs:Array Value} (hgd:op.guard=none) (x y:Operand) (ho:op.op=.store 26 x y) (cs:Array Value) (hO:zb9 W b zs) (hx:a.eval x=.pointer (some ⟨b,0,none⟩)) (hy:a.eval y=.agg cs)
 (hs:zs.size=cs.size) (hi:(prog.info? 26).map (·.size)=some cs.size) (h1:cs.all (·.oneCell')=true) (h:∀W',zb9 W' b cs->RlS (·=b) W W'->wpList prog ops Q rest (a.put op.dst undef) W'):wpList prog ops Q (op::rest) a W:=
 wpList_store_mid (P:=prog) hgd 26 x y ho b 0 cs hx hy (hO.there _ oQ) hi h1 (h _ (zxF hO hs) (zc7 _ _ _ (RlS.refl _ _)))
theorem zl4 {W:World} {b:Nat} {cs:Array Value} (h:zb9 W b cs) (hi:(prog.info? 26).map (·.size)=some cs.size):(loadVar 26 ⟨b,0,none⟩).run prog W=.ok (.agg cs) W:=by
 have:=run_loadVar_mid (P:=prog) W b 0 26 cs.toList _ (fun j v hj=>by rw[waH];exact h.lies j v (by simpa using hj)) underlying26 rfl (by simpa using hi)
 simpa using this
theorem zcl {fn:Func} {p t:Tmp} (hf:fn.results=#[.cell p 26,.tmp t]) {tmps:Array Value} {W:World} {b:Nat} {cs:Array Value} {x:Value} (hp:tmps.getD p undef=.pointer (some ⟨b,0,none⟩)) (hx:tmps.getD t undef=x) (h:zb9 W b cs) (hi:(prog.info? 26).map (·.size)=some cs.size):
 (results fn tmps).run prog W=.ok (.tuple #[.agg cs,x]) W:=by
 rw[zaD hf,hp,hx];have e:(asAddr (.pointer (some ⟨b,0,none⟩))).run prog W=.ok ⟨b,0,none⟩ W:=rfl;rw[e,Result.andThen_ok,zl4 h hi,Result.andThen_ok]
theorem zhk {fn:Func} {p:Tmp} (hf:fn.results=#[.cell p 26]) {tmps:Array Value} {W:World} {b:Nat} {cs:Array Value} (hp:tmps.getD p undef=.pointer (some ⟨b,0,none⟩)) (h:zb9 W b cs) (hi:(prog.info? 26).map (·.size)=some cs.size):
 (results fn tmps).run prog W=.ok (.agg cs) W:=by
 rw[zah hf,hp];have e:(asAddr (.pointer (some ⟨b,0,none⟩))).run prog W=.ok ⟨b,0,none⟩ W:=rfl;rw[e,Result.andThen_ok,zl4 h hi]
theorem zjs {V:World} {c:Nat} {X:Array Value} {z:Nat×Nat} (hc:V.heap[c]?=some (.cells X 26 z)):∀g cur,V.heap[g]?=some (.cells cur 64)->¬(g=c):=by
 rintro g cur hg rfl;rw[hc] at hg
 injection hg with hg
 injection hg with _ hg
 exact absurd hg dQ
def zb0 (w:World) (B:Nat) (v:Value) (c:CalV):Prop:=∃v0 v1 v2 v3 v5 v6 v7,v=.agg #[v0,v1,v2,v3,.bool c.back,v5,v6,v7]/\(zaY w B v0 c.week/\zaY w B v1 c.year/\zaY w B v2 c.month/\zaY w B v3 c.day)/\zaY w B v5 c.hour/\zaY w B v6 c.minute/\zaY w B v7 c.second
theorem zb0.below {w w':World} {B:Nat} {v:Value} {c:CalV} (h:zb0 w B v c) (hb:Below w.heap.size w w'):zb0 w' B v c:=by
 obtain⟨v0,v1,v2,v3,v5,v6,v7,e,⟨h0,h1,h2,h3⟩,h5,h6,h7⟩:=h;exact⟨v0,v1,v2,v3,v5,v6,v7,e,⟨zak h0 hb,zak h1 hb,zak h2 hb,zak h3 hb⟩,zak h5 hb,zak h6 hb,zak h7 hb⟩
theorem zb0.base {w:World} {B B':Nat} {v:Value} {c:CalV} (h:zb0 w B v c) (hB:B'<=B):zb0 w B' v c:=by
 obtain⟨v0,v1,v2,v3,v5,v6,v7,e,⟨h0,h1,h2,h3⟩,h5,h6,h7⟩:=h;exact⟨v0,v1,v2,v3,v5,v6,v7,e,⟨zar h0 hB,zar h1 hB,zar h2 hB,zar h3 hB⟩,zar h5 hB,zar h6 hB,zar h7 hB⟩
theorem zb0.rls {w w':World} {B b:Nat} {v:Value} {c:CalV} {vs:Array Value} (h:zb0 w B v c) (hc:zb9 w b vs) (hr:RlS (·=b) w w'):zb0 w' B v c:=by
 obtain⟨v0,v1,v2,v3,v5,v6,v7,e,⟨h0,h1,h2,h3⟩,h5,h6,h7⟩:=h;have hS:=zjs hc;exact⟨v0,v1,v2,v3,v5,v6,v7,e,⟨zbJ h0 hr hS,zbJ h1 hr hS,zbJ h2 hr hS,zbJ h3 hr hS⟩,zbJ h5 hr hS,zbJ h6 hr hS,zbJ h7 hr hS⟩
theorem zb0.eight {w:World} {B:Nat} {v:Value} {c:CalV} (h:zb0 w B v c):∃S0 n0 d0 S1 n1 d1 S2 n2 d2 S3 n3 d3 S5 n5 d5 S6 n6 d6 S7 n7 d7,v=.agg #[.slice S0 n0 d0,.slice S1 n1 d1,.slice S2 n2 d2,.slice S3 n3 d3,.bool c.back,.slice S5 n5 d5,.slice S6 n6 d6,.slice S7 n7 d7]:=by
 obtain⟨v0,v1,v2,v3,v5,v6,v7,rfl,⟨h0,h1,h2,h3⟩,h5,h6,h7⟩:=h;obtain⟨S0,d0,rfl⟩:=zaP h0;obtain⟨S1,d1,rfl⟩:=zaP h1;obtain⟨S2,d2,rfl⟩:=zaP h2;obtain⟨S3,d3,rfl⟩:=zaP h3;obtain⟨S5,d5,rfl⟩:=zaP h5;obtain⟨S6,d6,rfl⟩:=zaP h6;obtain⟨S7,d7,rfl⟩:=zaP h7;exact⟨_,_,_,_,_,_,_,_,_,_,_,_,_,_,_,_,_,_,_,_,_,rfl⟩
theorem zb0.rd {w:World} {B:Nat} {v:Value} {c:CalV} (h:zb0 w B v c):∃A n m,v=evV A n m c.back/\zjr w A n c/\(∀j,A j=none->n j=0)/\∀j,n j=if j<8/\j≠4 then(zhx c j).length else 0:=by
 obtain⟨v0,v1,v2,v3,v5,v6,v7,rfl,⟨h0,h1,h2,h3⟩,h5,h6,h7⟩:=h;obtain⟨A0,c0,rfl,a0,b0,r0,z0⟩:=h0.rd;obtain⟨A1,c1,rfl,a1,b1,r1,z1⟩:=h1.rd;obtain⟨A2,c2,rfl,a2,b2,r2,z2⟩:=h2.rd;obtain⟨A3,c3,rfl,a3,b3,r3,z3⟩:=h3.rd;obtain⟨A5,c5,rfl,a5,b5,r5,z5⟩:=h5.rd;obtain⟨A6,c6,rfl,a6,b6,r6,z6⟩:=h6.rd;obtain⟨A7,c7,rfl,a7,b7,r7,z7⟩:=h7.rd;refine⟨fun j=>if j=0 then A0 else if j=1 then A1 else if j=2 then A2 else if j=3 then A3 else if j=5 then A5 else if j=6 then A6 else if j=7 then A7 else none,fun j=>if j<8/\j≠4 then(zhx c j).length else 0,fun j=>if j=0 then c0 else if j=1 then c1 else if j=2 then c2 else if j=3 then c3 else if j=5 then c5 else if j=6 then c6 else if j=7 then c7 else 0,rfl,fun j hj h4=>?_,fun j hj=>?_,fun j=>rfl⟩
 ·obtain rfl|rfl|rfl|rfl|rfl|rfl|rfl:j=0\/j=1\/j=2\/j=3\/j=5\/j=6\/j=7:=by omega
  ·exact r0
  ·exact r1
  ·exact r2
  ·exact r3
  ·exact r5
  ·exact r6
  ·exact r7
 ·dsimp only at hj ⊢
  by_cases h8:j<8/\j≠4
  ·rw[if_pos h8];obtain rfl|rfl|rfl|rfl|rfl|rfl|rfl:j=0\/j=1\/j=2\/j=3\/j=5\/j=6\/j=7:=by omega
   ·exact z0 hj
   ·exact z1 hj
   ·exact z2 hj
   ·exact z3 hj
   ·exact z5 hj
   ·exact z6 hj
   ·exact z7 hj
  ·rw[if_neg h8]
end Go.Proofs.YtllcdbgjeidlkaaGreatDoor
