/- A part of the proof: WLex5 -/
import Derived.Test.YtllcdbgjeidlkaaGreatDoorT00
import Derived.Deep.LoopGhost
set_option maxHeartbeats 80000000
set_option maxRecDepth 100000
set_option linter.unusedSimpArgs false
set_option linter.unusedVariables false
namespace Go.Proofs.YtllcdbgjeidlkaaGreatDoor
open Go.Proofs.Tryz
open Go.RowKit
def Rdr (w:World) (b:Nat) (s:ByteArray) (k:Nat) (bad e:Int):Prop:=
 w.heap[b]?=some (.cells #[.string s,.int .i64 k,.int .i64 bad,.int .i64 e] 182 (0,0))
section
variable {w w' : World} {b : Nat} {s : ByteArray} {k : Nat} {bad e : Int}
theorem Rdr.lt (h:Rdr w b s k bad e):b<w.heap.size:=(waL.1 h).1
theorem Rdr.cells (h:Rdr w b s k bad e):w.cell? ⟨b,0,none⟩=some (.string s)/\w.cell? ⟨b,1,none⟩=some (.int .i64 k)/\w.cell? ⟨b,2,none⟩=some (.int .i64 bad)/\w.cell? ⟨b,3,none⟩=some (.int .i64 e):=by
 unfold Rdr at h;simp[World.cell?,h]
theorem Rdr.free (h:Rdr w b s k bad e) (o:Nat):w.frozen? ⟨b,o,none⟩=false:=by
 unfold Rdr at h;simp[World.frozen?,h]
theorem Rdr.drewN (h:Rdr w b s k bad e) (q:Nat):Rdr (w.drewN q) b s k bad e:=h
theorem Rdr.kept (h:Rdr w b s k bad e) {B:Nat} (hb:Below B w w') (hB:b<B):Rdr w' b s k bad e:=(hb.block b hB).trans h
theorem ze5 {w:World} {b o:Nat} {cs:Array Value} {t:TypeId} {v:Value} (h:w.heap[b]?=some (.cells cs t (0,0))):(w.setCell ⟨b,o,none⟩ v).heap[b]?=some (.cells (cs.setIfInBounds o v) t (0,0)):=by
 have hlt:=(waL.1 h).1;have h':w.heap[b]=.cells cs t (0,0):=(waL.1 h).2;show(w.heap.modify b _)[b]?=_;rw[wbI (by simpa using hlt),Array.getElem_modify_self,h']
 rfl
theorem Rdr.setAt (h:Rdr w b s k bad e) (k':Nat):Rdr (w.setCell ⟨b,1,none⟩ (.int .i64 k')) b s k' bad e:=ze5 h
theorem Rdr.setBad (h:Rdr w b s k bad e) (x:Int):Rdr (w.setCell ⟨b,2,none⟩ (.int .i64 x)) b s k x e:=ze5 h
theorem Rdr.setE (h:Rdr w b s k bad e) (x:Int):Rdr (w.setCell ⟨b,3,none⟩ (.int .i64 x)) b s k bad x:=ze5 h
end
abbrev Chg (b:Nat) (w w':World):Prop:=w.grownBy w' (some b)
theorem Chg.refl (b:Nat) (w:World):Chg b w w:=⟨rfl,rfl,rfl,waJ _,fun _ _ _=>rfl⟩
theorem Chg.trans {b:Nat} {w w1 w2:World} (h:Chg b w w1) (g:Chg b w1 w2):Chg b w w2:=
 ⟨g.os.trans h.os,g.tape.trans h.tape,g.output.trans h.output,waW h.size g.size,fun k hk hn=>(g.block k (waD hk h.size) hn).trans (h.block k hk hn)⟩
theorem Chg.drewN {b:Nat} {w w1:World} (h:Chg b w w1) (q:Nat):Chg b w (w1.drewN q):=⟨h.os,h.tape,h.output,h.size,h.block⟩
theorem Chg.set {b:Nat} {w w1:World} (h:Chg b w w1) (o:Nat) (v:Value):Chg b w (w1.setCell ⟨b,o,none⟩ v):=
 h.trans ⟨rfl,rfl,rfl,by simp[World.setCell],fun k _ hn=>wbJ _ _ _ _ (fun e=>hn (by simp[e]))⟩
theorem Chg.alloc {b:Nat} {w w1:World} (h:Chg b w w1) (o:Obj):Chg b w (w1.alloc o):=h.trans (World.grownBy_alloc _ _ _)
theorem Chg.of_below {b:Nat} {w w1:World} (h:Below w.heap.size w w1):Chg b w w1:=⟨h.os,h.tape,h.output,h.size,fun k hk _=>h.block k hk⟩
theorem Chg.below {b B:Nat} {w w1 w2:World} (h:Below B w w1) (g:Chg b w1 w2) (hB:B<=b) (hs:B<=w1.heap.size):Below B w w2:=
 h.trans ⟨g.os,g.tape,g.output,g.size,fun k hk=>g.block k oQ (fun e=>by injection e;omega)⟩
def zdf (s:ByteArray) (k:Nat) (e:Int):Bool:=decide (e≠0\/k=s.size)
theorem zdX {s:ByteArray} {k:Nat} {e:Int} (h:e≠0):zdf s k e=true:=waP (.inl h)
theorem ziM (s:ByteArray) (k:Nat):zdf s k 0=decide (k=s.size):=by simp[zdf]
theorem ziN {s:ByteArray} {k:Nat} {e:Int} (hk:k<=s.size) (h:zdf s k e=false):e=0/\k<s.size:=by
 simp only[zdf,decide_eq_false_iff_not] at h;omega
theorem ze6 (b:Nat) (s:ByteArray) (k:Nat) (bad e:Int) (w:World) (h:Rdr w b s k bad e):Calls prog 160 #[.pointer (some ⟨b,0,none⟩)] w (ziA (.bool (zdf s k e)) w):=by
 obtain⟨c0,c1,c2,c3⟩:=h.cells;clear h
 by_cases he:e=0
 ·subst he;rw[ziM];have e1:decide (k=s.size)=((k:Int)==(s.size:Int)):=by rw[waQ];simp;omega
  rw[e1];generalize hq:((k:Int)==(s.size:Int))=q;go_enter func160,ntmps160;go_wp2
  go_quiet (fail)
  go_wp2;go_ret;exact⟨rfl,_,rfl⟩
 ·have he':(e !=0)=true:=by simpa using he
  rw[zdX he];clear he;go_enter func160,ntmps160;go_wp2
  go_quiet (fail)
  go_wp2;go_ret;exact⟨rfl,_,rfl⟩
theorem zuC (b:Nat) (s:ByteArray) (k:Nat) (bad e:Int) (w:World) (h:Rdr w b s k bad e):Calls prog 107 #[.pointer (some ⟨b,0,none⟩)] w (zbE (.int .i64 k) w):=by
 obtain⟨c0,c1,c2,c3⟩:=h.cells;clear h;go_enter func107,ntmps107;go_wp2;go_ret;exact⟨rfl,rfl⟩
theorem zpn (b:Nat) (s:ByteArray) (k:Nat) (bad e:Int) (w:World) (h:Rdr w b s k bad e):Calls prog 45 #[.pointer (some ⟨b,0,none⟩)] w (ziA (.tuple #[.int .i64 bad,.int .i64 e]) w):=by
 obtain⟨c0,c1,c2,c3⟩:=h.cells;clear h;go_enter func45,ntmps45;go_wp2
 go_quiet (fail)
 go_wp2
 go_ret2
 exact⟨rfl,_,rfl⟩
def zwJ (v:Value) (b:Nat) (s:ByteArray) (k:Nat) (bad e:Int) (w:World) (x:Ending) (w':World):Prop:=x=.returned v/\Rdr w' b s k bad e/\Chg b w w'
def zbz (bad e p q:Int):Int:=if e=0/\q≠0 then p else bad
def zdY (e q:Int):Int:=if e=0 then q else e
theorem zgi (b:Nat) (s:ByteArray) (k:Nat) (bad e p q:Int) (w:World) (h:Rdr w b s k bad e):
 Calls prog 97 #[.pointer (some ⟨b,0,none⟩),.int .i64 p,.int .i64 q] w (zwJ (.tuple #[]) b s k (zbz bad e p q) (zdY e q) w):=by
 obtain⟨c0,c1,c2,c3⟩:=h.cells;have f2:=h.free 2;have f3:=h.free 3;have H:=waV h;clear h
 by_cases he:e=0
 ·subst he
  by_cases hq:q=0
  ·subst hq;have e1:zbz bad 0 p 0=bad:=by simp[zbz]
   have e2:zdY 0 0=0:=by simp[zdY]
   rw[e1,e2];clear e1 e2;go_enter func97,ntmps97;go_wp2
   go_end0
   exact⟨rfl,H.out,Chg.refl _ _⟩
  ·have hq':(q !=0)=true:=by simpa using hq
   have e1:zbz bad 0 p q=p:=by simp[zbz,hq]
   have e2:zdY 0 q=q:=by simp[zdY]
   rw[e1,e2];clear hq e1 e2;go_enter func97,ntmps97;go_wp2
   go_end0
   exact⟨rfl,(H.out.setBad p).setE q,((Chg.refl _ _).set _ _).set _ _⟩
 ·have he':(e==0)=false:=by simpa using he
  have e1:zbz bad e p q=bad:=by simp[zbz,he]
  have e2:zdY e q=e:=by simp[zdY,he]
  rw[e1,e2];clear he e1 e2;go_enter func97,ntmps97;go_wp2
  go_end0
  exact⟨rfl,H.out,Chg.refl _ _⟩
theorem zpo (b:Nat) (s:ByteArray) (k:Nat) (bad e:Int) (w:World) (h:Rdr w b s k bad e) (hd:zdf s k e=true):Calls prog 99 #[.pointer (some ⟨b,0,none⟩)] w (ziA (.int .u8 0) w):=by
 have HD:=waV (ze6 b s k bad e w h);rw[hd] at HD;clear h hd;go_enter func99,ntmps99;go_wp2_with fail;refine HD.out.mono ?_;rintro e w1 ⟨rfl,q,rfl⟩;go_wp2;go_ret;exact⟨rfl,_,rfl⟩
theorem zpp (b:Nat) (s:ByteArray) (k:Nat) (bad:Int) (w:World) (h:Rdr w b s k bad 0) (hk:k<s.size):Calls prog 99 #[.pointer (some ⟨b,0,none⟩)] w (ziA (.int .u8 (s[k].toNat:Int)) w):=by
 have HD:=waV (ze6 b s k bad 0 w h);rw[ziM,waO (by omega)] at HD
 obtain⟨c0,c1,c2,c3⟩:=h.cells;have hk':(k:Int)<(s.size:Int):=by omega
 clear h;go_enter func99,ntmps99;go_wp2_with fail;refine HD.out.mono ?_;rintro e w1 ⟨rfl,q,rfl⟩;go_wp2
 go_quiet (fail)
 go_wp2;go_ret;exact⟨rfl,_,World.drewN_drewN ..⟩
def zfG (c:UInt8):List Value:=[.int .u8 (c.toNat:Int)]
abbrev zbf (w:World) (A:Option Addr) (n:Nat) (l:List UInt8):Prop:=Rd 1 zfG w A n l
theorem zbf.at_ {w:World} {A:Option Addr} {n:Nat} {l:List UInt8} (h:zbf w A n l) {i:Nat} (hi:i<n):
 ∃b o x,A=some ⟨b,o,none⟩/\b<w.heap.size/\l[i]?=some x/\w.cell? ⟨b,o+i,none⟩=some (.int .u8 (x.toNat:Int)):=zuu (f:=fun(x:UInt8)=>.int .u8 (x.toNat:Int)) h hi
theorem zdZ {P:Program} {f:FuncId} {args:Array Value} {w:World} {n:Nat} {v:Value} (h:Calls P f args (w.drewN n) (ziA v (w.drewN n))):Calls P f args (w.drewN n) fun e w''=>e=.returned v/\∃m,w''=w.drewN m:=
 h.mono fun _ _ ⟨he,m,hm⟩=>⟨he,n+m,by rw[hm,World.drewN_drewN]⟩
theorem zcJ {P:Program} {f:FuncId} {args:Array Value} {w:World} {n:Nat} {v:Value} (h:Calls P f args (w.drewN n) (zbE v (w.drewN n))):Calls P f args (w.drewN n) fun e w''=>e=.returned v/\∃m,w''=w.drewN m:=
 h.mono fun _ _ ⟨he,hm⟩=>⟨he,n,hm.symm⟩
def zuD (c:UInt8) (l:List UInt8):Int:=match l.idxOf? c with|some i=>i|none=>-1
theorem zse {c:UInt8} {l:List UInt8} {k:Nat} {x:UInt8} (H:∀j it,j<k->l[j]?=some it->decide (c=it)=false) (hx:l[k]?=some x) (h:c=x):zuD c l=k:=by
 subst h;have:l.idxOf? c=some k:=by
  rw[List.idxOf?_eq_some_iff];have hk:=waI.1 hx;refine⟨hk.1,by simp[hk.2],fun j hj=>?_⟩
  have:=H j _ hj (waE (Nat.lt_trans hj hk.1));simp only[decide_eq_false_iff_not] at this;simpa using fun e=>this e.symm
 simp[zuD,this]
theorem zpq {c:UInt8} {l:List UInt8} (H:∀j it,j<l.length->l[j]?=some it->decide (c=it)=false):zuD c l=-1:=by
 have:l.idxOf? c=none:=by
  rw[List.idxOf?_eq_none_iff];intro hx;obtain⟨j,hj⟩:=List.getElem?_of_mem hx;have:=H j c (waI.1 hj).1 hj;simp at this
 simp[zuD,this]
theorem zpr (c:UInt8) (l:List UInt8):decide (0<=zuD c l)=l.elem c:=by
 unfold zuD;cases h:l.idxOf? c with
 |none=>
  rw[List.idxOf?_eq_none_iff] at h;simp[h]
 |some i=>
  have:c∈l:=by
   rcases Decidable.em (c∈l) with h1|h1
   ·exact h1
   ·rw[List.idxOf?_eq_none_iff.2 h1] at h;cases h
  simp[this]
theorem zw2 (a b:UInt8):(((a.toNat:Nat):Int)==((b.toNat:Nat):Int))=decide (a=b):=by
 rw[waQ];simp only[beq_iff_eq,waM];exact⟨fun h=>UInt8.toNat_inj.1 (by omega),fun h=>by rw[h]⟩
theorem znC (A:Option Addr) (n c:Nat) (l:List UInt8) (x:UInt8) (w:World) (hA:zbf w A n l) (hn:n<=9223372036854775807):
 Calls prog 239 #[.slice A n c,.int .u8 (x.toNat:Int)] w (zbE (.int .i64 (zuD x l)) w):=by
 have HL:Hid (l.length=n):=hA.1;go_enter func239,ntmps239;go_wp2
 go_loop [8] (fun i=>∃k:Nat,k<=n/\i=.int .i64 k/\Hid (∀j it,j<k->l[j]?=some it->decide (x=it)=false)) (fun i=>n - (intOf i).toNat)
 case atStart=>exact⟨0,waK _,rfl,fun j _ h=>absurd h (Nat.not_lt_zero _)⟩
 case round=>
  obtain⟨k,hk,rfl,H⟩:=hrel
  by_cases hlt:k<n
  ·obtain⟨b,o,y,rfl,_,hx,c0⟩:=zbf.at_ hA hlt
   have hlt':(k:Int)<(n:Int):=by omega
   have Hx:=waV hx;clear hx
   by_cases he:x=y
   ·have He:=waV he;have hb:(((x.toNat:Nat):Int)==((y.toNat:Nat):Int))=true:=by rw[zw2];simpa using he
    clear he;go_wp2;go_ret;exact⟨zaR (zse H.out Hx.out He.out).symm,rfl⟩
   ·have He:Hid (decide (x=y)=false):=waO he;have hb:(((x.toNat:Nat):Int)==((y.toNat:Nat):Int))=false:=by rw[zw2];exact waO he
    clear he;go_wp2
    go_round
    case rel=>exact⟨k+1,by omega,by go_num,zmm (p:=fun it=>decide (x=it)) H.out Hx.out He.out⟩
    case measure=>simp [intOf];omega
  ·obtain rfl:k=n:=by omega
   go_wp2;go_ret;exact⟨zaR (zpq (HL.out▸H.out)).symm,rfl⟩
theorem ziO (A:Option Addr) (n c:Nat) (l:List UInt8) (x:UInt8) (w:World) (hA:zbf w A n l) (hn:n<=9223372036854775807):
 Calls prog 207 #[.slice A n c,.int .u8 (x.toNat:Int)] w (zbE (.bool (l.elem x)) w):=by
 have HC:=waV (znC A n c l x w hA hn);rw[<-zpr];generalize zuD x l=q at HC ⊢;clear hA;go_enter func207,ntmps207
 go_wp2_with (go_at_call 239;refine HC.out.mono ?_;rintro e w1 ⟨rfl,rfl⟩)
 go_ret;exact⟨rfl,rfl⟩
def isB (s:ByteArray) (k:Nat) (e:Int) (cs:List UInt8):Bool:=if h:e=0/\k<s.size then cs.elem (s[k]'h.2) else false
theorem zgj {s:ByteArray} {k:Nat} {e:Int} {cs:List UInt8} (h:zdf s k e=true):isB s k e cs=false:=by
 simp only[zdf,waM] at h;exact dif_neg oQ
theorem zuE {s:ByteArray} {k:Nat} {cs:List UInt8} (h:k<s.size):isB s k 0 cs=cs.elem s[k]:=dif_pos ⟨rfl,h⟩
def isK (s:ByteArray) (k:Nat) (e:Int) (cs:List UInt8):Nat:=if isB s k e cs then k+1 else k
theorem zuF (b:Nat) (s:ByteArray) (k:Nat) (bad e:Int) (A:Option Addr) (n c:Nat) (cs:List UInt8) (w:World) (h:Rdr w b s k bad e) (hs:s.size<=9223372036854775807) (hk:k<=s.size) (hA:zbf w A n cs) (hn:n<=9223372036854775807):
 Calls prog 161 #[.pointer (some ⟨b,0,none⟩),.slice A n c] w (zwJ (.bool (isB s k e cs)) b s (isK s k e cs) bad e w):=by
 have HD:=waV (fun q=>ze6 b s k bad e (w.drewN q) h)
 have H:=waV h;cases hd:zdf s k e with
 |true=>
  rw[hd] at HD;have e1:=zgj (cs:=cs) hd;rw[isK,e1];clear e1 hd h hA;go_enter func161,ntmps161;go_wp2
  go_quiet ((go_at_call 160;exact zdZ (HD.out _)))
  go_wp2;go_ret;exact⟨rfl,H.out.drewN _,(Chg.refl _ _).drewN _⟩
 |false=>
  rw[hd] at HD;obtain⟨rfl,hlt⟩:=ziN hk hd;have hlt':(k:Int)<(s.size:Int):=by omega
  have HC:=waV (fun q=>ziO A n c cs s[k] (w.drewN q) hA hn)
  have e1:=zuE (cs:=cs) hlt;rw[isK,e1];obtain⟨c0,c1,c2,c3⟩:=h.cells;have f1:=h.free 1;clear e1 hd h hA hk;cases hq:cs.elem s[k] with
  |false=>
   rw[hq] at HC;clear hq;go_enter func161,ntmps161;go_wp2
   go_quiet ((first|(go_at_call 160;exact zdZ (HD.out _))|(go_at_call 207;exact zcJ (HC.out _))))
   go_wp2;go_ret;exact⟨rfl,H.out.drewN _,(Chg.refl _ _).drewN _⟩
  |true=>
   rw[hq] at HC;clear hq;go_enter func161,ntmps161;go_wp2
   go_quiet ((first|(go_at_call 160;exact zdZ (HD.out _))|(go_at_call 207;exact zcJ (HC.out _))))
   go_wp2;go_ret;exact⟨rfl,(H.out.drewN _).setAt _,((Chg.refl _ _).drewN _).set _ _⟩
def zw3 (g:Nat) (p:UInt8->Bool):Prop:=∀(W:World) (x:UInt8),Calls prog g #[.int .u8 (x.toNat:Int)] W (zbE (.bool (p x)) W)
def zav (c:UInt8):Bool:=decide (48<=c.toNat/\c.toNat<=57)
theorem znD:zw3 273 zav:=by
 intro W x;have e:zav x=decide (48<=(x.toNat:Int)/\(x.toNat:Int)<=57):=by
  unfold zav;rw[waQ];simp only[waM];omega
 rw[e];generalize hc:(x.toNat:Int)=c;clear e hc
 by_cases h1:48<=c
 ·have e2:decide (48<=c/\c<=57)=decide (c<=57):=by rw[waQ];simp[h1]
  rw[e2];clear e2;go_enter func273,ntmps273;go_wp2;go_ret;exact⟨rfl,rfl⟩
 ·have e2:decide (48<=c/\c<=57)=false:=by simp[h1]
  rw[e2];clear e2;go_enter func273,ntmps273;go_wp2;go_ret;exact⟨rfl,rfl⟩
def zf1 (p:UInt8->Bool) (s:ByteArray) (k:Nat):Nat:=((s.data.toList.drop k).takeWhile p).length
def zbq (p:UInt8->Bool) (s:ByteArray) (k:Nat) (e:Int):Nat:=if zdf s k e then k else k+zf1 p s k
theorem zsf {p:UInt8->Bool} {l:List UInt8} {j:Nat} (H:∀i x,i<j->l[i]?=some x->p x=true) (hj:j<=l.length) (h:∀x,l[j]?=some x->p x=false):(l.takeWhile p).length=j:=by
 induction l generalizing j with
 |nil=>simp at hj ⊢;omega
 |cons a l ih=>
  cases j with
  |zero=>
   have:=h a rfl;simp[List.takeWhile_cons,this]
  |succ j=>
   have h0:=H 0 a oQ rfl;rw[List.takeWhile_cons,h0];simp only[if_true,waG];rw[ih (j:=j) (fun i x hi hx=>H (i+1) x (by omega) (by simpa using hx)) (by simpa using hj) (fun x hx=>h x (by simpa using hx))]
theorem zgC {p:UInt8->Bool} {s:ByteArray} {k j:Nat} (hkj:k<=j) (hj:j<=s.size) (H:∀i x,k<=i->i<j->s.data.toList[i]?=some x->p x=true) (h:∀x,s.data.toList[j]?=some x->p x=false):zf1 p s k=j - k:=by
 unfold zf1;apply zsf
 ·intro i x hi hx;rw[List.getElem?_drop] at hx;exact H (k+i) x oQ oQ hx
 ·simp;have:s.data.size=s.size:=rfl;omega
 ·intro x hx;rw[List.getElem?_drop] at hx;exact h x (by rw[show j=k+(j - k) from by omega];exact hx)
theorem zdt (s:ByteArray) (k:Nat) (h:k<s.size):s.data.toList[k]?=some s[k]:=by
 rw[waE (by simpa using h)]
 rfl
theorem zd0 (s:ByteArray) (k:Nat):s.extract k k=⟨#[]⟩:=by
 apply ByteArray.ext;simp
theorem zsg (b:Nat) (s:ByteArray) (k:Nat) (bad e:Int) (g:Nat) (p:UInt8->Bool) (w:World) (h:Rdr w b s k bad e) (hs:s.size<=9223372036854775807) (hk:k<=s.size)
 (eg:∀args w,(callFunc g args).run prog w=.ok (.enter g args) w) (hp:zw3 g p):
 Calls prog 240 #[.pointer (some ⟨b,0,none⟩),.func (.func g) #[] #[]] w (zwJ (.string (s.extract k (zbq p s k e))) b s (zbq p s k e) bad e w):=by
 have HD:=waV (ze6 b s k bad e w h);have H:=waV h;cases hd:zdf s k e with
 |true=>
  rw[hd] at HD;rw[zbq,hd,if_pos rfl,zd0];clear hd h hp eg;go_enter func240,ntmps240;go_wp2_with fail;refine HD.out.mono ?_;rintro e w1 ⟨rfl,q,rfl⟩;go_wp2;go_ret;exact⟨rfl,H.out.drewN _,(Chg.refl _ _).drewN _⟩
 |false=>
  rw[hd] at HD;obtain⟨rfl,hlt⟩:=ziN hk hd;rw[zbq,hd,if_neg (by decide)]
  obtain⟨c0,c1,c2,c3⟩:=h.cells;have HP:=waV hp;clear hd h hk hp;generalize hr:k+zf1 p s k=r;have HR:=waV hr;clear hr;go_enter func240,ntmps240;go_wp2_with fail;refine HD.out.mono ?_;rintro e w1 ⟨rfl,q,rfl⟩;go_wp2
  go_loopg [] (s.size - k) (fun gg wr=>∃j:Nat,k<=j/\j<=s.size/\gg=s.size - j/\Hid (∀i x,k<=i->i<j->s.data.toList[i]?=some x->p x=true)/\Hid (Rdr wr b s j bad 0)/\Hid (Chg b w wr))
  case atStart=>exact⟨k,waJ _,by omega,rfl,fun i x h1 h2=>by omega,H.out.drewN _,(Chg.refl _ _).drewN _⟩
  case round=>
   obtain⟨j,hkj,hj,hgj,HI,HJ,HC⟩:=hrel;obtain⟨d0,d1,d2,d3⟩:=HJ.out.cells;have f1:=HJ.out.free 1
   by_cases hlj:j<s.size
   ·have hlj':(j:Int)<(s.size:Int):=by omega
    have HQ:=waV (fun W=>HP.out W s[j])
    cases hq:p s[j] with
    |true=>
     have Hq:Hid (p s[j]=true):=hq;rw[hq] at HQ;clear hq;go_wp2
     go_quiet ((go_at_fn g;exact zcJ (HQ.out _)))
     go_wp2
     go_roundg (s.size - (j+1))
     case measure=>omega
     case rel=>
      exact⟨j+1,by omega,by omega,rfl,(fun i x h1 h2 hx=>by
       rcases Nat.lt_or_ge i j with h3|h3
       ·exact HI.out i x h1 h3 hx
       ·obtain rfl:i=j:=by omega
        rw[zdt s i hlj] at hx;cases hx;exact Hq.out),(HJ.out.drewN _).setAt _,(HC.out.drewN _).set _ _⟩
    |false=>
     have Hr:Hid (r=j):=by
      show r=j;rw[<-HR.out,zgC hkj hj HI.out (fun x hx=>by rw[zdt s j hlj] at hx;cases hx;exact hq)]
      omega
     rw[hq] at HQ;clear hq;go_wp2
     go_quiet ((go_at_fn g;exact zcJ (HQ.out _)))
     go_wp2
     go_quiet (fail)
     go_wp2;go_ret;refine⟨?_,?_,?_⟩
     ·rw[Hr.out];rfl
     ·rw[Hr.out];exact HJ.out
     ·exact(HC.out.drewN _).drewN _
   ·obtain rfl:j=s.size:=by omega
    have Hr:Hid (r=s.size):=by
     show r=s.size;rw[<-HR.out,zgC hkj (waJ _) HI.out (fun x hx=>by
      have:=(waI.1 hx).1;rw[Array.length_toList] at this;have e:s.data.size=s.size:=rfl;omega)]
     omega
    go_wp2
    go_quiet (fail)
    go_wp2
    go_quiet (fail)
    go_wp2;go_ret;refine⟨?_,?_,?_⟩
    ·rw[Hr.out];rfl
    ·rw[Hr.out];exact HJ.out
    ·exact(HC.out.drewN _).drewN _
def zhz (s:ByteArray) (k:Nat):Int:=if k=s.size then 2 else 3
theorem zjL (b:Nat) (s:ByteArray) (k:Nat) (bad e:Int) (w:World) (h:Rdr w b s k bad e):
 Calls prog 211 #[.pointer (some ⟨b,0,none⟩)] w (zwJ (.tuple #[]) b s k (zbz bad e k (zhz s k)) (zdY e (zhz s k)) w):=by
 obtain⟨c0,c1,c2,c3⟩:=h.cells;have HF:=waV (fun W q (h:Rdr W b s k bad e)=>zgi b s k bad e k q W h)
 have H:=waV h;clear h
 by_cases he:k=s.size
 ·have he':((k:Int)==(s.size:Int))=true:=by simp;omega
  have e1:zhz s k=2:=if_pos he;rw[e1];clear he e1;go_enter func211,ntmps211;go_wp2
  go_quiet (fail)
  go_wp2_with fail;refine(HF.out _ _ (H.out.drewN _)).mono ?_;rintro x w1 ⟨rfl,h1,g1⟩;go_wp2
  first|go_end0|(refine waY (results_none rfl _ _ _) rfl ?_)
  exact⟨rfl,h1,((Chg.refl _ _).drewN _).trans g1⟩
 ·have he':((k:Int)==(s.size:Int))=false:=by simp;omega
  have e1:zhz s k=3:=if_neg he;rw[e1];clear he e1;go_enter func211,ntmps211;go_wp2
  go_quiet (fail)
  go_wp2_with fail;refine(HF.out _ _ (H.out.drewN _)).mono ?_;rintro x w1 ⟨rfl,h1,g1⟩;go_wp2
  first|go_end0|(refine waY (results_none rfl _ _ _) rfl ?_)
  exact⟨rfl,h1,((Chg.refl _ _).drewN _).trans g1⟩
def znE (s:ByteArray) (k:Nat) (e:Int):Int:=if h:e=0/\k<s.size then((s[k]'h.2).toNat:Int) else 0
theorem zfH {s:ByteArray} {k:Nat} {e:Int} (h:zdf s k e=true):znE s k e=0:=by
 simp only[zdf,waM] at h;exact dif_neg oQ
theorem ziP {s:ByteArray} {k:Nat} (h:k<s.size):znE s k 0=(s[k].toNat:Int):=dif_pos ⟨rfl,h⟩
theorem zmu (b:Nat) (s:ByteArray) (k:Nat) (bad e:Int) (w:World) (h:Rdr w b s k bad e) (hk:k<=s.size):Calls prog 99 #[.pointer (some ⟨b,0,none⟩)] w (ziA (.int .u8 (znE s k e)) w):=by
 cases hd:zdf s k e with
 |true=>rw [zfH hd];exact zpo b s k bad e w h hd
 |false=>
  obtain⟨rfl,hlt⟩:=ziN hk hd;rw[ziP hlt];exact zpp b s k bad w h hlt
theorem zsh (b:Nat) (s:ByteArray) (k:Nat) (bad e:Int) (A:Option Addr) (n c:Nat) (cs:List UInt8) (w:World) (h:Rdr w b s k bad e) (hs:s.size<=9223372036854775807) (hk:k<=s.size) (hA:zbf w A n cs) (hn:n<=9223372036854775807):
 Calls prog 164 #[.pointer (some ⟨b,0,none⟩),.slice A n c] w
  (zwJ (.int .u8 (if isB s k e cs then znE s k e else 0)) b s (isK s k e cs) (if isB s k e cs then bad else zbz bad e k (zhz s k)) (if isB s k e cs then e else zdY e (zhz s k)) w):=by
 have HP:=waV (zmu b s k bad e w h hk);have HI:=waV (fun q=>zuF b s k bad e A n c cs (w.drewN q) h hs hk hA hn)
 have HL:=waV (fun W (h:Rdr W b s k bad e)=>zjL b s k bad e W h)
 unfold isK at HI ⊢;clear h hA;cases hq:isB s k e cs with
 |true=>
  rw[hq] at HI;rw[if_pos rfl] at HI;simp only[if_true];clear hq;go_enter func164,ntmps164;go_wp2_with fail;refine HP.out.mono ?_;rintro x w1 ⟨rfl,q,rfl⟩;go_wp2_with fail;refine(HI.out _).mono ?_;rintro x w1 ⟨rfl,h1,g1⟩;go_wp2;go_ret;exact⟨rfl,h1,((Chg.refl _ _).drewN _).trans g1⟩
 |false=>
  rw[hq] at HI;rw[if_neg (by decide)] at HI
  simp only[Bool.false_eq_true,if_false];clear hq;go_enter func164,ntmps164;go_wp2_with fail;refine HP.out.mono ?_;rintro x w1 ⟨rfl,q,rfl⟩;go_wp2_with fail;refine(HI.out _).mono ?_;rintro x w1 ⟨rfl,h1,g1⟩;go_wp2_with fail;refine(HL.out _ h1).mono ?_;rintro x w2 ⟨rfl,h2,g2⟩;go_wp2;go_ret;exact⟨rfl,h2,(((Chg.refl _ _).drewN _).trans g1).trans g2⟩
def zw4 (s:ByteArray) (bad e:Int) (w:World) (x:Ending) (w':World):Prop:=∃b,w.heap.size<=b/\x=.returned (.pointer (some ⟨b,0,none⟩))/\Rdr w' b s 0 bad e/\Below w.heap.size w w'
def zjM (s:ByteArray):Int:=if 8192<s.size then 8192 else 0
def zw5 (s:ByteArray):Int:=if 8192<s.size then 5 else 0
theorem zvj (s:ByteArray) (w:World) (hs:s.size<=9223372036854775807):Calls prog 43 #[.string s] w (zw4 s (zjM s) (zw5 s) w):=by
 have HF:=waV (fun W b h=>zgi b s 0 0 0 8192 5 W h)
 rw[show zbz 0 0 8192 5=8192 from by simp[zbz],show zdY 0 5=5 from by simp[zdY]] at HF
 by_cases hl:8192<s.size
 ·have hl':(8192:Int)<(s.size:Int):=by omega
  rw[zjM,zw5,if_pos hl,if_pos hl];clear hl;go_enter func43,ntmps43;go_wp2_with fail;refine(HF.out _ _ (heap_alloc_new w _)).mono ?_;rintro x w1 ⟨rfl,h1,g1⟩;go_wp2;go_ret;exact⟨w.heap.size,waJ _,rfl,h1,Chg.below ((waC _ w).alloc (waJ _) _) g1 (waJ _) (by simp)⟩
 ·have hl':¬(8192:Int)<(s.size:Int):=by omega
  rw[zjM,zw5,if_neg hl,if_neg hl];clear hl;go_enter func43,ntmps43;go_wp2;go_ret;exact⟨w.heap.size,waJ _,rfl,heap_alloc_new w _,(waC _ w).alloc (waJ _) _⟩
def ze7 (l:List UInt8):Int:=l.foldl (fun n c=>10 * n+((c.toNat:Int) - 48)) 0
theorem znF (l:List UInt8) (c:UInt8):ze7 (l++[c])=10 * ze7 l+((c.toNat:Int) - 48):=by simp[ze7,List.foldl_append]
theorem zsi (l:List UInt8) (h:∀c∈l,zav c=true) (a:Int) (ha:0<=a):
 0<=l.foldl (fun n (c:UInt8)=>10 * n+((c.toNat:Int) - 48)) a/\l.foldl (fun n (c:UInt8)=>10 * n+((c.toNat:Int) - 48)) a<(a+1) * 10^l.length:=by
 induction l generalizing a with
 |nil=>simp;omega
 |cons c l ih=>
  have h2:=h c (by simp)
  simp only[zav,waM] at h2;have h3:=ih (fun c hc=>h c (List.mem_cons_of_mem _ hc)) (10 * a+((c.toNat:Int) - 48)) oQ
  rw[List.foldl_cons,waG,Int.pow_succ];refine⟨h3.1,Int.lt_of_lt_of_le h3.2 ?_⟩;have h4:(0:Int)<=10^l.length:=Int.pow_nonneg dQ;generalize (10:Int)^l.length=q at h4 ⊢
  calc (10 * a+((c.toNat:Int) - 48)+1) * q<=((a+1) * 10) * q:=Int.mul_le_mul_of_nonneg_right oQ h4
   _=(a+1) * (q * 10):=by rw[Int.mul_assoc,Int.mul_comm 10 q]
theorem zsj (l:List UInt8) (h:∀c∈l,zav c=true):0<=ze7 l/\ze7 l<10^l.length:=by
 have:=zsi l h 0 dQ;simpa[ze7] using this
theorem zsk {k:Nat} (h:k<=17):(10:Int)^k<=100000000000000000:=by
 have:k=0\/k=1\/k=2\/k=3\/k=4\/k=5\/k=6\/k=7\/k=8\/k=9\/k=10\/k=11\/k=12\/k=13\/k=14\/k=15\/k=16\/k=17:=by omega
 rcases this with rfl|rfl|rfl|rfl|rfl|rfl|rfl|rfl|rfl|rfl|rfl|rfl|rfl|rfl|rfl|rfl|rfl|rfl<;>decide
theorem zvk {p:UInt8->Bool} (l:List UInt8):∀x∈l.takeWhile p,p x=true:=by
 induction l with
 |nil=>simp
 |cons a l ih=>
  intro x hx;rw[List.takeWhile_cons] at hx;split at hx
  ·simp only[List.mem_cons] at hx;rcases hx with rfl|hx
   ·assumption
   ·exact ih x hx
  ·simp at hx
theorem ziQ (p:UInt8->Bool) (s:ByteArray) (k:Nat) (e:Int) (hk:k<=s.size):k<=zbq p s k e/\zbq p s k e<=s.size:=by
 unfold zbq;split
 ·exact⟨waJ _,hk⟩
 ·refine⟨Nat.le_add_right _ _,?_⟩;have h1:((s.data.toList.drop k).takeWhile p).length<=(s.data.toList.drop k).length:=(List.takeWhile_prefix p).length_le;rw[List.length_drop] at h1;have e0:s.data.toList.length=s.data.size:=Array.length_toList;have e:s.data.size=s.size:=rfl;have e2:zf1 p s k=((s.data.toList.drop k).takeWhile p).length:=rfl;omega
def zwK (p:UInt8->Bool) (s:ByteArray) (k:Nat) (e:Int):List UInt8:=(s.data.toList.drop k).take (zbq p s k e - k)
theorem zsl (p:UInt8->Bool) (s:ByteArray) (k:Nat) (e:Int):∀x∈zwK p s k e,p x=true:=by
 unfold zwK zbq;split
 ·simp
 ·rw[show k+zf1 p s k - k=zf1 p s k from by omega]
  unfold zf1;rw[show (s.data.toList.drop k).take ((s.data.toList.drop k).takeWhile p).length=(s.data.toList.drop k).takeWhile p from(List.prefix_iff_eq_take.1 (List.takeWhile_prefix p)).symm]
  exact zvk _
theorem zcs (s:ByteArray) (k j:Nat):(s.extract k j).data.toList=(s.data.toList.drop k).take (j - k):=by
 rw[ByteArray.data_extract,Array.toList_extract,List.extract_eq_take_drop]
def znG (s:ByteArray) (k:Nat) (e most:Int):Bool:=decide (zbq zav s k e≠k/\((zbq zav s k e - k:Nat):Int)<=most/\most<=18)
def zhP (s:ByteArray) (k:Nat) (e:Int):Int:=if zbq zav s k e=k then zhz s k else 4
theorem zhQ (t:ByteArray) (w:World):∃cap C,(convert 9 254 (.string t)).run prog w=.ok (.slice (some ⟨w.heap.size,0,none⟩) t.size cap) (w.drew.alloc (.cells C 5 (C.size,C.size+1)))/\
 ∀(i:Nat) (x:UInt8),t.data.toList[i]?=some x->C[i]?=some (Value.int .u8 (x.toNat:Int)):=by
 refine⟨_,_,run_bytes_of_string w 9 254 5 t underlying9 underlying254 underlying5,?_⟩;intro i x hx;have hi:=(waI.1 hx).1;rw[Array.length_toList] at hi;rw[bytesRow,Array.getElem?_append_left (by simpa using hi),Array.getElem?_map]
 simp only[Array.getElem?_toList] at hx;rw[hx];rfl
theorem znH (b:Nat) (s:ByteArray) (k:Nat) (bad e most:Int) (w:World) (h:Rdr w b s k bad e) (hs:s.size<=9223372036854775807) (hk:k<=s.size):
 Calls prog 252 #[.pointer (some ⟨b,0,none⟩),.int .i64 most] w
  (zwJ (.tuple #[.int .i64 (if znG s k e most then ze7 (zwK zav s k e) else 0),.bool (znG s k e most)]) b s (if znG s k e most then zbq zav s k e else k)
    (if znG s k e most then bad else zbz bad e k (zhP s k e)) (if znG s k e most then e else zdY e (zhP s k e)) w):=by
 have HA:=waV (zuC b s k bad e w h);have HS:=waV (zsg b s k bad e 273 zav w h hs hk (enters_of func273 kQ rfl) znD);have hj:=ziQ zav s k e hk;have HL:=waV (fun W (h:Rdr W b s k bad e)=>zjL b s k bad e W h)
 have HF:=waV (fun W (h:Rdr W b s k bad e)=>zgi b s k bad e k 4 W h)
 clear h
 by_cases h0:zbq zav s k e=k
 ·have e1:znG s k e most=false:=by simp[znG,h0]
  have e2:zhP s k e=zhz s k:=if_pos h0;rw[e1,e2];simp only[Bool.false_eq_true,if_false];rw[h0,zd0] at HS;clear h0 e1 e2 hj;go_enter func252,ntmps252;go_wp2_with fail;refine HA.out.mono ?_;rintro x w1 ⟨rfl,rfl⟩;go_wp2_with fail;refine HS.out.mono ?_;rintro x w1 ⟨rfl,h1,g1⟩;go_wp2_with fail;refine(HL.out _ h1).mono ?_;rintro x w2 ⟨rfl,h2,g2⟩;go_wp2
  go_ret2
  exact⟨rfl,h2,g1.trans g2⟩
 have hlen:(s.extract k (zbq zav s k e)).size=zbq zav s k e - k:=by simp;omega
 have ht0:(s.extract k (zbq zav s k e)).toList.isEmpty=false:=by
  rw[ByteArray.toList_eq];cases hq:(s.extract k (zbq zav s k e)).data.toList with
  |nil=>
   have:(s.extract k (zbq zav s k e)).data.size=0:=by rw[<-Array.length_toList,hq];rfl
   have e3:(s.extract k (zbq zav s k e)).data.size=(s.extract k (zbq zav s k e)).size:=rfl;omega
  |cons a l=>rfl
 have hrl:(s.extract k (zbq zav s k e)).data.toList=zwK zav s k e:=zcs _ _ _;have hall:=zsl zav s k e;have hjp:k<zbq zav s k e:=by omega
 by_cases hm:((zbq zav s k e - k:Nat):Int)<=most/\most<=18
 ·have e1:znG s k e most=true:=waP ⟨h0,hm⟩;rw[e1];simp only[if_true];clear e1 h0 HL HF;generalize zbq zav s k e=j at *;generalize ht:s.extract k j=t at *;generalize zwK zav s k e=L at *;have hm1:¬most<(t.size:Int):=by omega
  have hm2:¬18<most:=by omega
  have hsz18:t.size<=18:=by omega
  have HRL:=waV hrl;have HAll:=waV hall;clear ht hrl hall hlen hm hj;go_enter func252,ntmps252;go_wp2_with fail;refine HA.out.mono ?_;rintro x w1 ⟨rfl,rfl⟩;go_wp2_with fail;refine HS.out.mono ?_;rintro x w1 ⟨rfl,h1,g1⟩;obtain⟨cap,C,hconv,hC⟩:=zhQ t w1;have HC:=waV hC;have H1:=waV h1;clear hC h1;have hcell:∀(i:Nat) (x:UInt8),t.data.toList[i]?=some x->(w1.alloc (.cells C 5 (C.size,C.size+1))).cell? ⟨w1.heap.size,i,none⟩=some (.int .u8 (x.toNat:Int)):=by
   intro i x hx;have h1:=heap_alloc_new w1 (.cells C 5 (C.size,C.size+1));unfold World.cell?;rw[h1];exact HC.out i x hx
  have HCell:=waV hcell;have htl:t.data.toList.length=t.size:=Array.length_toList;clear hcell;go_wp2
  go_loop [8,39] (fun v i=>∃q:Nat,q<=t.size/\i=.int .i64 q/\v=.int .i64 (ze7 (t.data.toList.take q))) (fun _ i=>t.size - (intOf i).toNat)
  case atStart=>exact⟨0,waK _,rfl,rfl⟩
  case round=>
   obtain⟨q,hq,rfl,rfl⟩:=hrel
   by_cases hlt:q<t.size
   ·have hx:t.data.toList[q]?=some t[q]:=zdt t q hlt;have c0:=HCell.out q _ hx;have hd:zav t[q]=true:=HAll.out _ (HRL.out▸List.mem_of_getElem? hx);simp only[zav,waM] at hd;have hb1:(48:Int)<=(t[q].toNat:Int):=by omega
    have hb2:(t[q].toNat:Int)<=57:=by omega
    have hbd:=zsj (t.data.toList.take q) (fun c hc=>HAll.out c (HRL.out▸List.mem_of_mem_take hc))
    rw[List.length_take_of_le (by omega)] at hbd
    have hp:=zsk (k:=q) oQ;have hs1:t.data.toList.take (q+1)=t.data.toList.take q++[t[q]]:=by
     rw[List.take_add_one,hx];rfl
    have HS1:Hid (ze7 (t.data.toList.take (q+1))=10 * ze7 (t.data.toList.take q)+((t[q].toNat:Int) - 48)):=by
     show _=_;rw[hs1,znF]
    have hlt':(q:Int)<(t.size:Int):=by omega
    have hn1:0<=ze7 (t.data.toList.take q):=hbd.1;have hn2:ze7 (t.data.toList.take q)<=100000000000000000:=by omega
    clear hx hd hbd hp hs1 htl;generalize hg:ze7 (t.data.toList.take q)=nq at *;clear hg;generalize hc:(t[q].toNat:Int)=cq at *;clear hc;go_wp2
    go_round
    case rel=>exact⟨q+1,by omega,by go_num,by rw[HS1.out]⟩
    case measure=>simp [intOf];omega
   ·obtain rfl:q=t.size:=by omega
    have HE:Hid (t.data.toList.take t.size=L):=by
     show _=_;rw[List.take_of_length_le (by omega),HRL.out]
    go_wp2
    go_ret2
    refine⟨?_,?_,?_⟩
    ·rw[<-HE.out];rfl
    ·exact(H1.out.kept (((waC _ w1).alloc (waJ _) _).drew) H1.out.lt)
    ·exact(g1.alloc _).drewN 1
 ·have e1:znG s k e most=false:=waO (fun h=>hm h.2)
  have e2:zhP s k e=4:=if_neg h0;rw[e1,e2];simp only[Bool.false_eq_true,if_false];clear e1 e2 h0 HL hall hrl;generalize zbq zav s k e=j at *;generalize ht:s.extract k j=t at *;clear ht
  by_cases hm1:most<(t.size:Int)
  ·go_enter func252,ntmps252;go_wp2_with fail;refine HA.out.mono ?_;rintro x w1 ⟨rfl,rfl⟩;go_wp2_with fail;refine HS.out.mono ?_;rintro x w1 ⟨rfl,h1,g1⟩;obtain⟨c0,c1,c2,c3⟩:=h1.cells;have f1:=h1.free 1;have H1:=waV h1;clear h1;go_wp2_with fail;refine(HF.out _ (H1.out.setAt k)).mono ?_;rintro x w2 ⟨rfl,h2,g2⟩;go_wp2
   go_ret2
   exact⟨rfl,h2,(g1.set _ _).trans g2⟩
  ·have hm2:18<most:=by omega
   go_enter func252,ntmps252;go_wp2_with fail;refine HA.out.mono ?_;rintro x w1 ⟨rfl,rfl⟩;go_wp2_with fail;refine HS.out.mono ?_;rintro x w1 ⟨rfl,h1,g1⟩;obtain⟨c0,c1,c2,c3⟩:=h1.cells;have f1:=h1.free 1;have H1:=waV h1;clear h1;go_wp2_with fail;refine(HF.out _ (H1.out.setAt k)).mono ?_;rintro x w2 ⟨rfl,h2,g2⟩;go_wp2
   go_ret2
   exact⟨rfl,h2,(g1.set _ _).trans g2⟩
def pIs (cs:List UInt8):List UInt8->Option (List UInt8)
 |[]=>none
 |c::l=>if cs.elem c then some l else none
def znI (l:List UInt8):Int:=if l=[] then 2 else 3
def zf2 (c:UInt8):UInt8:=if 65<=c.toNat/\c.toNat<=90 then c+32 else c
def zc0 (l:List UInt8):List UInt8:=l.map zf2
def headB (p:UInt8->Bool):List UInt8->Bool
 |[]=>false
 |c::_=>p c
section
variable {α : Type} {l l' : List UInt8} {Q R : α -> Prop}
end
theorem zmv (l:List UInt8):znI l≠0:=by unfold znI;split<;>decide
section
variable {w w' : World} {b : Nat} {s : ByteArray} {l : List UInt8} {a e : Int}
theorem zaT (s:ByteArray):s.data.toList.length=s.size:=Array.length_toList
theorem Chg.cell {w w':World} {b B o:Nat} {v:Value} (h:Chg b w w') (hB:B≠b) (hc:w.cell? ⟨B,o,none⟩=some v):w'.cell? ⟨B,o,none⟩=some v:=
 (wbK (h.block B (waR w _ hc) (fun e=>hB (by injection e)))).trans hc
theorem Chg.frozen {w w':World} {b B o:Nat} (h:Chg b w w') (hB:B≠b) (hlt:B<w.heap.size) (hc:w.frozen? ⟨B,o,none⟩=false):w'.frozen? ⟨B,o,none⟩=false:=by
 have:=h.block B hlt (fun e=>hB (by injection e))
 unfold World.frozen? at *;rw[this];exact hc
theorem Chg.setNew {w w':World} {b B o:Nat} {v:Value} (h:Chg b w w') (hB:w.heap.size<=B):Chg b w (w'.setCell ⟨B,o,none⟩ v):=
 ⟨h.os,h.tape,h.output,by simpa[World.setCell] using h.size,fun k hk hn=>(wbJ _ _ _ _ (fun e=>by simp at e;omega)).trans (h.block k hk hn)⟩
end
theorem zuG {w:World} {B:Nat} {c:UInt8} (h:w.cell? ⟨B,0,none⟩=some (.int .u8 (c.toNat:Int))):zbf w (some ⟨B,0,none⟩) 1 [c]:=
 ⟨rfl,fun _=>⟨B,0,rfl,waR w _ h,fun i x hi j v hj=>by
  rcases i with _|i
  ·obtain rfl:c=x:=by simpa using hi
   rcases j with _|j
   ·obtain rfl:Value.int .u8 (c.toNat:Int)=v:=by simpa[zfG] using hj
    simpa using h
   ·simp[zfG] at hj
  ·simp at hi⟩⟩
theorem ze8 (s:ByteArray) (k:Nat) (h:k<s.size):s.data.toList.drop k=s[k]::s.data.toList.drop (k+1):=by
 rw[List.drop_eq_getElem_cons (by rw[zaT];exact h)]
 rfl
theorem zgk (s:ByteArray):s.data.toList.drop s.size=[]:=by
 rw[List.drop_eq_nil_iff,zaT];exact waJ _
theorem znJ {s:ByteArray} {k:Nat} {e:Int} (he:e≠0):zdf s k e=true:=zdX he
section
variable {w : World} {b : Nat} {s : ByteArray} {l : List UInt8} {a c : Int}
def pPeek:List UInt8->Int
 |[]=>0
 |x::_=>(x.toNat:Int)
variable (hs : s.size <= 9223372036854775807)
include hs
omit hs in
theorem zps (p:UInt8->Bool) (k:Nat) (hk:k<=s.size):s.data.toList.drop (zbq p s k 0)=(s.data.toList.drop k).dropWhile p/\(s.extract k (zbq p s k 0)).data.toList=(s.data.toList.drop k).takeWhile p:=by
 have h1:∀(l:List UInt8),l.drop (l.takeWhile p).length=l.dropWhile p:=by
  intro l;have:=List.takeWhile_append_dropWhile (p:=p) (l:=l);generalize l.takeWhile p=t at *;generalize l.dropWhile p=d at *;subst this;simp
 have h2:∀(l:List UInt8),l.take (l.takeWhile p).length=l.takeWhile p:=fun l=>(List.prefix_iff_eq_take.1 (List.takeWhile_prefix p)).symm
 have hK:zbq p s k 0=k+((s.data.toList.drop k).takeWhile p).length:=by
  unfold zbq;rw[ziM];split
  ·rename_i h;simp at h;subst h;rw[zgk];simp
  ·rfl
 rw[hK];refine⟨?_,?_⟩
 ·rw[<-h1,List.drop_drop]
 ·rw[zcs,show k+((s.data.toList.drop k).takeWhile p).length - k=((s.data.toList.drop k).takeWhile p).length from by omega,h2]
omit hs in
theorem zjN (p:UInt8->Bool) (k:Nat) {e:Int} (he:e≠0):zbq p s k e=k:=by unfold zbq;rw[znJ he,if_pos rfl]
end
end Go.Proofs.YtllcdbgjeidlkaaGreatDoor
