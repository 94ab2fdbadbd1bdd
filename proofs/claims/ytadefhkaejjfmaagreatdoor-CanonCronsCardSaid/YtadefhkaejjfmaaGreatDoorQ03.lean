/- A part of the proof: WLex5 RPlain -/
import Derived.Test.YtadefhkaejjfmaaGreatDoorQ00
import Derived.Deep.LoopGhost
set_option maxHeartbeats 80000000
set_option maxRecDepth 100000
set_option linter.unusedSimpArgs false
set_option linter.unusedVariables false
namespace Go.Proofs.YtadefhkaejjfmaaGreatDoor
open Go.Proofs.Tryz
open Go.RowKit
def Rdr (w:World) (b:Nat) (s:ByteArray) (k:Nat) (bad e:Int):Prop:=
 w.heap[b]?=some (.cells #[.string s,.int .i64 k,.int .i64 bad,.int .i64 e] 265 (0,0))
section
variable {w w' : World} {b : Nat} {s : ByteArray} {k : Nat} {bad e : Int}
theorem Rdr.lt (h:Rdr w b s k bad e):b<w.heap.size:=(waL.1 h).1
theorem Rdr.cells (h:Rdr w b s k bad e):w.cell? ⟨b,0,none⟩=some (.string s)∧w.cell? ⟨b,1,none⟩=some (.int .i64 k)∧w.cell? ⟨b,2,none⟩=some (.int .i64 bad)∧w.cell? ⟨b,3,none⟩=some (.int .i64 e):=by
 unfold Rdr at h;simp[World.cell?,h]
theorem Rdr.free (h:Rdr w b s k bad e) (o:Nat):w.frozen? ⟨b,o,none⟩=false:=by
 unfold Rdr at h;simp[World.frozen?,h]
theorem Rdr.drewN (h:Rdr w b s k bad e) (q:Nat):Rdr (w.drewN q) b s k bad e:=h
theorem Rdr.kept (h:Rdr w b s k bad e) {B:Nat} (hb:Below B w w') (hB:b<B):Rdr w' b s k bad e:=(hb.block b hB).trans h
theorem ziV {w:World} {b o:Nat} {cs:Array Value} {t:TypeId} {v:Value} (h:w.heap[b]?=some (.cells cs t (0,0))):(w.setCell ⟨b,o,none⟩ v).heap[b]?=some (.cells (cs.setIfInBounds o v) t (0,0)):=by
 have hlt:=(waL.1 h).1;have h':w.heap[b]=.cells cs t (0,0):=(waL.1 h).2;show(w.heap.modify b _)[b]?=_;rw[wbI (by simpa using hlt),Array.getElem_modify_self,h']
 rfl
theorem Rdr.setAt (h:Rdr w b s k bad e) (k':Nat):Rdr (w.setCell ⟨b,1,none⟩ (.int .i64 k')) b s k' bad e:=ziV h
theorem Rdr.setBad (h:Rdr w b s k bad e) (x:Int):Rdr (w.setCell ⟨b,2,none⟩ (.int .i64 x)) b s k x e:=ziV h
theorem Rdr.setE (h:Rdr w b s k bad e) (x:Int):Rdr (w.setCell ⟨b,3,none⟩ (.int .i64 x)) b s k bad x:=ziV h
end
abbrev Chg (b:Nat) (w w':World):Prop:=w.grownBy w' (some b)
theorem Chg.refl (b:Nat) (w:World):Chg b w w:=⟨rfl,rfl,rfl,waJ _,fun _ _ _=>rfl⟩
theorem Chg.trans {b:Nat} {w w1 w2:World} (h:Chg b w w1) (g:Chg b w1 w2):Chg b w w2:=
 ⟨g.os.trans h.os,g.tape.trans h.tape,g.output.trans h.output,waW h.size g.size,fun k hk hn=>(g.block k (waD hk h.size) hn).trans (h.block k hk hn)⟩
theorem Chg.drewN {b:Nat} {w w1:World} (h:Chg b w w1) (q:Nat):Chg b w (w1.drewN q):=⟨h.os,h.tape,h.output,h.size,h.block⟩
theorem Chg.set {b:Nat} {w w1:World} (h:Chg b w w1) (o:Nat) (v:Value):Chg b w (w1.setCell ⟨b,o,none⟩ v):=
 h.trans ⟨rfl,rfl,rfl,by simp[World.setCell],fun k _ hn=>wbJ _ _ _ _ (fun e=>hn (by simp[e]))⟩
theorem Chg.alloc {b:Nat} {w w1:World} (h:Chg b w w1) (o:Obj):Chg b w (w1.alloc o):=h.trans (World.grownBy_alloc _ _ _)
theorem Chg.of_below {b:Nat} {w w1:World} (h:Below w.heap.size w w1):Chg b w w1:=⟨h.os,h.tape,h.output,h.size,fun k hk _=>h.block k hk⟩
theorem Chg.below {b B:Nat} {w w1 w2:World} (h:Below B w w1) (g:Chg b w1 w2) (hB:B≤b) (hs:B≤w1.heap.size):Below B w w2:=
 h.trans ⟨g.os,g.tape,g.output,g.size,fun k hk=>g.block k oQ (fun e=>by injection e;omega)⟩
def zc3 (s:ByteArray) (k:Nat) (e:Int):Bool:=decide (e≠0∨k=s.size)
theorem zpd {s:ByteArray} {k:Nat} {e:Int} (h:e≠0):zc3 s k e=true:=waP (.inl h)
theorem ziW (s:ByteArray) (k:Nat):zc3 s k 0=decide (k=s.size):=by simp[zc3]
theorem zgC {s:ByteArray} {k:Nat} {e:Int} (hk:k≤s.size) (h:zc3 s k e=false):e=0∧k<s.size:=by
 simp only[zc3,decide_eq_false_iff_not] at h;omega
theorem zfk (b:Nat) (s:ByteArray) (k:Nat) (bad e:Int) (w:World) (h:Rdr w b s k bad e):Calls prog 221 #[.pointer (some ⟨b,0,none⟩)] w (znr (.bool (zc3 s k e)) w):=by
 obtain⟨c0,c1,c2,c3⟩:=h.cells;clear h
 by_cases he:e=0
 ·subst he;rw[ziW];have e1:decide (k=s.size)=((k:Int)==(s.size:Int)):=by rw[waQ];simp;omega
  rw[e1];generalize hq:((k:Int)==(s.size:Int))=q;go_enter func221,ntmps221;go_wp2
  go_quiet (fail)
  go_wp2;go_ret;exact⟨rfl,_,rfl⟩
 ·have he':(e !=0)=true:=by simpa using he
  rw[zpd he];clear he;go_enter func221,ntmps221;go_wp2
  go_quiet (fail)
  go_wp2;go_ret;exact⟨rfl,_,rfl⟩
theorem zpe (b:Nat) (s:ByteArray) (k:Nat) (bad e:Int) (w:World) (h:Rdr w b s k bad e):Calls prog 127 #[.pointer (some ⟨b,0,none⟩)] w (zb4 (.int .i64 k) w):=by
 obtain⟨c0,c1,c2,c3⟩:=h.cells;clear h;go_enter func127,ntmps127;go_wp2;go_ret;exact⟨rfl,rfl⟩
theorem zpf (b:Nat) (s:ByteArray) (k:Nat) (bad e:Int) (w:World) (h:Rdr w b s k bad e):Calls prog 73 #[.pointer (some ⟨b,0,none⟩)] w (znr (.tuple #[.int .i64 bad,.int .i64 e]) w):=by
 obtain⟨c0,c1,c2,c3⟩:=h.cells;clear h;go_enter func73,ntmps73;go_wp2
 go_quiet (fail)
 go_wp2
 go_ret2
 exact⟨rfl,_,rfl⟩
def zt4 (v:Value) (b:Nat) (s:ByteArray) (k:Nat) (bad e:Int) (w:World) (x:Ending) (w':World):Prop:=x=.returned v∧Rdr w' b s k bad e∧Chg b w w'
def zcv (bad e p q:Int):Int:=if e=0∧q≠0 then p else bad
def zfW (e q:Int):Int:=if e=0 then q else e
theorem zgD (b:Nat) (s:ByteArray) (k:Nat) (bad e p q:Int) (w:World) (h:Rdr w b s k bad e):
 Calls prog 126 #[.pointer (some ⟨b,0,none⟩),.int .i64 p,.int .i64 q] w (zt4 (.tuple #[]) b s k (zcv bad e p q) (zfW e q) w):=by
 obtain⟨c0,c1,c2,c3⟩:=h.cells;have f2:=h.free 2;have f3:=h.free 3;have H:=waV h;clear h
 by_cases he:e=0
 ·subst he
  by_cases hq:q=0
  ·subst hq;have e1:zcv bad 0 p 0=bad:=by simp[zcv]
   have e2:zfW 0 0=0:=by simp[zfW]
   rw[e1,e2];clear e1 e2;go_enter func126,ntmps126;go_wp2
   go_end0
   exact⟨rfl,H.out,Chg.refl _ _⟩
  ·have hq':(q !=0)=true:=by simpa using hq
   have e1:zcv bad 0 p q=p:=by simp[zcv,hq]
   have e2:zfW 0 q=q:=by simp[zfW]
   rw[e1,e2];clear hq e1 e2;go_enter func126,ntmps126;go_wp2
   go_end0
   exact⟨rfl,(H.out.setBad p).setE q,((Chg.refl _ _).set _ _).set _ _⟩
 ·have he':(e==0)=false:=by simpa using he
  have e1:zcv bad e p q=bad:=by simp[zcv,he]
  have e2:zfW e q=e:=by simp[zfW,he]
  rw[e1,e2];clear he e1 e2;go_enter func126,ntmps126;go_wp2
  go_end0
  exact⟨rfl,H.out,Chg.refl _ _⟩
theorem zpg (b:Nat) (s:ByteArray) (k:Nat) (bad e:Int) (w:World) (h:Rdr w b s k bad e) (hd:zc3 s k e=true):Calls prog 125 #[.pointer (some ⟨b,0,none⟩)] w (znr (.int .u8 0) w):=by
 have HD:=waV (zfk b s k bad e w h);rw[hd] at HD;clear h hd;go_enter func125,ntmps125;go_wp2_with fail;refine HD.out.mono ?_;rintro e w1 ⟨rfl,q,rfl⟩;go_wp2;go_ret;exact⟨rfl,_,rfl⟩
theorem zph (b:Nat) (s:ByteArray) (k:Nat) (bad:Int) (w:World) (h:Rdr w b s k bad 0) (hk:k<s.size):Calls prog 125 #[.pointer (some ⟨b,0,none⟩)] w (znr (.int .u8 (s[k].toNat:Int)) w):=by
 have HD:=waV (zfk b s k bad 0 w h);rw[ziW,waO (by omega)] at HD
 obtain⟨c0,c1,c2,c3⟩:=h.cells;have hk':(k:Int)<(s.size:Int):=by omega
 clear h;go_enter func125,ntmps125;go_wp2_with fail;refine HD.out.mono ?_;rintro e w1 ⟨rfl,q,rfl⟩;go_wp2
 go_quiet (fail)
 go_wp2;go_ret;exact⟨rfl,_,World.drewN_drewN ..⟩
def zlo (c:UInt8):List Value:=[.int .u8 (c.toNat:Int)]
abbrev zdI (w:World) (A:Option Addr) (n:Nat) (l:List UInt8):Prop:=Rd 1 zlo w A n l
theorem zdI.at_ {w:World} {A:Option Addr} {n:Nat} {l:List UInt8} (h:zdI w A n l) {i:Nat} (hi:i<n):
 ∃b o x,A=some ⟨b,o,none⟩∧b<w.heap.size∧l[i]?=some x∧w.cell? ⟨b,o+i,none⟩=some (.int .u8 (x.toNat:Int)):=ztm (f:=fun(x:UInt8)=>.int .u8 (x.toNat:Int)) h hi
theorem zpi {P:Program} {f:FuncId} {args:Array Value} {w:World} {n:Nat} {v:Value} (h:Calls P f args (w.drewN n) (znr v (w.drewN n))):Calls P f args (w.drewN n) fun e w''=>e=.returned v∧∃m,w''=w.drewN m:=
 h.mono fun _ _ ⟨he,m,hm⟩=>⟨he,n+m,by rw[hm,World.drewN_drewN]⟩
theorem zms {P:Program} {f:FuncId} {args:Array Value} {w:World} {n:Nat} {v:Value} (h:Calls P f args (w.drewN n) (zb4 v (w.drewN n))):Calls P f args (w.drewN n) fun e w''=>e=.returned v∧∃m,w''=w.drewN m:=
 h.mono fun _ _ ⟨he,hm⟩=>⟨he,n,hm.symm⟩
def ztt (c:UInt8) (l:List UInt8):Int:=match l.idxOf? c with|some i=>i|none=>-1
theorem zrI {c:UInt8} {l:List UInt8} {k:Nat} {x:UInt8} (H:∀j it,j<k→l[j]?=some it→decide (c=it)=false) (hx:l[k]?=some x) (h:c=x):ztt c l=k:=by
 subst h;have:l.idxOf? c=some k:=by
  rw[List.idxOf?_eq_some_iff];have hk:=waI.1 hx;refine⟨hk.1,by simp[hk.2],fun j hj=>?_⟩
  have:=H j _ hj (waE (Nat.lt_trans hj hk.1));simp only[decide_eq_false_iff_not] at this;simpa using fun e=>this e.symm
 simp[ztt,this]
theorem zpj {c:UInt8} {l:List UInt8} (H:∀j it,j<l.length→l[j]?=some it→decide (c=it)=false):ztt c l=-1:=by
 have:l.idxOf? c=none:=by
  rw[List.idxOf?_eq_none_iff];intro hx;obtain⟨j,hj⟩:=List.getElem?_of_mem hx;have:=H j c (waI.1 hj).1 hj;simp at this
 simp[ztt,this]
theorem zpk (c:UInt8) (l:List UInt8):decide (0≤ztt c l)=l.elem c:=by
 unfold ztt;cases h:l.idxOf? c with
 |none=>
  rw[List.idxOf?_eq_none_iff] at h;simp[h]
 |some i=>
  have:c∈l:=by
   rcases Decidable.em (c∈l) with h1|h1
   ·exact h1
   ·rw[List.idxOf?_eq_none_iff.2 h1] at h;cases h
  simp[this]
theorem zvt (a b:UInt8):(((a.toNat:Nat):Int)==((b.toNat:Nat):Int))=decide (a=b):=by
 rw[waQ];simp only[beq_iff_eq,waM];exact⟨fun h=>UInt8.toNat_inj.1 (by omega),fun h=>by rw[h]⟩
theorem znx (A:Option Addr) (n c:Nat) (l:List UInt8) (x:UInt8) (w:World) (hA:zdI w A n l) (hn:n≤9223372036854775807):
 Calls prog 348 #[.slice A n c,.int .u8 (x.toNat:Int)] w (zb4 (.int .i64 (ztt x l)) w):=by
 have HL:Hid (l.length=n):=hA.1;go_enter func348,ntmps348;go_wp2
 go_loop [8] (fun i=>∃k:Nat,k≤n∧i=.int .i64 k∧Hid (∀j it,j<k→l[j]?=some it→decide (x=it)=false)) (fun i=>n - (intOf i).toNat)
 case atStart=>exact⟨0,waK _,rfl,fun j _ h=>absurd h (Nat.not_lt_zero _)⟩
 case round=>
  obtain⟨k,hk,rfl,H⟩:=hrel
  by_cases hlt:k<n
  ·obtain⟨b,o,y,rfl,_,hx,c0⟩:=zdI.at_ hA hlt
   have hlt':(k:Int)<(n:Int):=by omega
   have Hx:=waV hx;clear hx
   by_cases he:x=y
   ·have He:=waV he;have hb:(((x.toNat:Nat):Int)==((y.toNat:Nat):Int))=true:=by rw[zvt];simpa using he
    clear he;go_wp2;go_ret;exact⟨zaW (zrI H.out Hx.out He.out).symm,rfl⟩
   ·have He:Hid (decide (x=y)=false):=waO he;have hb:(((x.toNat:Nat):Int)==((y.toNat:Nat):Int))=false:=by rw[zvt];exact waO he
    clear he;go_wp2
    go_round
    case rel=>exact⟨k+1,by omega,by go_num,zmi (p:=fun it=>decide (x=it)) H.out Hx.out He.out⟩
    case measure=>simp [intOf];omega
  ·obtain rfl:k=n:=by omega
   go_wp2;go_ret;exact⟨zaW (zpj (HL.out▸H.out)).symm,rfl⟩
theorem ziX (A:Option Addr) (n c:Nat) (l:List UInt8) (x:UInt8) (w:World) (hA:zdI w A n l) (hn:n≤9223372036854775807):
 Calls prog 296 #[.slice A n c,.int .u8 (x.toNat:Int)] w (zb4 (.bool (l.elem x)) w):=by
 have HC:=waV (znx A n c l x w hA hn);rw[←zpk];generalize ztt x l=q at HC ⊢;clear hA;go_enter func296,ntmps296
 go_wp2_with (go_at_call 348;refine HC.out.mono ?_;rintro e w1 ⟨rfl,rfl⟩)
 go_ret;exact⟨rfl,rfl⟩
def isB (s:ByteArray) (k:Nat) (e:Int) (cs:List UInt8):Bool:=if h:e=0∧k<s.size then cs.elem (s[k]'h.2) else false
theorem zmt {s:ByteArray} {k:Nat} {e:Int} {cs:List UInt8} (h:zc3 s k e=true):isB s k e cs=false:=by
 simp only[zc3,waM] at h;exact dif_neg oQ
theorem zpl {s:ByteArray} {k:Nat} {cs:List UInt8} (h:k<s.size):isB s k 0 cs=cs.elem s[k]:=dif_pos ⟨rfl,h⟩
def isK (s:ByteArray) (k:Nat) (e:Int) (cs:List UInt8):Nat:=if isB s k e cs then k+1 else k
theorem ztu (b:Nat) (s:ByteArray) (k:Nat) (bad e:Int) (A:Option Addr) (n c:Nat) (cs:List UInt8) (w:World) (h:Rdr w b s k bad e) (hs:s.size≤9223372036854775807) (hk:k≤s.size) (hA:zdI w A n cs) (hn:n≤9223372036854775807):
 Calls prog 222 #[.pointer (some ⟨b,0,none⟩),.slice A n c] w (zt4 (.bool (isB s k e cs)) b s (isK s k e cs) bad e w):=by
 have HD:=waV (fun q=>zfk b s k bad e (w.drewN q) h)
 have H:=waV h;cases hd:zc3 s k e with
 |true=>
  rw[hd] at HD;have e1:=zmt (cs:=cs) hd;rw[isK,e1];clear e1 hd h hA;go_enter func222,ntmps222;go_wp2
  go_quiet ((go_at_call 221;exact zpi (HD.out _)))
  go_wp2;go_ret;exact⟨rfl,H.out.drewN _,(Chg.refl _ _).drewN _⟩
 |false=>
  rw[hd] at HD;obtain⟨rfl,hlt⟩:=zgC hk hd;have hlt':(k:Int)<(s.size:Int):=by omega
  have HC:=waV (fun q=>ziX A n c cs s[k] (w.drewN q) hA hn)
  have e1:=zpl (cs:=cs) hlt;rw[isK,e1];obtain⟨c0,c1,c2,c3⟩:=h.cells;have f1:=h.free 1;clear e1 hd h hA hk;cases hq:cs.elem s[k] with
  |false=>
   rw[hq] at HC;clear hq;go_enter func222,ntmps222;go_wp2
   go_quiet ((first|(go_at_call 221;exact zpi (HD.out _))|(go_at_call 296;exact zms (HC.out _))))
   go_wp2;go_ret;exact⟨rfl,H.out.drewN _,(Chg.refl _ _).drewN _⟩
  |true=>
   rw[hq] at HC;clear hq;go_enter func222,ntmps222;go_wp2
   go_quiet ((first|(go_at_call 221;exact zpi (HD.out _))|(go_at_call 296;exact zms (HC.out _))))
   go_wp2;go_ret;exact⟨rfl,(H.out.drewN _).setAt _,((Chg.refl _ _).drewN _).set _ _⟩
def zt5 (g:Nat) (p:UInt8→Bool):Prop:=∀(W:World) (x:UInt8),Calls prog g #[.int .u8 (x.toNat:Int)] W (zb4 (.bool (p x)) W)
def zbz (c:UInt8):Bool:=decide (c=32∨c=9)
def zaO (c:UInt8):Bool:=decide (48≤c.toNat∧c.toNat≤57)
def zcJ (c:UInt8):Bool:=decide ((97≤c.toNat∧c.toNat≤122)∨(65≤c.toNat∧c.toNat≤90))
theorem ztv (a:UInt8) (b:Nat) (hb:b<256):(a.toNat=b)↔a=UInt8.ofNat b:=by
 constructor
 ·intro h;apply UInt8.toNat_inj.1;rw[h];simp;omega
 ·rintro rfl;simp;omega
theorem zny:zt5 220 zbz:=by
 intro W x;have e:zbz x=decide ((x.toNat:Int)=32∨(x.toNat:Int)=9):=by
  unfold zbz;rw[waQ];simp only[waM];have h1:=ztv x 32 oQ;have h2:=ztv x 9 oQ;constructor
  ·rintro (h|h)
   ·left;have:=h1.2 h;omega
   ·right;have:=h2.2 h;omega
  ·rintro (h|h)
   ·left;exact h1.1 oQ
   ·right;exact h2.1 oQ
 rw[e];generalize (x.toNat:Int)=c;clear e
 by_cases h1:c=32
 ·subst h1;go_enter func220,ntmps220;go_wp2;go_ret;exact⟨rfl,rfl⟩
 ·have h1':(c==32)=false:=by simpa using h1
  have e2:decide (c=32∨c=9)=(c==9):=by rw[waQ];simp[h1]
  rw[e2];generalize hq:(c==9)=q;clear h1 e2;go_enter func220,ntmps220;go_wp2;go_ret;exact⟨rfl,rfl⟩
theorem znz:zt5 349 zaO:=by
 intro W x;have e:zaO x=decide (48≤(x.toNat:Int)∧(x.toNat:Int)≤57):=by
  unfold zaO;rw[waQ];simp only[waM];omega
 rw[e];generalize hc:(x.toNat:Int)=c;clear e hc
 by_cases h1:48≤c
 ·have e2:decide (48≤c∧c≤57)=decide (c≤57):=by rw[waQ];simp[h1]
  rw[e2];clear e2;go_enter func349,ntmps349;go_wp2;go_ret;exact⟨rfl,rfl⟩
 ·have e2:decide (48≤c∧c≤57)=false:=by simp[h1]
  rw[e2];clear e2;go_enter func349,ntmps349;go_wp2;go_ret;exact⟨rfl,rfl⟩
def zgm (p:UInt8→Bool) (s:ByteArray) (k:Nat):Nat:=((s.data.toList.drop k).takeWhile p).length
def zbL (p:UInt8→Bool) (s:ByteArray) (k:Nat) (e:Int):Nat:=if zc3 s k e then k else k+zgm p s k
theorem zrJ {p:UInt8→Bool} {l:List UInt8} {j:Nat} (H:∀i x,i<j→l[i]?=some x→p x=true) (hj:j≤l.length) (h:∀x,l[j]?=some x→p x=false):(l.takeWhile p).length=j:=by
 induction l generalizing j with
 |nil=>simp at hj ⊢;omega
 |cons a l ih=>
  cases j with
  |zero=>
   have:=h a rfl;simp[List.takeWhile_cons,this]
  |succ j=>
   have h0:=H 0 a oQ rfl;rw[List.takeWhile_cons,h0];simp only[if_true,waG];rw[ih (j:=j) (fun i x hi hx=>H (i+1) x (by omega) (by simpa using hx)) (by simpa using hj) (fun x hx=>h x (by simpa using hx))]
theorem zgZ {p:UInt8→Bool} {s:ByteArray} {k j:Nat} (hkj:k≤j) (hj:j≤s.size) (H:∀i x,k≤i→i<j→s.data.toList[i]?=some x→p x=true) (h:∀x,s.data.toList[j]?=some x→p x=false):zgm p s k=j - k:=by
 unfold zgm;apply zrJ
 ·intro i x hi hx;rw[List.getElem?_drop] at hx;exact H (k+i) x oQ oQ hx
 ·simp;have:s.data.size=s.size:=rfl;omega
 ·intro x hx;rw[List.getElem?_drop] at hx;exact h x (by rw[show j=k+(j - k) from by omega];exact hx)
theorem zlp (s:ByteArray) (k:Nat) (h:k<s.size):s.data.toList[k]?=some s[k]:=by
 rw[waE (by simpa using h)]
 rfl
theorem zgn (s:ByteArray) (k:Nat):s.extract k k=⟨#[]⟩:=by
 apply ByteArray.ext;simp
theorem zmu (b:Nat) (s:ByteArray) (k:Nat) (bad e:Int) (g:Nat) (p:UInt8→Bool) (w:World) (h:Rdr w b s k bad e) (hs:s.size≤9223372036854775807) (hk:k≤s.size)
 (eg:∀args w,(callFunc g args).run prog w=.ok (.enter g args) w) (hp:zt5 g p):
 Calls prog 219 #[.pointer (some ⟨b,0,none⟩),.func (.func g) #[] #[]] w (zt4 (.string (s.extract k (zbL p s k e))) b s (zbL p s k e) bad e w):=by
 have HD:=waV (zfk b s k bad e w h);have H:=waV h;cases hd:zc3 s k e with
 |true=>
  rw[hd] at HD;rw[zbL,hd,if_pos rfl,zgn];clear hd h hp eg;go_enter func219,ntmps219;go_wp2_with fail;refine HD.out.mono ?_;rintro e w1 ⟨rfl,q,rfl⟩;go_wp2;go_ret;exact⟨rfl,H.out.drewN _,(Chg.refl _ _).drewN _⟩
 |false=>
  rw[hd] at HD;obtain⟨rfl,hlt⟩:=zgC hk hd;rw[zbL,hd,if_neg (by decide)]
  obtain⟨c0,c1,c2,c3⟩:=h.cells;have HP:=waV hp;clear hd h hk hp;generalize hr:k+zgm p s k=r;have HR:=waV hr;clear hr;go_enter func219,ntmps219;go_wp2_with fail;refine HD.out.mono ?_;rintro e w1 ⟨rfl,q,rfl⟩;go_wp2
  go_loopg [] (s.size - k) (fun gg wr=>∃j:Nat,k≤j∧j≤s.size∧gg=s.size - j∧Hid (∀i x,k≤i→i<j→s.data.toList[i]?=some x→p x=true)∧Hid (Rdr wr b s j bad 0)∧Hid (Chg b w wr))
  case atStart=>exact⟨k,waJ _,by omega,rfl,fun i x h1 h2=>by omega,H.out.drewN _,(Chg.refl _ _).drewN _⟩
  case round=>
   obtain⟨j,hkj,hj,hgj,HI,HJ,HC⟩:=hrel;obtain⟨d0,d1,d2,d3⟩:=HJ.out.cells;have f1:=HJ.out.free 1
   by_cases hlj:j<s.size
   ·have hlj':(j:Int)<(s.size:Int):=by omega
    have HQ:=waV (fun W=>HP.out W s[j])
    cases hq:p s[j] with
    |true=>
     have Hq:Hid (p s[j]=true):=hq;rw[hq] at HQ;clear hq;go_wp2
     go_quiet ((go_at_fn g;exact zms (HQ.out _)))
     go_wp2
     go_roundg (s.size - (j+1))
     case measure=>omega
     case rel=>
      exact⟨j+1,by omega,by omega,rfl,(fun i x h1 h2 hx=>by
       rcases Nat.lt_or_ge i j with h3|h3
       ·exact HI.out i x h1 h3 hx
       ·obtain rfl:i=j:=by omega
        rw[zlp s i hlj] at hx;cases hx;exact Hq.out),(HJ.out.drewN _).setAt _,(HC.out.drewN _).set _ _⟩
    |false=>
     have Hr:Hid (r=j):=by
      show r=j;rw[←HR.out,zgZ hkj hj HI.out (fun x hx=>by rw[zlp s j hlj] at hx;cases hx;exact hq)]
      omega
     rw[hq] at HQ;clear hq;go_wp2
     go_quiet ((go_at_fn g;exact zms (HQ.out _)))
     go_wp2
     go_quiet (fail)
     go_wp2;go_ret;refine⟨?_,?_,?_⟩
     ·rw[Hr.out];rfl
     ·rw[Hr.out];exact HJ.out
     ·exact(HC.out.drewN _).drewN _
   ·obtain rfl:j=s.size:=by omega
    have Hr:Hid (r=s.size):=by
     show r=s.size;rw[←HR.out,zgZ hkj (waJ _) HI.out (fun x hx=>by
      have:=(waI.1 hx).1;rw[Array.length_toList] at this;have e:s.data.size=s.size:=rfl;omega)]
     omega
    go_wp2
    go_quiet (fail)
    go_wp2
    go_quiet (fail)
    go_wp2;go_ret;refine⟨?_,?_,?_⟩
    ·rw[Hr.out];rfl
    ·rw[Hr.out];exact HJ.out
    ·exact(HC.out.drewN _).drewN _
def znA (s:ByteArray) (k:Nat):Int:=if k=s.size then 2 else 3
theorem zpm (b:Nat) (s:ByteArray) (k:Nat) (bad e:Int) (w:World) (h:Rdr w b s k bad e):
 Calls prog 303 #[.pointer (some ⟨b,0,none⟩)] w (zt4 (.tuple #[]) b s k (zcv bad e k (znA s k)) (zfW e (znA s k)) w):=by
 obtain⟨c0,c1,c2,c3⟩:=h.cells;have HF:=waV (fun W q (h:Rdr W b s k bad e)=>zgD b s k bad e k q W h)
 have H:=waV h;clear h
 by_cases he:k=s.size
 ·have he':((k:Int)==(s.size:Int))=true:=by simp;omega
  have e1:znA s k=2:=if_pos he;rw[e1];clear he e1;go_enter func303,ntmps303;go_wp2
  go_quiet (fail)
  go_wp2_with fail;refine(HF.out _ _ (H.out.drewN _)).mono ?_;rintro x w1 ⟨rfl,h1,g1⟩;go_wp2
  first|go_end0|(refine waY (results_none rfl _ _ _) rfl ?_)
  exact⟨rfl,h1,((Chg.refl _ _).drewN _).trans g1⟩
 ·have he':((k:Int)==(s.size:Int))=false:=by simp;omega
  have e1:znA s k=3:=if_neg he;rw[e1];clear he e1;go_enter func303,ntmps303;go_wp2
  go_quiet (fail)
  go_wp2_with fail;refine(HF.out _ _ (H.out.drewN _)).mono ?_;rintro x w1 ⟨rfl,h1,g1⟩;go_wp2
  first|go_end0|(refine waY (results_none rfl _ _ _) rfl ?_)
  exact⟨rfl,h1,((Chg.refl _ _).drewN _).trans g1⟩
def zrK (s:ByteArray) (k:Nat) (e:Int):Int:=if h:e=0∧k<s.size then((s[k]'h.2).toNat:Int) else 0
theorem zic {s:ByteArray} {k:Nat} {e:Int} (h:zc3 s k e=true):zrK s k e=0:=by
 simp only[zc3,waM] at h;exact dif_neg oQ
theorem zmv {s:ByteArray} {k:Nat} (h:k<s.size):zrK s k 0=(s[k].toNat:Int):=dif_pos ⟨rfl,h⟩
theorem zrL (b:Nat) (s:ByteArray) (k:Nat) (bad e:Int) (w:World) (h:Rdr w b s k bad e) (hk:k≤s.size):Calls prog 125 #[.pointer (some ⟨b,0,none⟩)] w (znr (.int .u8 (zrK s k e)) w):=by
 cases hd:zc3 s k e with
 |true=>rw [zic hd];exact zpg b s k bad e w h hd
 |false=>
  obtain⟨rfl,hlt⟩:=zgC hk hd;rw[zmv hlt];exact zph b s k bad w h hlt
theorem znB (b:Nat) (s:ByteArray) (k:Nat) (bad e:Int) (w:World) (h:Rdr w b s k bad e) (hs:s.size≤9223372036854775807) (hk:k≤s.size):
 Calls prog 124 #[.pointer (some ⟨b,0,none⟩)] w (zt4 (.int .i64 ((s.extract k (zbL zbz s k e)).size:Nat)) b s (zbL zbz s k e) bad e w):=by
 have HS:=waV (zmu b s k bad e 220 zbz w h hs hk (enters_of func220 kQ rfl) zny);generalize zbL zbz s k e=j at HS ⊢;clear h;go_enter func124,ntmps124;go_wp2_with fail;refine HS.out.mono ?_;rintro x w1 ⟨rfl,h1,g1⟩;generalize ht:s.extract k j=t;have HT:=waV ht;clear ht;go_wp2;go_ret;exact⟨by rw[HT.out];rfl,h1,g1⟩
theorem zt6 (b:Nat) (s:ByteArray) (k:Nat) (bad e:Int) (w:World) (h:Rdr w b s k bad e) (hk:k≤s.size):
 Calls prog 131 #[.pointer (some ⟨b,0,none⟩)] w (zt4 (.tuple #[]) b s k (if zc3 s k e then bad else k) (if zc3 s k e then e else 3) w):=by
 have HD:=waV (zfk b s k bad e w h);have H:=waV h;cases hd:zc3 s k e with
 |true=>
  rw[hd] at HD;simp only[if_true];clear hd h;go_enter func131,ntmps131;go_wp2_with fail;refine HD.out.mono ?_;rintro x w1 ⟨rfl,q,rfl⟩;go_wp2
  first|go_end0|(refine waY (results_none rfl _ _ _) rfl ?_)
  exact⟨rfl,H.out.drewN _,(Chg.refl _ _).drewN _⟩
 |false=>
  rw[hd] at HD;obtain⟨rfl,hlt⟩:=zgC hk hd;simp only[Bool.false_eq_true,if_false];have HF:=waV (fun q=>zgD b s k bad 0 k 3 (w.drewN q) (h.drewN q))
  rw[show zcv bad 0 k 3=k from by simp[zcv],show zfW 0 3=3 from by simp[zfW]] at HF
  obtain⟨c0,c1,c2,c3⟩:=h.cells;clear hd h;go_enter func131,ntmps131;go_wp2_with fail;refine HD.out.mono ?_;rintro x w1 ⟨rfl,q,rfl⟩;go_wp2_with fail;refine(HF.out _).mono ?_;rintro x w1 ⟨rfl,h1,g1⟩;go_wp2
  first|go_end0|(refine waY (results_none rfl _ _ _) rfl ?_)
  exact⟨rfl,h1,((Chg.refl _ _).drewN _).trans g1⟩
def zvu (s:ByteArray) (bad e:Int) (w:World) (x:Ending) (w':World):Prop:=∃b,w.heap.size≤b∧x=.returned (.pointer (some ⟨b,0,none⟩))∧Rdr w' b s 0 bad e∧Below w.heap.size w w'
def zmw (s:ByteArray):Int:=if 8192<s.size then 8192 else 0
def newE (s:ByteArray):Int:=if 8192<s.size then 5 else 0
theorem zt7 (s:ByteArray) (w:World) (hs:s.size≤9223372036854775807):Calls prog 71 #[.string s] w (zvu s (zmw s) (newE s) w):=by
 have HF:=waV (fun W b h=>zgD b s 0 0 0 8192 5 W h)
 rw[show zcv 0 0 8192 5=8192 from by simp[zcv],show zfW 0 5=5 from by simp[zfW]] at HF
 by_cases hl:8192<s.size
 ·have hl':(8192:Int)<(s.size:Int):=by omega
  rw[zmw,newE,if_pos hl,if_pos hl];clear hl;go_enter func71,ntmps71;go_wp2_with fail;refine(HF.out _ _ (heap_alloc_new w _)).mono ?_;rintro x w1 ⟨rfl,h1,g1⟩;go_wp2;go_ret;exact⟨w.heap.size,waJ _,rfl,h1,Chg.below ((waC _ w).alloc (waJ _) _) g1 (waJ _) (by simp)⟩
 ·have hl':¬(8192:Int)<(s.size:Int):=by omega
  rw[zmw,newE,if_neg hl,if_neg hl];clear hl;go_enter func71,ntmps71;go_wp2;go_ret;exact⟨w.heap.size,waJ _,rfl,heap_alloc_new w _,(waC _ w).alloc (waJ _) _⟩
def zfl (l:List UInt8):Int:=l.foldl (fun n c=>10 * n+((c.toNat:Int) - 48)) 0
theorem znC (l:List UInt8) (c:UInt8):zfl (l++[c])=10 * zfl l+((c.toNat:Int) - 48):=by simp[zfl,List.foldl_append]
theorem zrM (l:List UInt8) (h:∀c∈l,zaO c=true) (a:Int) (ha:0≤a):
 0≤l.foldl (fun n (c:UInt8)=>10 * n+((c.toNat:Int) - 48)) a∧l.foldl (fun n (c:UInt8)=>10 * n+((c.toNat:Int) - 48)) a<(a+1) * 10^l.length:=by
 induction l generalizing a with
 |nil=>simp;omega
 |cons c l ih=>
  have h2:=h c (by simp)
  simp only[zaO,waM] at h2;have h3:=ih (fun c hc=>h c (List.mem_cons_of_mem _ hc)) (10 * a+((c.toNat:Int) - 48)) oQ
  rw[List.foldl_cons,waG,Int.pow_succ];refine⟨h3.1,Int.lt_of_lt_of_le h3.2 ?_⟩;have h4:(0:Int)≤10^l.length:=Int.pow_nonneg dQ;generalize (10:Int)^l.length=q at h4 ⊢
  calc (10 * a+((c.toNat:Int) - 48)+1) * q≤((a+1) * 10) * q:=Int.mul_le_mul_of_nonneg_right oQ h4
   _=(a+1) * (q * 10):=by rw[Int.mul_assoc,Int.mul_comm 10 q]
theorem zrN (l:List UInt8) (h:∀c∈l,zaO c=true):0≤zfl l∧zfl l<10^l.length:=by
 have:=zrM l h 0 dQ;simpa[zfl] using this
theorem zrO {k:Nat} (h:k≤17):(10:Int)^k≤100000000000000000:=by
 have:k=0∨k=1∨k=2∨k=3∨k=4∨k=5∨k=6∨k=7∨k=8∨k=9∨k=10∨k=11∨k=12∨k=13∨k=14∨k=15∨k=16∨k=17:=by omega
 rcases this with rfl|rfl|rfl|rfl|rfl|rfl|rfl|rfl|rfl|rfl|rfl|rfl|rfl|rfl|rfl|rfl|rfl|rfl<;>decide
theorem zt8 {p:UInt8→Bool} (l:List UInt8):∀x∈l.takeWhile p,p x=true:=by
 induction l with
 |nil=>simp
 |cons a l ih=>
  intro x hx;rw[List.takeWhile_cons] at hx;split at hx
  ·simp only[List.mem_cons] at hx;rcases hx with rfl|hx
   ·assumption
   ·exact ih x hx
  ·simp at hx
theorem ziY (p:UInt8→Bool) (s:ByteArray) (k:Nat) (e:Int) (hk:k≤s.size):k≤zbL p s k e∧zbL p s k e≤s.size:=by
 unfold zbL;split
 ·exact⟨waJ _,hk⟩
 ·refine⟨Nat.le_add_right _ _,?_⟩;have h1:((s.data.toList.drop k).takeWhile p).length≤(s.data.toList.drop k).length:=(List.takeWhile_prefix p).length_le;rw[List.length_drop] at h1;have e0:s.data.toList.length=s.data.size:=Array.length_toList;have e:s.data.size=s.size:=rfl;have e2:zgm p s k=((s.data.toList.drop k).takeWhile p).length:=rfl;omega
def zvd (p:UInt8→Bool) (s:ByteArray) (k:Nat) (e:Int):List UInt8:=(s.data.toList.drop k).take (zbL p s k e - k)
theorem zrP (p:UInt8→Bool) (s:ByteArray) (k:Nat) (e:Int):∀x∈zvd p s k e,p x=true:=by
 unfold zvd zbL;split
 ·simp
 ·rw[show k+zgm p s k - k=zgm p s k from by omega]
  unfold zgm;rw[show (s.data.toList.drop k).take ((s.data.toList.drop k).takeWhile p).length=(s.data.toList.drop k).takeWhile p from(List.prefix_iff_eq_take.1 (List.takeWhile_prefix p)).symm]
  exact zt8 _
theorem zd9 (s:ByteArray) (k j:Nat):(s.extract k j).data.toList=(s.data.toList.drop k).take (j - k):=by
 rw[ByteArray.data_extract,Array.toList_extract,List.extract_eq_take_drop]
def zrx (s:ByteArray) (k:Nat) (e most:Int):Bool:=decide (zbL zaO s k e≠k∧((zbL zaO s k e - k:Nat):Int)≤most∧most≤18)
def zmx (s:ByteArray) (k:Nat) (e:Int):Int:=if zbL zaO s k e=k then znA s k else 4
theorem znD (t:ByteArray) (w:World):∃cap C,(convert 9 359 (.string t)).run prog w=.ok (.slice (some ⟨w.heap.size,0,none⟩) t.size cap) (w.drew.alloc (.cells C 5 (C.size,C.size+1)))∧
 ∀(i:Nat) (x:UInt8),t.data.toList[i]?=some x→C[i]?=some (Value.int .u8 (x.toNat:Int)):=by
 refine⟨_,_,run_bytes_of_string w 9 359 5 t underlying9 underlying359 underlying5,?_⟩;intro i x hx;have hi:=(waI.1 hx).1;rw[Array.length_toList] at hi;rw[bytesRow,Array.getElem?_append_left (by simpa using hi),Array.getElem?_map]
 simp only[Array.getElem?_toList] at hx;rw[hx];rfl
theorem znE (b:Nat) (s:ByteArray) (k:Nat) (bad e most:Int) (w:World) (h:Rdr w b s k bad e) (hs:s.size≤9223372036854775807) (hk:k≤s.size):
 Calls prog 297 #[.pointer (some ⟨b,0,none⟩),.int .i64 most] w
  (zt4 (.tuple #[.int .i64 (if zrx s k e most then zfl (zvd zaO s k e) else 0),.bool (zrx s k e most)]) b s (if zrx s k e most then zbL zaO s k e else k)
    (if zrx s k e most then bad else zcv bad e k (zmx s k e)) (if zrx s k e most then e else zfW e (zmx s k e)) w):=by
 have HA:=waV (zpe b s k bad e w h);have HS:=waV (zmu b s k bad e 349 zaO w h hs hk (enters_of func349 kQ rfl) znz);have hj:=ziY zaO s k e hk;have HL:=waV (fun W (h:Rdr W b s k bad e)=>zpm b s k bad e W h)
 have HF:=waV (fun W (h:Rdr W b s k bad e)=>zgD b s k bad e k 4 W h)
 clear h
 by_cases h0:zbL zaO s k e=k
 ·have e1:zrx s k e most=false:=by simp[zrx,h0]
  have e2:zmx s k e=znA s k:=if_pos h0;rw[e1,e2];simp only[Bool.false_eq_true,if_false];rw[h0,zgn] at HS;clear h0 e1 e2 hj;go_enter func297,ntmps297;go_wp2_with fail;refine HA.out.mono ?_;rintro x w1 ⟨rfl,rfl⟩;go_wp2_with fail;refine HS.out.mono ?_;rintro x w1 ⟨rfl,h1,g1⟩;go_wp2_with fail;refine(HL.out _ h1).mono ?_;rintro x w2 ⟨rfl,h2,g2⟩;go_wp2
  go_ret2
  exact⟨rfl,h2,g1.trans g2⟩
 have hlen:(s.extract k (zbL zaO s k e)).size=zbL zaO s k e - k:=by simp;omega
 have ht0:(s.extract k (zbL zaO s k e)).toList.isEmpty=false:=by
  rw[ByteArray.toList_eq];cases hq:(s.extract k (zbL zaO s k e)).data.toList with
  |nil=>
   have:(s.extract k (zbL zaO s k e)).data.size=0:=by rw[←Array.length_toList,hq];rfl
   have e3:(s.extract k (zbL zaO s k e)).data.size=(s.extract k (zbL zaO s k e)).size:=rfl;omega
  |cons a l=>rfl
 have hrl:(s.extract k (zbL zaO s k e)).data.toList=zvd zaO s k e:=zd9 _ _ _;have hall:=zrP zaO s k e;have hjp:k<zbL zaO s k e:=by omega
 by_cases hm:((zbL zaO s k e - k:Nat):Int)≤most∧most≤18
 ·have e1:zrx s k e most=true:=waP ⟨h0,hm⟩;rw[e1];simp only[if_true];clear e1 h0 HL HF;generalize zbL zaO s k e=j at *;generalize ht:s.extract k j=t at *;generalize zvd zaO s k e=L at *;have hm1:¬most<(t.size:Int):=by omega
  have hm2:¬18<most:=by omega
  have hsz18:t.size≤18:=by omega
  have HRL:=waV hrl;have HAll:=waV hall;clear ht hrl hall hlen hm hj;go_enter func297,ntmps297;go_wp2_with fail;refine HA.out.mono ?_;rintro x w1 ⟨rfl,rfl⟩;go_wp2_with fail;refine HS.out.mono ?_;rintro x w1 ⟨rfl,h1,g1⟩;obtain⟨cap,C,hconv,hC⟩:=znD t w1;have HC:=waV hC;have H1:=waV h1;clear hC h1;have hcell:∀(i:Nat) (x:UInt8),t.data.toList[i]?=some x→(w1.alloc (.cells C 5 (C.size,C.size+1))).cell? ⟨w1.heap.size,i,none⟩=some (.int .u8 (x.toNat:Int)):=by
   intro i x hx;have h1:=heap_alloc_new w1 (.cells C 5 (C.size,C.size+1));unfold World.cell?;rw[h1];exact HC.out i x hx
  have HCell:=waV hcell;have htl:t.data.toList.length=t.size:=Array.length_toList;clear hcell;go_wp2
  go_loop [8,39] (fun v i=>∃q:Nat,q≤t.size∧i=.int .i64 q∧v=.int .i64 (zfl (t.data.toList.take q))) (fun _ i=>t.size - (intOf i).toNat)
  case atStart=>exact⟨0,waK _,rfl,rfl⟩
  case round=>
   obtain⟨q,hq,rfl,rfl⟩:=hrel
   by_cases hlt:q<t.size
   ·have hx:t.data.toList[q]?=some t[q]:=zlp t q hlt;have c0:=HCell.out q _ hx;have hd:zaO t[q]=true:=HAll.out _ (HRL.out▸List.mem_of_getElem? hx);simp only[zaO,waM] at hd;have hb1:(48:Int)≤(t[q].toNat:Int):=by omega
    have hb2:(t[q].toNat:Int)≤57:=by omega
    have hbd:=zrN (t.data.toList.take q) (fun c hc=>HAll.out c (HRL.out▸List.mem_of_mem_take hc))
    rw[List.length_take_of_le (by omega)] at hbd
    have hp:=zrO (k:=q) oQ;have hs1:t.data.toList.take (q+1)=t.data.toList.take q++[t[q]]:=by
     rw[List.take_add_one,hx];rfl
    have HS1:Hid (zfl (t.data.toList.take (q+1))=10 * zfl (t.data.toList.take q)+((t[q].toNat:Int) - 48)):=by
     show _=_;rw[hs1,znC]
    have hlt':(q:Int)<(t.size:Int):=by omega
    have hn1:0≤zfl (t.data.toList.take q):=hbd.1;have hn2:zfl (t.data.toList.take q)≤100000000000000000:=by omega
    clear hx hd hbd hp hs1 htl;generalize hg:zfl (t.data.toList.take q)=nq at *;clear hg;generalize hc:(t[q].toNat:Int)=cq at *;clear hc;go_wp2
    go_round
    case rel=>exact⟨q+1,by omega,by go_num,by rw[HS1.out]⟩
    case measure=>simp [intOf];omega
   ·obtain rfl:q=t.size:=by omega
    have HE:Hid (t.data.toList.take t.size=L):=by
     show _=_;rw[List.take_of_length_le (by omega),HRL.out]
    go_wp2
    go_ret2
    refine⟨?_,?_,?_⟩
    ·rw[←HE.out];rfl
    ·exact(H1.out.kept (((waC _ w1).alloc (waJ _) _).drew) H1.out.lt)
    ·exact(g1.alloc _).drewN 1
 ·have e1:zrx s k e most=false:=waO (fun h=>hm h.2)
  have e2:zmx s k e=4:=if_neg h0;rw[e1,e2];simp only[Bool.false_eq_true,if_false];clear e1 e2 h0 HL hall hrl;generalize zbL zaO s k e=j at *;generalize ht:s.extract k j=t at *;clear ht
  by_cases hm1:most<(t.size:Int)
  ·go_enter func297,ntmps297;go_wp2_with fail;refine HA.out.mono ?_;rintro x w1 ⟨rfl,rfl⟩;go_wp2_with fail;refine HS.out.mono ?_;rintro x w1 ⟨rfl,h1,g1⟩;obtain⟨c0,c1,c2,c3⟩:=h1.cells;have f1:=h1.free 1;have H1:=waV h1;clear h1;go_wp2_with fail;refine(HF.out _ (H1.out.setAt k)).mono ?_;rintro x w2 ⟨rfl,h2,g2⟩;go_wp2
   go_ret2
   exact⟨rfl,h2,(g1.set _ _).trans g2⟩
  ·have hm2:18<most:=by omega
   go_enter func297,ntmps297;go_wp2_with fail;refine HA.out.mono ?_;rintro x w1 ⟨rfl,rfl⟩;go_wp2_with fail;refine HS.out.mono ?_;rintro x w1 ⟨rfl,h1,g1⟩;obtain⟨c0,c1,c2,c3⟩:=h1.cells;have f1:=h1.free 1;have H1:=waV h1;clear h1;go_wp2_with fail;refine(HF.out _ (H1.out.setAt k)).mono ?_;rintro x w2 ⟨rfl,h2,g2⟩;go_wp2
   go_ret2
   exact⟨rfl,h2,(g1.set _ _).trans g2⟩
abbrev PR (α:Type):=Except (Nat×Int) (α×List UInt8)
def pIs (cs:List UInt8):List UInt8→Option (List UInt8)
 |[]=>none
 |c::l=>if cs.elem c then some l else none
def zvv (l:List UInt8):Int:=if l=[] then 2 else 3
def ztw (most:Nat) (l:List UInt8):PR Int:=
 if l.takeWhile zaO=[] then .error (l.length,zvv l) else if most<(l.takeWhile zaO).length then .error (l.length,4) else .ok (zfl (l.takeWhile zaO),l.dropWhile zaO)
def zvw (c:UInt8):UInt8:=if 65≤c.toNat∧c.toNat≤90 then c+32 else c
def ztx (l:List UInt8):List UInt8:=l.map zvw
def monN:List (List UInt8):=[[106,97,110],[102,101,98],[109,97,114],[97,112,114],[109,97,121],[106,117,110],[106,117,108],[97,117,103],[115,101,112],[111,99,116],[110,111,118],[100,101,99]]
def dayN:List (List UInt8):=[[115,117,110],[109,111,110],[116,117,101],[119,101,100],[116,104,117],[102,114,105],[115,97,116]]
def zdp (f:Nat):List (List UInt8):=if f=3 then monN else if f=4 then dayN else []
def zlq (p:UInt8→Bool):List UInt8→Bool
 |[]=>false
 |c::_=>p c
def wIdx (w:List UInt8) (l:List (List UInt8)):Int:=match l.idxOf? w with|some i=>i|none=>-1
def cNum (f:Nat) (l:List UInt8):PR Int:=
 if zdp f≠[]∧zlq zcJ l=true then
  if wIdx (ztx (l.takeWhile zcJ)) (zdp f)<0 then .error (l.length,6) else .ok (cLo f+wIdx (ztx (l.takeWhile zcJ)) (zdp f),l.dropWhile zcJ)
 else match ztw 2 l with
  | .ok (n,r)=>if n<cLo f∨cHi f<n then .error (l.length,4) else .ok (n,r)
  | .error e=>.error e
def zrQ (l:List UInt8):PR Int:=match ztw 3 l with
 | .ok (n,r)=>if n=0 then .error (l.length,4) else .ok (n,r)
 | .error e=>.error e
def cBy (i:It) (l:List UInt8):PR It:=match pIs [47] l with
 |none=>.ok (i,l)
 |some l2=>match zrQ l2 with
  | .ok (n,r)=>.ok ({i with s:=n},r)
  | .error e=>.error e
def cItem (f:Nat) (l:List UInt8):PR It:=match pIs [42] l with
 |some l1=>cBy ⟨0,0,0,1⟩ l1
 |none=>match cNum f l with
  | .error e=>.error e
  | .ok (n,l1)=>match pIs [45] l1 with
    |none=>.ok (⟨1,n,0,0⟩,l1)
    |some l2=>match cNum f l2 with
     | .error e=>.error e
     | .ok (m,l3)=>if m<n then .error (l2.length,4) else cBy ⟨2,n,m,1⟩ l3
def zty (f:Nat):Nat→List UInt8→PR (List It)
 |q,l=>match cItem f l with
  | .error e=>.error e
  | .ok (i,l1)=>match pIs [44] l1 with
    |none=>.ok ([i],l1)
    |some l2=>match q with
     |0=>.error (l1.length,5)
     |q+1=>match zty f q l2 with
      | .error e=>.error e
      | .ok (is,l3)=>.ok (i::is,l3)
termination_by q=>q
def zrR (l:List UInt8):PR Unit:=if l.takeWhile zbz=[] then .error (l.length,zvv l) else .ok ((),l.dropWhile zbz)
def zpn:Nat→Nat→List UInt8→PR (List (List It))
 |0,_,l=>.ok ([],l)
 |q+1,f,l=>match zty f 63 l with
  | .error e=>.error e
  | .ok (is,l1)=>if q=0 then .ok ([is],l1) else match zrR l1 with
    | .error e=>.error e
    | .ok (_,l2)=>match zpn q (f+1) l2 with
      | .error e=>.error e
      | .ok (r,l3)=>.ok (is::r,l3)
def zry {α:Type} (p:PR α) (l:List UInt8) (Q:α→Prop):Prop:=match p with
 | .ok (x,r)=>r<:+l∧Q x
 | .error (m,c)=>m≤l.length∧c≠0
section
variable {α : Type} {l l' : List UInt8} {Q R : α → Prop}
theorem zry.ok {x:α} {r:List UInt8} (h:r<:+l) (q:Q x):zry (.ok (x,r)) l Q:=⟨h,q⟩
theorem zry.err {m:Nat} {c:Int} (h:m≤l.length) (q:c≠0):zry (.error (m,c):PR α) l Q:=⟨h,q⟩
theorem zry.mono {p:PR α} (h:zry p l Q) (hl:l<:+l') (hq:∀x,Q x→R x):zry p l' R:=by
 unfold zry at *;split
 ·exact⟨h.1.trans hl,hq _ h.2⟩
 ·exact⟨waW h.1 hl.length_le,h.2⟩
theorem zry.error {p:PR α} {e:Nat×Int} (h:zry p l Q) (he:p=.error e):e.1≤l.length∧e.2≠0:=by
 subst he;exact h
end
theorem zrS {cs l r:List UInt8} (h:pIs cs l=some r):∃c,l=c::r∧cs.elem c=true:=by
 unfold pIs at h;split at h
 ·cases h
 ·split at h
  ·cases h;exact⟨_,rfl,by assumption⟩
  ·cases h
theorem zt9 (f:Nat) (hf:f<5):0≤cLo f∧cLo f≤cHi f∧cHi f≤9999:=by
 obtain rfl|rfl|rfl|rfl|rfl:f=0∨f=1∨f=2∨f=3∨f=4:=by omega
 all_goals decide
end Go.Proofs.YtadefhkaejjfmaaGreatDoor
