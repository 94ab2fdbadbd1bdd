/- A part of the proof: WLex5 RPlain WRead RGoes WBox -/
import Derived.Test.YtgedndlifiihkaaGreatDoorT00
import Derived.Deep.LoopGhost
set_option maxHeartbeats 80000000
set_option maxRecDepth 100000
set_option linter.unusedSimpArgs false
set_option linter.unusedVariables false
namespace Go.Proofs.YtgedndlifiihkaaGreatDoor
open Go.Proofs.Tryz
open Go.RowKit
def Rdr (w:World) (b:Nat) (s:ByteArray) (k:Nat) (bad e:Int):Prop:=
 w.heap[b]?=some (.cells #[.string s,.int .i64 k,.int .i64 bad,.int .i64 e] 168 (0,0))
section
variable {w w' : World} {b : Nat} {s : ByteArray} {k : Nat} {bad e : Int}
theorem Rdr.lt (h:Rdr w b s k bad e):b<w.heap.size:=(waL.1 h).1
theorem Rdr.cells (h:Rdr w b s k bad e):w.cell? ⟨b,0,none⟩=some (.string s)∧w.cell? ⟨b,1,none⟩=some (.int .i64 k)∧w.cell? ⟨b,2,none⟩=some (.int .i64 bad)∧w.cell? ⟨b,3,none⟩=some (.int .i64 e):=by
 unfold Rdr at h;simp[World.cell?,h]
theorem Rdr.free (h:Rdr w b s k bad e) (o:Nat):w.frozen? ⟨b,o,none⟩=false:=by
 unfold Rdr at h;simp[World.frozen?,h]
theorem Rdr.drewN (h:Rdr w b s k bad e) (q:Nat):Rdr (w.drewN q) b s k bad e:=h
theorem Rdr.kept (h:Rdr w b s k bad e) {B:Nat} (hb:Below B w w') (hB:b<B):Rdr w' b s k bad e:=(hb.block b hB).trans h
theorem ziV {w:World} {b o:Nat} {cs:Array Value} {t:TypeId} {v:Value} (h:w.heap[b]?=some (.cells cs t (0,0))):(w.setCell ⟨b,o,none⟩ v).heap[b]?=some (.cells (cs.setIfInBounds o v) t (0,0)):=by
 have hlt:=(waL.1 h).1;have h':w.heap[b]=.cells cs t (0,0):=(waL.1 h).2;show(w.heap.modify b _)[b]?=_;rw[wbI (by simpa using hlt),Array.getElem_modify_self,h']
 rfl
theorem Rdr.setAt (h:Rdr w b s k bad e) (k':Nat):Rdr (w.setCell ⟨b,1,none⟩ (.int .i64 k')) b s k' bad e:=ziV h
theorem Rdr.setBad (h:Rdr w b s k bad e) (x:Int):Rdr (w.setCell ⟨b,2,none⟩ (.int .i64 x)) b s k x e:=ziV h
theorem Rdr.setE (h:Rdr w b s k bad e) (x:Int):Rdr (w.setCell ⟨b,3,none⟩ (.int .i64 x)) b s k bad x:=ziV h
end
abbrev Chg (b:Nat) (w w':World):Prop:=w.grownBy w' (some b)
theorem Chg.refl (b:Nat) (w:World):Chg b w w:=⟨rfl,rfl,rfl,waJ _,fun _ _ _=>rfl⟩
theorem Chg.trans {b:Nat} {w w1 w2:World} (h:Chg b w w1) (g:Chg b w1 w2):Chg b w w2:=
 ⟨g.os.trans h.os,g.tape.trans h.tape,g.output.trans h.output,waW h.size g.size,fun k hk hn=>(g.block k (waD hk h.size) hn).trans (h.block k hk hn)⟩
theorem Chg.drewN {b:Nat} {w w1:World} (h:Chg b w w1) (q:Nat):Chg b w (w1.drewN q):=⟨h.os,h.tape,h.output,h.size,h.block⟩
theorem Chg.set {b:Nat} {w w1:World} (h:Chg b w w1) (o:Nat) (v:Value):Chg b w (w1.setCell ⟨b,o,none⟩ v):=
 h.trans ⟨rfl,rfl,rfl,by simp[World.setCell],fun k _ hn=>wbJ _ _ _ _ (fun e=>hn (by simp[e]))⟩
theorem Chg.alloc {b:Nat} {w w1:World} (h:Chg b w w1) (o:Obj):Chg b w (w1.alloc o):=h.trans (World.grownBy_alloc _ _ _)
theorem Chg.of_below {b:Nat} {w w1:World} (h:Below w.heap.size w w1):Chg b w w1:=⟨h.os,h.tape,h.output,h.size,fun k hk _=>h.block k hk⟩
theorem Chg.below {b B:Nat} {w w1 w2:World} (h:Below B w w1) (g:Chg b w1 w2) (hB:B≤b) (hs:B≤w1.heap.size):Below B w w2:=
 h.trans ⟨g.os,g.tape,g.output,g.size,fun k hk=>g.block k oQ (fun e=>by injection e;omega)⟩
def zc4 (s:ByteArray) (k:Nat) (e:Int):Bool:=decide (e≠0∨k=s.size)
theorem zpg {s:ByteArray} {k:Nat} {e:Int} (h:e≠0):zc4 s k e=true:=waP (.inl h)
theorem ziW (s:ByteArray) (k:Nat):zc4 s k 0=decide (k=s.size):=by simp[zc4]
theorem zgx {s:ByteArray} {k:Nat} {e:Int} (hk:k≤s.size) (h:zc4 s k e=false):e=0∧k<s.size:=by
 simp only[zc4,decide_eq_false_iff_not] at h;omega
theorem zfo (b:Nat) (s:ByteArray) (k:Nat) (bad e:Int) (w:World) (h:Rdr w b s k bad e):Calls prog 104 #[.pointer (some ⟨b,0,none⟩)] w (zoI (.bool (zc4 s k e)) w):=by
 obtain⟨c0,c1,c2,c3⟩:=h.cells;clear h
 by_cases he:e=0
 ·subst he;rw[ziW];have e1:decide (k=s.size)=((k:Int)==(s.size:Int)):=by rw[waQ];simp;omega
  rw[e1];generalize hq:((k:Int)==(s.size:Int))=q;go_enter func104,ntmps104;go_wp2
  go_quiet (fail)
  go_wp2;go_ret;exact⟨rfl,_,rfl⟩
 ·have he':(e !=0)=true:=by simpa using he
  rw[zpg he];clear he;go_enter func104,ntmps104;go_wp2
  go_quiet (fail)
  go_wp2;go_ret;exact⟨rfl,_,rfl⟩
theorem zph (b:Nat) (s:ByteArray) (k:Nat) (bad e:Int) (w:World) (h:Rdr w b s k bad e):Calls prog 56 #[.pointer (some ⟨b,0,none⟩)] w (zbO (.int .i64 k) w):=by
 obtain⟨c0,c1,c2,c3⟩:=h.cells;clear h;go_enter func56,ntmps56;go_wp2;go_ret;exact⟨rfl,rfl⟩
theorem zpi (b:Nat) (s:ByteArray) (k:Nat) (bad e:Int) (w:World) (h:Rdr w b s k bad e):Calls prog 61 #[.pointer (some ⟨b,0,none⟩)] w (zoI (.tuple #[.int .i64 bad,.int .i64 e]) w):=by
 obtain⟨c0,c1,c2,c3⟩:=h.cells;clear h;go_enter func61,ntmps61;go_wp2
 go_quiet (fail)
 go_wp2
 go_ret2
 exact⟨rfl,_,rfl⟩
def zt5 (v:Value) (b:Nat) (s:ByteArray) (k:Nat) (bad e:Int) (w:World) (x:Ending) (w':World):Prop:=x=.returned v∧Rdr w' b s k bad e∧Chg b w w'
def zcr (bad e p q:Int):Int:=if e=0∧q≠0 then p else bad
def zfV (e q:Int):Int:=if e=0 then q else e
theorem zgy (b:Nat) (s:ByteArray) (k:Nat) (bad e p q:Int) (w:World) (h:Rdr w b s k bad e):
 Calls prog 55 #[.pointer (some ⟨b,0,none⟩),.int .i64 p,.int .i64 q] w (zt5 (.tuple #[]) b s k (zcr bad e p q) (zfV e q) w):=by
 obtain⟨c0,c1,c2,c3⟩:=h.cells;have f2:=h.free 2;have f3:=h.free 3;have H:=waV h;clear h
 by_cases he:e=0
 ·subst he
  by_cases hq:q=0
  ·subst hq;have e1:zcr bad 0 p 0=bad:=by simp[zcr]
   have e2:zfV 0 0=0:=by simp[zfV]
   rw[e1,e2];clear e1 e2;go_enter func55,ntmps55;go_wp2
   go_end0
   exact⟨rfl,H.out,Chg.refl _ _⟩
  ·have hq':(q !=0)=true:=by simpa using hq
   have e1:zcr bad 0 p q=p:=by simp[zcr,hq]
   have e2:zfV 0 q=q:=by simp[zfV]
   rw[e1,e2];clear hq e1 e2;go_enter func55,ntmps55;go_wp2
   go_end0
   exact⟨rfl,(H.out.setBad p).setE q,((Chg.refl _ _).set _ _).set _ _⟩
 ·have he':(e==0)=false:=by simpa using he
  have e1:zcr bad e p q=bad:=by simp[zcr,he]
  have e2:zfV e q=e:=by simp[zfV,he]
  rw[e1,e2];clear he e1 e2;go_enter func55,ntmps55;go_wp2
  go_end0
  exact⟨rfl,H.out,Chg.refl _ _⟩
theorem zpj (b:Nat) (s:ByteArray) (k:Nat) (bad e:Int) (w:World) (h:Rdr w b s k bad e) (hd:zc4 s k e=true):Calls prog 54 #[.pointer (some ⟨b,0,none⟩)] w (zoI (.int .u8 0) w):=by
 have HD:=waV (zfo b s k bad e w h);rw[hd] at HD;clear h hd;go_enter func54,ntmps54;go_wp2_with fail;refine HD.out.mono ?_;rintro e w1 ⟨rfl,q,rfl⟩;go_wp2;go_ret;exact⟨rfl,_,rfl⟩
theorem zpk (b:Nat) (s:ByteArray) (k:Nat) (bad:Int) (w:World) (h:Rdr w b s k bad 0) (hk:k<s.size):Calls prog 54 #[.pointer (some ⟨b,0,none⟩)] w (zoI (.int .u8 (s[k].toNat:Int)) w):=by
 have HD:=waV (zfo b s k bad 0 w h);rw[ziW,waO (by omega)] at HD
 obtain⟨c0,c1,c2,c3⟩:=h.cells;have hk':(k:Int)<(s.size:Int):=by omega
 clear h;go_enter func54,ntmps54;go_wp2_with fail;refine HD.out.mono ?_;rintro e w1 ⟨rfl,q,rfl⟩;go_wp2
 go_quiet (fail)
 go_wp2;go_ret;exact⟨rfl,_,World.drewN_drewN ..⟩
def zlg (c:UInt8):List Value:=[.int .u8 (c.toNat:Int)]
abbrev zdK (w:World) (A:Option Addr) (n:Nat) (l:List UInt8):Prop:=Rd 1 zlg w A n l
theorem zdK.at_ {w:World} {A:Option Addr} {n:Nat} {l:List UInt8} (h:zdK w A n l) {i:Nat} (hi:i<n):
 ∃b o x,A=some ⟨b,o,none⟩∧b<w.heap.size∧l[i]?=some x∧w.cell? ⟨b,o+i,none⟩=some (.int .u8 (x.toNat:Int)):=ztk (f:=fun(x:UInt8)=>.int .u8 (x.toNat:Int)) h hi
theorem zpl {P:Program} {f:FuncId} {args:Array Value} {w:World} {n:Nat} {v:Value} (h:Calls P f args (w.drewN n) (zoI v (w.drewN n))):Calls P f args (w.drewN n) fun e w''=>e=.returned v∧∃m,w''=w.drewN m:=
 h.mono fun _ _ ⟨he,m,hm⟩=>⟨he,n+m,by rw[hm,World.drewN_drewN]⟩
theorem zml {P:Program} {f:FuncId} {args:Array Value} {w:World} {n:Nat} {v:Value} (h:Calls P f args (w.drewN n) (zbO v (w.drewN n))):Calls P f args (w.drewN n) fun e w''=>e=.returned v∧∃m,w''=w.drewN m:=
 h.mono fun _ _ ⟨he,hm⟩=>⟨he,n,hm.symm⟩
def ztv (c:UInt8) (l:List UInt8):Int:=match l.idxOf? c with|some i=>i|none=>-1
theorem zrz {c:UInt8} {l:List UInt8} {k:Nat} {x:UInt8} (H:∀j it,j<k→l[j]?=some it→decide (c=it)=false) (hx:l[k]?=some x) (h:c=x):ztv c l=k:=by
 subst h;have:l.idxOf? c=some k:=by
  rw[List.idxOf?_eq_some_iff];have hk:=waI.1 hx;refine⟨hk.1,by simp[hk.2],fun j hj=>?_⟩
  have:=H j _ hj (waE (Nat.lt_trans hj hk.1));simp only[decide_eq_false_iff_not] at this;simpa using fun e=>this e.symm
 simp[ztv,this]
theorem zpm {c:UInt8} {l:List UInt8} (H:∀j it,j<l.length→l[j]?=some it→decide (c=it)=false):ztv c l=-1:=by
 have:l.idxOf? c=none:=by
  rw[List.idxOf?_eq_none_iff];intro hx;obtain⟨j,hj⟩:=List.getElem?_of_mem hx;have:=H j c (waI.1 hj).1 hj;simp at this
 simp[ztv,this]
theorem zpn (c:UInt8) (l:List UInt8):decide (0≤ztv c l)=l.elem c:=by
 unfold ztv;cases h:l.idxOf? c with
 |none=>
  rw[List.idxOf?_eq_none_iff] at h;simp[h]
 |some i=>
  have:c∈l:=by
   rcases Decidable.em (c∈l) with h1|h1
   ·exact h1
   ·rw[List.idxOf?_eq_none_iff.2 h1] at h;cases h
  simp[this]
theorem zvD (a b:UInt8):(((a.toNat:Nat):Int)==((b.toNat:Nat):Int))=decide (a=b):=by
 rw[waQ];simp only[beq_iff_eq,waM];exact⟨fun h=>UInt8.toNat_inj.1 (by omega),fun h=>by rw[h]⟩
theorem znx (A:Option Addr) (n c:Nat) (l:List UInt8) (x:UInt8) (w:World) (hA:zdK w A n l) (hn:n≤9223372036854775807):
 Calls prog 205 #[.slice A n c,.int .u8 (x.toNat:Int)] w (zbO (.int .i64 (ztv x l)) w):=by
 have HL:Hid (l.length=n):=hA.1;go_enter func205,ntmps205;go_wp2
 go_loop [8] (fun i=>∃k:Nat,k≤n∧i=.int .i64 k∧Hid (∀j it,j<k→l[j]?=some it→decide (x=it)=false)) (fun i=>n - (intOf i).toNat)
 case atStart=>exact⟨0,waK _,rfl,fun j _ h=>absurd h (Nat.not_lt_zero _)⟩
 case round=>
  obtain⟨k,hk,rfl,H⟩:=hrel
  by_cases hlt:k<n
  ·obtain⟨b,o,y,rfl,_,hx,c0⟩:=zdK.at_ hA hlt
   have hlt':(k:Int)<(n:Int):=by omega
   have Hx:=waV hx;clear hx
   by_cases he:x=y
   ·have He:=waV he;have hb:(((x.toNat:Nat):Int)==((y.toNat:Nat):Int))=true:=by rw[zvD];simpa using he
    clear he;go_wp2;go_ret;exact⟨zaR (zrz H.out Hx.out He.out).symm,rfl⟩
   ·have He:Hid (decide (x=y)=false):=waO he;have hb:(((x.toNat:Nat):Int)==((y.toNat:Nat):Int))=false:=by rw[zvD];exact waO he
    clear he;go_wp2
    go_round
    case rel=>exact⟨k+1,by omega,by go_num,zmc (p:=fun it=>decide (x=it)) H.out Hx.out He.out⟩
    case measure=>simp [intOf];omega
  ·obtain rfl:k=n:=by omega
   go_wp2;go_ret;exact⟨zaR (zpm (HL.out▸H.out)).symm,rfl⟩
theorem ziX (A:Option Addr) (n c:Nat) (l:List UInt8) (x:UInt8) (w:World) (hA:zdK w A n l) (hn:n≤9223372036854775807):
 Calls prog 159 #[.slice A n c,.int .u8 (x.toNat:Int)] w (zbO (.bool (l.elem x)) w):=by
 have HC:=waV (znx A n c l x w hA hn);rw[←zpn];generalize ztv x l=q at HC ⊢;clear hA;go_enter func159,ntmps159
 go_wp2_with (go_at_call 205;refine HC.out.mono ?_;rintro e w1 ⟨rfl,rfl⟩)
 go_ret;exact⟨rfl,rfl⟩
def isB (s:ByteArray) (k:Nat) (e:Int) (cs:List UInt8):Bool:=if h:e=0∧k<s.size then cs.elem (s[k]'h.2) else false
theorem zmm {s:ByteArray} {k:Nat} {e:Int} {cs:List UInt8} (h:zc4 s k e=true):isB s k e cs=false:=by
 simp only[zc4,waM] at h;exact dif_neg oQ
theorem zpo {s:ByteArray} {k:Nat} {cs:List UInt8} (h:k<s.size):isB s k 0 cs=cs.elem s[k]:=dif_pos ⟨rfl,h⟩
def isK (s:ByteArray) (k:Nat) (e:Int) (cs:List UInt8):Nat:=if isB s k e cs then k+1 else k
theorem ztw (b:Nat) (s:ByteArray) (k:Nat) (bad e:Int) (A:Option Addr) (n c:Nat) (cs:List UInt8) (w:World) (h:Rdr w b s k bad e) (hs:s.size≤9223372036854775807) (hk:k≤s.size) (hA:zdK w A n cs) (hn:n≤9223372036854775807):
 Calls prog 105 #[.pointer (some ⟨b,0,none⟩),.slice A n c] w (zt5 (.bool (isB s k e cs)) b s (isK s k e cs) bad e w):=by
 have HD:=waV (fun q=>zfo b s k bad e (w.drewN q) h)
 have H:=waV h;cases hd:zc4 s k e with
 |true=>
  rw[hd] at HD;have e1:=zmm (cs:=cs) hd;rw[isK,e1];clear e1 hd h hA;go_enter func105,ntmps105;go_wp2
  go_quiet ((go_at_call 104;exact zpl (HD.out _)))
  go_wp2;go_ret;exact⟨rfl,H.out.drewN _,(Chg.refl _ _).drewN _⟩
 |false=>
  rw[hd] at HD;obtain⟨rfl,hlt⟩:=zgx hk hd;have hlt':(k:Int)<(s.size:Int):=by omega
  have HC:=waV (fun q=>ziX A n c cs s[k] (w.drewN q) hA hn)
  have e1:=zpo (cs:=cs) hlt;rw[isK,e1];obtain⟨c0,c1,c2,c3⟩:=h.cells;have f1:=h.free 1;clear e1 hd h hA hk;cases hq:cs.elem s[k] with
  |false=>
   rw[hq] at HC;clear hq;go_enter func105,ntmps105;go_wp2
   go_quiet ((first|(go_at_call 104;exact zpl (HD.out _))|(go_at_call 159;exact zml (HC.out _))))
   go_wp2;go_ret;exact⟨rfl,H.out.drewN _,(Chg.refl _ _).drewN _⟩
  |true=>
   rw[hq] at HC;clear hq;go_enter func105,ntmps105;go_wp2
   go_quiet ((first|(go_at_call 104;exact zpl (HD.out _))|(go_at_call 159;exact zml (HC.out _))))
   go_wp2;go_ret;exact⟨rfl,(H.out.drewN _).setAt _,((Chg.refl _ _).drewN _).set _ _⟩
def zt6 (g:Nat) (p:UInt8→Bool):Prop:=∀(W:World) (x:UInt8),Calls prog g #[.int .u8 (x.toNat:Int)] W (zbO (.bool (p x)) W)
def zbS (c:UInt8):Bool:=decide (c=32∨c=9)
def zaN (c:UInt8):Bool:=decide (48≤c.toNat∧c.toNat≤57)
theorem ztx (a:UInt8) (b:Nat) (hb:b<256):(a.toNat=b)↔a=UInt8.ofNat b:=by
 constructor
 ·intro h;apply UInt8.toNat_inj.1;rw[h];simp;omega
 ·rintro rfl;simp;omega
theorem zny:zt6 103 zbS:=by
 intro W x;have e:zbS x=decide ((x.toNat:Int)=32∨(x.toNat:Int)=9):=by
  unfold zbS;rw[waQ];simp only[waM];have h1:=ztx x 32 oQ;have h2:=ztx x 9 oQ;constructor
  ·rintro (h|h)
   ·left;have:=h1.2 h;omega
   ·right;have:=h2.2 h;omega
  ·rintro (h|h)
   ·left;exact h1.1 oQ
   ·right;exact h2.1 oQ
 rw[e];generalize (x.toNat:Int)=c;clear e
 by_cases h1:c=32
 ·subst h1;go_enter func103,ntmps103;go_wp2;go_ret;exact⟨rfl,rfl⟩
 ·have h1':(c==32)=false:=by simpa using h1
  have e2:decide (c=32∨c=9)=(c==9):=by rw[waQ];simp[h1]
  rw[e2];generalize hq:(c==9)=q;clear h1 e2;go_enter func103,ntmps103;go_wp2;go_ret;exact⟨rfl,rfl⟩
theorem znz:zt6 206 zaN:=by
 intro W x;have e:zaN x=decide (48≤(x.toNat:Int)∧(x.toNat:Int)≤57):=by
  unfold zaN;rw[waQ];simp only[waM];omega
 rw[e];generalize hc:(x.toNat:Int)=c;clear e hc
 by_cases h1:48≤c
 ·have e2:decide (48≤c∧c≤57)=decide (c≤57):=by rw[waQ];simp[h1]
  rw[e2];clear e2;go_enter func206,ntmps206;go_wp2;go_ret;exact⟨rfl,rfl⟩
 ·have e2:decide (48≤c∧c≤57)=false:=by simp[h1]
  rw[e2];clear e2;go_enter func206,ntmps206;go_wp2;go_ret;exact⟨rfl,rfl⟩
def zgh (p:UInt8→Bool) (s:ByteArray) (k:Nat):Nat:=((s.data.toList.drop k).takeWhile p).length
def zbB (p:UInt8→Bool) (s:ByteArray) (k:Nat) (e:Int):Nat:=if zc4 s k e then k else k+zgh p s k
theorem zrA {p:UInt8→Bool} {l:List UInt8} {j:Nat} (H:∀i x,i<j→l[i]?=some x→p x=true) (hj:j≤l.length) (h:∀x,l[j]?=some x→p x=false):(l.takeWhile p).length=j:=by
 induction l generalizing j with
 |nil=>simp at hj ⊢;omega
 |cons a l ih=>
  cases j with
  |zero=>
   have:=h a rfl;simp[List.takeWhile_cons,this]
  |succ j=>
   have h0:=H 0 a oQ rfl;rw[List.takeWhile_cons,h0];simp only[if_true,waG];rw[ih (j:=j) (fun i x hi hx=>H (i+1) x (by omega) (by simpa using hx)) (by simpa using hj) (fun x hx=>h x (by simpa using hx))]
theorem zgX {p:UInt8→Bool} {s:ByteArray} {k j:Nat} (hkj:k≤j) (hj:j≤s.size) (H:∀i x,k≤i→i<j→s.data.toList[i]?=some x→p x=true) (h:∀x,s.data.toList[j]?=some x→p x=false):zgh p s k=j - k:=by
 unfold zgh;apply zrA
 ·intro i x hi hx;rw[List.getElem?_drop] at hx;exact H (k+i) x oQ oQ hx
 ·simp;have:s.data.size=s.size:=rfl;omega
 ·intro x hx;rw[List.getElem?_drop] at hx;exact h x (by rw[show j=k+(j - k) from by omega];exact hx)
theorem zlh (s:ByteArray) (k:Nat) (h:k<s.size):s.data.toList[k]?=some s[k]:=by
 rw[waE (by simpa using h)]
 rfl
theorem zgi (s:ByteArray) (k:Nat):s.extract k k=⟨#[]⟩:=by
 apply ByteArray.ext;simp
theorem zmn (b:Nat) (s:ByteArray) (k:Nat) (bad e:Int) (g:Nat) (p:UInt8→Bool) (w:World) (h:Rdr w b s k bad e) (hs:s.size≤9223372036854775807) (hk:k≤s.size)
 (eg:∀args w,(callFunc g args).run prog w=.ok (.enter g args) w) (hp:zt6 g p):
 Calls prog 102 #[.pointer (some ⟨b,0,none⟩),.func (.func g) #[] #[]] w (zt5 (.string (s.extract k (zbB p s k e))) b s (zbB p s k e) bad e w):=by
 have HD:=waV (zfo b s k bad e w h);have H:=waV h;cases hd:zc4 s k e with
 |true=>
  rw[hd] at HD;rw[zbB,hd,if_pos rfl,zgi];clear hd h hp eg;go_enter func102,ntmps102;go_wp2_with fail;refine HD.out.mono ?_;rintro e w1 ⟨rfl,q,rfl⟩;go_wp2;go_ret;exact⟨rfl,H.out.drewN _,(Chg.refl _ _).drewN _⟩
 |false=>
  rw[hd] at HD;obtain⟨rfl,hlt⟩:=zgx hk hd;rw[zbB,hd,if_neg (by decide)]
  obtain⟨c0,c1,c2,c3⟩:=h.cells;have HP:=waV hp;clear hd h hk hp;generalize hr:k+zgh p s k=r;have HR:=waV hr;clear hr;go_enter func102,ntmps102;go_wp2_with fail;refine HD.out.mono ?_;rintro e w1 ⟨rfl,q,rfl⟩;go_wp2
  go_loopg [] (s.size - k) (fun gg wr=>∃j:Nat,k≤j∧j≤s.size∧gg=s.size - j∧Hid (∀i x,k≤i→i<j→s.data.toList[i]?=some x→p x=true)∧Hid (Rdr wr b s j bad 0)∧Hid (Chg b w wr))
  case atStart=>exact⟨k,waJ _,by omega,rfl,fun i x h1 h2=>by omega,H.out.drewN _,(Chg.refl _ _).drewN _⟩
  case round=>
   obtain⟨j,hkj,hj,hgj,HI,HJ,HC⟩:=hrel;obtain⟨d0,d1,d2,d3⟩:=HJ.out.cells;have f1:=HJ.out.free 1
   by_cases hlj:j<s.size
   ·have hlj':(j:Int)<(s.size:Int):=by omega
    have HQ:=waV (fun W=>HP.out W s[j])
    cases hq:p s[j] with
    |true=>
     have Hq:Hid (p s[j]=true):=hq;rw[hq] at HQ;clear hq;go_wp2
     go_quiet ((go_at_fn g;exact zml (HQ.out _)))
     go_wp2
     go_roundg (s.size - (j+1))
     case measure=>omega
     case rel=>
      exact⟨j+1,by omega,by omega,rfl,(fun i x h1 h2 hx=>by
       rcases Nat.lt_or_ge i j with h3|h3
       ·exact HI.out i x h1 h3 hx
       ·obtain rfl:i=j:=by omega
        rw[zlh s i hlj] at hx;cases hx;exact Hq.out),(HJ.out.drewN _).setAt _,(HC.out.drewN _).set _ _⟩
    |false=>
     have Hr:Hid (r=j):=by
      show r=j;rw[←HR.out,zgX hkj hj HI.out (fun x hx=>by rw[zlh s j hlj] at hx;cases hx;exact hq)]
      omega
     rw[hq] at HQ;clear hq;go_wp2
     go_quiet ((go_at_fn g;exact zml (HQ.out _)))
     go_wp2
     go_quiet (fail)
     go_wp2;go_ret;refine⟨?_,?_,?_⟩
     ·rw[Hr.out];rfl
     ·rw[Hr.out];exact HJ.out
     ·exact(HC.out.drewN _).drewN _
   ·obtain rfl:j=s.size:=by omega
    have Hr:Hid (r=s.size):=by
     show r=s.size;rw[←HR.out,zgX hkj (waJ _) HI.out (fun x hx=>by
      have:=(waI.1 hx).1;rw[Array.length_toList] at this;have e:s.data.size=s.size:=rfl;omega)]
     omega
    go_wp2
    go_quiet (fail)
    go_wp2
    go_quiet (fail)
    go_wp2;go_ret;refine⟨?_,?_,?_⟩
    ·rw[Hr.out];rfl
    ·rw[Hr.out];exact HJ.out
    ·exact(HC.out.drewN _).drewN _
def znA (s:ByteArray) (k:Nat):Int:=if k=s.size then 2 else 3
theorem zpp (b:Nat) (s:ByteArray) (k:Nat) (bad e:Int) (w:World) (h:Rdr w b s k bad e):
 Calls prog 166 #[.pointer (some ⟨b,0,none⟩)] w (zt5 (.tuple #[]) b s k (zcr bad e k (znA s k)) (zfV e (znA s k)) w):=by
 obtain⟨c0,c1,c2,c3⟩:=h.cells;have HF:=waV (fun W q (h:Rdr W b s k bad e)=>zgy b s k bad e k q W h)
 have H:=waV h;clear h
 by_cases he:k=s.size
 ·have he':((k:Int)==(s.size:Int))=true:=by simp;omega
  have e1:znA s k=2:=if_pos he;rw[e1];clear he e1;go_enter func166,ntmps166;go_wp2
  go_quiet (fail)
  go_wp2_with fail;refine(HF.out _ _ (H.out.drewN _)).mono ?_;rintro x w1 ⟨rfl,h1,g1⟩;go_wp2
  first|go_end0|(refine waY (results_none rfl _ _ _) rfl ?_)
  exact⟨rfl,h1,((Chg.refl _ _).drewN _).trans g1⟩
 ·have he':((k:Int)==(s.size:Int))=false:=by simp;omega
  have e1:znA s k=3:=if_neg he;rw[e1];clear he e1;go_enter func166,ntmps166;go_wp2
  go_quiet (fail)
  go_wp2_with fail;refine(HF.out _ _ (H.out.drewN _)).mono ?_;rintro x w1 ⟨rfl,h1,g1⟩;go_wp2
  first|go_end0|(refine waY (results_none rfl _ _ _) rfl ?_)
  exact⟨rfl,h1,((Chg.refl _ _).drewN _).trans g1⟩
def zrB (s:ByteArray) (k:Nat) (e:Int):Int:=if h:e=0∧k<s.size then((s[k]'h.2).toNat:Int) else 0
theorem zh9 {s:ByteArray} {k:Nat} {e:Int} (h:zc4 s k e=true):zrB s k e=0:=by
 simp only[zc4,waM] at h;exact dif_neg oQ
theorem zmo {s:ByteArray} {k:Nat} (h:k<s.size):zrB s k 0=(s[k].toNat:Int):=dif_pos ⟨rfl,h⟩
theorem zrC (b:Nat) (s:ByteArray) (k:Nat) (bad e:Int) (w:World) (h:Rdr w b s k bad e) (hk:k≤s.size):Calls prog 54 #[.pointer (some ⟨b,0,none⟩)] w (zoI (.int .u8 (zrB s k e)) w):=by
 cases hd:zc4 s k e with
 |true=>rw [zh9 hd];exact zpj b s k bad e w h hd
 |false=>
  obtain⟨rfl,hlt⟩:=zgx hk hd;rw[zmo hlt];exact zpk b s k bad w h hlt
theorem znB (b:Nat) (s:ByteArray) (k:Nat) (bad e:Int) (w:World) (h:Rdr w b s k bad e) (hs:s.size≤9223372036854775807) (hk:k≤s.size):
 Calls prog 53 #[.pointer (some ⟨b,0,none⟩)] w (zt5 (.int .i64 ((s.extract k (zbB zbS s k e)).size:Nat)) b s (zbB zbS s k e) bad e w):=by
 have HS:=waV (zmn b s k bad e 103 zbS w h hs hk (enters_of func103 kQ rfl) zny);generalize zbB zbS s k e=j at HS ⊢;clear h;go_enter func53,ntmps53;go_wp2_with fail;refine HS.out.mono ?_;rintro x w1 ⟨rfl,h1,g1⟩;generalize ht:s.extract k j=t;have HT:=waV ht;clear ht;go_wp2;go_ret;exact⟨by rw[HT.out];rfl,h1,g1⟩
theorem zt7 (b:Nat) (s:ByteArray) (k:Nat) (bad e:Int) (w:World) (h:Rdr w b s k bad e) (hk:k≤s.size):
 Calls prog 60 #[.pointer (some ⟨b,0,none⟩)] w (zt5 (.tuple #[]) b s k (if zc4 s k e then bad else k) (if zc4 s k e then e else 3) w):=by
 have HD:=waV (zfo b s k bad e w h);have H:=waV h;cases hd:zc4 s k e with
 |true=>
  rw[hd] at HD;simp only[if_true];clear hd h;go_enter func60,ntmps60;go_wp2_with fail;refine HD.out.mono ?_;rintro x w1 ⟨rfl,q,rfl⟩;go_wp2
  first|go_end0|(refine waY (results_none rfl _ _ _) rfl ?_)
  exact⟨rfl,H.out.drewN _,(Chg.refl _ _).drewN _⟩
 |false=>
  rw[hd] at HD;obtain⟨rfl,hlt⟩:=zgx hk hd;simp only[Bool.false_eq_true,if_false];have HF:=waV (fun q=>zgy b s k bad 0 k 3 (w.drewN q) (h.drewN q))
  rw[show zcr bad 0 k 3=k from by simp[zcr],show zfV 0 3=3 from by simp[zfV]] at HF
  obtain⟨c0,c1,c2,c3⟩:=h.cells;clear hd h;go_enter func60,ntmps60;go_wp2_with fail;refine HD.out.mono ?_;rintro x w1 ⟨rfl,q,rfl⟩;go_wp2_with fail;refine(HF.out _).mono ?_;rintro x w1 ⟨rfl,h1,g1⟩;go_wp2
  first|go_end0|(refine waY (results_none rfl _ _ _) rfl ?_)
  exact⟨rfl,h1,((Chg.refl _ _).drewN _).trans g1⟩
def zvE (s:ByteArray) (bad e:Int) (w:World) (x:Ending) (w':World):Prop:=∃b,w.heap.size≤b∧x=.returned (.pointer (some ⟨b,0,none⟩))∧Rdr w' b s 0 bad e∧Below w.heap.size w w'
def zmp (s:ByteArray):Int:=if 8192<s.size then 8192 else 0
def newE (s:ByteArray):Int:=if 8192<s.size then 5 else 0
theorem zt8 (s:ByteArray) (w:World) (hs:s.size≤9223372036854775807):Calls prog 52 #[.string s] w (zvE s (zmp s) (newE s) w):=by
 have HF:=waV (fun W b h=>zgy b s 0 0 0 8192 5 W h)
 rw[show zcr 0 0 8192 5=8192 from by simp[zcr],show zfV 0 5=5 from by simp[zfV]] at HF
 by_cases hl:8192<s.size
 ·have hl':(8192:Int)<(s.size:Int):=by omega
  rw[zmp,newE,if_pos hl,if_pos hl];clear hl;go_enter func52,ntmps52;go_wp2_with fail;refine(HF.out _ _ (heap_alloc_new w _)).mono ?_;rintro x w1 ⟨rfl,h1,g1⟩;go_wp2;go_ret;exact⟨w.heap.size,waJ _,rfl,h1,Chg.below ((waC _ w).alloc (waJ _) _) g1 (waJ _) (by simp)⟩
 ·have hl':¬(8192:Int)<(s.size:Int):=by omega
  rw[zmp,newE,if_neg hl,if_neg hl];clear hl;go_enter func52,ntmps52;go_wp2;go_ret;exact⟨w.heap.size,waJ _,rfl,heap_alloc_new w _,(waC _ w).alloc (waJ _) _⟩
def zfp (l:List UInt8):Int:=l.foldl (fun n c=>10 * n+((c.toNat:Int) - 48)) 0
theorem znC (l:List UInt8) (c:UInt8):zfp (l++[c])=10 * zfp l+((c.toNat:Int) - 48):=by simp[zfp,List.foldl_append]
theorem zrD (l:List UInt8) (h:∀c∈l,zaN c=true) (a:Int) (ha:0≤a):
 0≤l.foldl (fun n (c:UInt8)=>10 * n+((c.toNat:Int) - 48)) a∧l.foldl (fun n (c:UInt8)=>10 * n+((c.toNat:Int) - 48)) a<(a+1) * 10^l.length:=by
 induction l generalizing a with
 |nil=>simp;omega
 |cons c l ih=>
  have h2:=h c (by simp)
  simp only[zaN,waM] at h2;have h3:=ih (fun c hc=>h c (List.mem_cons_of_mem _ hc)) (10 * a+((c.toNat:Int) - 48)) oQ
  rw[List.foldl_cons,waG,Int.pow_succ];refine⟨h3.1,Int.lt_of_lt_of_le h3.2 ?_⟩;have h4:(0:Int)≤10^l.length:=Int.pow_nonneg dQ;generalize (10:Int)^l.length=q at h4 ⊢
  calc (10 * a+((c.toNat:Int) - 48)+1) * q≤((a+1) * 10) * q:=Int.mul_le_mul_of_nonneg_right oQ h4
   _=(a+1) * (q * 10):=by rw[Int.mul_assoc,Int.mul_comm 10 q]
theorem zrE (l:List UInt8) (h:∀c∈l,zaN c=true):0≤zfp l∧zfp l<10^l.length:=by
 have:=zrD l h 0 dQ;simpa[zfp] using this
theorem zrF {k:Nat} (h:k≤17):(10:Int)^k≤100000000000000000:=by
 have:k=0∨k=1∨k=2∨k=3∨k=4∨k=5∨k=6∨k=7∨k=8∨k=9∨k=10∨k=11∨k=12∨k=13∨k=14∨k=15∨k=16∨k=17:=by omega
 rcases this with rfl|rfl|rfl|rfl|rfl|rfl|rfl|rfl|rfl|rfl|rfl|rfl|rfl|rfl|rfl|rfl|rfl|rfl<;>decide
theorem zt9 {p:UInt8→Bool} (l:List UInt8):∀x∈l.takeWhile p,p x=true:=by
 induction l with
 |nil=>simp
 |cons a l ih=>
  intro x hx;rw[List.takeWhile_cons] at hx;split at hx
  ·simp only[List.mem_cons] at hx;rcases hx with rfl|hx
   ·assumption
   ·exact ih x hx
  ·simp at hx
theorem ziY (p:UInt8→Bool) (s:ByteArray) (k:Nat) (e:Int) (hk:k≤s.size):k≤zbB p s k e∧zbB p s k e≤s.size:=by
 unfold zbB;split
 ·exact⟨waJ _,hk⟩
 ·refine⟨Nat.le_add_right _ _,?_⟩;have h1:((s.data.toList.drop k).takeWhile p).length≤(s.data.toList.drop k).length:=(List.takeWhile_prefix p).length_le;rw[List.length_drop] at h1;have e0:s.data.toList.length=s.data.size:=Array.length_toList;have e:s.data.size=s.size:=rfl;have e2:zgh p s k=((s.data.toList.drop k).takeWhile p).length:=rfl;omega
def zvm (p:UInt8→Bool) (s:ByteArray) (k:Nat) (e:Int):List UInt8:=(s.data.toList.drop k).take (zbB p s k e - k)
theorem zrG (p:UInt8→Bool) (s:ByteArray) (k:Nat) (e:Int):∀x∈zvm p s k e,p x=true:=by
 unfold zvm zbB;split
 ·simp
 ·rw[show k+zgh p s k - k=zgh p s k from by omega]
  unfold zgh;rw[show (s.data.toList.drop k).take ((s.data.toList.drop k).takeWhile p).length=(s.data.toList.drop k).takeWhile p from(List.prefix_iff_eq_take.1 (List.takeWhile_prefix p)).symm]
  exact zt9 _
theorem zea (s:ByteArray) (k j:Nat):(s.extract k j).data.toList=(s.data.toList.drop k).take (j - k):=by
 rw[ByteArray.data_extract,Array.toList_extract,List.extract_eq_take_drop]
def zrj (s:ByteArray) (k:Nat) (e most:Int):Bool:=decide (zbB zaN s k e≠k∧((zbB zaN s k e - k:Nat):Int)≤most∧most≤18)
def zmq (s:ByteArray) (k:Nat) (e:Int):Int:=if zbB zaN s k e=k then znA s k else 4
theorem znD (t:ByteArray) (w:World):∃cap C,(convert 9 242 (.string t)).run prog w=.ok (.slice (some ⟨w.heap.size,0,none⟩) t.size cap) (w.drew.alloc (.cells C 5 (C.size,C.size+1)))∧
 ∀(i:Nat) (x:UInt8),t.data.toList[i]?=some x→C[i]?=some (Value.int .u8 (x.toNat:Int)):=by
 refine⟨_,_,run_bytes_of_string w 9 242 5 t underlying9 underlying242 underlying5,?_⟩;intro i x hx;have hi:=(waI.1 hx).1;rw[Array.length_toList] at hi;rw[bytesRow,Array.getElem?_append_left (by simpa using hi),Array.getElem?_map]
 simp only[Array.getElem?_toList] at hx;rw[hx];rfl
theorem znE (b:Nat) (s:ByteArray) (k:Nat) (bad e most:Int) (w:World) (h:Rdr w b s k bad e) (hs:s.size≤9223372036854775807) (hk:k≤s.size):
 Calls prog 160 #[.pointer (some ⟨b,0,none⟩),.int .i64 most] w
  (zt5 (.tuple #[.int .i64 (if zrj s k e most then zfp (zvm zaN s k e) else 0),.bool (zrj s k e most)]) b s (if zrj s k e most then zbB zaN s k e else k)
    (if zrj s k e most then bad else zcr bad e k (zmq s k e)) (if zrj s k e most then e else zfV e (zmq s k e)) w):=by
 have HA:=waV (zph b s k bad e w h);have HS:=waV (zmn b s k bad e 206 zaN w h hs hk (enters_of func206 kQ rfl) znz);have hj:=ziY zaN s k e hk;have HL:=waV (fun W (h:Rdr W b s k bad e)=>zpp b s k bad e W h)
 have HF:=waV (fun W (h:Rdr W b s k bad e)=>zgy b s k bad e k 4 W h)
 clear h
 by_cases h0:zbB zaN s k e=k
 ·have e1:zrj s k e most=false:=by simp[zrj,h0]
  have e2:zmq s k e=znA s k:=if_pos h0;rw[e1,e2];simp only[Bool.false_eq_true,if_false];rw[h0,zgi] at HS;clear h0 e1 e2 hj;go_enter func160,ntmps160;go_wp2_with fail;refine HA.out.mono ?_;rintro x w1 ⟨rfl,rfl⟩;go_wp2_with fail;refine HS.out.mono ?_;rintro x w1 ⟨rfl,h1,g1⟩;go_wp2_with fail;refine(HL.out _ h1).mono ?_;rintro x w2 ⟨rfl,h2,g2⟩;go_wp2
  go_ret2
  exact⟨rfl,h2,g1.trans g2⟩
 have hlen:(s.extract k (zbB zaN s k e)).size=zbB zaN s k e - k:=by simp;omega
 have ht0:(s.extract k (zbB zaN s k e)).toList.isEmpty=false:=by
  rw[ByteArray.toList_eq];cases hq:(s.extract k (zbB zaN s k e)).data.toList with
  |nil=>
   have:(s.extract k (zbB zaN s k e)).data.size=0:=by rw[←Array.length_toList,hq];rfl
   have e3:(s.extract k (zbB zaN s k e)).data.size=(s.extract k (zbB zaN s k e)).size:=rfl;omega
  |cons a l=>rfl
 have hrl:(s.extract k (zbB zaN s k e)).data.toList=zvm zaN s k e:=zea _ _ _;have hall:=zrG zaN s k e;have hjp:k<zbB zaN s k e:=by omega
 by_cases hm:((zbB zaN s k e - k:Nat):Int)≤most∧most≤18
 ·have e1:zrj s k e most=true:=waP ⟨h0,hm⟩;rw[e1];simp only[if_true];clear e1 h0 HL HF;generalize zbB zaN s k e=j at *;generalize ht:s.extract k j=t at *;generalize zvm zaN s k e=L at *;have hm1:¬most<(t.size:Int):=by omega
  have hm2:¬18<most:=by omega
  have hsz18:t.size≤18:=by omega
  have HRL:=waV hrl;have HAll:=waV hall;clear ht hrl hall hlen hm hj;go_enter func160,ntmps160;go_wp2_with fail;refine HA.out.mono ?_;rintro x w1 ⟨rfl,rfl⟩;go_wp2_with fail;refine HS.out.mono ?_;rintro x w1 ⟨rfl,h1,g1⟩;obtain⟨cap,C,hconv,hC⟩:=znD t w1;have HC:=waV hC;have H1:=waV h1;clear hC h1;have hcell:∀(i:Nat) (x:UInt8),t.data.toList[i]?=some x→(w1.alloc (.cells C 5 (C.size,C.size+1))).cell? ⟨w1.heap.size,i,none⟩=some (.int .u8 (x.toNat:Int)):=by
   intro i x hx;have h1:=heap_alloc_new w1 (.cells C 5 (C.size,C.size+1));unfold World.cell?;rw[h1];exact HC.out i x hx
  have HCell:=waV hcell;have htl:t.data.toList.length=t.size:=Array.length_toList;clear hcell;go_wp2
  go_loop [8,39] (fun v i=>∃q:Nat,q≤t.size∧i=.int .i64 q∧v=.int .i64 (zfp (t.data.toList.take q))) (fun _ i=>t.size - (intOf i).toNat)
  case atStart=>exact⟨0,waK _,rfl,rfl⟩
  case round=>
   obtain⟨q,hq,rfl,rfl⟩:=hrel
   by_cases hlt:q<t.size
   ·have hx:t.data.toList[q]?=some t[q]:=zlh t q hlt;have c0:=HCell.out q _ hx;have hd:zaN t[q]=true:=HAll.out _ (HRL.out▸List.mem_of_getElem? hx);simp only[zaN,waM] at hd;have hb1:(48:Int)≤(t[q].toNat:Int):=by omega
    have hb2:(t[q].toNat:Int)≤57:=by omega
    have hbd:=zrE (t.data.toList.take q) (fun c hc=>HAll.out c (HRL.out▸List.mem_of_mem_take hc))
    rw[List.length_take_of_le (by omega)] at hbd
    have hp:=zrF (k:=q) oQ;have hs1:t.data.toList.take (q+1)=t.data.toList.take q++[t[q]]:=by
     rw[List.take_add_one,hx];rfl
    have HS1:Hid (zfp (t.data.toList.take (q+1))=10 * zfp (t.data.toList.take q)+((t[q].toNat:Int) - 48)):=by
     show _=_;rw[hs1,znC]
    have hlt':(q:Int)<(t.size:Int):=by omega
    have hn1:0≤zfp (t.data.toList.take q):=hbd.1;have hn2:zfp (t.data.toList.take q)≤100000000000000000:=by omega
    clear hx hd hbd hp hs1 htl;generalize hg:zfp (t.data.toList.take q)=nq at *;clear hg;generalize hc:(t[q].toNat:Int)=cq at *;clear hc;go_wp2
    go_round
    case rel=>exact⟨q+1,by omega,by go_num,by rw[HS1.out]⟩
    case measure=>simp [intOf];omega
   ·obtain rfl:q=t.size:=by omega
    have HE:Hid (t.data.toList.take t.size=L):=by
     show _=_;rw[List.take_of_length_le (by omega),HRL.out]
    go_wp2
    go_ret2
    refine⟨?_,?_,?_⟩
    ·rw[←HE.out];rfl
    ·exact(H1.out.kept (((waC _ w1).alloc (waJ _) _).drew) H1.out.lt)
    ·exact(g1.alloc _).drewN 1
 ·have e1:zrj s k e most=false:=waO (fun h=>hm h.2)
  have e2:zmq s k e=4:=if_neg h0;rw[e1,e2];simp only[Bool.false_eq_true,if_false];clear e1 e2 h0 HL hall hrl;generalize zbB zaN s k e=j at *;generalize ht:s.extract k j=t at *;clear ht
  by_cases hm1:most<(t.size:Int)
  ·go_enter func160,ntmps160;go_wp2_with fail;refine HA.out.mono ?_;rintro x w1 ⟨rfl,rfl⟩;go_wp2_with fail;refine HS.out.mono ?_;rintro x w1 ⟨rfl,h1,g1⟩;obtain⟨c0,c1,c2,c3⟩:=h1.cells;have f1:=h1.free 1;have H1:=waV h1;clear h1;go_wp2_with fail;refine(HF.out _ (H1.out.setAt k)).mono ?_;rintro x w2 ⟨rfl,h2,g2⟩;go_wp2
   go_ret2
   exact⟨rfl,h2,(g1.set _ _).trans g2⟩
  ·have hm2:18<most:=by omega
   go_enter func160,ntmps160;go_wp2_with fail;refine HA.out.mono ?_;rintro x w1 ⟨rfl,rfl⟩;go_wp2_with fail;refine HS.out.mono ?_;rintro x w1 ⟨rfl,h1,g1⟩;obtain⟨c0,c1,c2,c3⟩:=h1.cells;have f1:=h1.free 1;have H1:=waV h1;clear h1;go_wp2_with fail;refine(HF.out _ (H1.out.setAt k)).mono ?_;rintro x w2 ⟨rfl,h2,g2⟩;go_wp2
   go_ret2
   exact⟨rfl,h2,(g1.set _ _).trans g2⟩
abbrev PR (α:Type):=Except (Nat×Int) (α×List UInt8)
def pIs (cs:List UInt8):List UInt8→Option (List UInt8)
 |[]=>none
 |c::l=>if cs.elem c then some l else none
def pLack (l:List UInt8):Int:=if l=[] then 2 else 3
def zvF (most:Nat) (l:List UInt8):PR Int:=
 if l.takeWhile zaN=[] then .error (l.length,pLack l) else if most<(l.takeWhile zaN).length then .error (l.length,4) else .ok (zfp (l.takeWhile zaN),l.dropWhile zaN)
section
variable {α : Type} {l l' : List UInt8} {Q R : α → Prop}
end
theorem zrH {cs l r:List UInt8} (h:pIs cs l=some r):∃c,l=c::r∧cs.elem c=true:=by
 unfold pIs at h;split at h
 ·cases h
 ·split at h
  ·cases h;exact⟨_,rfl,by assumption⟩
  ·cases h
def zcV (w:World) (b:Nat) (s:ByteArray) (l:List UInt8):Prop:=∃k,k≤s.size∧l=s.data.toList.drop k∧Rdr w b s k 0 0
section
variable {w w' : World} {b : Nat} {s : ByteArray} {l : List UInt8} {a e : Int}
theorem zcV.below (h:zcV w b s l) (hb:Below w.heap.size w w'):zcV w' b s l:=by
 obtain⟨k,hk,hl,hr⟩:=h;exact⟨k,hk,hl,hr.kept hb hr.lt⟩
theorem zcV.alloc (h:zcV w b s l) (o:Obj):zcV (w.alloc o) b s l:=h.below ((waC _ _).alloc (waJ _) _)
theorem zcV.set (h:zcV w b s l) {B o:Nat} (hB:B≠b) (v:Value):zcV (w.setCell ⟨B,o,none⟩ v) b s l:=by
 obtain⟨k,hk,hl,hr⟩:=h;exact⟨k,hk,hl,(wbJ _ _ _ _ (fun e=>hB (by simp[e]))).trans hr⟩
theorem zcV.lt (h:zcV w b s l):b<w.heap.size:=by obtain⟨k,hk,hl,hr⟩:=h;exact hr.lt
theorem zdL (s:ByteArray):s.data.toList.length=s.size:=Array.length_toList
theorem Chg.cell {w w':World} {b B o:Nat} {v:Value} (h:Chg b w w') (hB:B≠b) (hc:w.cell? ⟨B,o,none⟩=some v):w'.cell? ⟨B,o,none⟩=some v:=
 (wbK (h.block B (waR w _ hc) (fun e=>hB (by injection e)))).trans hc
theorem Chg.frozen {w w':World} {b B o:Nat} (h:Chg b w w') (hB:B≠b) (hlt:B<w.heap.size) (hc:w.frozen? ⟨B,o,none⟩=false):w'.frozen? ⟨B,o,none⟩=false:=by
 have:=h.block B hlt (fun e=>hB (by injection e))
 unfold World.frozen? at *;rw[this];exact hc
theorem Chg.setNew {w w':World} {b B o:Nat} {v:Value} (h:Chg b w w') (hB:w.heap.size≤B):Chg b w (w'.setCell ⟨B,o,none⟩ v):=
 ⟨h.os,h.tape,h.output,by simpa[World.setCell] using h.size,fun k hk hn=>(wbJ _ _ _ _ (fun e=>by simp at e;omega)).trans (h.block k hk hn)⟩
end
def zmr (v:Value) (b:Nat) (s:ByteArray) (l:List UInt8) (w:World) (x:Ending) (w':World):Prop:=x=.returned v∧zcV w' b s l∧Chg b w w'
def zfq (s:ByteArray) (m:Nat):Int:=((s.size - m:Nat):Int)
theorem zvn {w:World} {B:Nat} {c:UInt8} (h:w.cell? ⟨B,0,none⟩=some (.int .u8 (c.toNat:Int))):zdK w (some ⟨B,0,none⟩) 1 [c]:=
 ⟨rfl,fun _=>⟨B,0,rfl,waR w _ h,fun i x hi j v hj=>by
  rcases i with _|i
  ·obtain rfl:c=x:=by simpa using hi
   rcases j with _|j
   ·obtain rfl:Value.int .u8 (c.toNat:Int)=v:=by simpa[zlg] using hj
    simpa using h
   ·simp[zlg] at hj
  ·simp at hi⟩⟩
theorem zgY (s:ByteArray) (k:Nat) (h:k<s.size):s.data.toList.drop k=s[k]::s.data.toList.drop (k+1):=by
 rw[List.drop_eq_getElem_cons (by rw[zdL];exact h)]
 rfl
theorem ziZ (s:ByteArray):s.data.toList.drop s.size=[]:=by
 rw[List.drop_eq_nil_iff,zdL];exact waJ _
section
variable {w : World} {b : Nat} {s : ByteArray} {l : List UInt8} {a c : Int}
def zua:List UInt8→Int
 |[]=>0
 |x::_=>(x.toNat:Int)
theorem zpq (h:zcV w b s l):Calls prog 54 #[.pointer (some ⟨b,0,none⟩)] w (zmr (.int .u8 (zua l)) b s l w):=by
 obtain⟨k,hk,rfl,hr⟩:=h;have hp:zua (s.data.toList.drop k)=zrB s k 0:=by
  by_cases hlt:k<s.size
  ·rw[zgY s k hlt,zmo hlt];rfl
  ·obtain rfl:k=s.size:=by omega
   rw[ziZ,zh9 (by simp[zc4])];rfl
 rw[hp];refine(zrC b s k 0 0 w hr hk).mono ?_;rintro e w1 ⟨rfl,q,rfl⟩;exact⟨rfl,⟨k,hk,rfl,hr⟩,(Chg.refl _ _).drewN _⟩
theorem zpr (h:zcV w b s l):Calls prog 56 #[.pointer (some ⟨b,0,none⟩)] w (zmr (.int .i64 (zfq s l.length)) b s l w):=by
 obtain⟨k,hk,rfl,hr⟩:=h;have hp:zfq s (s.data.toList.drop k).length=(k:Int):=by
  unfold zfq;rw[List.length_drop,zdL];omega
 rw[hp];refine(zph b s k 0 0 w hr).mono ?_;rintro e w1 ⟨rfl,rfl⟩;exact⟨rfl,⟨k,hk,rfl,hr⟩,Chg.refl _ _⟩
variable (hs : s.size ≤ 9223372036854775807)
include hs
theorem zty {A:Option Addr} {n cp:Nat} {cs:List UInt8} {r:List UInt8} (h:zcV w b s l) (hA:zdK w A n cs) (hn:n≤9223372036854775807) (hp:pIs cs l=some r):
 Calls prog 105 #[.pointer (some ⟨b,0,none⟩),.slice A n cp] w (zmr (.bool true) b s r w):=by
 obtain⟨k,hk,rfl,hr⟩:=h;have hlt:k<s.size:=by
  rcases Nat.lt_or_ge k s.size with h1|h1
  ·exact h1
  ·obtain rfl:k=s.size:=by omega
   rw[ziZ] at hp;cases hp
 rw[zgY s k hlt] at hp;obtain⟨c0,h1,h2⟩:=zrH hp;obtain⟨rfl,rfl⟩:=List.cons.inj h1;have hb:isB s k 0 cs=true:=by rw[zpo hlt];exact h2
 have:=ztw b s k 0 0 A n cp cs w hr hs hk hA hn;rw[hb,isK,hb,if_pos rfl] at this;refine this.mono ?_;rintro e w1 ⟨rfl,h3,g3⟩;exact⟨rfl,⟨k+1,hlt,rfl,h3⟩,g3⟩
theorem zrI {A:Option Addr} {n cp:Nat} {cs:List UInt8} (h:zcV w b s l) (hA:zdK w A n cs) (hn:n≤9223372036854775807) (hp:pIs cs l=none):
 Calls prog 105 #[.pointer (some ⟨b,0,none⟩),.slice A n cp] w (zmr (.bool false) b s l w):=by
 obtain⟨k,hk,rfl,hr⟩:=h;have hb:isB s k 0 cs=false:=by
  by_cases hlt:k<s.size
  ·rw[zpo hlt];rw[zgY s k hlt] at hp;unfold pIs at hp;split at hp
   ·rename_i h1;cases h1
   ·rename_i h1;obtain⟨rfl,rfl⟩:=List.cons.inj h1;split at hp
    ·cases hp
    ·rename_i h2;simpa using h2
  ·exact zmm (by simp[zc4];omega)
 have:=ztw b s k 0 0 A n cp cs w hr hs hk hA hn;rw[hb,isK,hb,if_neg (by decide)] at this
 refine this.mono ?_;rintro e w1 ⟨rfl,h3,g3⟩;exact⟨rfl,⟨k,hk,rfl,h3⟩,g3⟩
omit hs in
theorem zjX (p:UInt8→Bool) (k:Nat) (hk:k≤s.size):s.data.toList.drop (zbB p s k 0)=(s.data.toList.drop k).dropWhile p∧(s.extract k (zbB p s k 0)).data.toList=(s.data.toList.drop k).takeWhile p:=by
 have h1:∀(l:List UInt8),l.drop (l.takeWhile p).length=l.dropWhile p:=by
  intro l;have:=List.takeWhile_append_dropWhile (p:=p) (l:=l);generalize l.takeWhile p=t at *;generalize l.dropWhile p=d at *;subst this;simp
 have h2:∀(l:List UInt8),l.take (l.takeWhile p).length=l.takeWhile p:=fun l=>(List.prefix_iff_eq_take.1 (List.takeWhile_prefix p)).symm
 have hK:zbB p s k 0=k+((s.data.toList.drop k).takeWhile p).length:=by
  unfold zbB;rw[ziW];split
  ·rename_i h;simp at h;subst h;rw[ziZ];simp
  ·rfl
 rw[hK];refine⟨?_,?_⟩
 ·rw[←h1,List.drop_drop]
 ·rw[zea,show k+((s.data.toList.drop k).takeWhile p).length - k=((s.data.toList.drop k).takeWhile p).length from by omega,h2]
theorem ze0 (h:zcV w b s l):Calls prog 53 #[.pointer (some ⟨b,0,none⟩)] w (zmr (.int .i64 ((l.takeWhile zbS).length:Int)) b s (l.dropWhile zbS) w):=by
 obtain⟨k,hk,rfl,hr⟩:=h;obtain⟨h1,h2⟩:=zjX zbS k hk;have hle:=ziY zbS s k 0 hk;have h3:(s.extract k (zbB zbS s k 0)).size=((s.data.toList.drop k).takeWhile zbS).length:=by rw[←h2,zdL]
 have:=znB b s k 0 0 w hr hs hk;rw[h3] at this;refine this.mono ?_;rintro e w1 ⟨rfl,h4,g4⟩;exact⟨rfl,⟨_,hle.2,h1.symm,h4⟩,g4⟩
theorem zps {most:Nat} {n:Int} {r:List UInt8} (hm:most≤18) (h:zcV w b s l) (hp:zvF most l=.ok (n,r)):
 Calls prog 160 #[.pointer (some ⟨b,0,none⟩),.int .i64 (most:Int)] w (zmr (.tuple #[.int .i64 n,.bool true]) b s r w):=by
 obtain⟨k,hk,rfl,hr⟩:=h;obtain⟨h1,h2⟩:=zjX zaN k hk;have hle:=ziY zaN s k 0 hk;have hrl:zvm zaN s k 0=(s.data.toList.drop k).takeWhile zaN:=by rw[←h2,zea];rfl
 have hlen:((s.data.toList.drop k).takeWhile zaN).length=zbB zaN s k 0 - k:=by
  rw[←h2,zdL];simp;omega
 unfold zvF at hp;split at hp
 ·cases hp
 ·rename_i h3;split at hp
  ·cases hp
  ·rename_i h4;cases hp;have hne:((s.data.toList.drop k).takeWhile zaN).length≠0:=fun h=>h3 (List.length_eq_zero_iff.1 h)
   have hb:zrj s k 0 (most:Int)=true:=waP ⟨by omega,by omega,by omega⟩
   have:=znE b s k 0 0 (most:Int) w hr hs hk;rw[hb] at this;simp only[if_true] at this;rw[hrl] at this;refine this.mono ?_;rintro e w1 ⟨rfl,h5,g5⟩;exact⟨rfl,⟨_,hle.2,h1.symm,h5⟩,g5⟩
omit hs in
theorem zvG (h:zcV w b s []):Calls prog 60 #[.pointer (some ⟨b,0,none⟩)] w (zmr (.tuple #[]) b s [] w):=by
 obtain⟨k,hk,hl,hr⟩:=h;have hd:zc4 s k 0=true:=by
  have:(s.data.toList.drop k).length=0:=by rw[←hl];rfl
  rw[List.length_drop,zdL] at this;simp[zc4];omega
 have:=zt7 b s k 0 0 w hr hk;rw[hd] at this;simp only[if_true] at this;refine this.mono ?_;rintro e w1 ⟨rfl,h5,g5⟩;exact⟨rfl,⟨k,hk,hl,h5⟩,g5⟩
omit hs in
theorem znF (h:zcV w b s l):Calls prog 61 #[.pointer (some ⟨b,0,none⟩)] w (zmr (.tuple #[.int .i64 0,.int .i64 0]) b s l w):=by
 obtain⟨k,hk,rfl,hr⟩:=h;refine(zpi b s k 0 0 w hr).mono ?_;rintro e w1 ⟨rfl,q,rfl⟩;exact⟨rfl,⟨k,hk,rfl,hr⟩,(Chg.refl _ _).drewN _⟩
def zub (s:ByteArray) (w:World) (x:Ending) (w':World):Prop:=∃b,w.heap.size≤b∧x=.returned (.pointer (some ⟨b,0,none⟩))∧zcV w' b s s.data.toList∧Below w.heap.size w w'
theorem zvH (hl:s.size≤8192) (w:World):Calls prog 52 #[.string s] w (zub s w):=by
 refine(zt8 s w hs).mono ?_;rintro e w1 ⟨b,hb,rfl,hr,hbl⟩;have e1:zmp s=0:=if_neg oQ;have e2:newE s=0:=if_neg oQ;rw[e1,e2] at hr;exact⟨b,hb,rfl,⟨0,waK _,rfl,hr⟩,hbl⟩
end
structure PS where
 l:List UInt8
 a:Int
 e:Int
section
variable {w w' : World} {b : Nat} {s : ByteArray} {σ : PS}
end
section
variable {w : World} {b : Nat} {s : ByteArray} {σ : PS}
variable (hs : s.size ≤ 9223372036854775807)
include hs
end
theorem Arr.chg {w w':World} {b B m:Nat} {g:Nat→Value} (h:Arr w B m g) (hm:0<m) (hg:Chg b w w') (hne:B≠b):Arr w' B m g:=
 ⟨fun j hj=>hg.cell hne (h.1 j hj),fun j=>hg.frozen hne (h.lt hm) (h.2 j)⟩
theorem zfr {fn:Func} {p t u:Tmp} {ty:TypeId} (h:fn.results=#[.cell p ty,.tmp t,.tmp u]) (tmps:Array Value) (P:Program) (w:World):
 (results fn tmps).run P w=((asAddr (tmps.getD p undef)).run P w).andThen fun a w₁=>((loadVar ty a).run P w₁).andThen fun v w₂=>.ok (.tuple #[v,tmps.getD t undef,tmps.getD u undef]) w₂:=by
 simp only[results,h];simp[Sem.run_bind,Result.andThen]
abbrev itV (i:It):Value:=.agg #[.int .i64 i.k,.int .i64 i.f,.int .i64 i.t,.int .i64 i.s]
def itG (i:It) (j:Nat):Value:=.int .i64 (if j=0 then i.k else if j=1 then i.f else if j=2 then i.t else i.s)
abbrev zjY (w:World) (B:Nat) (i:It):Prop:=Arr w B 4 (itG i)
theorem zjY.cells {w:World} {B:Nat} {i:It} (h:zjY w B i):w.cell? ⟨B,0,none⟩=some (.int .i64 i.k)∧w.cell? ⟨B,1,none⟩=some (.int .i64 i.f)∧w.cell? ⟨B,2,none⟩=some (.int .i64 i.t)∧w.cell? ⟨B,3,none⟩=some (.int .i64 i.s)∧∀j,w.frozen? ⟨B,j,none⟩=false:=
 ⟨h.1 0 dQ,h.1 1 dQ,h.1 2 dQ,h.1 3 dQ,h.2⟩
theorem zfs (w:World) (k f t s:Int) (ty:TypeId):zjY (w.alloc (.cells #[.int .i64 k,.int .i64 f,.int .i64 t,.int .i64 s] ty)) w.heap.size ⟨k,f,t,s⟩:=
 zdG w #[.int .i64 k,.int .i64 f,.int .i64 t,.int .i64 s] ty (itG ⟨k,f,t,s⟩) (by
  intro j hj;obtain rfl|rfl|rfl|rfl:j=0∨j=1∨j=2∨j=3:=by simp at hj;omega
  all_goals rfl)
theorem zjZ {w:World} {B:Nat} {k f t s:Int} (h:zjY w B ⟨k,f,t,s⟩) (v:Int):zjY (w.setCell ⟨B,0,none⟩ (.int .i64 v)) B ⟨v,f,t,s⟩:=
 Arr.set h 0 dQ _ rfl (fun j hj hn=>by
  obtain rfl|rfl|rfl|rfl:j=0∨j=1∨j=2∨j=3:=by omega
  all_goals first|rfl|exact absurd rfl hn)
theorem zj0 {w:World} {B:Nat} {k f t s:Int} (h:zjY w B ⟨k,f,t,s⟩) (v:Int):zjY (w.setCell ⟨B,2,none⟩ (.int .i64 v)) B ⟨k,f,v,s⟩:=
 Arr.set h 2 dQ _ rfl (fun j hj hn=>by
  obtain rfl|rfl|rfl|rfl:j=0∨j=1∨j=2∨j=3:=by omega
  all_goals first|rfl|exact absurd rfl hn)
theorem zj1 {w:World} {B:Nat} {k f t s:Int} (h:zjY w B ⟨k,f,t,s⟩) (v:Int):zjY (w.setCell ⟨B,3,none⟩ (.int .i64 v)) B ⟨k,f,t,v⟩:=
 Arr.set h 3 dQ _ rfl (fun j hj hn=>by
  obtain rfl|rfl|rfl|rfl:j=0∨j=1∨j=2∨j=3:=by omega
  all_goals first|rfl|exact absurd rfl hn)
theorem Chg.set4 {w w':World} {b R:Nat} (h:Chg b w w') (hR:w.heap.size≤R) (v0 v1 v2 v3:Value):Chg b w ((((w'.setCell ⟨R,0,none⟩ v0).setCell ⟨R,1,none⟩ v1).setCell ⟨R,2,none⟩ v2).setCell ⟨R,3,none⟩ v3):=
 (((h.setNew hR).setNew hR).setNew hR).setNew hR
section
variable {w w' : World} {B b : Nat} {s : ByteArray}
end
end Go.Proofs.YtgedndlifiihkaaGreatDoor
