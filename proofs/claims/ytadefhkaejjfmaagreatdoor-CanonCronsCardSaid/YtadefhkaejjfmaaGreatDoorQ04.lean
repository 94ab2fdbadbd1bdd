/- A part of the proof: WRead RGoes WBox WStr -/
import Derived.Test.YtadefhkaejjfmaaGreatDoorQ03
import Derived.Test.YtadefhkaejjfmaaGreatDoorQ00
import Derived.Deep.MidRow
import Derived.BigRegion
set_option maxHeartbeats 80000000
set_option maxRecDepth 100000
set_option linter.unusedSimpArgs false
set_option linter.unusedVariables false
namespace Go.Proofs.YtadefhkaejjfmaaGreatDoor
open Go.Proofs.Tryz
open Go.RowKit
def zcn (w:World) (b:Nat) (s:ByteArray) (l:List UInt8):Prop:=∃k,k≤s.size∧l=s.data.toList.drop k∧Rdr w b s k 0 0
def zhV (w:World) (b:Nat) (s:ByteArray) (a e:Int):Prop:=e≠0∧∃k,k≤s.size∧Rdr w b s k a e
section
variable {w w' : World} {b : Nat} {s : ByteArray} {l : List UInt8} {a e : Int}
theorem zcn.below (h:zcn w b s l) (hb:Below w.heap.size w w'):zcn w' b s l:=by
 obtain⟨k,hk,hl,hr⟩:=h;exact⟨k,hk,hl,hr.kept hb hr.lt⟩
theorem zhV.below (h:zhV w b s a e) (hb:Below w.heap.size w w'):zhV w' b s a e:=by
 obtain⟨he,k,hk,hr⟩:=h;exact⟨he,k,hk,hr.kept hb hr.lt⟩
theorem zcn.alloc (h:zcn w b s l) (o:Obj):zcn (w.alloc o) b s l:=h.below ((waC _ _).alloc (waJ _) _)
theorem zhV.alloc (h:zhV w b s a e) (o:Obj):zhV (w.alloc o) b s a e:=h.below ((waC _ _).alloc (waJ _) _)
theorem zcn.set (h:zcn w b s l) {B o:Nat} (hB:B≠b) (v:Value):zcn (w.setCell ⟨B,o,none⟩ v) b s l:=by
 obtain⟨k,hk,hl,hr⟩:=h;exact⟨k,hk,hl,(wbJ _ _ _ _ (fun e=>hB (by simp[e]))).trans hr⟩
theorem zhV.set (h:zhV w b s a e) {B o:Nat} (hB:B≠b) (v:Value):zhV (w.setCell ⟨B,o,none⟩ v) b s a e:=by
 obtain⟨he,k,hk,hr⟩:=h;exact⟨he,k,hk,(wbJ _ _ _ _ (fun e=>hB (by simp[e]))).trans hr⟩
theorem zcn.drewN (h:zcn w b s l) (q:Nat):zcn (w.drewN q) b s l:=h
theorem zhV.drewN (h:zhV w b s a e) (q:Nat):zhV (w.drewN q) b s a e:=h
theorem zcn.lt (h:zcn w b s l):b<w.heap.size:=by obtain⟨k,hk,hl,hr⟩:=h;exact hr.lt
theorem zhV.lt (h:zhV w b s a e):b<w.heap.size:=by obtain⟨he,k,hk,hr⟩:=h;exact hr.lt
theorem zcn.suf (h:zcn w b s l):l<:+s.data.toList:=by obtain⟨k,hk,hl,hr⟩:=h;rw[hl];exact List.drop_suffix _ _
theorem zcO (s:ByteArray):s.data.toList.length=s.size:=Array.length_toList
theorem zcn.len (h:zcn w b s l):l.length≤s.size:=by have:=h.suf.length_le;rwa [zcO] at this
theorem Chg.cell {w w':World} {b B o:Nat} {v:Value} (h:Chg b w w') (hB:B≠b) (hc:w.cell? ⟨B,o,none⟩=some v):w'.cell? ⟨B,o,none⟩=some v:=
 (wbK (h.block B (waR w _ hc) (fun e=>hB (by injection e)))).trans hc
theorem Chg.frozen {w w':World} {b B o:Nat} (h:Chg b w w') (hB:B≠b) (hlt:B<w.heap.size) (hc:w.frozen? ⟨B,o,none⟩=false):w'.frozen? ⟨B,o,none⟩=false:=by
 have:=h.block B hlt (fun e=>hB (by injection e))
 unfold World.frozen? at *;rw[this];exact hc
theorem Chg.setNew {w w':World} {b B o:Nat} {v:Value} (h:Chg b w w') (hB:w.heap.size≤B):Chg b w (w'.setCell ⟨B,o,none⟩ v):=
 ⟨h.os,h.tape,h.output,by simpa[World.setCell] using h.size,fun k hk hn=>(wbJ _ _ _ _ (fun e=>by simp at e;omega)).trans (h.block k hk hn)⟩
end
def zlr (v:Value) (b:Nat) (s:ByteArray) (l:List UInt8) (w:World) (x:Ending) (w':World):Prop:=x=.returned v∧zcn w' b s l∧Chg b w w'
def zea (s:ByteArray) (m:Nat):Int:=((s.size - m:Nat):Int)
theorem zve {w:World} {B:Nat} {c:UInt8} (h:w.cell? ⟨B,0,none⟩=some (.int .u8 (c.toNat:Int))):zdI w (some ⟨B,0,none⟩) 1 [c]:=
 ⟨rfl,fun _=>⟨B,0,rfl,waR w _ h,fun i x hi j v hj=>by
  rcases i with _|i
  ·obtain rfl:c=x:=by simpa using hi
   rcases j with _|j
   ·obtain rfl:Value.int .u8 (c.toNat:Int)=v:=by simpa[zlo] using hj
    simpa using h
   ·simp[zlo] at hj
  ·simp at hi⟩⟩
theorem zg0 (s:ByteArray) (k:Nat) (h:k<s.size):s.data.toList.drop k=s[k]::s.data.toList.drop (k+1):=by
 rw[List.drop_eq_getElem_cons (by rw[zcO];exact h)]
 rfl
theorem ziZ (s:ByteArray):s.data.toList.drop s.size=[]:=by
 rw[List.drop_eq_nil_iff,zcO];exact waJ _
section
variable {w : World} {b : Nat} {s : ByteArray} {l : List UInt8} {a c : Int}
def zls:List UInt8→Int
 |[]=>0
 |x::_=>(x.toNat:Int)
theorem zjY (h:zcn w b s l):Calls prog 125 #[.pointer (some ⟨b,0,none⟩)] w (zlr (.int .u8 (zls l)) b s l w):=by
 obtain⟨k,hk,rfl,hr⟩:=h;have hp:zls (s.data.toList.drop k)=zrK s k 0:=by
  by_cases hlt:k<s.size
  ·rw[zg0 s k hlt,zmv hlt];rfl
  ·obtain rfl:k=s.size:=by omega
   rw[ziZ,zic (by simp[zc3])];rfl
 rw[hp];refine(zrL b s k 0 0 w hr hk).mono ?_;rintro e w1 ⟨rfl,q,rfl⟩;exact⟨rfl,⟨k,hk,rfl,hr⟩,(Chg.refl _ _).drewN _⟩
theorem zlt (h:zcn w b s l):Calls prog 127 #[.pointer (some ⟨b,0,none⟩)] w (zlr (.int .i64 (zea s l.length)) b s l w):=by
 obtain⟨k,hk,rfl,hr⟩:=h;have hp:zea s (s.data.toList.drop k).length=(k:Int):=by
  unfold zea;rw[List.length_drop,zcO];omega
 rw[hp];refine(zpe b s k 0 0 w hr).mono ?_;rintro e w1 ⟨rfl,rfl⟩;exact⟨rfl,⟨k,hk,rfl,hr⟩,Chg.refl _ _⟩
variable (hs : s.size ≤ 9223372036854775807)
include hs
theorem zpo {A:Option Addr} {n cp:Nat} {cs:List UInt8} {r:List UInt8} (h:zcn w b s l) (hA:zdI w A n cs) (hn:n≤9223372036854775807) (hp:pIs cs l=some r):
 Calls prog 222 #[.pointer (some ⟨b,0,none⟩),.slice A n cp] w (zlr (.bool true) b s r w):=by
 obtain⟨k,hk,rfl,hr⟩:=h;have hlt:k<s.size:=by
  rcases Nat.lt_or_ge k s.size with h1|h1
  ·exact h1
  ·obtain rfl:k=s.size:=by omega
   rw[ziZ] at hp;cases hp
 rw[zg0 s k hlt] at hp;obtain⟨c0,h1,h2⟩:=zrS hp;obtain⟨rfl,rfl⟩:=List.cons.inj h1;have hb:isB s k 0 cs=true:=by rw[zpl hlt];exact h2
 have:=ztu b s k 0 0 A n cp cs w hr hs hk hA hn;rw[hb,isK,hb,if_pos rfl] at this;refine this.mono ?_;rintro e w1 ⟨rfl,h3,g3⟩;exact⟨rfl,⟨k+1,hlt,rfl,h3⟩,g3⟩
theorem zua {A:Option Addr} {n cp:Nat} {cs:List UInt8} (h:zcn w b s l) (hA:zdI w A n cs) (hn:n≤9223372036854775807) (hp:pIs cs l=none):
 Calls prog 222 #[.pointer (some ⟨b,0,none⟩),.slice A n cp] w (zlr (.bool false) b s l w):=by
 obtain⟨k,hk,rfl,hr⟩:=h;have hb:isB s k 0 cs=false:=by
  by_cases hlt:k<s.size
  ·rw[zpl hlt];rw[zg0 s k hlt] at hp;unfold pIs at hp;split at hp
   ·rename_i h1;cases h1
   ·rename_i h1;obtain⟨rfl,rfl⟩:=List.cons.inj h1;split at hp
    ·cases hp
    ·rename_i h2;simpa using h2
  ·exact zmt (by simp[zc3];omega)
 have:=ztu b s k 0 0 A n cp cs w hr hs hk hA hn;rw[hb,isK,hb,if_neg (by decide)] at this
 refine this.mono ?_;rintro e w1 ⟨rfl,h3,g3⟩;exact⟨rfl,⟨k,hk,rfl,h3⟩,g3⟩
omit hs in
theorem zjZ (p:UInt8→Bool) (k:Nat) (hk:k≤s.size):s.data.toList.drop (zbL p s k 0)=(s.data.toList.drop k).dropWhile p∧(s.extract k (zbL p s k 0)).data.toList=(s.data.toList.drop k).takeWhile p:=by
 have h1:∀(l:List UInt8),l.drop (l.takeWhile p).length=l.dropWhile p:=by
  intro l;have:=List.takeWhile_append_dropWhile (p:=p) (l:=l);generalize l.takeWhile p=t at *;generalize l.dropWhile p=d at *;subst this;simp
 have h2:∀(l:List UInt8),l.take (l.takeWhile p).length=l.takeWhile p:=fun l=>(List.prefix_iff_eq_take.1 (List.takeWhile_prefix p)).symm
 have hK:zbL p s k 0=k+((s.data.toList.drop k).takeWhile p).length:=by
  unfold zbL;rw[ziW];split
  ·rename_i h;simp at h;subst h;rw[ziZ];simp
  ·rfl
 rw[hK];refine⟨?_,?_⟩
 ·rw[←h1,List.drop_drop]
 ·rw[zd9,show k+((s.data.toList.drop k).takeWhile p).length - k=((s.data.toList.drop k).takeWhile p).length from by omega,h2]
theorem ze1 (h:zcn w b s l):Calls prog 124 #[.pointer (some ⟨b,0,none⟩)] w (zlr (.int .i64 ((l.takeWhile zbz).length:Int)) b s (l.dropWhile zbz) w):=by
 obtain⟨k,hk,rfl,hr⟩:=h;obtain⟨h1,h2⟩:=zjZ zbz k hk;have hle:=ziY zbz s k 0 hk;have h3:(s.extract k (zbL zbz s k 0)).size=((s.data.toList.drop k).takeWhile zbz).length:=by rw[←h2,zcO]
 have:=znB b s k 0 0 w hr hs hk;rw[h3] at this;refine this.mono ?_;rintro e w1 ⟨rfl,h4,g4⟩;exact⟨rfl,⟨_,hle.2,h1.symm,h4⟩,g4⟩
theorem zj0 {most:Nat} {n:Int} {r:List UInt8} (hm:most≤18) (h:zcn w b s l) (hp:ztw most l=.ok (n,r)):
 Calls prog 297 #[.pointer (some ⟨b,0,none⟩),.int .i64 (most:Int)] w (zlr (.tuple #[.int .i64 n,.bool true]) b s r w):=by
 obtain⟨k,hk,rfl,hr⟩:=h;obtain⟨h1,h2⟩:=zjZ zaO k hk;have hle:=ziY zaO s k 0 hk;have hrl:zvd zaO s k 0=(s.data.toList.drop k).takeWhile zaO:=by rw[←h2,zd9];rfl
 have hlen:((s.data.toList.drop k).takeWhile zaO).length=zbL zaO s k 0 - k:=by
  rw[←h2,zcO];simp;omega
 unfold ztw at hp;split at hp
 ·cases hp
 ·rename_i h3;split at hp
  ·cases hp
  ·rename_i h4;cases hp;have hne:((s.data.toList.drop k).takeWhile zaO).length≠0:=fun h=>h3 (List.length_eq_zero_iff.1 h)
   have hb:zrx s k 0 (most:Int)=true:=waP ⟨by omega,by omega,by omega⟩
   have:=znE b s k 0 0 (most:Int) w hr hs hk;rw[hb] at this;simp only[if_true] at this;rw[hrl] at this;refine this.mono ?_;rintro e w1 ⟨rfl,h5,g5⟩;exact⟨rfl,⟨_,hle.2,h1.symm,h5⟩,g5⟩
omit hs in
theorem zvx (h:zcn w b s []):Calls prog 131 #[.pointer (some ⟨b,0,none⟩)] w (zlr (.tuple #[]) b s [] w):=by
 obtain⟨k,hk,hl,hr⟩:=h;have hd:zc3 s k 0=true:=by
  have:(s.data.toList.drop k).length=0:=by rw[←hl];rfl
  rw[List.length_drop,zcO] at this;simp[zc3];omega
 have:=zt6 b s k 0 0 w hr hk;rw[hd] at this;simp only[if_true] at this;refine this.mono ?_;rintro e w1 ⟨rfl,h5,g5⟩;exact⟨rfl,⟨k,hk,hl,h5⟩,g5⟩
omit hs in
theorem znF (h:zcn w b s l):Calls prog 73 #[.pointer (some ⟨b,0,none⟩)] w (zlr (.tuple #[.int .i64 0,.int .i64 0]) b s l w):=by
 obtain⟨k,hk,rfl,hr⟩:=h;refine(zpf b s k 0 0 w hr).mono ?_;rintro e w1 ⟨rfl,q,rfl⟩;exact⟨rfl,⟨k,hk,rfl,hr⟩,(Chg.refl _ _).drewN _⟩
def zub (s:ByteArray) (w:World) (x:Ending) (w':World):Prop:=∃b,w.heap.size≤b∧x=.returned (.pointer (some ⟨b,0,none⟩))∧zcn w' b s s.data.toList∧Below w.heap.size w w'
theorem zvy (hl:s.size≤8192) (w:World):Calls prog 71 #[.string s] w (zub s w):=by
 refine(zt7 s w hs).mono ?_;rintro e w1 ⟨b,hb,rfl,hr,hbl⟩;have e1:zmw s=0:=if_neg oQ;have e2:newE s=0:=if_neg oQ;rw[e1,e2] at hr;exact⟨b,hb,rfl,⟨0,waK _,rfl,hr⟩,hbl⟩
end
structure PS where
 l:List UInt8
 a:Int
 e:Int
def RdP (w:World) (b:Nat) (s:ByteArray) (σ:PS):Prop:=∃k,k≤s.size∧σ.l=s.data.toList.drop k∧Rdr w b s k σ.a σ.e
def RetP (v:Value) (b:Nat) (s:ByteArray) (σ:PS) (w:World) (x:Ending) (w':World):Prop:=x=.returned v∧RdP w' b s σ∧Chg b w w'
section
variable {w w' : World} {b : Nat} {s : ByteArray} {σ : PS}
theorem RdP.below (h:RdP w b s σ) (hb:Below w.heap.size w w'):RdP w' b s σ:=by
 obtain⟨k,hk,hl,hr⟩:=h;exact⟨k,hk,hl,hr.kept hb hr.lt⟩
theorem RdP.alloc (h:RdP w b s σ) (o:Obj):RdP (w.alloc o) b s σ:=h.below ((waC _ _).alloc (waJ _) _)
theorem RdP.set (h:RdP w b s σ) {B o:Nat} (hB:B≠b) (v:Value):RdP (w.setCell ⟨B,o,none⟩ v) b s σ:=by
 obtain⟨k,hk,hl,hr⟩:=h;exact⟨k,hk,hl,(wbJ _ _ _ _ (fun e=>hB (by simp[e]))).trans hr⟩
theorem RdP.drewN (h:RdP w b s σ) (q:Nat):RdP (w.drewN q) b s σ:=h
theorem RdP.drew (h:RdP w b s σ):RdP w.drew b s σ:=h
theorem RdP.lt (h:RdP w b s σ):b<w.heap.size:=by obtain⟨k,hk,hl,hr⟩:=h;exact hr.lt
theorem RdP.len (h:RdP w b s σ):σ.l.length≤s.size:=by obtain⟨k,hk,hl,hr⟩:=h;rw[hl,List.length_drop,zcO];omega
theorem RdP.grown {row:Option Nat} (h:RdP w b s σ) (hg:w.grownBy w' row) (hrow:row≠some b):RdP w' b s σ:=by
 obtain⟨k,hk,hl,hr⟩:=h;exact⟨k,hk,hl,(hg.block b hr.lt (Ne.symm hrow)).trans hr⟩
end
section
variable {w : World} {b : Nat} {s : ByteArray} {σ : PS}
theorem znr.toP {v:Value} {e:Ending} {w':World} (h:RdP w b s σ) (g:znr v w e w'):RetP v b s σ w e w':=by
 obtain⟨rfl,n,rfl⟩:=g;exact⟨rfl,h.drewN n,(Chg.refl _ _).drewN n⟩
variable (hs : s.size ≤ 9223372036854775807)
include hs
end
structure Goes (N:Nat) (σ τ:PS) (P:Prop):Prop where
 ok:(σ.e=0∨0≤σ.a∧σ.a≤N)→(τ.e=0∨0≤τ.a∧τ.a≤N)
 z:τ.e=0→σ.e=0∧P
section
variable {N : Nat} {σ τ υ : PS} {P Q : Prop}
theorem Goes.trans (h:Goes N σ τ P) (g:Goes N τ υ Q):Goes N σ υ (P∧Q):=
 ⟨fun x=>g.ok (h.ok x),fun x=>⟨(h.z (g.z x).1).1,(h.z (g.z x).1).2,(g.z x).2⟩⟩
theorem Goes.mono (h:Goes N σ τ P) (g:P→Q):Goes N σ τ Q:=⟨h.ok,fun x=>⟨(h.z x).1,g (h.z x).2⟩⟩
theorem Goes.refl (N:Nat) (σ:PS):Goes N σ σ True:=⟨id,fun x=>⟨x,trivial⟩⟩
end
theorem Arr.chg {w w':World} {b B m:Nat} {g:Nat→Value} (h:Arr w B m g) (hm:0<m) (hg:Chg b w w') (hne:B≠b):Arr w' B m g:=
 ⟨fun j hj=>hg.cell hne (h.1 j hj),fun j=>hg.frozen hne (h.lt hm) (h.2 j)⟩
theorem zfm {fn:Func} {p t u:Tmp} {ty:TypeId} (h:fn.results=#[.cell p ty,.tmp t,.tmp u]) (tmps:Array Value) (P:Program) (w:World):
 (results fn tmps).run P w=((asAddr (tmps.getD p undef)).run P w).andThen fun a w₁=>((loadVar ty a).run P w₁).andThen fun v w₂=>.ok (.tuple #[v,tmps.getD t undef,tmps.getD u undef]) w₂:=by
 simp only[results,h];simp[Sem.run_bind,Result.andThen]
abbrev itV (i:It):Value:=.agg #[.int .i64 i.k,.int .i64 i.f,.int .i64 i.t,.int .i64 i.s]
def itG (i:It) (j:Nat):Value:=.int .i64 (if j=0 then i.k else if j=1 then i.f else if j=2 then i.t else i.s)
abbrev zgE (w:World) (B:Nat) (i:It):Prop:=Arr w B 4 (itG i)
theorem zgE.cells {w:World} {B:Nat} {i:It} (h:zgE w B i):w.cell? ⟨B,0,none⟩=some (.int .i64 i.k)∧w.cell? ⟨B,1,none⟩=some (.int .i64 i.f)∧w.cell? ⟨B,2,none⟩=some (.int .i64 i.t)∧w.cell? ⟨B,3,none⟩=some (.int .i64 i.s)∧∀j,w.frozen? ⟨B,j,none⟩=false:=
 ⟨h.1 0 dQ,h.1 1 dQ,h.1 2 dQ,h.1 3 dQ,h.2⟩
theorem zfn (w:World) (k f t s:Int) (ty:TypeId):zgE (w.alloc (.cells #[.int .i64 k,.int .i64 f,.int .i64 t,.int .i64 s] ty)) w.heap.size ⟨k,f,t,s⟩:=
 zd6 w #[.int .i64 k,.int .i64 f,.int .i64 t,.int .i64 s] ty (itG ⟨k,f,t,s⟩) (by
  intro j hj;obtain rfl|rfl|rfl|rfl:j=0∨j=1∨j=2∨j=3:=by simp at hj;omega
  all_goals rfl)
theorem zj1 {w:World} {B:Nat} {k f t s:Int} (h:zgE w B ⟨k,f,t,s⟩) (v:Int):zgE (w.setCell ⟨B,0,none⟩ (.int .i64 v)) B ⟨v,f,t,s⟩:=
 Arr.set h 0 dQ _ rfl (fun j hj hn=>by
  obtain rfl|rfl|rfl|rfl:j=0∨j=1∨j=2∨j=3:=by omega
  all_goals first|rfl|exact absurd rfl hn)
theorem zj2 {w:World} {B:Nat} {k f t s:Int} (h:zgE w B ⟨k,f,t,s⟩) (v:Int):zgE (w.setCell ⟨B,2,none⟩ (.int .i64 v)) B ⟨k,f,v,s⟩:=
 Arr.set h 2 dQ _ rfl (fun j hj hn=>by
  obtain rfl|rfl|rfl|rfl:j=0∨j=1∨j=2∨j=3:=by omega
  all_goals first|rfl|exact absurd rfl hn)
theorem zj3 {w:World} {B:Nat} {k f t s:Int} (h:zgE w B ⟨k,f,t,s⟩) (v:Int):zgE (w.setCell ⟨B,3,none⟩ (.int .i64 v)) B ⟨k,f,t,v⟩:=
 Arr.set h 3 dQ _ rfl (fun j hj hn=>by
  obtain rfl|rfl|rfl|rfl:j=0∨j=1∨j=2∨j=3:=by omega
  all_goals first|rfl|exact absurd rfl hn)
theorem zgE.alloc {w:World} {B:Nat} {i:It} (h:zgE w B i) (o:Obj):zgE (w.alloc o) B i:=Arr.alloc h (Arr.lt h dQ) o
theorem zgE.chg {w w':World} {B b:Nat} {i:It} (h:zgE w B i) (hg:Chg b w w') (hne:¬B=b):zgE w' B i:=Arr.chg h dQ hg hne
theorem RdP.set4 {w:World} {b R:Nat} {s:ByteArray} {σ:PS} (h:RdP w b s σ) (hR:R≠b) (v0 v1 v2 v3:Value):RdP ((((w.setCell ⟨R,0,none⟩ v0).setCell ⟨R,1,none⟩ v1).setCell ⟨R,2,none⟩ v2).setCell ⟨R,3,none⟩ v3) b s σ:=
 (((h.set hR v0).set hR v1).set hR v2).set hR v3
theorem Chg.set4 {w w':World} {b R:Nat} (h:Chg b w w') (hR:w.heap.size≤R) (v0 v1 v2 v3:Value):Chg b w ((((w'.setCell ⟨R,0,none⟩ v0).setCell ⟨R,1,none⟩ v1).setCell ⟨R,2,none⟩ v2).setCell ⟨R,3,none⟩ v3):=
 (((h.setNew hR).setNew hR).setNew hR).setNew hR
def zj4 (w:World) (B b:Nat) (s:ByteArray):Prop:=w.cell? ⟨B,0,none⟩=some (.pointer (some ⟨b,0,none⟩))∧w.cell? ⟨B,1,none⟩=some (.string s)
section
variable {w w' : World} {B b : Nat} {s : ByteArray}
theorem zj4.lt (h:zj4 w B b s):B<w.heap.size:=waR w _ h.1
theorem zj4.chg (h:zj4 w B b s) (hg:Chg b w w') (hne:B≠b):zj4 w' B b s:=⟨hg.cell hne h.1,hg.cell hne h.2⟩
theorem zj4.below (h:zj4 w B b s) (hb:Below w.heap.size w w'):zj4 w' B b s:=⟨(hb.cell (p:=⟨B,0,none⟩) h.lt).trans h.1,(hb.cell (p:=⟨B,1,none⟩) h.lt).trans h.2⟩
theorem zj4.alloc (h:zj4 w B b s) (o:Obj):zj4 (w.alloc o) B b s:=h.below ((waC _ _).alloc (waJ _) _)
theorem zj4.set (h:zj4 w B b s) {C o:Nat} (hne:C≠B) (v:Value):zj4 (w.setCell ⟨C,o,none⟩ v) B b s:=
 ⟨by rw[waU _ _ _ _ (by intro e;injection e with e1;exact hne e1)];exact h.1,by rw[waU _ _ _ _ (by intro e;injection e with e1;exact hne e1)];exact h.2⟩
theorem zj4.grown {row:Option Nat} (h:zj4 w B b s) (hg:w.grownBy w' row) (hrow:row≠some B):zj4 w' B b s:=
 ⟨hg.cell h.1 (Ne.symm hrow),hg.cell h.2 (Ne.symm hrow)⟩
end
theorem zaz {fn:Func} {p t:Tmp} {ty:TypeId} (h:fn.results=#[.cell p ty,.tmp t]) (tmps:Array Value) (P:Program) (w:World):
 (results fn tmps).run P w=((asAddr (tmps.getD p undef)).run P w).andThen fun a w₁=>((loadVar ty a).run P w₁).andThen fun v w₂=>.ok (.tuple #[v,tmps.getD t undef]) w₂:=by
 simp only[results,h];simp[Sem.run_bind,Result.andThen]
theorem zbo {B b:Nat} (hB:B≤b) {w0:World}:∀(vs:List Value) (o:Nat) (w:World),Below B w0 w→Below B w0 (w.setCells b o vs)
 |[],_,_,h=>h
 |v::vs,o,w,h=>zbo hB vs (o+1) (w.setCell ⟨b,o,none⟩ v) (h.setCell hB _)
theorem zcb (w:World) (C:Array Value) (t:TypeId):(w.alloc (.cells C t)).there w.heap.size 0 C.size:=fun j hj=>by
 rw[waH];refine⟨?_,by go_simp⟩
 rw[zaa rfl (wbI hj)];rfl
theorem zg1 (b:Nat):∀(vs:List Value) (o:Nat) (w:World),(w.setCells b o vs).heap.size=w.heap.size
 |[],_,_=>rfl
 |v::vs,o,w=>by rw[World.setCells,zg1 b vs (o+1) _];simp
theorem zhW {w:World} {b':Nat} {n:Nat} (h:w.there b' 0 n) (b:Nat) (vs:List Value) (hl:∀j,j<vs.length→(w.cell? ⟨b,0+j,none⟩).isSome=true):(w.setCells b 0 vs).there b' 0 n:=fun j hj=>by
 obtain⟨h1,h2⟩:=h j hj;refine⟨?_,by rw[World.frozen?_setCells];exact h2⟩
 by_cases hb:b'=b
 ·subst hb
  by_cases hj2:j<vs.length
  ·rw[World.cell?_setCells_in b' vs 0 w hl j hj2];rfl
  ·rw[World.cell?_setCells_out b' vs 0 w _ (fun _ _=>.inr (by show 0+vs.length≤0+j;omega))];exact h1
 ·rw[World.cell?_setCells_out b vs 0 w _ (fun h _=>absurd h hb)];exact h1
theorem zad {ops:Array Oper} {rest:List Oper} {op:Oper} {a:Act} {Q:Exit→Act→World→Prop} {W:World} (hw:Region.wanted op (yielded ops a.tmps)=true) (t:TypeId) (x:Operand) (ho:op.op=.load t x) (cs:Array Value) {d:TypeDesc} (b:Nat) (off:Nat)
 (hx:a.eval x=.pointer (some ⟨b,off,none⟩)) (hu:prog.underlying t=some d) (hd:d.isRow=true) (hi:(prog.info? t).map (·.size)=some cs.size) (hA:∀j v,cs[j]?=some v→W.cell? ⟨b,off+j,none⟩=some v)
 (h:wpList prog ops Q rest (a.put op.dst (.agg cs)) W):wpList prog ops Q (op::rest) a W:=
 BigFrame.wpList_want hw fun _ hK=>wp_load_mid (P:=prog) t x ho b off hx cs.toList d (fun j v hj=>hA j v (by simpa using hj)) hu hd (by simpa using hi) (hK _ _ (by simpa using h))
theorem zcw {W:World} {b:Nat} {cs:Array Value} (h:∀j v,cs[j]?=some v→W.cell? ⟨b,j,none⟩=some v):∀j v,cs[j]?=some v→W.cell? ⟨b,0+j,none⟩=some v:=fun j v hj=>by rw[waH];exact h j v hj
theorem zaU {ops:Array Oper} {rest:List Oper} {op:Oper} {a:Act} {Q:Exit→Act→World→Prop} {V:World} {tz:TypeId} (hw:Region.wanted op (yielded ops a.tmps)=true) (t:TypeId) (x y:Operand) (ho:op.op=.store t x y) (cs Z:Array Value)
 (hx:a.eval x=.pointer (some ⟨V.heap.size,0,none⟩)) (hy:a.eval y=.agg cs) (hi:(prog.info? t).map (·.size)=some cs.size) (h1:cs.all (·.oneCell')=true) (hZ:Z.size=cs.size)
 (h:∀W',Below V.heap.size V W'→Arr W' V.heap.size cs.size (fun j=>cs.getD j undef)→W'.heap.size=V.heap.size+1→wpList prog ops Q rest (a.put op.dst undef) W'):wpList prog ops Q (op::rest) a (V.alloc (.cells Z tz)):=by
 have ht:(V.alloc (.cells Z tz)).there V.heap.size 0 cs.size:=by rw[←hZ];exact zcb V Z tz
 refine BigFrame.wpList_want hw fun K hK=>wp_store_mid (P:=prog) t x y ho V.heap.size 0 cs hx hy ht hi h1 (hK _ _ (h _ ?_ ⟨fun j hj=>?_,fun j=>?_⟩ ?_))
 ·exact zbo (waJ _) _ _ _ ((waC _ _).alloc (waJ _) _)
 ·have h2:=World.rangeAt_setCells_same (V.alloc (.cells Z tz)) V.heap.size 0 cs.toList (by simpa using ht) j cs[j] (by simp[hj])
  rw[waH] at h2;rw[h2];show _=some (cs.getD j undef);rw[wbL,wbI hj];rfl
 ·rw[World.frozen?_setCells]
  go_simp
 ·rw[zg1];simp
def updG (g:Nat→Value) (i:Nat) (v:Value) (j:Nat):Value:=if j=i then v else g j
theorem Arr.updG {w:World} {b m:Nat} {g:Nat→Value} (h:Arr w b m g) (i:Nat) (hi:i<m) (v:Value):Arr (w.setCell ⟨b,i,none⟩ v) b m (updG g i v):=
 h.set i hi v (if_pos rfl) (fun j _ hn=>if_neg hn)
theorem zi0 {w:World} {b:Nat} {cs:Array Value} (h:Arr w b cs.size (fun j=>cs.getD j undef)):∀j v,cs[j]?=some v→w.cell? ⟨b,j,none⟩=some v:=fun j v hj=>by
 have hl:=(waL.1 hj).1;rw[h.1 j hl];show some (cs.getD j undef)=_;rw[wbL,hj];rfl
theorem zcR {o:Oper} {a:Act} {C:World→Prop} {K:Act→Prop} (t:TypeId) (x:Operand) (ho:o.op=.load t x) (cs:Array Value) {d:TypeDesc} (b off:Nat)
 (hx:a.eval x=.pointer (some ⟨b,off,none⟩)) (hu:prog.underlying t=some d) (hd:d.isRow=true) (hi:(prog.info? t).map (·.size)=some cs.size) (hA:∀W,C W→∀j v,cs[j]?=some v→W.cell? ⟨b,off+j,none⟩=some v)
 (h:K (a.put o.dst (.agg cs))):o.quiet prog a C K:=by
 refine⟨.agg cs,fun W hW=>?_,h⟩
 unfold Oper.quietAt execOp;simp only[ho,hx,Instr.loadAt,Instr.sureAddr,Sem.run_bind,Sem.run_pure,Result.andThen_ok,run_loadVar_mid W b off t cs.toList d (fun j v hj=>hA W hW j v (by simpa using hj)) hu hd (by simpa using hi)]
 exact⟨rfl,by simp⟩
theorem zj5 {ops:Array Oper} {rest:List Oper} {op:Oper} {a:Act} {Q:Exit→Act→World→Prop} {W:World} (hgd:op.guard=none) (t:TypeId) (x y:Operand) (ho:op.op=.store t x y) (cs:Array Value) (b off:Nat)
 (hx:a.eval x=.pointer (some ⟨b,off,none⟩)) (hy:a.eval y=.agg cs) (hi:(prog.info? t).map (·.size)=some cs.size) (h1:cs.all (·.oneCell')=true) (ht:W.there b off cs.size)
 (h:wpList prog ops Q rest (a.put op.dst undef) (W.setCells b off cs.toList)):wpList prog ops Q (op::rest) a W:=
 wpList_store_mid (P:=prog) hgd t x y ho b off cs hx hy ht hi h1 h
structure KpI (p q:Nat) (W W':World):Prop where
 size:W.heap.size≤W'.heap.size
 block:∀k,p≤k→k<q→W'.heap[k]?=W.heap[k]?
theorem KpI.refl (p q:Nat) (W:World):KpI p q W W:=⟨waJ _,fun _ _ _=>rfl⟩
theorem KpI.trans {p q:Nat} {X Y Z:World} (h:KpI p q X Y) (k:KpI p q Y Z):KpI p q X Z:=⟨waW h.size k.size,fun i h1 h2=>(k.block i h1 h2).trans (h.block i h1 h2)⟩
theorem KpI.sub {p q p' q':Nat} {W W':World} (h:KpI p q W W') (h1:p≤p') (h2:q'≤q):KpI p' q' W W':=⟨h.size,fun k hp hq=>h.block k oQ oQ⟩
theorem KpI.of_below {p q:Nat} {W W':World} (h:Below W.heap.size W W') (hq:q≤W.heap.size):KpI p q W W':=⟨h.size,fun k _ h2=>h.block k oQ⟩
theorem KpI.cell {p q:Nat} {W W':World} (h:KpI p q W W') {b o:Nat} (h1:p≤b) (h2:b<q) {v:Value} (hc:W.cell? ⟨b,o,none⟩=some v):W'.cell? ⟨b,o,none⟩=some v:=
 (wbK (h.block b h1 h2)).trans hc
theorem KpI.arr {p q:Nat} {W W':World} (h:KpI p q W W') {b m:Nat} {g:Nat→Value} (h1:p≤b) (h2:b<q) (hA:Arr W b m g):Arr W' b m g:=
 ⟨fun j hj=>h.cell h1 h2 (hA.1 j hj),fun j=>by
  have e:=h.block b h1 h2;have:=hA.2 j;unfold World.frozen? at this ⊢;rw[e];exact this⟩
end Go.Proofs.YtadefhkaejjfmaaGreatDoor
