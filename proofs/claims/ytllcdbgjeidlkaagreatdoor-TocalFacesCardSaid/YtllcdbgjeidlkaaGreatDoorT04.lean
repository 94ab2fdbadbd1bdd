/- A part of the proof: RGoes -/
import Derived.Test.YtllcdbgjeidlkaaGreatDoorT03
import Derived.Test.YtllcdbgjeidlkaaGreatDoorT00
import Derived.Deep.MidRow
import Derived.BigRegion
set_option maxHeartbeats 80000000
set_option maxRecDepth 100000
set_option linter.unusedSimpArgs false
set_option linter.unusedVariables false
namespace Go.Proofs.YtllcdbgjeidlkaaGreatDoor
open Go.Proofs.Tryz
open Go.RowKit
structure PS where
 l:List UInt8
 a:Int
 e:Int
def RdP (w:World) (b:Nat) (s:ByteArray) (σ:PS):Prop:=∃k,k<=s.size/\σ.l=s.data.toList.drop k/\Rdr w b s k σ.a σ.e
def zjO (v:Value) (b:Nat) (s:ByteArray) (σ:PS) (w:World) (x:Ending) (w':World):Prop:=x=.returned v/\RdP w' b s σ/\Chg b w w'
section
variable {w w' : World} {b : Nat} {s : ByteArray} {σ : PS}
theorem RdP.below (h:RdP w b s σ) (hb:Below w.heap.size w w'):RdP w' b s σ:=by
 obtain⟨k,hk,hl,hr⟩:=h;exact⟨k,hk,hl,hr.kept hb hr.lt⟩
theorem RdP.alloc (h:RdP w b s σ) (o:Obj):RdP (w.alloc o) b s σ:=h.below ((waC _ _).alloc (waJ _) _)
theorem RdP.set (h:RdP w b s σ) {B o:Nat} (hB:B≠b) (v:Value):RdP (w.setCell ⟨B,o,none⟩ v) b s σ:=by
 obtain⟨k,hk,hl,hr⟩:=h;exact⟨k,hk,hl,(wbJ _ _ _ _ (fun e=>hB (by simp[e]))).trans hr⟩
theorem RdP.drewN (h:RdP w b s σ) (q:Nat):RdP (w.drewN q) b s σ:=h
theorem RdP.drew (h:RdP w b s σ):RdP w.drew b s σ:=h
theorem RdP.lt (h:RdP w b s σ):b<w.heap.size:=by obtain⟨k,hk,hl,hr⟩:=h;exact hr.lt
theorem RdP.len (h:RdP w b s σ):σ.l.length<=s.size:=by obtain⟨k,hk,hl,hr⟩:=h;rw[hl,List.length_drop,zaT];omega
theorem RdP.grown {row:Option Nat} (h:RdP w b s σ) (hg:w.grownBy w' row) (hrow:row≠some b):RdP w' b s σ:=by
 obtain⟨k,hk,hl,hr⟩:=h;exact⟨k,hk,hl,(hg.block b hr.lt (Ne.symm hrow)).trans hr⟩
theorem zsm (hg:Chg b w w'):(∀B o,B<w.heap.size->B≠b->w'.cell? ⟨B,o,none⟩=w.cell? ⟨B,o,none⟩)/\(∀B o,B<w.heap.size->B≠b->w'.frozen? ⟨B,o,none⟩=w.frozen? ⟨B,o,none⟩):=
 ⟨fun B o h hn=>wbK (hg.block B h (fun e=>hn (by injection e))),fun B o h hn=>by
  have:=hg.block B h (fun e=>hn (by injection e))
  unfold World.frozen?;rw[this]⟩
end
def atP (N:Nat) (σ:PS):Int:=((N - σ.l.length:Nat):Int)
def zgD (σ:PS):Bool:=decide (σ.e≠0\/σ.l=[])
def zdL (σ:PS):Int:=if σ.e=0 then pPeek σ.l else 0
def zfI (p q:Int) (σ:PS):PS:=if σ.e=0 then⟨σ.l,if q=0 then σ.a else p,q⟩ else σ
def isP (cs:List UInt8) (σ:PS):PS×Bool:=if σ.e=0 then(match pIs cs σ.l with|some r=>(⟨r,σ.a,0⟩,true)|none=>(σ,false)) else(σ,false)
def zpt (N:Nat) (σ:PS):PS:=zfI (atP N σ) (znI σ.l) σ
def ziR (N:Nat) (cs:List UInt8) (σ:PS):PS×Int:=if(isP cs σ).2 then((isP cs σ).1,zdL σ) else(zpt N σ,0)
def ziS (p:UInt8->Bool) (σ:PS):PS×List UInt8:=if σ.e=0 then(⟨σ.l.dropWhile p,σ.a,0⟩,σ.l.takeWhile p) else(σ,[])
def zuH (most:Nat) (l:List UInt8):Int:=if l.takeWhile zav=[] then znI l else if most<(l.takeWhile zav).length then 4 else 0
def znK (N most:Nat) (σ:PS):PS×Int×Bool:=
 if σ.e=0 then if zuH most σ.l=0 then(⟨σ.l.dropWhile zav,σ.a,0⟩,ze7 (σ.l.takeWhile zav),true) else(⟨σ.l,atP N σ,zuH most σ.l⟩,0,false) else(σ,0,false)
def zeD (t:List UInt8) (σ:PS):PS×Bool:=if σ.e=0/\t≠[]/\t<+:σ.l then(⟨σ.l.drop t.length,σ.a,0⟩,true) else(σ,false)
section
variable {w : World} {b : Nat} {s : ByteArray} {σ : PS}
theorem zpu (s:ByteArray) (k:Nat) (hk:k<=s.size) (e:Int):zdf s k e=decide (e≠0\/s.data.toList.drop k=[]):=by
 unfold zdf;have:(k=s.size)↔(s.data.toList.drop k=[]):=by
  rw[List.drop_eq_nil_iff,zaT];omega
 simp only[this]
theorem zpv (h:RdP w b s σ):Calls prog 160 #[.pointer (some ⟨b,0,none⟩)] w (ziA (.bool (zgD σ)) w):=by
 obtain⟨k,hk,hl,hr⟩:=h;have:=ze6 b s k _ _ w hr;rw[zpu s k hk,<-hl] at this;exact this
theorem zjP {k:Nat} (hk:k<=s.size) (hl:σ.l=s.data.toList.drop k):atP s.size σ=(k:Int):=by
 unfold atP;rw[hl,List.length_drop,zaT];omega
theorem zsn (h:RdP w b s σ):Calls prog 107 #[.pointer (some ⟨b,0,none⟩)] w (zbE (.int .i64 (atP s.size σ)) w):=by
 obtain⟨k,hk,hl,hr⟩:=h;rw[zjP hk hl];exact zuC b s k _ _ w hr
theorem zpw (h:RdP w b s σ):Calls prog 99 #[.pointer (some ⟨b,0,none⟩)] w (ziA (.int .u8 (zdL σ)) w):=by
 obtain⟨k,hk,hl,hr⟩:=h;have:=zmu b s k _ _ w hr hk;have hp:znE s k σ.e=zdL σ:=by
  unfold zdL;rw[hl]
  by_cases he:σ.e=0
  ·rw[if_pos he,he]
   by_cases hlt:k<s.size
   ·rw[ze8 s k hlt,ziP hlt];rfl
   ·obtain rfl:k=s.size:=by omega
    rw[zgk,zfH (by simp[zdf])];rfl
  ·rw[if_neg he,zfH (zdX he)]
 rw[hp] at this;exact this
theorem zso (h:RdP w b s σ):Calls prog 45 #[.pointer (some ⟨b,0,none⟩)] w (ziA (.tuple #[.int .i64 σ.a,.int .i64 σ.e]) w):=by
 obtain⟨k,hk,hl,hr⟩:=h;exact zpn b s k _ _ w hr
theorem ziA.toP {v:Value} {e:Ending} {w':World} (h:RdP w b s σ) (g:ziA v w e w'):zjO v b s σ w e w':=by
 obtain⟨rfl,n,rfl⟩:=g;exact⟨rfl,h.drewN n,(Chg.refl _ _).drewN n⟩
theorem zpx (h:RdP w b s σ):Calls prog 160 #[.pointer (some ⟨b,0,none⟩)] w (zjO (.bool (zgD σ)) b s σ w):=(zpv h).mono fun _ _ g=>ziA.toP h g
theorem zvl (h:RdP w b s σ):Calls prog 99 #[.pointer (some ⟨b,0,none⟩)] w (zjO (.int .u8 (zdL σ)) b s σ w):=(zpw h).mono fun _ _ g=>ziA.toP h g
theorem zpy (p q:Int) (h:RdP w b s σ):Calls prog 97 #[.pointer (some ⟨b,0,none⟩),.int .i64 p,.int .i64 q] w (zjO (.tuple #[]) b s (zfI p q σ) w):=by
 obtain⟨k,hk,hl,hr⟩:=h;refine(zgi b s k _ _ p q w hr).mono ?_;rintro e w1 ⟨rfl,h1,g1⟩;refine⟨rfl,⟨k,hk,?_,?_⟩,g1⟩
 ·unfold zfI;split<;>exact hl
 ·unfold zfI;unfold zbz zdY at h1
  by_cases he:σ.e=0
  ·rw[if_pos he]
   by_cases hq:q=0
   ·rw[if_neg (by simp[hq]),if_pos he] at h1
    simp only[hq,if_true];rw[hq] at h1;exact h1
   ·rw[if_pos ⟨he,hq⟩,if_pos he] at h1;simp only[if_neg hq];exact h1
  ·rw[if_neg he];rw[if_neg (by simp[he]),if_neg he] at h1
   exact h1
theorem zmw {k:Nat} (hk:k<=s.size):zhz s k=znI (s.data.toList.drop k):=by
 unfold zhz znI
 by_cases hlt:k<s.size
 ·rw[if_neg (by omega),ze8 s k hlt,if_neg (by simp)]
 ·obtain rfl:k=s.size:=by omega
  rw[if_pos rfl,zgk,if_pos rfl]
theorem zsp (cs:List UInt8) (c:UInt8) (l:List UInt8):pIs cs (c::l)=if cs.elem c=true then some l else none:=rfl
theorem zmx {k:Nat} (hk:k<=s.size) (cs:List UInt8):isB s k 0 cs=(pIs cs (s.data.toList.drop k)).isSome/\∀r,pIs cs (s.data.toList.drop k)=some r->k<s.size/\r=s.data.toList.drop (k+1):=by
 by_cases hlt:k<s.size
 ·rw[zuE hlt,ze8 s k hlt];rw[zsp]
  by_cases hc:cs.elem s[k]=true
  ·rw[if_pos hc,hc];refine⟨rfl,fun r hr=>?_⟩
   cases hr;exact⟨hlt,rfl⟩
  ·rw[if_neg hc];refine⟨by simpa using hc,fun r hr=>by cases hr⟩
 ·obtain rfl:k=s.size:=by omega
  rw[zgj (by simp[zdf]),zgk]
  simp[pIs]
variable (hs : s.size <= 9223372036854775807)
include hs
theorem zpz {A:Option Addr} {n cp:Nat} {cs:List UInt8} (h:RdP w b s σ) (hA:zbf w A n cs) (hn:n<=9223372036854775807):
 Calls prog 161 #[.pointer (some ⟨b,0,none⟩),.slice A n cp] w (zjO (.bool (isP cs σ).2) b s (isP cs σ).1 w):=by
 obtain⟨k,hk,hl,hr⟩:=h;have:=zuF b s k _ _ A n cp cs w hr hs hk hA hn;unfold isP
 by_cases he:σ.e=0
 ·rw[if_pos he,hl];rw[he] at this;obtain⟨hb,hx⟩:=zmx hk cs;unfold isK at this;rw[hb] at this;cases hq:pIs cs (s.data.toList.drop k) with
  |none=>
   rw[hq] at this;refine this.mono ?_;rintro e w1 ⟨rfl,h3,g3⟩;exact⟨rfl,⟨k,hk,hl,by rw[he];exact h3⟩,g3⟩
  |some r=>
   rw[hq] at this;refine this.mono ?_;rintro e w1 ⟨rfl,h3,g3⟩;obtain⟨h4,rfl⟩:=hx r hq;exact⟨rfl,⟨k+1,h4,rfl,h3⟩,g3⟩
 ·rw[if_neg he];have hb:isB s k σ.e cs=false:=zgj (zdX he);rw[isK,hb] at this;refine this.mono ?_;rintro e w1 ⟨rfl,h3,g3⟩;exact⟨rfl,⟨k,hk,hl,h3⟩,g3⟩
theorem ziT {A:Option Addr} {n cp:Nat} {cs:List UInt8} (h:RdP w b s σ) (hA:zbf w A n cs) (hn:n<=9223372036854775807):
 Calls prog 164 #[.pointer (some ⟨b,0,none⟩),.slice A n cp] w (zjO (.int .u8 (ziR s.size cs σ).2) b s (ziR s.size cs σ).1 w):=by
 obtain⟨k,hk,hl,hr⟩:=h;have hat:=zjP hk hl;have:=zsh b s k _ _ A n cp cs w hr hs hk hA hn;unfold ziR isP
 by_cases he:σ.e=0
 ·simp only[if_pos he];rw[hl];rw[he] at this;obtain⟨hb,hx⟩:=zmx hk cs;unfold isK at this;rw[hb] at this;cases hq:pIs cs (s.data.toList.drop k) with
  |none=>
   rw[hq] at this;simp only[Option.isSome_none,Bool.false_eq_true,if_false] at this ⊢;refine this.mono ?_;rintro e w1 ⟨rfl,h3,g3⟩;refine⟨rfl,⟨k,hk,?_,?_⟩,g3⟩
   ·unfold zpt zfI;rw[if_pos he];exact hl
   ·unfold zpt zfI;rw[if_pos he,hat,hl];have hne:=zmv (s.data.toList.drop k);rw[zmw hk] at h3;unfold zbz zdY at h3;rw[if_pos ⟨rfl,hne⟩,if_pos rfl] at h3;simp only[if_neg hne];exact h3
  |some r=>
   obtain⟨h4,rfl⟩:=hx r hq;rw[hq] at this;simp only[Option.isSome_some,if_true] at this ⊢;have hpk:znE s k 0=zdL σ:=by
    unfold zdL;rw[if_pos he,hl,ziP h4,ze8 s k h4];rfl
   rw[hpk] at this;refine this.mono ?_;rintro e w1 ⟨rfl,h3,g3⟩;exact⟨rfl,⟨k+1,h4,rfl,h3⟩,g3⟩
 ·simp only[if_neg he,Bool.false_eq_true,if_false];have hb:isB s k σ.e cs=false:=zgj (zdX he);rw[isK,hb] at this;simp only[Bool.false_eq_true,if_false] at this;refine this.mono ?_;rintro e w1 ⟨rfl,h3,g3⟩;unfold zbz zdY at h3;rw[if_neg (by simp[he]),if_neg he] at h3
  refine⟨rfl,⟨k,hk,?_,?_⟩,g3⟩
  ·unfold zpt zfI;rw[if_neg he];exact hl
  ·unfold zpt zfI;rw[if_neg he];exact h3
omit hs in
theorem zvm {p:UInt8->Bool} {k:Nat} (hk:k<=s.size) (hl:σ.l=s.data.toList.drop k):zbq p s k σ.e<=s.size/\(ziS p σ).1.l=s.data.toList.drop (zbq p s k σ.e)/\(ziS p σ).2=(s.extract k (zbq p s k σ.e)).data.toList/\(ziS p σ).1.a=σ.a/\(ziS p σ).1.e=σ.e:=by
 refine⟨(ziQ p s k σ.e hk).2,?_⟩;unfold ziS
 by_cases he:σ.e=0
 ·obtain⟨h1,h2⟩:=zps p k hk;rw[if_pos he,he,hl];exact⟨h1.symm,h2.symm,rfl,rfl⟩
 ·rw[if_neg he,zjN p k he,zd0];exact⟨hl,rfl,rfl,rfl⟩
theorem zpA {most:Nat} (hm:most<=18) (h:RdP w b s σ):
 Calls prog 252 #[.pointer (some ⟨b,0,none⟩),.int .i64 (most:Int)] w (zjO (.tuple #[.int .i64 (znK s.size most σ).2.1,.bool (znK s.size most σ).2.2]) b s (znK s.size most σ).1 w):=by
 obtain⟨k,hk,hl,hr⟩:=h;have hat:=zjP hk hl;obtain⟨h1,h2,h3,h4,h5⟩:=zvm (p:=zav) hk hl;have:=znH b s k _ _ (most:Int) w hr hs hk;unfold znK
 by_cases he:σ.e=0
 ·rw[if_pos he];rw[he] at this h1 h2 h3;have hT:σ.l.takeWhile zav=(ziS zav σ).2:=by unfold ziS;rw[if_pos he]
  have hD:σ.l.dropWhile zav=(ziS zav σ).1.l:=by unfold ziS;rw[if_pos he]
  have hrl:zwK zav s k 0=σ.l.takeWhile zav:=by rw[hT,h3,zcs];rfl
  have hle:=(ziQ zav s k 0 hk).1;have hlen:(σ.l.takeWhile zav).length=zbq zav s k 0 - k:=by
   rw[hT,h3,zaT];simp;omega
  have hemp:σ.l.takeWhile zav=[]↔zbq zav s k 0=k:=by
   rw[<-List.length_eq_zero_iff,hlen];omega
  have hcond:znG s k 0 (most:Int)=decide (zuH most σ.l=0):=by
   unfold znG zuH;rw[waQ,waM,waM]
   by_cases h0:σ.l.takeWhile zav=[]
   ·rw[if_pos h0];have:=hemp.1 h0;have hne:=zmv σ.l;constructor
    ·intro h;exact absurd this h.1
    ·intro h;exact absurd h hne
   ·rw[if_neg h0];have h0':¬zbq zav s k 0=k:=fun h=>h0 (hemp.2 h)
    by_cases h7:most<(σ.l.takeWhile zav).length
    ·rw[if_pos h7];constructor
     ·intro h;omega
     ·intro h;exact absurd h dQ
    ·rw[if_neg h7];exact⟨fun _=>rfl,fun _=>⟨h0',by omega,by omega⟩⟩
  by_cases hz:zuH most σ.l=0
  ·rw[if_pos hz];rw[hcond,waP hz] at this;simp only[if_true] at this;rw[hrl] at this;refine this.mono ?_;rintro e w1 ⟨rfl,h6,g6⟩;exact⟨rfl,⟨_,h1,by rw[<-h2];exact hD,h6⟩,g6⟩
  ·rw[if_neg hz];rw[hcond,waO hz] at this;simp only[Bool.false_eq_true,if_false] at this;have hE:zhP s k 0=zuH most σ.l:=by
    unfold zhP zuH;rw[zmw hk,<-hl]
    by_cases h0:σ.l.takeWhile zav=[]
    ·rw[if_pos h0,if_pos (hemp.1 h0)]
    ·rw[if_neg h0,if_neg (fun h=>h0 (hemp.2 h))]
     by_cases h7:most<(σ.l.takeWhile zav).length
     ·rw[if_pos h7]
     ·exact absurd (by unfold zuH;rw[if_neg h0,if_neg h7]) hz
   rw[hE] at this;refine this.mono ?_;rintro e w1 ⟨rfl,h6,g6⟩;unfold zbz zdY at h6;rw[if_pos ⟨rfl,hz⟩,if_pos rfl] at h6;exact⟨rfl,⟨k,hk,hl,by rw[hat];exact h6⟩,g6⟩
 ·rw[if_neg he];have hb:znG s k σ.e (most:Int)=false:=by simp[znG,zjN zav k he]
  rw[hb] at this;simp only[Bool.false_eq_true,if_false] at this;refine this.mono ?_;rintro e w1 ⟨rfl,h6,g6⟩;unfold zbz zdY at h6;rw[if_neg (by simp[he]),if_neg he] at h6
  exact⟨rfl,⟨k,hk,hl,h6⟩,g6⟩
omit hs in
def newP (s:ByteArray):PS:=⟨s.data.toList,zjM s,zw5 s⟩
def zpB (s:ByteArray) (w:World) (x:Ending) (w':World):Prop:=∃b,w.heap.size<=b/\x=.returned (.pointer (some ⟨b,0,none⟩))/\RdP w' b s (newP s)/\Below w.heap.size w w'
theorem zw6 (w:World):Calls prog 43 #[.string s] w (zpB s w):=by
 refine(zvj s w hs).mono ?_;rintro e w1 ⟨b,hb,rfl,hr,hbl⟩;exact⟨b,hb,rfl,⟨0,waK _,rfl,hr⟩,hbl⟩
end
theorem Arr.chg {w w':World} {b B m:Nat} {g:Nat->Value} (h:Arr w B m g) (hm:0<m) (hg:Chg b w w') (hne:B≠b):Arr w' B m g:=
 ⟨fun j hj=>hg.cell hne (h.1 j hj),fun j=>hg.frozen hne (h.lt hm) (h.2 j)⟩
theorem ze9 {fn:Func} {p t u:Tmp} {ty:TypeId} (h:fn.results=#[.cell p ty,.tmp t,.tmp u]) (tmps:Array Value) (P:Program) (w:World):
 (results fn tmps).run P w=((asAddr (tmps.getD p undef)).run P w).andThen fun a w₁=>((loadVar ty a).run P w₁).andThen fun v w₂=>.ok (.tuple #[v,tmps.getD t undef,tmps.getD u undef]) w₂:=by
 simp only[results,h];simp[Sem.run_bind,Result.andThen]
abbrev itV (i:It):Value:=.agg #[.int .i64 i.k,.int .i64 i.f,.int .i64 i.t,.int .i64 i.s]
def itG (i:It) (j:Nat):Value:=.int .i64 (if j=0 then i.k else if j=1 then i.f else if j=2 then i.t else i.s)
abbrev zhR (w:World) (B:Nat) (i:It):Prop:=Arr w B 4 (itG i)
theorem zhR.cells {w:World} {B:Nat} {i:It} (h:zhR w B i):w.cell? ⟨B,0,none⟩=some (.int .i64 i.k)/\w.cell? ⟨B,1,none⟩=some (.int .i64 i.f)/\w.cell? ⟨B,2,none⟩=some (.int .i64 i.t)/\w.cell? ⟨B,3,none⟩=some (.int .i64 i.s)/\∀j,w.frozen? ⟨B,j,none⟩=false:=
 ⟨h.1 0 dQ,h.1 1 dQ,h.1 2 dQ,h.1 3 dQ,h.2⟩
theorem zmy (w:World) (k f t s:Int) (ty:TypeId):zhR (w.alloc (.cells #[.int .i64 k,.int .i64 f,.int .i64 t,.int .i64 s] ty)) w.heap.size ⟨k,f,t,s⟩:=
 zdq w #[.int .i64 k,.int .i64 f,.int .i64 t,.int .i64 s] ty (itG ⟨k,f,t,s⟩) (by
  intro j hj;obtain rfl|rfl|rfl|rfl:j=0\/j=1\/j=2\/j=3:=by simp at hj;omega
  all_goals rfl)
theorem zhR.alloc {w:World} {B:Nat} {i:It} (h:zhR w B i) (o:Obj):zhR (w.alloc o) B i:=Arr.alloc h (Arr.lt h dQ) o
theorem zhR.chg {w w':World} {B b:Nat} {i:It} (h:zhR w B i) (hg:Chg b w w') (hne:¬B=b):zhR w' B i:=Arr.chg h dQ hg hne
theorem RdP.set4 {w:World} {b R:Nat} {s:ByteArray} {σ:PS} (h:RdP w b s σ) (hR:R≠b) (v0 v1 v2 v3:Value):RdP ((((w.setCell ⟨R,0,none⟩ v0).setCell ⟨R,1,none⟩ v1).setCell ⟨R,2,none⟩ v2).setCell ⟨R,3,none⟩ v3) b s σ:=
 (((h.set hR v0).set hR v1).set hR v2).set hR v3
theorem Chg.set4 {w w':World} {b R:Nat} (h:Chg b w w') (hR:w.heap.size<=R) (v0 v1 v2 v3:Value):Chg b w ((((w'.setCell ⟨R,0,none⟩ v0).setCell ⟨R,1,none⟩ v1).setCell ⟨R,2,none⟩ v2).setCell ⟨R,3,none⟩ v3):=
 (((h.setNew hR).setNew hR).setNew hR).setNew hR
abbrev kV (b:Nat) (s:ByteArray):Value:=.agg #[.pointer (some ⟨b,0,none⟩),.string s]
def zdg (w:World) (B b:Nat) (s:ByteArray):Prop:=w.cell? ⟨B,0,none⟩=some (.pointer (some ⟨b,0,none⟩))/\w.cell? ⟨B,1,none⟩=some (.string s)
section
variable {w w' : World} {B b : Nat} {s : ByteArray}
theorem zdg.lt (h:zdg w B b s):B<w.heap.size:=waR w _ h.1
theorem zdg.chg (h:zdg w B b s) (hg:Chg b w w') (hne:B≠b):zdg w' B b s:=⟨hg.cell hne h.1,hg.cell hne h.2⟩
theorem zdg.below (h:zdg w B b s) (hb:Below w.heap.size w w'):zdg w' B b s:=⟨(hb.cell (p:=⟨B,0,none⟩) h.lt).trans h.1,(hb.cell (p:=⟨B,1,none⟩) h.lt).trans h.2⟩
theorem zdg.alloc (h:zdg w B b s) (o:Obj):zdg (w.alloc o) B b s:=h.below ((waC _ _).alloc (waJ _) _)
theorem zdg.set (h:zdg w B b s) {C o:Nat} (hne:C≠B) (v:Value):zdg (w.setCell ⟨C,o,none⟩ v) B b s:=
 ⟨by rw[waU _ _ _ _ (by intro e;injection e with e1;exact hne e1)];exact h.1,by rw[waU _ _ _ _ (by intro e;injection e with e1;exact hne e1)];exact h.2⟩
theorem zdg.grown {row:Option Nat} (h:zdg w B b s) (hg:w.grownBy w' row) (hrow:row≠some B):zdg w' B b s:=
 ⟨hg.cell h.1 (Ne.symm hrow),hg.cell h.2 (Ne.symm hrow)⟩
theorem zdu (w:World) (b:Nat) (s:ByteArray) (t:TypeId):zdg (w.alloc (.cells #[.pointer (some ⟨b,0,none⟩),.string s] t)) w.heap.size b s:=⟨zaa rfl rfl,zaa rfl rfl⟩
end
theorem zpC (w:World) (b:Nat) (s:ByteArray) (t t':TypeId):zhR ((w.alloc (.cells #[.pointer (some ⟨b,0,none⟩),.string s] t)).alloc (.cells #[.int .i64 0,.int .i64 0,.int .i64 0,.int .i64 0] t')) (w.heap.size+1) ⟨0,0,0,0⟩:=by
 have:=zmy (w.alloc (.cells #[.pointer (some ⟨b,0,none⟩),.string s] t)) 0 0 0 0 t';simpa using this
theorem zdg.cells2 {w:World} {B b:Nat} {s:ByteArray} (h:zdg w B b s):w.cell? ⟨B,0,none⟩=some (.pointer (some ⟨b,0,none⟩))/\w.cell? ⟨B,1,none⟩=some (.string s):=h
theorem zaD {fn:Func} {p t:Tmp} {ty:TypeId} (h:fn.results=#[.cell p ty,.tmp t]) (tmps:Array Value) (P:Program) (w:World):
 (results fn tmps).run P w=((asAddr (tmps.getD p undef)).run P w).andThen fun a w₁=>((loadVar ty a).run P w₁).andThen fun v w₂=>.ok (.tuple #[v,tmps.getD t undef]) w₂:=by
 simp only[results,h];simp[Sem.run_bind,Result.andThen]
theorem zba {B b:Nat} (hB:B<=b) {w0:World}:∀(vs:List Value) (o:Nat) (w:World),Below B w0 w->Below B w0 (w.setCells b o vs)
 |[],_,_,h=>h
 |v::vs,o,w,h=>zba hB vs (o+1) (w.setCell ⟨b,o,none⟩ v) (h.setCell hB _)
theorem zcK (w:World) (C:Array Value) (t:TypeId):(w.alloc (.cells C t)).there w.heap.size 0 C.size:=fun j hj=>by
 rw[waH];refine⟨?_,by go_simp⟩
 rw[zaa rfl (wbI hj)];rfl
theorem zgE (b:Nat):∀(vs:List Value) (o:Nat) (w:World),(w.setCells b o vs).heap.size=w.heap.size
 |[],_,_=>rfl
 |v::vs,o,w=>by rw[World.setCells,zgE b vs (o+1) _];simp
theorem zhA {w:World} {b':Nat} {n:Nat} (h:w.there b' 0 n) (b:Nat) (vs:List Value) (hl:∀j,j<vs.length->(w.cell? ⟨b,0+j,none⟩).isSome=true):(w.setCells b 0 vs).there b' 0 n:=fun j hj=>by
 obtain⟨h1,h2⟩:=h j hj;refine⟨?_,by rw[World.frozen?_setCells];exact h2⟩
 by_cases hb:b'=b
 ·subst hb
  by_cases hj2:j<vs.length
  ·rw[World.cell?_setCells_in b' vs 0 w hl j hj2];rfl
  ·rw[World.cell?_setCells_out b' vs 0 w _ (fun _ _=>.inr (by show 0+vs.length<=0+j;omega))];exact h1
 ·rw[World.cell?_setCells_out b vs 0 w _ (fun h _=>absurd h hb)];exact h1
theorem zag {ops:Array Oper} {rest:List Oper} {op:Oper} {a:Act} {Q:Exit->Act->World->Prop} {W:World} (hw:Region.wanted op (yielded ops a.tmps)=true) (t:TypeId) (x:Operand) (ho:op.op=.load t x) (cs:Array Value) {d:TypeDesc} (b:Nat) (off:Nat)
 (hx:a.eval x=.pointer (some ⟨b,off,none⟩)) (hu:prog.underlying t=some d) (hd:d.isRow=true) (hi:(prog.info? t).map (·.size)=some cs.size) (hA:∀j v,cs[j]?=some v->W.cell? ⟨b,off+j,none⟩=some v)
 (h:wpList prog ops Q rest (a.put op.dst (.agg cs)) W):wpList prog ops Q (op::rest) a W:=
 BigFrame.wpList_want hw fun _ hK=>wp_load_mid (P:=prog) t x ho b off hx cs.toList d (fun j v hj=>hA j v (by simpa using hj)) hu hd (by simpa using hi) (hK _ _ (by simpa using h))
theorem zdM {W:World} {b:Nat} {cs:Array Value} (h:∀j v,cs[j]?=some v->W.cell? ⟨b,j,none⟩=some v):∀j v,cs[j]?=some v->W.cell? ⟨b,0+j,none⟩=some v:=fun j v hj=>by rw[waH];exact h j v hj
theorem zaL {ops:Array Oper} {rest:List Oper} {op:Oper} {a:Act} {Q:Exit->Act->World->Prop} {V:World} {tz:TypeId} (hw:Region.wanted op (yielded ops a.tmps)=true) (t:TypeId) (x y:Operand) (ho:op.op=.store t x y) (cs Z:Array Value)
 (hx:a.eval x=.pointer (some ⟨V.heap.size,0,none⟩)) (hy:a.eval y=.agg cs) (hi:(prog.info? t).map (·.size)=some cs.size) (h1:cs.all (·.oneCell')=true) (hZ:Z.size=cs.size)
 (h:∀W',Below V.heap.size V W'->Arr W' V.heap.size cs.size (fun j=>cs.getD j undef)->W'.heap.size=V.heap.size+1->wpList prog ops Q rest (a.put op.dst undef) W'):wpList prog ops Q (op::rest) a (V.alloc (.cells Z tz)):=by
 have ht:(V.alloc (.cells Z tz)).there V.heap.size 0 cs.size:=by rw[<-hZ];exact zcK V Z tz
 refine BigFrame.wpList_want hw fun K hK=>wp_store_mid (P:=prog) t x y ho V.heap.size 0 cs hx hy ht hi h1 (hK _ _ (h _ ?_ ⟨fun j hj=>?_,fun j=>?_⟩ ?_))
 ·exact zba (waJ _) _ _ _ ((waC _ _).alloc (waJ _) _)
 ·have h2:=World.rangeAt_setCells_same (V.alloc (.cells Z tz)) V.heap.size 0 cs.toList (by simpa using ht) j cs[j] (by simp[hj])
  rw[waH] at h2;rw[h2];show _=some (cs.getD j undef);rw[wbL,wbI hj];rfl
 ·rw[World.frozen?_setCells]
  go_simp
 ·rw[zgE];simp
def updG (g:Nat->Value) (i:Nat) (v:Value) (j:Nat):Value:=if j=i then v else g j
theorem Arr.updG {w:World} {b m:Nat} {g:Nat->Value} (h:Arr w b m g) (i:Nat) (hi:i<m) (v:Value):Arr (w.setCell ⟨b,i,none⟩ v) b m (updG g i v):=
 h.set i hi v (if_pos rfl) (fun j _ hn=>if_neg hn)
theorem ziU {w:World} {b:Nat} {cs:Array Value} (h:Arr w b cs.size (fun j=>cs.getD j undef)):∀j v,cs[j]?=some v->w.cell? ⟨b,j,none⟩=some v:=fun j v hj=>by
 have hl:=(waL.1 hj).1;rw[h.1 j hl];show some (cs.getD j undef)=_;rw[wbL,hj];rfl
theorem zcF {o:Oper} {a:Act} {C:World->Prop} {K:Act->Prop} (t:TypeId) (x:Operand) (ho:o.op=.load t x) (cs:Array Value) {d:TypeDesc} (b off:Nat)
 (hx:a.eval x=.pointer (some ⟨b,off,none⟩)) (hu:prog.underlying t=some d) (hd:d.isRow=true) (hi:(prog.info? t).map (·.size)=some cs.size) (hA:∀W,C W->∀j v,cs[j]?=some v->W.cell? ⟨b,off+j,none⟩=some v)
 (h:K (a.put o.dst (.agg cs))):o.quiet prog a C K:=by
 refine⟨.agg cs,fun W hW=>?_,h⟩
 unfold Oper.quietAt execOp;simp only[ho,hx,Instr.loadAt,Instr.sureAddr,Sem.run_bind,Sem.run_pure,Result.andThen_ok,run_loadVar_mid W b off t cs.toList d (fun j v hj=>hA W hW j v (by simpa using hj)) hu hd (by simpa using hi)]
 exact⟨rfl,by simp⟩
theorem zc1 {ops:Array Oper} {rest:List Oper} {op:Oper} {a:Act} {Q:Exit->Act->World->Prop} {W:World} (hgd:op.guard=none) (t:TypeId) (x y:Operand) (ho:op.op=.store t x y) (cs:Array Value) (b off:Nat)
 (hx:a.eval x=.pointer (some ⟨b,off,none⟩)) (hy:a.eval y=.agg cs) (hi:(prog.info? t).map (·.size)=some cs.size) (h1:cs.all (·.oneCell')=true) (ht:W.there b off cs.size)
 (h:wpList prog ops Q rest (a.put op.dst undef) (W.setCells b off cs.toList)):wpList prog ops Q (op::rest) a W:=
 wpList_store_mid (P:=prog) hgd t x y ho b off cs hx hy ht hi h1 h
structure KpI (p q:Nat) (W W':World):Prop where
 size:W.heap.size<=W'.heap.size
 block:∀k,p<=k->k<q->W'.heap[k]?=W.heap[k]?
theorem KpI.refl (p q:Nat) (W:World):KpI p q W W:=⟨waJ _,fun _ _ _=>rfl⟩
theorem KpI.trans {p q:Nat} {X Y Z:World} (h:KpI p q X Y) (k:KpI p q Y Z):KpI p q X Z:=⟨waW h.size k.size,fun i h1 h2=>(k.block i h1 h2).trans (h.block i h1 h2)⟩
theorem KpI.sub {p q p' q':Nat} {W W':World} (h:KpI p q W W') (h1:p<=p') (h2:q'<=q):KpI p' q' W W':=⟨h.size,fun k hp hq=>h.block k oQ oQ⟩
theorem KpI.of_below {p q:Nat} {W W':World} (h:Below W.heap.size W W') (hq:q<=W.heap.size):KpI p q W W':=⟨h.size,fun k _ h2=>h.block k oQ⟩
theorem KpI.cell {p q:Nat} {W W':World} (h:KpI p q W W') {b o:Nat} (h1:p<=b) (h2:b<q) {v:Value} (hc:W.cell? ⟨b,o,none⟩=some v):W'.cell? ⟨b,o,none⟩=some v:=
 (wbK (h.block b h1 h2)).trans hc
theorem KpI.arr {p q:Nat} {W W':World} (h:KpI p q W W') {b m:Nat} {g:Nat->Value} (h1:p<=b) (h2:b<q) (hA:Arr W b m g):Arr W' b m g:=
 ⟨fun j hj=>h.cell h1 h2 (hA.1 j hj),fun j=>by
  have e:=h.block b h1 h2;have:=hA.2 j;unfold World.frozen? at this ⊢;rw[e];exact this⟩
end Go.Proofs.YtllcdbgjeidlkaaGreatDoor
