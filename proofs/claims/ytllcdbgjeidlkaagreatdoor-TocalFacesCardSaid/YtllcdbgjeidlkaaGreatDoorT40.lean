/- A part of the proof: WAnyG -/
import Derived.Test.YtllcdbgjeidlkaaGreatDoorT04
import Derived.Test.YtllcdbgjeidlkaaGreatDoorT28
import Derived.Laws.RangeAny
import Derived.Laws.Cover4
import Derived.Laws.Runes
import Derived.Lib.OthersKept
import Derived.Lib.IndexAny
import Derived.Test.YtllcdbgjeidlkaaGreatDoorT35
import Derived.Test.YtllcdbgjeidlkaaGreatDoorT34
import Derived.Test.YtllcdbgjeidlkaaGreatDoorT39
import Derived.Test.YtllcdbgjeidlkaaGreatDoorT36
import Derived.Test.YtllcdbgjeidlkaaGreatDoorT29
import Derived.Test.YtllcdbgjeidlkaaGreatDoorT08
set_option maxHeartbeats 80000000
set_option maxRecDepth 100000
set_option linter.unusedSimpArgs false
set_option linter.unusedVariables false
namespace Go.Proofs.YtllcdbgjeidlkaaGreatDoor
open Go.Proofs.Tryz
open Go.RowKit
theorem zwj (r:Int) (h:128<=r):2<=(Utf8.encode r).size/\(Utf8.encode r).size<=4/\∀h1:1<(Utf8.encode r).size,128<=((Utf8.encode r)[1]'h1).toNat:=by
 unfold Utf8.encode;dsimp only;have hc:128<=(if Utf8.valid r=true then r.toNat else Utf8.runeError):=by
  split
  ·omega
  ·decide
 generalize (if Utf8.valid r=true then r.toNat else Utf8.runeError)=c at *
 rw[if_neg (by omega)]
 split
 ·refine⟨by simp[ByteArray.size],by simp[ByteArray.size],fun h1=>?_⟩
  show 128<=(UInt8.ofNat (128+c%64)).toNat;simp;omega
 ·split
  ·refine⟨by simp[ByteArray.size],by simp[ByteArray.size],fun h1=>?_⟩
   show 128<=(UInt8.ofNat (128+c / 64%64)).toNat;simp;omega
  ·refine⟨by simp[ByteArray.size],by simp[ByteArray.size],fun h1=>?_⟩
   show 128<=(UInt8.ofNat (128+c / 4096%64)).toNat;simp;omega
theorem zir (w:World) (t:ByteArray) (i:Nat):Below w.heap.size w (w.iter t i):=(waC _ w).alloc (waJ _) _
theorem zoE (t:ByteArray) (w:World) (h2:t.size=2) (h128:∀(j:Nat) (hj:j<t.size),t[j].toNat<128):
 Calls prog 212 #[.string t,.int .i32 65533] w (Ret (.int .i64 (-1)) w):=by
 have H2:=waV h2;have H128:=waV h128;clear h128 h2;go_enter func212,ntmps212;go_wp2
 go_loopg [5,6] t.size (fun g _ _ wx=>∃i:Nat,i+g=t.size/\wx=w.iter t i)
 case atStart=>exact⟨0,by omega,rfl⟩
 case round=>
  obtain⟨i,hig,rfl⟩:=hrel;cases gk with
  |zero=>
   obtain rfl:i=t.size:=by omega
   have hnx:=run_next_end (P:=prog) w t t.size;go_wp2;go_ret;exact⟨rfl,zir w t _⟩
  |succ g=>
   have hi:i<t.size:=by omega
   have hx128:=H128.out i hi;have hnx:=fun ty=>run_next_ascii (P:=prog) w t i ty hi hx128
   have hne:((t[i].toNat:Int)==65533)=false:=by simp;omega
   go_wp2
   go_roundg g
   case measure=>omega
   case rel=>exact⟨i+1,by omega,rfl⟩
theorem zoF (t:ByteArray) (r:Int) (w:World) (h2:t.size=2) (h128:∀(j:Nat) (hj:j<t.size),t[j].toNat<128) (hr0:128<=r) (hr1:r<=2147483647) (hf:r≠65533):
 Calls prog 212 #[.string t,.int .i32 r] w (Ret (.int .i64 (-1)) w):=by
 have h1:¬r<128:=by omega
 have he':(r==65533)=false:=by simpa using hf
 obtain⟨e1,e2,e3⟩:=zwj r hr0;have hV:=waV (fun W=>Tryz.utf8_ValidRune r W)
 have hcv:=fun W=>run_convert_int_string (P:=prog) W 21 9 .i32 r (by rw[underlying21];rfl) underlying9
 generalize Utf8.encode r=rs at *;cases hv:Lib.validRune r with
 |false=>
  rw[hv] at hV;clear hv;go_enter func212,ntmps212;go_wp2_with fail;refine(hV.out _).mono ?_;rintro e w1 ⟨rfl,rfl⟩;go_wp2;go_ret;exact⟨rfl,waC _ _⟩
 |true=>
  rw[hv] at hV;clear hv
  by_cases hs2:rs.size=2
  ·have hr2:(rs.size:Int)=2:=by omega
   have ht2:(t.size:Int)=2:=by omega
   have hi1:1<t.size:=by omega
   have hi2:1<rs.size:=by omega
   have hx:=h128 1 hi1;have hy:=e3 hi2;have hne:((t[1].toNat:Int) !=(rs[1].toNat:Int))=true:=by simp;omega
   have hB:Hid (∀(x:ByteArray) W,x.data.toList=[]->Calls prog 245 #[.string x,.int .u8 (rs[1].toNat:Int)] W (zbE (.int .i64 (-1)) W)):=fun x W hx=>by
    have:=Tryz.strings_IndexByte x (rs[1].toNat:Int) W;rw[hx,show ∀c,Lib.indexByte [] c=-1 from fun c=>rfl] at this
    exact this.mono fun _ _ hh=>⟨hh.1,hh.2.symm⟩
   have hw2:IntKind.i64.wrap 2=2:=by decide
   go_enter func212,ntmps212;go_wp2_with fail;refine(hV.out _).mono ?_;rintro e w1 ⟨rfl,rfl⟩;go_wp2;go_step3;go_wp2;refine wp_loop_rounds 1 ?_;rw[rounds_succ];go_wp2;go_step3;go_wp2
   go_quiet (fail)
   have hbW:Below w1.heap.size w1 (w1.drewN nq):=zaj (waC _ _) _;generalize w1.drewN nq=W1 at *;go_wp2
   go_quiet ((go_at_call 245;exact zcJ (hB.out ByteArray.empty _ rfl)))
   go_wp2
   (try rw[Exit.noGoto_ret])
   go_ret;exact⟨rfl,zaj hbW _⟩
  ·have hr3:¬(rs.size:Int) - 1<2:=by omega
   have ht2:(t.size:Int)=2:=by omega
   go_enter func212,ntmps212;go_wp2_with fail;refine(hV.out _).mono ?_;rintro e w1 ⟨rfl,rfl⟩;go_wp2;go_step3;go_wp2;refine wp_loop_rounds 1 ?_;rw[rounds_succ];go_wp2
   (try rw[Exit.noGoto_ret])
   go_ret;exact⟨rfl,waC _ _⟩
theorem zrn (t:ByteArray) (r:Int) (w:World) (h2:t.size=2) (h128:∀(j:Nat) (hj:j<t.size),t[j].toNat<128) (hr0:128<=r) (hr1:r<=2147483647):
 Calls prog 212 #[.string t,.int .i32 r] w (Ret (.int .i64 (-1)) w):=by
 by_cases hf:r=65533
 ·subst hf;exact zoE t w h2 h128
 ·exact zoF t r w h2 h128 hr0 hr1 hf
theorem zxK (s:ByteArray) (i:Nat) (h:i<s.size):s.get! i=s[i]:=get_at s i h
theorem zro (s:ByteArray) (i:Nat) (h:i<s.size) (ha:128<=s[i].toNat):
 i+(Utf8.decode s i).2<=s.size/\1<=(Utf8.decode s i).2/\∀k,k<(Utf8.decode s i).2->128<=(s.get! (i+k)).toNat:=by
 have h0:¬(s[i]'h).toNat<128:=by omega
 have e0:s.get! (i+0)=s[i]'h:=get_at s i h;have h00:128<=(s.get! (i+0)).toNat:=by rw[e0];exact ha
 simp only[Utf8.decode,e0,h0,if_false];have one:i+1<=s.size/\1<=1/\∀k,k<1->128<=(s.get! (i+k)).toNat:=by
  refine⟨by omega,waJ _,fun k hk=>?_⟩
  obtain rfl:k=0:=by omega
  exact h00
 by_cases c1:((s[i]'h).toNat / 32==6&&(decide (i+1<s.size)&&(s.get! (i+1)).toNat / 64==2))=true
 ·rw[if_pos c1];simp only[waN,waM,beq_iff_eq] at c1;split
  ·refine⟨by dsimp only;omega,by dsimp only;omega,fun k hk=>?_⟩
   dsimp only at hk;obtain rfl|rfl:k=0\/k=1:=by omega
   ·exact h00
   ·omega
  ·exact one
 ·rw[if_neg c1]
  by_cases c2:((s[i]'h).toNat / 16==14&&(decide (i+1<s.size)&&(s.get! (i+1)).toNat / 64==2)&&(decide (i+2<s.size)&&(s.get! (i+2)).toNat / 64==2))=true
  ·rw[if_pos c2];simp only[waN,waM,beq_iff_eq] at c2;split
   ·refine⟨by dsimp only;omega,by dsimp only;omega,fun k hk=>?_⟩
    dsimp only at hk;obtain rfl|rfl|rfl:k=0\/k=1\/k=2:=by omega
    ·exact h00
    ·omega
    ·omega
   ·exact one
  ·rw[if_neg c2]
   by_cases c3:((s[i]'h).toNat / 8==30&&(decide (i+1<s.size)&&(s.get! (i+1)).toNat / 64==2)&&(decide (i+2<s.size)&&(s.get! (i+2)).toNat / 64==2)&&(decide (i+3<s.size)&&(s.get! (i+3)).toNat / 64==2))=true
   ·rw[if_pos c3];simp only[waN,waM,beq_iff_eq] at c3;split
    ·refine⟨by dsimp only;omega,by dsimp only;omega,fun k hk=>?_⟩
     dsimp only at hk;obtain rfl|rfl|rfl|rfl:k=0\/k=1\/k=2\/k=3:=by omega
     ·exact h00
     ·omega
     ·omega
     ·omega
    ·exact one
   ·rw[if_neg c3];exact one
theorem zf8 {B k:Nat} {w w':World} {s:ByteArray} {pos:Nat} (h:Below B w w') (hk:B<=k):Below B w (w'.iterAt k s pos):=
 ⟨h.os,h.tape,h.output,by simpa[World.iterAt] using h.size,fun i hi=>by
  have:(w'.iterAt k s pos).heap[i]?=w'.heap[i]? :=by
   simp only[World.iterAt];rw[Array.getElem?_setIfInBounds_ne (by omega)]
  rw[this];exact h.block i hi⟩
theorem zoG {s:ByteArray} {chars:List UInt8} {i d:Nat} (hn:Lib.NoAny s.data.toList chars i) (hc:∀c∈chars,c.toNat<128) (hd:i+d<=s.size) (hb:∀k,k<d->128<=(s.get! (i+k)).toNat):Lib.NoAny s.data.toList chars (i+d):=by
 intro j c hj hx;rcases Nat.lt_or_ge j i with h1|h1
 ·exact hn j c h1 hx
 ·have:=hb (j - i) oQ;rw[show i+(j - i)=j from by omega,zxK s j (by omega)] at this
  rw[zdt s j (by omega)] at hx
  cases hx;cases hq:chars.contains s[j] with
  |false=>rfl
  |true=>
   have:=hc _ (List.contains_iff_mem.1 hq);omega
theorem ztO (s t:ByteArray) (w:World) (hs:s.size<=1000000) (h2:t.size=2) (h128:∀(j:Nat) (hj:j<t.size),t[j].toNat<128):
 Calls prog 165 #[.string s,.string t] w (Ret (.int .i64 (Lib.indexAny s.data.toList t.data.toList)) w):=by
 have hac:∀(j:Nat) c,t.data.toList[j]?=some c->c.toNat<128:=fun j c hc=>by
  have hj:j<t.size:=by rw[<-zaT];exact(waI.1 hc).1
  rw[zdt t j hj] at hc;cases hc;exact h128 j hj
 by_cases h8:8<s.size
 ·refine(Tryz.strings_IndexAny_long (zero_of_info (n:=256) kQ).1 s t w oQ h8 oQ oQ hac).mono ?_;rintro e w1 ⟨rfl,rfl⟩;exact⟨rfl,((waC _ _).alloc (waJ _) _).alloc (by simp) _⟩
 ·have hmem:∀c∈t.data.toList,c.toNat<128:=fun c hc=>by obtain⟨j,hj⟩:=List.getElem?_of_mem hc;exact hac j c hj
  have HMem:=waV hmem;have HH:=waV (fun r W h0 h1=>zrn t r W h2 h128 h0 h1)
  have HL:=waV (fun(x:UInt8) (hx:x.toNat<128) W=>Tryz.strings_IndexRune_ascii t (x.toNat:Int) W oQ oQ)
  have hemp:t.toList.isEmpty=false:=by
   rw[ByteArray.toList_eq];cases h:t.data.toList with
   |nil=>have:=zaT t;rw[h] at this;simp at this;omega
   |cons _ _=>rfl
  have hn1:((t.size:Int)==1)=false:=by simp;omega
  have h8z:decide ((8:Int)<(s.size:Int))=false:=waO oQ;have HU:=waV (fun W=>Tryz.strings_shouldUseASCIISet (s.size:Int) W)
  rw[h8z] at HU;clear hmem hac h128 h2;go_enter func165,ntmps165;go_wp2_with fail;refine(HU.out _).mono ?_;rintro e w1 ⟨rfl,rfl⟩;go_wp2
  go_loopg [9,10] s.size (fun g _ _ wx=>∃i:Nat,i<=s.size/\s.size - i<=g/\Hid (wx.heap[w1.heap.size]?=some (.stringIter s i))/\Below w1.heap.size w1 wx/\Hid (Lib.NoAny s.data.toList t.data.toList i))
  case atStart=>exact⟨0,waK _,by omega,World.iter_heap _ _ _,zir _ _ _,Lib.NoAny.zero _ _⟩
  case round=>
   obtain⟨i,hi,hgi,HK,hb,HN⟩:=hrel
   by_cases hlt:i<s.size
   ·obtain⟨g,rfl⟩:∃g,gk=g+1:=⟨gk - 1,by omega⟩
    have hx:=zdt s i hlt
    by_cases hx128:s[i].toNat<128
    ·have hnx:=fun ty=>Lib.run_next_ascii_at (P:=prog) wr w1.heap.size s i ty HK.out hlt hx128
     have hcon:=Lib.contains_iff_indexByte t.data.toList s[i];have hback:((s[i].toNat:Int)).toNat.toUInt8=s[i]:=by simp
     have HI:=waV (HL.out s[i] hx128);rw[hback] at HI;have hb':=zf8 (s:=s) (pos:=i+1) hb (waJ _);have HK':=waV (Lib.iterAt_heap wr w1.heap.size s i (i+1) HK.out);generalize wr.iterAt w1.heap.size s (i+1)=W1 at *;have Hx:=waV hx;clear hx hback;generalize Lib.indexByte t.data.toList s[i]=q at *;cases hin:t.data.toList.contains s[i] with
     |true=>
      rw[hin] at hcon;have hq:(0:Int)<=q:=waA hcon.symm;have HE:Hid (Lib.indexAny s.data.toList t.data.toList=(i:Int)):=Lib.indexAny_hit HN.out Hx.out hin;clear hcon hin hx128;go_wp2_with fail;refine(HI.out _).mono ?_;rintro e w3 ⟨rfl,hw3⟩;subst hw3;go_wp2;go_ret;exact⟨by rw[HE.out];rfl,hb'⟩
     |false=>
      rw[hin] at hcon;have hq:¬(0:Int)<=q:=of_decide_eq_false hcon.symm;have HN':=waV (HN.out.succ Hx.out hin);clear hcon hin hx128;go_wp2_with fail;refine(HI.out _).mono ?_;rintro e w3 ⟨rfl,hw3⟩;subst hw3;go_wp2
      go_roundg g
      case measure=>omega
      case rel=>exact⟨i+1,by omega,by omega,HK'.out,hb',HN'.out⟩
    ·have ha:128<=s[i].toNat:=by omega
     obtain⟨d1,d2,d3⟩:=zro s i hlt ha;have HN':=waV (zoG HN.out HMem.out d1 d3);have hnx:=fun ty=>Lib.run_next_any_at (P:=prog) wr w1.heap.size s i ty HK.out hlt
     have hd:=(decode_high s i hlt ha).1;have hle:=decode_le s i;generalize (Utf8.decode s i).1=r at *;generalize (Utf8.decode s i).2=d at *;have hb':=zf8 (s:=s) (pos:=i+d) hb (waJ _);have HK':=waV (Lib.iterAt_heap wr w1.heap.size s i (i+d) HK.out);generalize wr.iterAt w1.heap.size s (i+d)=W1 at *;have hkl:w1.heap.size<W1.heap.size:=(waL.1 HK'.out).1;have HI:=waV (fun W=>HH.out (r:Int) W oQ oQ)
     clear hx hx128 ha d3 hd hle;go_wp2_with fail;refine(HI.out _).mono ?_;rintro e w3 ⟨rfl,hb3⟩;have HK3:Hid (w3.heap[w1.heap.size]?=some (.stringIter s (i+d))):=(hb3.block _ hkl).trans HK'.out;go_wp2
     go_roundg g
     case measure=>omega
     case rel=>exact⟨i+d,d1,by omega,HK3.out,zaf hb' hb3 oQ,HN'.out⟩
   ·obtain rfl:i=s.size:=by omega
    have hnx:=fun ty=>Lib.run_next_end_at (P:=prog) wr w1.heap.size s s.size ty HK.out (Nat.lt_irrefl _)
    have HE:Hid (Lib.indexAny s.data.toList t.data.toList=-1):=Lib.indexAny_none (by rw[zaT];exact HN.out)
    go_wp2;go_ret;exact⟨by rw[HE.out];rfl,hb⟩
theorem zrp (l:List UInt8):zkM l=decide (0<=Lib.indexAny l [45,126]):=by
 unfold zkM;induction l with
 |nil=>rfl
 |cons c l ih=>
  have hge:=Lib.indexAny_ge [45,126] l;rw[List.any_cons,ih,Lib.indexAny]
  by_cases hc:c=45\/c=126
  ·rw[waP hc,if_pos (by rcases hc with rfl|rfl<;>rfl)];rfl
  ·have hq:([45,126]:List UInt8).contains c=false:=by
    cases hq:([45,126]:List UInt8).contains c with
    |false=>rfl
    |true=>
     have:=List.contains_iff_mem.1 hq;simp at this;exact absurd this hc
   rw[waO hc,Bool.false_or,hq,if_neg (by decide),waQ,waM,waM]
   by_cases h:Lib.indexAny l [45,126]=-1
   ·rw[if_pos (by rw[h];rfl),h]
   ·rw[if_neg (by simpa using h)]
    constructor<;>intro<;>omega
theorem ztP (l:List UInt8) (w:World) (hl:l.length<=1000000):Calls prog 103 #[.string (za2 l),.string ⟨#[45,126]⟩] w (Ret (.bool (zkM l)) w):=by
 have HI:=waV (fun W=>ztO (za2 l) ⟨#[45,126]⟩ W (by rw[zcH];exact hl) rfl (by
  intro j hj;have:j<2:=hj;obtain rfl|rfl:j=0\/j=1:=by omega
  ·show(45:UInt8).toNat<128;decide
  ·show(126:UInt8).toNat<128;decide))
 rw[zbd] at HI;have hd:=zrp l;have e2:(⟨#[45,126]⟩:ByteArray).data.toList=[45,126]:=rfl;rw[e2] at HI;rw[hd];clear hd e2;generalize Lib.indexAny l [45,126]=q at *;go_enter func103,ntmps103;go_wp2_with fail;refine(HI.out _).mono ?_;rintro e w1 ⟨rfl,hb1⟩;go_wp2;go_ret;exact⟨rfl,hb1⟩
section
variable {w w' : World} {b C B : Nat} {s : ByteArray} {σ : PS} {c : CalV}
theorem zcv.chg2 (h:zcv w) (hr:RdP w b s σ) (hc:zaQ w C B c) (hg:Chg2 b C w w'):zcv w':=by
 obtain⟨m,hm⟩:=h;obtain⟨k,_,_,hk⟩:=hr;obtain⟨g,h1,_,h3⟩:=hc;have hne:1≠b:=by
  rintro rfl;rw[hk.cells.1] at hm;cases hm
 have hnC:1≠C:=by
  rintro rfl;rw[h1.1 0 (by decide)] at hm
  obtain⟨A,n,cp,he⟩:=zf7 (h3 0 dQ dQ).1;rw[he] at hm;cases hm
 exact⟨m,hg.cell hne hnC hm⟩
end
structure WS (w0:World) (b C B:Nat) (s:ByteArray) (σ:PS) (c:CalV) (W:World):Prop where
 rd:RdP W b s σ
 cal:zaQ W C B c
 box:zdg W w0.heap.size b s
 chg:Chg2 b C w0 W
 mx:zcv W
 hCb:C≠b
 hCB:C<B
 hbB:b<B
 hne:w0.heap.size≠b
 hneC:w0.heap.size≠C
section
variable {w0 W W' : World} {b C B : Nat} {s : ByteArray} {σ σ' : PS} {c c' : CalV}
theorem WS.step (h:WS w0 b C B s σ c W) (hr:RdP W' b s σ') (g:Chg b W W'):WS w0 b C B s σ' c W':=
 ⟨hr,h.cal.chg g h.hCb h.hbB,h.box.chg g h.hne,h.chg.then g,h.mx.chg h.rd g,h.hCb,h.hCB,h.hbB,h.hne,h.hneC⟩
theorem WS.below (h:WS w0 b C B s σ c W) (hb:Below W.heap.size W W'):WS w0 b C B s σ c W':=h.step (h.rd.below hb) (Chg.of_below hb)
theorem WS.two (h:WS w0 b C B s σ c W) (hr:RdP W' b s σ') (hc:zaQ W' C B c') (g:Chg2 b C W W'):WS w0 b C B s σ' c' W':=
 ⟨hr,hc,⟨g.cell h.hne h.hneC h.box.1,g.cell h.hne h.hneC h.box.2⟩,h.chg.trans g,h.mx.chg2 h.rd h.cal g,h.hCb,h.hCB,h.hbB,h.hne,h.hneC⟩
theorem WS.size (h:WS w0 b C B s σ c W):w0.heap.size<=W.heap.size:=h.chg.size
theorem WS.word (h:WS w0 b C B s σ c W) (hs:s.size<=1000000):(zdJ σ).length<=1000000:=by
 have h1:=h.rd.len;unfold zdJ;split
 ·have h2:(σ.l.takeWhile (fun c=>decide (c≠32))).length<=σ.l.length:=(List.takeWhile_prefix _).length_le
  omega
 ·simp
end
def zge (k:Nat):List UInt8:=(zij.getD k ([],[])).1
def zl7 (k:Nat):List UInt8:=(zij.getD k ([],[])).2
def zrq:Value:=.agg #[.string ⟨#[109,105,110,117,116,101,108,121]⟩,.string ⟨#[42,45,42,45,42,32,42,58,42,58,48,48]⟩,.string ⟨#[104,111,117,114,108,121]⟩,.string ⟨#[42,45,42,45,42,32,42,58,48,48,58,48,48]⟩,.string ⟨#[100,97,105,108,121]⟩,.string ⟨#[42,45,42,45,42,32,48,48,58,48,48,58,48,48]⟩,.string ⟨#[119,101,101,107,108,121]⟩,.string ⟨#[77,111,110,32,42,45,42,45,42,32,48,48,58,48,48,58,48,48]⟩,.string ⟨#[109,111,110,116,104,108,121]⟩,.string ⟨#[42,45,42,45,48,49,32,48,48,58,48,48,58,48,48]⟩,.string ⟨#[113,117,97,114,116,101,114,108,121]⟩,.string ⟨#[42,45,48,49,44,48,52,44,48,55,44,49,48,45,48,49,32,48,48,58,48,48,58,48,48]⟩,.string ⟨#[115,101,109,105,97,110,110,117,97,108,108,121]⟩,.string ⟨#[42,45,48,49,44,48,55,45,48,49,32,48,48,58,48,48,58,48,48]⟩,.string ⟨#[121,101,97,114,108,121]⟩,.string ⟨#[42,45,48,49,45,48,49,32,48,48,58,48,48,58,48,48]⟩,.string ⟨#[97,110,110,117,97,108,108,121]⟩,.string ⟨#[42,45,48,49,45,48,49,32,48,48,58,48,48,58,48,48]⟩]
theorem ztQ (k:Nat) (hk:k<9) (w:World):(Instr.index 180 zrq (.int .i64 (k:Int))).run prog w=.ok (.agg #[.string (za2 (zge k)),.string (za2 (zl7 k))]) w:=by
 obtain rfl|rfl|rfl|rfl|rfl|rfl|rfl|rfl|rfl:k=0\/k=1\/k=2\/k=3\/k=4\/k=5\/k=6\/k=7\/k=8:=by omega
 all_goals kernel_rfl
theorem ztR {l:List UInt8} {k:Nat} (hk:k<9) (H:∀j,j<k->zc0 l≠zge j) (h:zc0 l=zge k):zlV l=zl7 k:=by
 have hf:zij.find? (fun p=>decide (zc0 l=p.1))=some (zge k,zl7 k):=by
  rw[List.find?_eq_some_iff_getElem];refine⟨waP h,k,hk,?_,fun j hj=>?_⟩
  ·unfold zge zl7;rw[List.getD_eq_getElem?_getD,waE hk];rfl
  ·have hj9:j<zij.length:=Nat.lt_trans hj hk;have:=H j hj;unfold zge at this;rw[List.getD_eq_getElem?_getD,waE hj9] at this;simpa using this
 unfold zlV;rw[hf]
theorem zrr {l:List UInt8} (H:∀j,j<9->zc0 l≠zge j):zlV l=[]:=by
 have hf:zij.find? (fun p=>decide (zc0 l=p.1))=none:=by
  rw[List.find?_eq_none];intro p hp;obtain⟨j,hj⟩:=List.getElem?_of_mem hp;have hj9:j<9:=(waI.1 hj).1;have:=H j hj9;unfold zge at this;rw[List.getD_eq_getElem?_getD,hj] at this;simpa using this
 unfold zlV;rw[hf]
theorem ztS (s:ByteArray) (hs:s.size<=1000000) (w:World):Calls prog 42 #[.string s] w (Ret (.string (za2 (zlV s.data.toList))) w):=by
 have HS:=waV (fun W=>zov s oQ W)
 have HM:=waV (fun H=>zrr (l:=s.data.toList) H)
 have HH:=waV (fun k hk H h=>ztR (l:=s.data.toList) (k:=k) hk H h)
 generalize zlV s.data.toList=z at *;generalize zc0 s.data.toList=x at *;have hix0:=waV (fun k hk W=>ztQ k hk W)
 unfold zrq at hix0;go_enter func42,ntmps42;go_wp2
 go_loopw [15] (fun i wr=>∃k:Nat,k<=9/\i=.int .i64 k/\Hid (∀j,j<k->x≠zge j)/\Below w.heap.size w wr) (fun i _=>9 - (intOf i).toNat)
 case atStart=>exact⟨0,by omega,rfl,fun j h=>absurd h (Nat.not_lt_zero _),waC _ _⟩
 case round=>
  obtain⟨k,hk,rfl,HN,hb⟩:=hrel;have hsz:=hb.size
  by_cases hlt:k<9
  ·have hlt':(k:Int)<9:=by omega
   have hix:=fun W=>hix0.out k hlt W
   by_cases he:x=zge k
   ·have HZ:Hid (z=zl7 k):=HH.out k hlt HN.out he;have hT:=znj true (waP he);clear he;go_wp2;generalize hW:World.alloc wr _=W1;have hb0:Below wr.heap.size wr W1:=by rw[<-hW];exact(waC _ wr).alloc (waJ _) _
    have c0:∀x:Ext W1,x.W.cell? ⟨wr.heap.size,0,none⟩=some (.string (za2 (zge k))):=fun x=>x.cell (by subst hW;simp[go_sem])
    have c1:∀x:Ext W1,x.W.cell? ⟨wr.heap.size,1,none⟩=some (.string (za2 (zl7 k))):=fun x=>x.cell (by subst hW;simp[go_sem])
    clear hW;refine zaA kQ kQ ?_
    repeat (first|go_big_quiet_skip|(go_big_quiet_want;go_big_quiet_op;(first|go_big_quiet_on|go_big_quiet_call ((with_reducible exact zbP _ (HS.out _))))))
    refine wpQuiet_nil ?_;rintro _ ⟨xw,rfl⟩;have hbx:Below w.heap.size w xw.W:=zaf hb (zaf hb0 xw.h hb0.size) hsz;go_wp2;go_ret;exact⟨by rw[HZ.out];rfl,hbx⟩
   ·have HN2:=waV he;have hT:=znj false (waO he);clear he;go_wp2;generalize hW:World.alloc wr _=W1;have hb0:Below wr.heap.size wr W1:=by rw[<-hW];exact(waC _ wr).alloc (waJ _) _
    have c0:∀x:Ext W1,x.W.cell? ⟨wr.heap.size,0,none⟩=some (.string (za2 (zge k))):=fun x=>x.cell (by subst hW;simp[go_sem])
    have c1:∀x:Ext W1,x.W.cell? ⟨wr.heap.size,1,none⟩=some (.string (za2 (zl7 k))):=fun x=>x.cell (by subst hW;simp[go_sem])
    clear hW;refine zaA kQ kQ ?_
    repeat (first|go_big_quiet_skip|(go_big_quiet_want;go_big_quiet_op;(first|go_big_quiet_on|go_big_quiet_call ((with_reducible exact zbP _ (HS.out _))))))
    refine wpQuiet_nil ?_;rintro _ ⟨xw,rfl⟩;have hbx:Below w.heap.size w xw.W:=zaf hb (zaf hb0 xw.h hb0.size) hsz;go_wp2;go_roundw
    case rel=>exact⟨k+1,by omega,by go_num,zgy HN.out HN2.out,hbx⟩
    case measure=>simp [intOf];omega
  ·obtain rfl:k=9:=by omega
   have HZ:Hid (z=[]):=HM.out HN.out;go_wp2;go_ret;exact⟨by rw[HZ.out];rfl,hb⟩
section
variable {w w' : World} {C D : Nat} {v : Value} {l : List It}
end
section
variable {w w' : World} {C D : Nat} {c c' : CalV}
end
def calZ (j:Nat):Value:=if j=4 then .bool false else .slice none 0 0
section
variable {w wr : World} {D : Nat} {c c' : CalV}
theorem ztT (w:World) (t:TypeId):Arr (w.alloc (.cells #[.slice none 0 0,.slice none 0 0,.slice none 0 0,.slice none 0 0,.bool false,.slice none 0 0,.slice none 0 0,.slice none 0 0] t)) w.heap.size 8 calZ:=
 zdq w #[.slice none 0 0,.slice none 0 0,.slice none 0 0,.slice none 0 0,.bool false,.slice none 0 0,.slice none 0 0,.slice none 0 0] t calZ (fun j hj=>by
  obtain rfl|rfl|rfl|rfl|rfl|rfl|rfl|rfl:j=0\/j=1\/j=2\/j=3\/j=4\/j=5\/j=6\/j=7:=by simp at hj;omega
  all_goals rfl)
end
theorem zoH (w:World) (o:Obj) (t:TypeId) (B:Nat):zaQ ((w.alloc o).alloc (.cells #[.slice none 0 0,.slice none 0 0,.slice none 0 0,.slice none 0 0,.bool false,.slice none 0 0,.slice none 0 0,.slice none 0 0] t)) (w.heap.size+1) B zc8:=by
 have h:=ztT (w.alloc o) t;rw[show (w.alloc o).heap.size=w.heap.size+1 by simp] at h
 refine⟨calZ,h,rfl,fun j hj h4=>?_⟩
 have e:zhx zc8 j=[]:=by rcases j with _|_|_|_|_|_|_|_|j<;>first|rfl|omega
 have z:calZ j=.slice none 0 0:=if_neg h4;rw[e,z];exact⟨⟨rfl,.inl ⟨rfl,rfl⟩⟩,fun _=>rfl⟩
theorem zcv.alloc {w:World} (h:zcv w) (o:Obj):zcv (w.alloc o):=h.below ((waC _ w).alloc (waJ _) _)
theorem zwk (s:ByteArray):newP s=zuZ s.data.toList:=by
 have:s.data.toList.length=s.size:=by simp
 unfold newP zjM zw5 zuZ;rw[this]
theorem zl8 {w w':World} {C B:Nat} {c:CalV} (h:zaQ w C B c) (hB:0<B) (hb:Below w.heap.size w w'):zaQ w' C B c:=by
 obtain⟨g,h1,h2,h3⟩:=h;exact⟨g,h1.below (h1.lt dQ) hb,h2,fun j hj h4=>⟨zhj (h3 j hj h4).1 (Chg.of_below (b:=0) hb) hB,(h3 j hj h4).2⟩⟩
theorem zno (w:World):zjr w (fun _=>none) (fun _=>0) zc8:=fun j hj h4=>by
 have e:zhx zc8 j=[]:=by rcases j with _|_|_|_|_|_|_|_|j<;>first|rfl|omega
 rw[e];exact Rd.nil
theorem zwl (p:Nat->Bool) (n:Int):zbA ((mkN p 64:Nat):Int) n=decide (0<=n/\n<64/\p n.toNat=true):=by
 unfold zbA;rw[wbH];have hk:∀k:Nat,k<64->(((mkN p 64:Nat):Int) / 2^k%2=1↔p k=true):=fun k hk=>by
  have h:=za9 p 64 k;rw[Nat.testBit_eq_decide_div_mod_eq] at h;have h3:((mkN p 64:Nat):Int) / 2^k%2=(((mkN p 64 / 2^k)%2:Nat):Int):=by push_cast;rfl
  simp only[hk,decide_true,Bool.true_and] at h;rw[h3,<-h,waM];omega
 constructor
 ·rintro ⟨h0,h1,h2⟩;exact⟨h0,h1,(hk n.toNat oQ).1 h2⟩
 ·rintro ⟨h0,h1,h2⟩;exact⟨h0,h1,(hk n.toNat oQ).2 h2⟩
theorem ztU (L:List Int) (i:Nat):M64 (zaH L i):=by
 have:=zcI (fun k=>zdp L (64 * i+k)) 64
 unfold zaH M64;omega
theorem zrs (L:List Int) (n:Int):zgb (zaH L) n=decide (0<=n/\n<400/\n∈L):=by
 unfold zgb
 by_cases h:0<=n/\n<400
 ·rw[waP h,Bool.true_and];unfold zaH;rw[zwl,wbH];have e:((64 * (n / 64).toNat+(n%64).toNat:Nat):Int)=n:=by omega
  simp only[zdp,waM,e];constructor
  ·rintro ⟨_,_,_,h3⟩;exact⟨h.1,h.2,h3⟩
  ·rintro ⟨_,_,h3⟩;exact⟨by omega,by omega,by omega,h3⟩
 ·rw[waO h,Bool.false_and,Eq.comm,decide_eq_false_iff_not];exact fun g=>h ⟨g.1,g.2.1⟩
theorem zu4 (P Q:Nat->Bool) (h:∀k,k<64->P k=true->Q k=true):bits .and .u64 ((mkN P 64:Nat):Int) ((mkN Q 64:Nat):Int)=((mkN P 64:Nat):Int):=by
 have hp:=zcI P 64;have hq:=zcI Q 64;have e:mkN (fun i=>P i&&Q i) 64=mkN P 64:=zbe fun k hk=>by
  cases hx:P k with
  |false=>rfl
  |true=>rw [h k hk hx];rfl
 have hA:=ziG P Q 64;rw[e] at hA;generalize mkN P 64=a at *;generalize mkN Q 64=b at *;rw[u64_and _ _ (Int.natCast_nonneg _) (by omega) (Int.natCast_nonneg _) (by omega),Int.toNat_natCast,Int.toNat_natCast,hA]
theorem zcU (L:List Int) (i:Nat) (hi:i<7):ziX (zaH L) i=zaH L i:=
 zu4 (fun k=>zdp L (64 * i+k)) (inL (zgl 0 (399 - (i:Int) * 64+1 - 0).toNat)) fun k hk hx=>by
  simp only[zdp,waM] at hx;simp only[inL,waM];rw[zbQ];omega
theorem ztV (L:List Int):eqW (ziX (zaH L)) (zaH L)=true:=by
 unfold eqW;rw[zcU L 0 (by decide),zcU L 1 (by decide),zcU L 2 (by decide),zcU L 3 (by decide),zcU L 4 (by decide),zcU L 5 (by decide),zcU L 6 (by decide)]
 simp
theorem znp (c:CalV):zeI (evC c) zbn=true:=by
 have h0:zaz (zal (zaC (zaJ c 6) 0 59),zas 0 59)=true:=zcj fun x hx=>zfT hx
 have h1:zaz (zal (zaC (zaJ c 5) 0 59),zas 0 59)=true:=zcj fun x hx=>zfT hx
 have h2:zaz (zal (zaC (zaJ c 4) 0 23),zas 0 23)=true:=zcj fun x hx=>zfT hx
 have h3:zaz (zal (zaC (zaJ c 2) 1 12),zas 1 12)=true:=zcj fun x hx=>zfT hx
 have hD:zaz (zal (zaC (zaJ c 3) 1 31),zas 1 31)=true:=zcj fun x hx=>zfT hx
 have h4:zaz ((if c.back then zas 1 31 else zal (zaC (zaJ c 3) 1 31)),zas 1 31)=true:=by split;exact zeU _ _;exact hD
 have h5:zaz ((if c.back then zal (zaC (zaJ c 3) 1 31) else zas 1 31),zas 1 31)=true:=by split;exact hD;exact zeU _ _
 have h6:zaz (zu3 c,zas 1 7)=true:=by
  unfold zu3;split
  ·exact zeU _ _
  ·exact zcj fun x hx=>zfT hx
 have hp:(zsw (evC c) zbn).all zaz=true:=by
  show [(zal (zaC (zaJ c 6) 0 59),zas 0 59),(zal (zaC (zaJ c 5) 0 59),zas 0 59),(zal (zaC (zaJ c 4) 0 23),zas 0 23),(zal (zaC (zaJ c 2) 1 12),zas 1 12),((if c.back then zas 1 31 else zal (zaC (zaJ c 3) 1 31)),zas 1 31),((if c.back then zal (zaC (zaJ c 3) 1 31) else zas 1 31),zas 1 31),(zu3 c,zas 1 7)].all zaz=true
  simp only[List.all_cons,List.all_nil,h0,h1,h2,h3,h4,h5,h6,Bool.and_true]
 have ho:zh0 (evC c)=true:=zto rfl rfl fun _=>rfl
 have hy:eqW (ziX (evC c).y) (evC c).y=true:=ztV _;unfold zeI;rw[hp,ho,hy];show(true&&(true&&(true&&(!(unT 0).isEmpty&&(decide ((1:Int)<=1)&&inC 0)))))=true;decide+kernel
theorem zwm (c:CalV):zbC (evC c):=by
 refine⟨fun k hk=>?_,fun k hk=>(⟨by decide,by decide⟩:M64 0),fun k hk=>ztU _ _⟩
 obtain rfl|rfl|rfl|rfl|rfl|rfl|rfl:k=0\/k=1\/k=2\/k=3\/k=4\/k=5\/k=6:=by omega
 ·exact zlM _
 ·exact zlM _
 ·exact zlM _
 ·exact zlM _
 ·show M64 (if c.back then zas 1 31 else _)
  split;exact ztn _ _;exact zlM _
 ·show M64 (if c.back then _ else zas 1 31)
  split;exact zlM _;exact ztn _ _
 ·show M64 (zu3 c);unfold zu3;split;exact ztn _ _;exact zlM _
def stS (t:Int) (j:Nat):Int:=if j=0 then yD (t / 86400) else if j=1 then mD (t / 86400) else if j=2 then dD (t / 86400) else if j=3 then t%86400 / 3600 else if j=4 then t%86400 / 60%60 else t%86400%60
def zis (c:CalV) (t:Int):Bool:=inC t&&znm c (stS t) (shN (t / 86400) (yD (t / 86400)) (mD (t / 86400)) (dD (t / 86400)))
theorem zxL (c:CalV) (t:Int):zsz (evC c) t=zis c t:=by
 unfold zsz zis;cases hi:inC t with
 |false=>rfl
 |true=>
  obtain⟨t0,t1⟩:=zvo hi;have h1:decide (zaw (evC c).f (evC c).t<=t/\t<=zao (evC c).f (evC c).t)=true:=waP ⟨t0,by show t<=12622780799;omega⟩
  have h2:onU (evC c).u (evC c).s (evC c).a t=true:=by
   show onU 0 1 0 t=true;refine waP ⟨by decide+kernel,waP ⟨hi,by decide,by decide⟩,by decide,?_⟩
   omega
  obtain⟨_,m1,m2,d1,d2⟩:=zds (n:=t / 86400) oQ oQ;obtain⟨_,_,_,_,y0,y1⟩:=zce (n:=t / 86400) oQ oQ;have hl:=zcC (y:=yD (t / 86400)) m1 m2;have hw:=zeH (t / 86400);have e5:zdh (t%86400) ((evC c).m 2) ((evC c).m 1) ((evC c).m 0)=(inB (zaJ c 4) 0 23 (t%86400 / 3600)&&(inB (zaJ c 5) 0 59 (t%86400 / 60%60)&&inB (zaJ c 6) 0 59 (t%86400%60))):=by
   show zdh (t%86400) (zal (zaC (zaJ c 4) 0 23)) (zal (zaC (zaJ c 5) 0 59)) (zal (zaC (zaJ c 6) 0 59))=_;unfold zdh;rw[zdE (by omega) (by omega),zdE (by omega) (by omega),zdE (by omega) (by omega)]
  have e7:zbA ((evC c).m 3) (mD (t / 86400))=inB (zaJ c 2) 1 12 (mD (t / 86400)):=zdE oQ oQ;have e8:zbA ((evC c).m 6) (wdD (t / 86400))=(decide ((zaJ c 0).length=0)||inB (zaJ c 0) 1 7 (wdD (t / 86400))):=by
   show zbA (zu3 c) (wdD (t / 86400))=_;unfold zu3
   by_cases h0:(zaJ c 0).length=0
   ·rw[if_pos h0,waP h0,Bool.true_or,zey _ _ _ (by omega) (by omega)]
    simp;omega
   ·rw[if_neg h0,waO h0,Bool.false_or];exact zdE oQ oQ
  have e9:zgb (evC c).y (yD (t / 86400) - 1970)=inB (zaJ c 1) 1970 2369 (yD (t / 86400)):=by
   show zgb (evY c) _=_;unfold evY;rw[zrs,waQ,waM,List.mem_map,<-(zcR 1970 2369 (zaJ c 1)).2];constructor
   ·rintro ⟨_,_,x,hx,he⟩;obtain rfl:x=yD (t / 86400):=by omega
    exact hx
   ·intro hx;exact⟨by omega,by omega,_,hx,rfl⟩
  have e3:zhZ (evC c) (t / 86400)=true:=rfl;have e4:ziV (evC c).u (evC c).s (evC c).a (t / 86400)=true:=by
   show ziV 0 1 0 (t / 86400)=true;exact ziW (by decide+kernel) dQ (.inr rfl)
  have eo:(evC c).or=false:=rfl;have ed:(zbA ((evC c).m 4) (dD (t / 86400))&&zbA ((evC c).m 5) (zbt (yD (t / 86400)) (mD (t / 86400)) - dD (t / 86400)+1))=inB (zaJ c 3) 1 31 (if c.back then zbt (yD (t / 86400)) (mD (t / 86400)) - dD (t / 86400)+1 else dD (t / 86400)):=by
   show(zbA (if c.back then zas 1 31 else zal (zaC (zaJ c 3) 1 31)) _&&zbA (if c.back then zal (zaC (zaJ c 3) 1 31) else zas 1 31) _)=_
   cases c.back with
   |true=>
    rw[if_pos rfl,if_pos rfl,if_pos rfl,zey _ _ _ (by omega) (by omega),waP ⟨by omega,by omega⟩,Bool.true_and]
    exact zdE oQ oQ
   |false=>
    rw[if_neg (by simp),if_neg (by simp),if_neg (by simp),zey _ _ _ (by omega) (by omega),waP (p:=1<=zbt (yD (t / 86400)) (mD (t / 86400)) - dD (t / 86400)+1/\_) ⟨by omega,by omega⟩,Bool.and_true]
    exact zdE oQ oQ
  rw[znp,h1,h2,e5];unfold zjY;rw[znp,ztm,e3,e4,e7,e8,e9,eo];have eM:znm c (stS t) (shN (t / 86400) (yD (t / 86400)) (mD (t / 86400)) (dD (t / 86400)))=(inB (zaJ c 1) 1970 2369 (yD (t / 86400))&&(inB (zaJ c 2) 1 12 (mD (t / 86400))&&(inB (zaJ c 3) 1 31 (if c.back then zbt (yD (t / 86400)) (mD (t / 86400)) - dD (t / 86400)+1 else dD (t / 86400))&&((decide ((zaJ c 0).length=0)||inB (zaJ c 0) 1 7 (wdD (t / 86400)))&&
   (inB (zaJ c 4) 0 23 (t%86400 / 3600)&&(inB (zaJ c 5) 0 59 (t%86400 / 60%60)&&inB (zaJ c 6) 0 59 (t%86400%60))))))):=rfl
  rw[eM,<-ed];generalize zbA ((evC c).m 4) (dD (t / 86400))=D;generalize zbA ((evC c).m 5) (zbt (yD (t / 86400)) (mD (t / 86400)) - dD (t / 86400)+1)=E;generalize (decide ((zaJ c 0).length=0)||inB (zaJ c 0) 1 7 (wdD (t / 86400)))=K
  generalize inB (zaJ c 4) 0 23 (t%86400 / 3600)=a;generalize inB (zaJ c 5) 0 59 (t%86400 / 60%60)=b;generalize inB (zaJ c 6) 0 59 (t%86400%60)=s;generalize inB (zaJ c 2) 1 12 (mD (t / 86400))=m;generalize inB (zaJ c 1) 1970 2369 (yD (t / 86400))=y;cases D<;>cases E<;>cases K<;>cases a<;>cases b<;>cases s<;>cases m<;>cases y<;>rfl
theorem zwn (c:CalV) (t:Int):zuL [evC c] t=zis c t:=by
 unfold zuL zeJ;simp[znp,zxL]
theorem zwo (c:CalV):zfB c=(7,0)\/(zfB c).2≠0:=by
 by_cases h:∀f:Nat,f<7->zaF f (zaJ c f)=0
 ·exact .inl (zjp h)
 ·right;have hex:∃f:Nat,f<7/\zaF f (zaJ c f)≠0:=by
   refine Classical.byContradiction fun hh=>h fun f hf=>?_
   refine Classical.byContradiction fun h2=>hh ⟨f,hf,h2⟩
  have key:∀q,q<=7->(∀j,j<q->zaF (j:Nat) (zaJ c j)=0)\/(zfB c).2≠0:=by
   intro q;induction q with
   |zero=>exact fun _=>.inl fun j hj=>absurd hj (Nat.not_lt_zero _)
   |succ q ih=>
    intro hq;rcases ih oQ with H|H
    ·by_cases h0:zaF (q:Nat) (zaJ c q)=0
     ·left;intro j hj;rcases Nat.lt_or_eq_of_le (Nat.le_of_lt_succ hj) with h1|rfl
      ·exact H j h1
      ·exact h0
     ·right;rw[zrc (by omega) H h0]
      exact h0
    ·exact .inr H
  rcases key 7 (waJ _) with H|H
  ·obtain⟨f,hf,hne⟩:=hex;exact absurd (H f hf) hne
  ·exact H
end Go.Proofs.YtllcdbgjeidlkaaGreatDoor
