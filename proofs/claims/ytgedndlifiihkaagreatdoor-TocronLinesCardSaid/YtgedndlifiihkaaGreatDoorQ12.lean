/- A part of the proof: WShow4 WRfA WClM WClX WClZ WCronread4 WOwn WCronread7 -/
import Derived.Test.YtgedndlifiihkaaGreatDoorQ00
import Derived.Test.YtgedndlifiihkaaGreatDoorQ03
import Derived.Test.YtgedndlifiihkaaGreatDoorQ02
import Derived.Test.YtgedndlifiihkaaGreatDoorQ11
import Derived.Test.YtgedndlifiihkaaGreatDoorQ08
import Derived.Test.YtgedndlifiihkaaGreatDoorQ09
import Derived.Test.YtgedndlifiihkaaGreatDoorQ10
import Derived.Test.YtgedndlifiihkaaGreatDoorQ06
import Derived.Test.YtgedndlifiihkaaGreatDoorQ01
set_option maxHeartbeats 80000000
set_option maxRecDepth 100000
set_option linter.unusedSimpArgs false
set_option linter.unusedVariables false
namespace Go.Proofs.YtgedndlifiihkaaGreatDoor
open Go.Proofs.Tryz
open Go.RowKit
abbrev strV (l:List UInt8):Value:=.string ⟨l.toArray⟩
theorem zfZ (sep:ByteArray) (bk o c:Nat) (xs:List ByteArray) (w:World) (hcells:∀(j:Nat) x,xs[j]?=some x→w.cell? ⟨bk,o+j,none⟩=some (.string x)) (hbk:bk<w.heap.size) (hN:xs.length≤140737488355328) (hcap:xs.length≤c)
 (hlen:(Lib.join (xs.map (·.data.toList)) sep.data.toList).length≤140737488355328):
 Calls prog 64 #[.string sep,.slice (some ⟨bk,o,none⟩) xs.length c] w (Ret (strV (Lib.join (xs.map (·.data.toList)) sep.data.toList)) w):=by
 have H:=waV (Tryz.strings_Join bk o c xs sep w hcells hbk hN hcap hlen);clear hcells hlen;go_enter func64,ntmps64;go_wp2_with fail;refine H.out.mono ?_;rintro e w1 ⟨rfl,hb1⟩;go_wp2;go_ret;exact⟨rfl,hb1⟩
abbrev Pow (w:World):Prop:=Lib.TabIs prog w "internal/strconv.uint64pow10" .u64 Lib.pow10Tab
theorem zcO {P:Program} {nm:String} {k:IntKind} {zs:List Int} {w w':World} (h:Lib.TabIs P w nm k zs) (hb:Below w.heap.size w w'):Lib.TabIs P w' nm k zs:=by
 unfold Lib.TabIs World.var? at *;cases hg:P.globalNamed nm with
 |none=>rw [hg] at h;cases h
 |some g=>
  rw[hg] at h;simp only[Option.bind_some] at h ⊢;cases hw:w.heap[g]? with
  |none=>rw [hw] at h;cases h
  |some o=>
   have hlt:g<w.heap.size:=(waL.1 hw).1;rw[hb.block g hlt];exact h
theorem zrN (n:Int) (h:zq6 n) (w:World) (hw:Pow w):Calls prog 167 #[.int .i64 n] w (Ret (strV (Lib.itoa n)) w):=by
 refine(Tryz.strconv_Itoa n h.1 h.2 w hw).mono ?_;rintro e w' ⟨rfl,k,os,rfl⟩;refine⟨rfl,⟨rfl,rfl,rfl,by simp[Go.Sort.grow,World.drewN],fun i hi=>?_⟩⟩
 have:i<(w.drewN k).heap.size:=hi;show((w.drewN k).heap++os)[i]?=_;rw[Array.getElem?_append_left this];rfl
theorem zpJ {i:It} (h:i.wf):(zg8 i).length≤100:=by
 obtain⟨_,h1,h2,h3⟩:=h;have l1:=Lib.itoa_length_le i.f h1.1 h1.2;have l2:=Lib.itoa_length_le i.t h2.1 h2.2;have l3:=Lib.itoa_length_le i.s h3.1 h3.2;unfold zg8 stT;split
 ·split<;>simp<;>omega
 ·split
  ·omega
  ·split
   ·split<;>simp<;>omega
   ·simp
theorem zg9 {n:Int} (h:zq6 n):(zcX (Lib.itoa n)).size≤21:=by rw[zom];exact ztS h
theorem zeZ (sep a b:ByteArray) (bk:Nat) (w:World) (h0:w.cell? ⟨bk,0,none⟩=some (.string a)) (h1:w.cell? ⟨bk,1,none⟩=some (.string b)) (hs:sep.size≤1000) (ha:a.size≤1000) (hb:b.size≤1000):
 Calls prog 64 #[.string sep,.slice (some ⟨bk,0,none⟩) 2 2] w (Ret (.string (a++sep++b)) w):=by
 have e:Lib.join ([a,b].map (·.data.toList)) sep.data.toList=a.data.toList++sep.data.toList++b.data.toList:=by simp[Lib.join,List.intercalate]
 have hl:∀x:ByteArray,x.data.toList.length=x.size:=fun x=>Array.length_toList
 have h:=zfZ sep bk 0 2 [a,b] w (fun j x hx=>by
  rcases j with _|_|j
  ·simp at hx;subst hx;exact h0
  ·simp at hx;subst hx;exact h1
  ·simp at hx) (waR w _ h0) (show 2≤140737488355328 by omega) (waJ 2) (by rw[e];simp only[waF,hl];omega)
 rw[e] at h;have e2:Ret (.string (a++sep++b)) w=Ret (strV (a.data.toList++sep.data.toList++b.data.toList)) w:=by
  have e3:a++sep++b=⟨(a.data.toList++sep.data.toList++b.data.toList).toArray⟩:=by apply ByteArray.ext;simp
  rw[e3]
 rw[e2];exact h
theorem zha (n:Int) (h:zq6 n) (w:World) (hw:Pow w):Calls prog 167 #[.int .i64 n] w (Ret (.string (zcX (Lib.itoa n))) w):=zrN n h w hw
theorem zpK (i:It) (h:i.wf) (w:World) (hw:Pow w):Calls prog 109 #[.agg #[.int .i64 i.k,.int .i64 i.f,.int .i64 i.t,.int .i64 i.s]] w (Ret (.string (zcX (zg8 i))) w):=by
 obtain⟨hk,hf,ht,hs⟩:=h;have HF:=waV (fun W (hb:Below w.heap.size w W)=>zha i.f hf W (zcO hw hb))
 have HT:=waV (fun W (hb:Below w.heap.size w W)=>zha i.t ht W (zcO hw hb))
 have HSt:=waV (fun W (hb:Below w.heap.size w W)=>zha i.s hs W (zcO hw hb))
 have zf:=zg9 hf;have zt:=zg9 ht;have zs:=zg9 hs;clear hk hf ht hs hw;have df:=zdf (Lib.itoa i.f);have dt:=zdf (Lib.itoa i.t);have ds:=zdf (Lib.itoa i.s);obtain⟨Sf,hSf⟩:∃S,S=zcX (Lib.itoa i.f):=⟨_,rfl⟩;obtain⟨St,hSt⟩:∃S,S=zcX (Lib.itoa i.t):=⟨_,rfl⟩;obtain⟨Ss,hSs⟩:∃S,S=zcX (Lib.itoa i.s):=⟨_,rfl⟩;rw[←hSf] at HF zf df;rw[←hSt] at HT zt dt;rw[←hSs] at HSt zs ds;have DF:=waV df;have DT:=waV dt;have DS:=waV ds;clear hSf hSt hSs df dt ds;have HE:Hid (∀S:ByteArray,S.data.toList=zg8 i→Ending.returned (.string S)=.returned (.string (zcX (zg8 i)))):=fun S h=>ziz h
 unfold zg8 stT at HE;have hr1:(0:Int)<1:=by omega
 go_enter func109,ntmps109;go_wp2_with fail
 ·go_ret;exact⟨HE.out _ (by(simp only[beq_iff_eq,wbE,bne_iff_ne,bne_eq_false_iff_eq,ne_eq] at *);(repeat' split)<;>first|(exfalso;omega)|simp[zfN,DF.out,DT.out,DS.out]),by exact zaH⟩
 ·refine(HSt.out _ (by exact zaH)).mono ?_
  rintro e w1 ⟨rfl,hb1⟩;have hb2:Below w.heap.size w w1:=((waC _ w).alloc (waJ _) _).trans (hb1.mono (by simp))
  have hz2:=hb2.size;go_wp2_with fail;refine(zeZ _ _ _ _ _ (zaa rfl rfl) (zaa rfl rfl) dQ dQ oQ).mono ?_;rintro e w2 ⟨rfl,hb3⟩;have hb4:Below w.heap.size w w2:=(hb2.alloc hz2 _).trans (hb3.mono (by simp;omega))
  go_wp2;go_ret;exact⟨HE.out _ (by(simp only[beq_iff_eq,wbE,bne_iff_ne,bne_eq_false_iff_eq,ne_eq] at *);(repeat' split)<;>first|(exfalso;omega)|simp[zfN,DF.out,DT.out,DS.out]),hb4⟩
 ·refine(HF.out _ (by exact zaH)).mono ?_
  rintro e w1 ⟨rfl,hb1⟩;have hb2:Below w.heap.size w w1:=((waC _ w).alloc (waJ _) _).trans (hb1.mono (by simp))
  go_wp2;go_ret;exact⟨HE.out _ (by(simp only[beq_iff_eq,wbE,bne_iff_ne,bne_eq_false_iff_eq,ne_eq] at *);(repeat' split)<;>first|(exfalso;omega)|simp[zfN,DF.out,DT.out,DS.out]),hb2⟩
 ·generalize hW:World.alloc w _=W1;have hb0:Below w.heap.size w W1:=by rw[←hW];exact(waC _ w).alloc (waJ _) _
  have hz0:=hb0.size;have c1:W1.cell? ⟨w.heap.size,1,none⟩=some (.int .i64 i.f):=by subst hW;simp[go_sem]
  have c2:W1.cell? ⟨w.heap.size,2,none⟩=some (.int .i64 i.t):=by subst hW;simp[go_sem]
  have c3:W1.cell? ⟨w.heap.size,3,none⟩=some (.int .i64 i.s):=by subst hW;simp[go_sem]
  have HW:Hid (∀w',Below W1.heap.size W1 w'→Below w.heap.size w w'):=fun w' h=>zai hb0 h hz0
  have HS:Hid (∀w',Below W1.heap.size W1 w'→Below W1.heap.size W1 w'∧w'.cell? ⟨w.heap.size,1,none⟩=some (.int .i64 i.f)∧w'.cell? ⟨w.heap.size,2,none⟩=some (.int .i64 i.t)):=fun w' h=>
   ⟨h,(⟨w',h⟩:Ext W1).cell c1,(⟨w',h⟩:Ext W1).cell c2⟩
  have HC3:Hid (∀w',Below W1.heap.size W1 w'→w'.cell? ⟨w.heap.size,3,none⟩=some (.int .i64 i.s)):=fun w' h=>(⟨w',h⟩:Ext W1).cell c3
  clear hW c1 c2 c3
  go_region_held3 (fun w'=>Below W1.heap.size W1 w'∧w'.cell? ⟨w.heap.size,1,none⟩=some (.int .i64 i.f)∧w'.cell? ⟨w.heap.size,2,none⟩=some (.int .i64 i.t))
   (first|(go_split_ands;refine HS.out _ (zai ?_ hb1 ?_);assumption;exact Below.size (by assumption))|(go_split_ands;refine HS.out _ (Below.alloc ?_ ?_ _);assumption;exact Below.size (by assumption))|(refine HS.out _ ?_;exact Below.drew (waC _ _))|(refine HS.out _ ?_;exact zax (waC _ _) _))
   (first|(go_at_call 167;(with_reducible refine(HF.out _ ?_).mono ?_);(focus (go_split_ands;exact HW.out _ (by assumption)));rintro e w1 ⟨rfl,hb1⟩)|(go_at_call 167;(with_reducible refine(HT.out _ ?_).mono ?_);(focus (go_split_ands;exact HW.out _ (by assumption)));rintro e w1 ⟨rfl,hb1⟩)|(go_at_call 64;(refine(zeZ _ _ _ _ _ (zaa rfl rfl) (zaa rfl rfl) (by decide) (by omega) (by omega)).mono ?_);rintro e w1 ⟨rfl,hb1⟩))
  have hbA:Below w.heap.size w w1:=HW.out _ (by go_split_ands;assumption)
  have c3:=HC3.out w1 (by go_split_ands;assumption)
  have hzA:=hbA.size;clear hb1;simp only[Exit.inBlock,Exit.then]
  go_wp2_with fail
  ·go_ret;exact⟨HE.out _ (by(simp only[beq_iff_eq,wbE,bne_iff_ne,bne_eq_false_iff_eq,ne_eq] at *);(repeat' split)<;>first|(exfalso;omega)|simp[zfN,DF.out,DT.out,DS.out]),hbA⟩
  ·refine(HSt.out _ hbA).mono ?_;rintro e w2 ⟨rfl,hb2⟩;have hbB:=zai hbA hb2 hzA;have hzB:=hbB.size;go_wp2_with fail;refine(zeZ _ _ _ _ _ (zaa rfl rfl) (zaa rfl rfl) (by decide) (by rw[ByteArray.size_append,ByteArray.size_append];have:(⟨#[45]⟩:ByteArray).size=1:=rfl;omega) (by omega)).mono ?_
   rintro e w3 ⟨rfl,hb3⟩;have hb4:Below w.heap.size w w3:=(hbB.alloc hzB _).trans (hb3.mono (by simp;omega))
   go_wp2;go_ret;exact⟨HE.out _ (by(simp only[beq_iff_eq,wbE,bne_iff_ne,bne_eq_false_iff_eq,ne_eq] at *);(repeat' split)<;>first|(exfalso;omega)|simp[zfN,DF.out,DT.out,DS.out]),hb4⟩
 ·go_ret;exact⟨HE.out _ (by(simp only[beq_iff_eq,wbE,bne_iff_ne,bne_eq_false_iff_eq,ne_eq] at *);(repeat' split)<;>first|(exfalso;omega)|simp[zfN,DF.out,DT.out,DS.out]),by exact zaH⟩
theorem zpL {w:World} {b c o n:Nat} {v:Value} (h:w.there b 0 n) (hne:c≠b):(w.setCell ⟨c,o,none⟩ v).there b 0 n:=fun j hj=>by
 rw[waU _ _ _ _ (by intro e;injection e with e1;exact hne e1),waS]
 exact h j hj
theorem zdo (c:Cl):(clA c).all (·.oneCell')=true:=by kernel_rfl
def zgk:Cl:={m:=fun _=>0,or:=false,oi:=0,ob:=false,od:=fun _=>0,y:=fun _=>0,u:=0,s:=0,a:=0,f:=0,t:=0}
theorem zhb:∀(l:List Value) (k:Nat) (Z:Array Value) (j:Nat),((l.zipIdx k).foldl (fun(a:Array Value) (x:Value×Nat)=>a.setIfInBounds x.2 x.1) Z)[j]?=if k≤j∧j<k+l.length then(if j<Z.size then l[j - k]? else none) else Z[j]?
 |[],k,Z,j=>by
  have h:¬(k≤j∧j<k+([]:List Value).length):=by simp only[List.length_nil];omega
  rw[if_neg h];rfl
 |v::l,k,Z,j=>by
  rw[List.zipIdx_cons,List.foldl_cons,zhb l (k+1) _ j,Array.size_setIfInBounds]
  by_cases h1:k=j
  ·subst h1;have h2:¬(k+1≤k∧k<k+1+l.length):=by omega
   have h3:k≤k∧k<k+(v::l).length:=by simp only[waG];omega
   rw[if_neg h2,if_pos h3,Array.getElem?_setIfInBounds_self];simp
  ·by_cases h2:k+1≤j∧j<k+1+l.length
   ·have h3:k≤j∧j<k+(v::l).length:=by simp only[waG];omega
    rw[if_pos h2,if_pos h3];have e:j - k=(j - (k+1))+1:=by omega
    rw[e,List.getElem?_cons_succ]
   ·have h3:¬(k≤j∧j<k+(v::l).length):=by simp only[waG];omega
    rw[if_neg h2,if_neg h3,Array.getElem?_setIfInBounds_ne h1]
theorem zmn (cs Z:Array Value) (m:Nat) (h:Z.size=m) (hm:cs.size=m):Array.foldl (fun(a:Array Value) (x:Value×Nat)=>a.setIfInBounds x.2 x.1) Z (cs.zipIdx 0) 0 m=cs:=by
 have e1:Array.foldl (fun(a:Array Value) (x:Value×Nat)=>a.setIfInBounds x.2 x.1) Z (cs.zipIdx 0) 0 m=(cs.toList.zipIdx 0).foldl (fun(a:Array Value) (x:Value×Nat)=>a.setIfInBounds x.2 x.1) Z:=by
  rw[←Array.toList_zipIdx,Array.foldl_toList];simp[hm]
 rw[e1];apply Array.ext_getElem?;intro j;rw[zhb]
 by_cases hj:j<cs.size
 ·have h1:0≤j∧j<0+cs.toList.length:=by simp[hj]
  rw[if_pos h1,if_pos (by omega)]
  simp
 ·have h1:¬(0≤j∧j<0+cs.toList.length):=by simp;omega
  rw[if_neg h1,Array.getElem?_eq_none (by omega),Array.getElem?_eq_none (by omega)]
theorem zke (w:World) (c:Cl) (t:TypeId):zbw (w.alloc (.cells (clA c) t)) (some ⟨w.heap.size,0,none⟩) 1 [c]:=
 ⟨rfl,fun _=>⟨w.heap.size,0,rfl,by simp,fun i x hx j v hj=>by
  have hi:i<1:=(waI.1 hx).1;obtain rfl:i=0:=by omega
  cases hx;simp only[Nat.zero_mul,waH];exact zme w (clA c) t j v (by unfold zg1 at hj;simpa using hj)⟩⟩
def zmo (c:Cl) (w:World) (x:Ending) (w':World):Prop:=∃b,x=.returned (.tuple #[.slice (some ⟨b,0,none⟩) 1 1,.int .i64 0])∧zbw w' (some ⟨b,0,none⟩) 1 [c]∧Below w.heap.size w w'
theorem zea {w:World} {B:Nat} {A:Nat→Option Addr} {n c:Nat→Nat} (h:zaV w B 0 A n c):w.cell? ⟨B,0,none⟩=some (.slice (A 0) (n 0) (c 0))∧w.cell? ⟨B,1,none⟩=some (.slice (A 1) (n 1) (c 1))∧w.cell? ⟨B,2,none⟩=some (.slice (A 2) (n 2) (c 2))∧w.cell? ⟨B,3,none⟩=some (.slice (A 3) (n 3) (c 3))∧w.cell? ⟨B,4,none⟩=some (.slice (A 4) (n 4) (c 4)):=by
 obtain⟨h0,h1,h2,h3,h4⟩:=h;simp only[waH] at h1 h2 h3 h4;exact⟨h0,h1,h2,h3,h4⟩
structure LowS (w W:World) (b:Nat) (A:Nat→Option Addr) (n c:Nat→Nat) (g:Nat→Value):Prop where
 line:zaV W w.heap.size 0 A n c
 arr:Arr W b 30 g
 out:W.there (w.heap.size+1) 0 30
 lt:w.heap.size+1<b
 below:Below w.heap.size w W
theorem LowS.later {w W W':World} {b:Nat} {A:Nat→Option Addr} {n c:Nat→Nat} {g:Nat→Value} (h:LowS w W b A n c g) (hb:Below W.heap.size W W'):LowS w W' b A n c g:=
 have hl:=Arr.lt h.arr dQ
 ⟨zaV.below h.line (fun o=>hb.cell (p:=⟨_,o,none⟩) (by show w.heap.size<_;have:=h.lt;omega)),Arr.below h.arr hl hb,zaK h.out (by have:=h.lt;omega) hb,h.lt,zai h.below hb h.below.size⟩
theorem LowS.updG {w W:World} {b:Nat} {A:Nat→Option Addr} {n c:Nat→Nat} {g:Nat→Value} (h:LowS w W b A n c g) (i:Nat) (hi:i<30) (v:Value):LowS w (W.setCell ⟨b,i,none⟩ v) b A n c (updG g i v):=
 ⟨zaV.below h.line (fun o=>waU _ _ _ _ (by intro e;injection e with e1;have:=h.lt;omega)),Arr.updG h.arr i hi v,zpL h.out (by have:=h.lt;omega),h.lt,h.below.setCell (by show w.heap.size≤b;have:=h.lt;omega) _⟩
theorem zc5 (k:Nat) (hk:k<5) (b:Nat) (A:Nat→Option Addr) (n c:Nat→Nat) (l:Nat→List It) (W:World) (hL:zaV W b 0 A n c) (hA:zbX W A n l) (hn:n k≤100000) (hnil:A k=none→n k=0):
 Calls prog 65 #[.int .i64 (k:Int),.pointer (some ⟨b,0,none⟩)] W (Ret (.int .u64 (zan (zaD (l k) (cLo k) (cHi k)))) W):=by
 have HB:=waV (fun W=>zfc k hk W)
 have HF:=waV (fun W' (hb:Below W.heap.size W W')=>zmg k hk A n c l W' (hA.below hb (waJ _)) oQ hnil)
 have HM:=waV (fun A' c' W' (h:zcz W' A' (n k) (l k))=>zj6 (cLo k) (cHi k) A' (n k) c' (l k) W' h hn)
 have hbl:=waR _ _ hL.1;have HL:=waV hL;clear hA hL;generalize cLo k=lo at *;generalize cHi k=hi at *;generalize zan (zaD (l k) lo hi)=M at *;go_enter func65,ntmps65;go_wp2_with fail;refine(HB.out _).mono ?_;rintro e w1 ⟨rfl,hb1⟩;have HL1:=waV (zaV.below HL.out (fun o=>hb1.cell (p:=⟨_,o,none⟩) hbl))
 obtain⟨l0,l1,l2,l3,l4⟩:=zea HL1.out;go_wp2_with fail;refine(HF.out _ hb1).mono ?_;rintro e w2 ⟨A',c',rfl,hr,hb2⟩;have hbW:=zai hb1 hb2 hb1.size;clear l0 l1 l2 l3 l4 HL1 hb1 hb2;go_wp2_with fail;refine(HM.out _ _ _ hr).mono ?_;rintro e w3 ⟨rfl,hb3⟩;go_wp2;go_ret;exact⟨rfl,zai hbW hb3 hbW.size⟩
theorem zi6 (A:Nat→Option Addr) (n c:Nat→Nat) (l:Nat→List It) (w:World) (hA:zbX w A n l) (hn:∀k,n k≤9223372036854775807) (h:(chk l).2≠0):
 Calls prog 25 #[crV A n c] w (Ret (.tuple #[.agg (clA zgk),.int .i64 (chk l).2]) w):=by
 have HK:=waV (fun W (hb:Below w.heap.size w W)=>zfd A n c l W (hA.below hb (waJ _)) hn)
 have HI:=waV (zbW zgk);have H1:=waV (zdo zgk);have he:((chk l).2 !=0)=true:=by simpa using h
 clear hA hn h;generalize (chk l).1=f at *;generalize (chk l).2=e at *;have HZ:Hid (Value.agg (clA zgk)=.agg #[.int .u64 0,.int .u64 0,.int .u64 0,.int .u64 0,.int .u64 0,.int .u64 0,.int .u64 0,.bool false,.int .i64 0,.bool false,.int .u64 0,.int .u64 0,.int .u64 0,.int .u64 0,.int .u64 0,.int .u64 0,.int .u64 0,.int .u64 0,.int .u64 0,.int .u64 0,.int .u64 0,.int .u64 0,.int .u64 0,.int .u64 0,.int .u64 0,.int .i64 0,.int .i64 0,.int .i64 0,.int .i64 0,.int .i64 0]):=rfl;rw[HZ.out];clear HZ HI H1;go_enter func25,ntmps25;go_wp2_with fail;refine(HK.out _ (by exact zaH)).mono ?_
 rintro x w1 ⟨rfl,hb1⟩;have hbW:Below w.heap.size w w1:=(((waC _ w).alloc (waJ _) _).alloc (by simp) _).trans (hb1.mono (by simp;omega))
 have hT:=zaK (zb6 (w.alloc (.cells #[.slice (A 0) (n 0) (c 0),.slice (A 1) (n 1) (c 1),.slice (A 2) (n 2) (c 2),.slice (A 3) (n 3) (c 3),.slice (A 4) (n 4) (c 4)] 24)) #[.int .u64 0,.int .u64 0,.int .u64 0,.int .u64 0,.int .u64 0,.int .u64 0,.int .u64 0,.bool false,.int .i64 0,.bool false,.int .u64 0,.int .u64 0,.int .u64 0,.int .u64 0,.int .u64 0,.int .u64 0,.int .u64 0,.int .u64 0,.int .u64 0,.int .u64 0,.int .u64 0,.int .u64 0,.int .u64 0,.int .u64 0,.int .u64 0,.int .i64 0,.int .i64 0,.int .i64 0,.int .i64 0,.int .i64 0] 61) (by simp) hb1
 rw[show (w.alloc (.cells #[.slice (A 0) (n 0) (c 0),.slice (A 1) (n 1) (c 1),.slice (A 2) (n 2) (c 2),.slice (A 3) (n 3) (c 3),.slice (A 4) (n 4) (c 4)] 24)).heap.size=w.heap.size+1 by simp] at hT
 clear hb1
 go_wp2_with (refine zdE (w:=w) rfl 61 _ _ rfl #[.int .u64 0,.int .u64 0,.int .u64 0,.int .u64 0,.int .u64 0,.int .u64 0,.int .u64 0,.bool false,.int .i64 0,.bool false,.int .u64 0,.int .u64 0,.int .u64 0,.int .u64 0,.int .u64 0,.int .u64 0,.int .u64 0,.int .u64 0,.int .u64 0,.int .u64 0,.int .u64 0,.int .u64 0,.int .u64 0,.int .u64 0,.int .u64 0,.int .i64 0,.int .i64 0,.int .i64 0,.int .i64 0,.int .i64 0] (w.heap.size+1) oQ rfl rfl underlying61 rfl kQ kQ hbW hT ?_;intro W' hLd hbE)
 (try simp only[Exit.inBlock,Exit.then])
 refine waY (v:=.tuple #[.agg #[.int .u64 0,.int .u64 0,.int .u64 0,.int .u64 0,.int .u64 0,.int .u64 0,.int .u64 0,.bool false,.int .i64 0,.bool false,.int .u64 0,.int .u64 0,.int .u64 0,.int .u64 0,.int .u64 0,.int .u64 0,.int .u64 0,.int .u64 0,.int .u64 0,.int .u64 0,.int .u64 0,.int .u64 0,.int .u64 0,.int .u64 0,.int .u64 0,.int .i64 0,.int .i64 0,.int .i64 0,.int .i64 0,.int .i64 0],.int .i64 e]) ?_ rfl ⟨rfl,hbE⟩;rw[zay rfl];show((loadVar 61 ⟨w.heap.size+1,0,none⟩).run prog W').andThen (fun v w₂=>Result.ok (Value.tuple #[v,Value.int .i64 e]) w₂)=_
 rw[hLd.out];rfl
def mkC (a0 a1 a2 a3 a4 a6:Int) (E:Bool):Cl:={m:=fun i=>if i=0 then a0 else if i=1 then a1 else if i=2 then a2 else if i=3 then a3 else if i=4 then a4 else if i=5 then zaM 1 31 else a6,or:=E,oi:=0,ob:=false,od:=fun _=>0,y:=zci,u:=0,s:=1,a:=0,f:=0,t:=12622780799}
theorem zrO (a0 a1 a2 a3 a4 a6:Int) (E:Bool):∀j,j<30→updG (updG (updG (updG (updG (updG (updG (fun j=>(clA zbs).getD j undef) 0 (.int .u64 a0)) 1 (.int .u64 a1)) 2 (.int .u64 a2)) 4 (.int .u64 a4)) 3 (.int .u64 a3)) 6 (.int .u64 a6)) 7 (.bool E) j=(clA (mkC a0 a1 a2 a3 a4 a6 E)).getD j undef:=by
 intro j hj;obtain rfl|rfl|rfl|rfl|rfl|rfl|rfl|rfl|rfl|rfl|rfl|rfl|rfl|rfl|rfl|rfl|rfl|rfl|rfl|rfl|rfl|rfl|rfl|rfl|rfl|rfl|rfl|rfl|rfl|rfl:j=0∨j=1∨j=2∨j=3∨j=4∨j=5∨j=6∨j=7∨j=8∨j=9∨j=10∨j=11∨j=12∨j=13∨j=14∨j=15∨j=16∨j=17∨j=18∨j=19∨j=20∨j=21∨j=22∨j=23∨j=24∨j=25∨j=26∨j=27∨j=28∨j=29:=by omega
 all_goals rfl
theorem zrP (l:Nat→List It):zaL l=mkC 1 (zan (zaD (l 0) 0 59)) (zan (zaD (l 1) 0 23)) (zan (zaD (l 3) 1 12)) (zan (zaD (l 2) 1 31)) (zan (wkL (zaD (l 4) 0 7))) (zfV l):=rfl
theorem zkf (A:Nat→Option Addr) (n c:Nat→Nat) (l:Nat→List It) (w:World) (hA:zbX w A n l) (hn:∀k,n k≤100000) (hnil:∀k,A k=none→n k=0) (h:(chk l).2=0):
 Calls prog 25 #[crV A n c] w (Ret (.tuple #[.agg (clA (zaL l)),.int .i64 0]) w):=by
 have HK:=waV (fun W (hb:Below w.heap.size w W)=>zfd A n c l W (hA.below hb (waJ _)) (fun k=>by have:=hn k;omega))
 rw[h] at HK;have HF:=waV (fun W=>zj0 W)
 have HO:=waV (fun b W h=>zdg (some ⟨b,0,none⟩) 1 1 [0] W h dQ)
 rw[←ziX] at HO;have eg:∀args w,(callFunc 65 args).run prog w=.ok (.enter 65 args) w:=enters_of func65 kQ rfl;have H0:=waV (fun b W (hb:Below w.heap.size w W) (h:zaV W b 0 A n c)=>zc5 0 dQ b A n c l W h (hA.below hb (waJ _)) (hn 0) (hnil 0))
 have H1:=waV (fun b W (hb:Below w.heap.size w W) (h:zaV W b 0 A n c)=>zc5 1 dQ b A n c l W h (hA.below hb (waJ _)) (hn 1) (hnil 1))
 have H2:=waV (fun b W (hb:Below w.heap.size w W) (h:zaV W b 0 A n c)=>zc5 2 dQ b A n c l W h (hA.below hb (waJ _)) (hn 2) (hnil 2))
 have H3:=waV (fun b W (hb:Below w.heap.size w W) (h:zaV W b 0 A n c)=>zc5 3 dQ b A n c l W h (hA.below hb (waJ _)) (hn 3) (hnil 3))
 have HW:=waV (fun W (hb:Below w.heap.size w W)=>zj7 (A 4) (n 4) (c 4) (l 4) W ((hA 4 dQ).below hb (waJ _)) (hn 4))
 have HE:=waV (fun W (hb:Below w.heap.size w W)=>znw A n c l W (hA.below hb (waJ _)))
 have HI:=waV (zbW zbs);have HC:=waV (zdo zbs);have HI2:=waV (zbW (zaL l));have HC2:=waV (zdo (zaL l));have hsz:(clA zbs).size=30:=rfl;have HG:Hid (∀j,j<30→updG (updG (updG (updG (updG (updG (updG (fun j=>(clA zbs).getD j undef) 0 (.int .u64 1)) 1 (.int .u64 (zan (zaD (l 0) 0 59)))) 2 (.int .u64 (zan (zaD (l 1) 0 23)))) 4 (.int .u64 (zan (zaD (l 2) 1 31)))) 3 (.int .u64 (zan (zaD (l 3) 1 12)))) 6 (.int .u64 (zan (wkL (zaD (l 4) 0 7))))) 7 (.bool (zfV l)) j=(clA (zaL l)).getD j undef):=by
  show ∀j,_;rw[zrP];exact zrO _ _ _ _ _ _ _
 have e0:zan (zaD (l 0) (cLo (0:Nat)) (cHi (0:Nat)))=zan (zaD (l 0) 0 59):=by rw[show cLo ((0:Nat):Int)=0 from rfl,show cHi ((0:Nat):Int)=59 from rfl]
 have e1:zan (zaD (l 1) (cLo (1:Nat)) (cHi (1:Nat)))=zan (zaD (l 1) 0 23):=by rw[show cLo ((1:Nat):Int)=0 from rfl,show cHi ((1:Nat):Int)=23 from rfl]
 have e2:zan (zaD (l 2) (cLo (2:Nat)) (cHi (2:Nat)))=zan (zaD (l 2) 1 31):=by rw[show cLo ((2:Nat):Int)=1 from rfl,show cHi ((2:Nat):Int)=31 from rfl]
 have e3:zan (zaD (l 3) (cLo (3:Nat)) (cHi (3:Nat)))=zan (zaD (l 3) 1 12):=by rw[show cLo ((3:Nat):Int)=1 from rfl,show cHi ((3:Nat):Int)=12 from rfl]
 rw[e0] at H0;rw[e1] at H1;rw[e2] at H2;rw[e3] at H3;have HZs:Hid (30=(clA zbs).size∧(clA zbs).size=30):=⟨rfl,rfl⟩;have HS30:Hid ((clA (zaL l)).size=30):=rfl;clear hA hn hnil h hsz e0 e1 e2 e3;generalize clA zbs=cs at *;generalize clA (zaL l)=zs at *;generalize zan (zaD (l 0) 0 59)=M0 at *;generalize zan (zaD (l 1) 0 23)=M1 at *;generalize zan (zaD (l 2) 1 31)=M2 at *;generalize zan (zaD (l 3) 1 12)=M3 at *;generalize zan (wkL (zaD (l 4) 0 7))=M4 at *;generalize zfV l=E at *;generalize (chk l).1=fd at *;go_enter func25,ntmps25;go_wp2_with fail;refine(HK.out _ (by exact zaH)).mono ?_
 rintro x w1 ⟨rfl,hq1⟩;have hb1:Below w.heap.size w w1:=(((waC _ w).alloc (waJ _) _).alloc (by simp) _).trans (hq1.mono (by simp;omega))
 have hT:=zaK (zb6 (w.alloc (.cells #[.slice (A 0) (n 0) (c 0),.slice (A 1) (n 1) (c 1),.slice (A 2) (n 2) (c 2),.slice (A 3) (n 3) (c 3),.slice (A 4) (n 4) (c 4)] 24)) #[.int .u64 0,.int .u64 0,.int .u64 0,.int .u64 0,.int .u64 0,.int .u64 0,.int .u64 0,.bool false,.int .i64 0,.bool false,.int .u64 0,.int .u64 0,.int .u64 0,.int .u64 0,.int .u64 0,.int .u64 0,.int .u64 0,.int .u64 0,.int .u64 0,.int .u64 0,.int .u64 0,.int .u64 0,.int .u64 0,.int .u64 0,.int .u64 0,.int .i64 0,.int .i64 0,.int .i64 0,.int .i64 0,.int .i64 0] 61) (by simp) hq1
 rw[show (w.alloc (.cells #[.slice (A 0) (n 0) (c 0),.slice (A 1) (n 1) (c 1),.slice (A 2) (n 2) (c 2),.slice (A 3) (n 3) (c 3),.slice (A 4) (n 4) (c 4)] 24)).heap.size=w.heap.size+1 by simp] at hT
 have hL:zaV ((w.alloc (.cells #[.slice (A 0) (n 0) (c 0),.slice (A 1) (n 1) (c 1),.slice (A 2) (n 2) (c 2),.slice (A 3) (n 3) (c 3),.slice (A 4) (n 4) (c 4)] 24)).alloc (.cells #[.int .u64 0,.int .u64 0,.int .u64 0,.int .u64 0,.int .u64 0,.int .u64 0,.int .u64 0,.bool false,.int .i64 0,.bool false,.int .u64 0,.int .u64 0,.int .u64 0,.int .u64 0,.int .u64 0,.int .u64 0,.int .u64 0,.int .u64 0,.int .u64 0,.int .u64 0,.int .u64 0,.int .u64 0,.int .u64 0,.int .u64 0,.int .u64 0,.int .i64 0,.int .i64 0,.int .i64 0,.int .i64 0,.int .i64 0] 61)) w.heap.size 0 A n c:=⟨by simp[go_sem],by simp[go_sem],by simp[go_sem],by simp[go_sem],by simp[go_sem]⟩
 have HL1:=waV (zaV.below hL (fun o=>hq1.cell (p:=⟨_,o,none⟩) (by simp;omega)))
 have HT1:=waV hT;have hz1:w.heap.size+2≤w1.heap.size:=by have:=hq1.size;simp at this;omega
 clear hq1 hT hL HK;go_wp2_with fail;refine(HF.out _).mono ?_;rintro x w2 ⟨rfl,hq2⟩;have hb2:=zai hb1 hq2 hb1.size;have HL2:=waV (zaV.below HL1.out (fun o=>hq2.cell (p:=⟨_,o,none⟩) (by show w.heap.size<w1.heap.size;omega)))
 have HT2:=waV (zaK HT1.out oQ hq2);have hz2:w.heap.size+2≤w2.heap.size:=by have:=hq2.size;omega
 clear HL1 HT1 hb1 hq2 hz1 HF
 go_wp2_with (refine zaR (by rfl) 61 _ _ rfl cs _ rfl rfl HI.out HC.out HZs.out.1 ?_;intro w3 hq3 HA3 hz3)
 have HS3:Hid (LowS w w3 w2.heap.size A n c (fun j=>cs.getD j undef)):=
  ⟨zaV.below HL2.out (fun o=>hq3.cell (p:=⟨_,o,none⟩) (by show w.heap.size<w2.heap.size;omega)),by rw[←HZs.out.2];exact HA3,zaK HT2.out (by omega) hq3,by omega,zai hb2 hq3 hb2.size⟩
 have hz3':w2.heap.size<w3.heap.size:=by omega
 clear hq3 HA3 HL2 HT2 hb2;have HS4:=waV (HS3.out.later ((waC _ w3).alloc (waJ _) (.cells #[.int .i64 0] 3)));generalize hB:w2.heap.size=B at *;refine(HO.out _ _ ?_).mono ?_
 ·refine zfP _ _ 0 ?_ ?_
  ·rw[←hz3];simp
  ·rw[←hz3];exact zaa rfl rfl
 rintro x w4 ⟨rfl,rfl⟩;clear HS3 hz3 hz3' HO;generalize World.alloc w3 _=w4 at *;have c0:=HS4.out.arr.1 0 dQ;have f0:=HS4.out.arr.2 0;go_wp2_with fail;have HS5:=waV (HS4.out.updG 0 dQ (.int .u64 1));clear HS4 c0 f0;generalize World.setCell w4 _ _=w5 at *;refine(H0.out _ _ HS5.out.below HS5.out.line).mono ?_;rintro x w6 ⟨rfl,hq⟩;have HS6:=waV (HS5.out.later hq);clear HS5 hq H0;go_wp2_with fail;refine(H1.out _ _ HS6.out.below HS6.out.line).mono ?_;rintro x w7 ⟨rfl,hq⟩;have HS7:=waV (HS6.out.later hq);clear HS6 hq H1;go_wp2_with fail;refine(H2.out _ _ HS7.out.below HS7.out.line).mono ?_;rintro x w8 ⟨rfl,hq⟩;have HS8:=waV (HS7.out.later hq);clear HS7 hq H2;go_wp2_with fail;refine(H3.out _ _ HS8.out.below HS8.out.line).mono ?_;rintro x w9 ⟨rfl,hq⟩;have HS9:=waV (HS8.out.later hq);clear HS8 hq H3;have c1:=HS9.out.arr.1 1 dQ;have c2:=HS9.out.arr.1 2 dQ;have c3:=HS9.out.arr.1 3 dQ;have c4:=HS9.out.arr.1 4 dQ;have f1:=HS9.out.arr.2 1;have f2:=HS9.out.arr.2 2;have f3:=HS9.out.arr.2 3;have f4:=HS9.out.arr.2 4;obtain⟨l0,l1,l2,l3,l4⟩:=zea HS9.out.line;have hlt1:w.heap.size<B:=by have:=HS9.out.lt;omega
 go_wp2_with fail;have HS10:=waV ((((HS9.out.updG 1 dQ (.int .u64 M0)).updG 2 dQ (.int .u64 M1)).updG 4 dQ (.int .u64 M2)).updG 3 dQ (.int .u64 M3));clear HS9 c1 c2 c3 c4 f1 f2 f3 f4 l0 l1 l2 l3 l4;generalize World.setCell (World.setCell (World.setCell (World.setCell w9 _ _) _ _) _ _) _ _=w10 at *;refine(HW.out _ HS10.out.below).mono ?_;rintro x w11 ⟨rfl,hq⟩;have HS11:=waV (HS10.out.later hq);clear HS10 hq HW;have c6:=HS11.out.arr.1 6 dQ;have f6:=HS11.out.arr.2 6;obtain⟨l0,l1,l2,l3,l4⟩:=zea HS11.out.line;go_wp2_with fail;have HS12:=waV (HS11.out.updG 6 dQ (.int .u64 M4));clear HS11 c6 f6 l0 l1 l2 l3 l4;generalize World.setCell w11 _ _=w12 at *;refine(HE.out _ HS12.out.below).mono ?_;rintro x w13 ⟨rfl,hq⟩;have HS13:=waV (HS12.out.later hq);clear HS12 hq HE;have c7:=HS13.out.arr.1 7 dQ;have f7:=HS13.out.arr.2 7;have HS14:=waV (HS13.out.updG 7 dQ (.bool E));clear HS13;have HZ14:Hid (∀j v,zs[j]?=some v→(w13.setCell ⟨B,7,none⟩ (.bool E)).cell? ⟨B,0+j,none⟩=some v):=fun j v hj=>by
  have hl:j<30:=by rw[←HS30.out];exact(waL.1 hj).1
  rw[waH,HS14.out.arr.1 j hl,HG.out j hl,wbL,hj];rfl
 have HT14:Hid ((w13.setCell ⟨B,7,none⟩ (.bool E)).there (w.heap.size+1) 0 zs.size):=by show World.there _ _ _ _;rw[HS30.out];exact HS14.out.out
 have HB14:=waV HS14.out.below;clear HG HS14
 go_wp2_with (first
  |(refine zah (by rfl) 61 _ rfl zs B 0 rfl underlying61 rfl HI2.out HZ14.out ?_)
  |(refine zdE (w:=w) rfl 61 _ _ rfl zs (w.heap.size+1) oQ rfl rfl underlying61 rfl HI2.out HC2.out HB14.out HT14.out ?_;intro W' hLd hbE))
 (try simp only[Exit.inBlock,Exit.then])
 refine waY (v:=.tuple #[.agg zs,.int .i64 0]) ?_ rfl ⟨rfl,hbE⟩;rw[zay rfl];show((loadVar 61 ⟨w.heap.size+1,0,none⟩).run prog W').andThen (fun v w₂=>Result.ok (Value.tuple #[v,Value.int .i64 0]) w₂)=_
 rw[hLd.out];rfl
theorem zgA (A:Nat→Option Addr) (n c:Nat→Nat) (l:Nat→List It) (w:World) (hA:zbX w A n l) (hn:∀k,n k≤100000) (hnil:∀k,A k=none→n k=0) (h:(chk l).2=0):
 Calls prog 8 #[crV A n c] w (zmo (zaL l) w):=by
 have HC:=waV (fun W (hb:Below w.heap.size w W)=>zkf A n c l W (hA.below hb (waJ _)) hn hnil h)
 have HI:=waV (zbW (zaL l));have H1:=waV (zdo (zaL l));have Hs:Hid (30=(clA (zaL l)).size):=rfl;have HR:=waV (fun w t=>zke w (zaL l) t)
 clear hA hn hnil h;generalize clA (zaL l)=cs at *;generalize zaL l=K at *;go_enter func8,ntmps8;go_wp2_with fail;refine(HC.out _ (by exact zaH)).mono ?_
 rintro x w1 ⟨rfl,hq1⟩;have hb1:Below w.heap.size w w1:=((waC _ w).alloc (waJ _) _).trans (hq1.mono (by simp))
 clear hq1 HC;have hcs:cs.size=30:=Hs.out.symm
 go_wp2_with (first
  |(refine zaR (by rfl) 61 _ _ rfl cs _ rfl rfl HI.out H1.out Hs.out ?_;intro w2 hq2 HS2 hz2)
  |(refine zah (by rfl) 61 _ rfl cs w1.heap.size 0 rfl underlying61 rfl HI.out (zcq (ziP HS2)) ?_))
 have hb2:=zai hb1 hq2 hb1.size;have hbE:Below w.heap.size w (w2.alloc (.cells cs 61)):=hb2.alloc hb2.size _;rw[zmn cs _ 30 rfl hcs,←hz2];refine waY (wbM rfl _ _ _) rfl ?_;exact⟨_,rfl,HR.out _ _,hbE⟩
theorem zkg (A:Nat→Option Addr) (n c:Nat→Nat) (l:Nat→List It) (w:World) (hA:zbX w A n l) (hn:∀k,n k≤9223372036854775807) (h:(chk l).2≠0):
 Calls prog 8 #[crV A n c] w (Ret (.tuple #[.slice none 0 0,.int .i64 (chk l).2]) w):=by
 have HC:=waV (fun W (hb:Below w.heap.size w W)=>zi6 A n c l W (hA.below hb (waJ _)) hn h)
 have HI:=waV (zbW zgk);have H1:=waV (zdo zgk);have Hs:Hid (30=(clA zgk).size):=rfl;have he:((chk l).2 !=0)=true:=by simpa using h
 clear hA hn h;generalize (chk l).2=e at *;generalize clA zgk=cs at *;go_enter func8,ntmps8;go_wp2_with fail;refine(HC.out _ (by exact zaH)).mono ?_
 rintro x w1 ⟨rfl,hq1⟩;have hb1:Below w.heap.size w w1:=((waC _ w).alloc (waJ _) _).trans (hq1.mono (by simp))
 clear hq1 HC
 go_wp2_with (refine zaR (by rfl) 61 _ _ rfl cs _ rfl rfl HI.out H1.out Hs.out ?_;intro w2 hq2 HS2 hz2)
 refine waY (wbM rfl _ _ _) rfl ?_;exact⟨rfl,zai hb1 hq2 hb1.size⟩
def Box (w:World) (B b:Nat) (f:Int):Prop:=w.cell? ⟨B,0,none⟩=some (.pointer (some ⟨b,0,none⟩))∧w.cell? ⟨B,1,none⟩=some (.int .i64 f)
section
variable {w w' : World} {B b : Nat} {f : Int}
theorem Box.lt (h:Box w B b f):B<w.heap.size:=waR w _ h.1
theorem Box.chg (h:Box w B b f) (hg:Chg b w w') (hne:B≠b):Box w' B b f:=⟨hg.cell hne h.1,hg.cell hne h.2⟩
theorem Box.below (h:Box w B b f) (hb:Below w.heap.size w w'):Box w' B b f:=⟨(hb.cell (p:=⟨B,0,none⟩) h.lt).trans h.1,(hb.cell (p:=⟨B,1,none⟩) h.lt).trans h.2⟩
theorem Box.alloc (h:Box w B b f) (o:Obj):Box (w.alloc o) B b f:=h.below ((waC _ _).alloc (waJ _) _)
theorem Box.set (h:Box w B b f) {C o:Nat} (hne:C≠B) (v:Value):Box (w.setCell ⟨C,o,none⟩ v) B b f:=
 ⟨by rw[waU _ _ _ _ (by intro e;injection e with e1;exact hne e1)];exact h.1,by rw[waU _ _ _ _ (by intro e;injection e with e1;exact hne e1)];exact h.2⟩
end
theorem zll (w:World) (b:Nat) (f:Int) (t:TypeId):Box (w.alloc (.cells #[.pointer (some ⟨b,0,none⟩),.int .i64 f] t)) w.heap.size b f:=⟨zaa rfl rfl,zaa rfl rfl⟩
abbrev rdV (b:Nat) (f:Int):Value:=.agg #[.pointer (some ⟨b,0,none⟩),.int .i64 f]
theorem zpM {w:World} {b:Nat} {s:ByteArray} {l:List UInt8} (h:zcJ w b s l):Calls prog 56 #[.pointer (some ⟨b,0,none⟩)] w (zb0 (.int .i64 (zfk s l.length)) w):=by
 obtain⟨k,hk,rfl,hr⟩:=h;have hp:zfk s (s.data.toList.drop k).length=(k:Int):=by
  unfold zfk;rw[List.length_drop,zdC];omega
 rw[hp];exact zoU b s k 0 0 w hr
def Fr (w:World) (B R b:Nat) (f:Int):Prop:=Box w B b f∧zjP w R ⟨0,0,0,0⟩
section
variable {w w' : World} {B R b : Nat} {f : Int}
theorem Fr.chg (h:Fr w B R b f) (hg:Chg b w w') (h1:B≠b) (h2:R≠b):Fr w' B R b f:=⟨h.1.chg hg h1,Arr.chg h.2 dQ hg h2⟩
theorem Fr.alloc (h:Fr w B R b f) (o:Obj):Fr (w.alloc o) B R b f:=⟨h.1.alloc o,Arr.alloc h.2 (Arr.lt h.2 dQ) o⟩
theorem Fr.set (h:Fr w B R b f) {C o:Nat} (h1:C≠B) (h2:C≠R) (v:Value):Fr (w.setCell ⟨C,o,none⟩ v) B R b f:=⟨h.1.set h1 v,Arr.other h.2 h2⟩
end
theorem zs4 (w:World) (b:Nat) (f:Int) (t t':TypeId):Fr ((w.alloc (.cells #[.pointer (some ⟨b,0,none⟩),.int .i64 f] t)).alloc (.cells #[.int .i64 0,.int .i64 0,.int .i64 0,.int .i64 0] t')) w.heap.size (w.heap.size+1) b f:=
 ⟨(zll w b f t).alloc _,by have:=zfm (w.alloc (.cells #[.pointer (some ⟨b,0,none⟩),.int .i64 f] t)) 0 0 0 0 t';simpa using this⟩
theorem zcJ.set4 {w:World} {b R:Nat} {s:ByteArray} {l:List UInt8} (h:zcJ w b s l) (hR:R≠b) (v0 v1 v2 v3:Value):zcJ ((((w.setCell ⟨R,0,none⟩ v0).setCell ⟨R,1,none⟩ v1).setCell ⟨R,2,none⟩ v2).setCell ⟨R,3,none⟩ v3) b s l:=
 (((h.set hR v0).set hR v1).set hR v2).set hR v3
theorem zf0 (b f:Nat) (hf:f<5) (s:ByteArray) (hs:s.size≤1000000) (l l1:List UInt8) (w:World) (h:zcJ w b s l) (hp:pIs [42] l=some l1) (hp1:pIs [47] l1=none):
 Calls prog 58 #[rdV b f] w (zmb (itV ⟨0,0,0,1⟩) b s l1 w):=by
 have hs9:s.size≤9223372036854775807:=by omega
 have hlt:=h.lt;have hne:w.heap.size≠b:=by omega
 have hne1:w.heap.size+1≠b:=by omega
 have H:=waV h;have HP:=waV (hp);have HP1:=waV (hp1);clear h hp hp1;go_enter func58,ntmps58;go_wp2_with fail;refine(zsX hs9 (((H.out.alloc _).alloc _).alloc _) (zuy (c:=42) (zaa (by simp) rfl)) dQ HP.out).mono ?_
 rintro e w1 ⟨rfl,h1,g1⟩;have F1:=waV (((zs4 w b (f:Int) 104 81).alloc _).chg g1 hne hne1);have hg1:=((((Chg.refl b w).alloc _).alloc _).alloc _).trans g1;have hz1:=g1.size
 (try simp at hz1)
 have hzA1:w.heap.size<w1.heap.size:=by omega
 have hzB1:w.heap.size+1<w1.heap.size:=by omega
 obtain⟨c0,c1⟩:=F1.out.1;have hneI:w1.heap.size≠b:=by omega
 go_wp2_with fail;refine(zrk hs9 ((h1.alloc _).alloc _) (zuy (c:=47) (zaa (by simp) rfl)) dQ HP1.out).mono ?_
 rintro e w2 ⟨rfl,h2,g2⟩;have F2:=waV (((F1.out.alloc _).alloc _).chg g2 hne hne1);have I2:=waV (Arr.chg (Arr.alloc (zfm w1 0 0 0 1 81) (Arr.lt (zfm w1 0 0 0 1 81) dQ) _) dQ g2 hneI);have hg2:=((hg1.alloc _).alloc _).trans g2;have hz2:=g2.size
 (try simp at hz2)
 have hzA2:w.heap.size<w2.heap.size:=by omega
 have hzB2:w.heap.size+1<w2.heap.size:=by omega
 have hzI2:w1.heap.size<w2.heap.size:=by omega
 clear c0 c1;obtain⟨c0,c1⟩:=F2.out.1;obtain⟨i0,i1,i2,i3,ifz⟩:=zjP.cells I2.out;obtain⟨r0,r1,r2,r3,rfz⟩:=zjP.cells F2.out.2;go_wp2
 (try simp only[Exit.inBlock,Exit.then])
 refine waY (v:=itV ⟨0,0,0,1⟩) ?_ rfl ⟨rfl,?_,?_⟩
 ·rw[zag rfl]
  go_simp
 ·exact h2.set4 hne1 _ _ _ _
 ·exact hg2.set4 oQ _ _ _ _
section
variable {w w' wr : World} {b : Nat}
theorem Chg.grown {row:Option Nat} (h:Chg b w wr) (hg:wr.grownBy w' row) (hrow:∀k,row=some k→w.heap.size≤k):Chg b w w':=
 ⟨hg.os.trans h.os,hg.tape.trans h.tape,hg.output.trans h.output,waW h.size hg.size,fun k hk hn=>(hg.block k (waD hk h.size) (fun e=>by have:=hrow k e.symm;omega)).trans (h.block k hk hn)⟩
theorem zs5 {B n k:Nat} {v:Value} {t:TypeId} {xs:List Value} (h:w.ownsRow B t k v n xs):∀g,v.ownBlock=some g→B≤g:=by
 intro g hg;rcases zbn h with ⟨rfl,_⟩|⟨g',cap,rfl,h2,_⟩
 ·simp[Value.ownBlock] at hg
 ·simp[Value.ownBlock] at hg;omega
theorem zdG {B n k:Nat} {v:Value} {t:TypeId} {xs:List Value} (h:w.ownsRow B t k v n xs) (hg:Chg b w w') (hb:b<B):w'.ownsRow B t k v n xs:=
 h.kept hg (by
  cases e:v.ownBlock with
  |none=>exact .inl rfl
  |some g=>right;have:=zs5 h g e;intro h2;cases h2;omega)
end
theorem own_set {w:World} {B R o n k:Nat} {v x:Value} {t:TypeId} {xs:List Value} (h:w.ownsRow B t k v n xs) (hR:R<B):(w.setCell ⟨R,o,none⟩ x).ownsRow B t k v n xs:=
 zdG h ((Chg.refl R w).set o x) hR
theorem zrQ {w:World} {B n k:Nat} {v:Value} {t:TypeId} {xs:List Value} (h:w.ownsRow B t k v n xs):w.drew.ownsRow B t k v n xs:=h
theorem zu9 {w:World} {B n k:Nat} {v:Value} {t:TypeId} {xs:List Value} (h:w.ownsRow B t k v n xs):∃A m c,v=.slice A m c:=by
 rcases zbn h with ⟨rfl,_⟩|⟨g,cap,rfl,_⟩
 ·exact⟨_,_,_,rfl⟩
 ·exact⟨_,_,_,rfl⟩
section
variable {w w' w'' : World} {b C : Nat}
end
def ztT (L:List It) (b:Nat) (s:ByteArray) (r:List UInt8) (w:World) (x:Ending) (w':World):Prop:=∃v,x=.returned v∧zat w' w.heap.size v L∧zcJ w' b s r∧Chg b w w'
section
variable {w w' wr : World} {b : Nat} {s : ByteArray} {l : List UInt8} {a c : Int}
theorem zcJ.grown {row:Option Nat} (h:zcJ w b s l) (hg:w.grownBy w' row) (hrow:row≠some b):zcJ w' b s l:=by
 obtain⟨k,hk,hl,hr⟩:=h;exact⟨k,hk,hl,(hg.block b hr.lt (Ne.symm hrow)).trans hr⟩
theorem Box.grown {B:Nat} {f:Int} {row:Option Nat} (h:Box w B b f) (hg:w.grownBy w' row) (hrow:row≠some B):Box w' B b f:=
 ⟨hg.cell h.1 (Ne.symm hrow),hg.cell h.2 (Ne.symm hrow)⟩
end
section
variable (b : Nat) (s : ByteArray) (hs : s.size ≤ 9223372036854775807) (l : List UInt8) (w : World)
include hs
theorem znA (h:zcJ w b s l) (hp:l.takeWhile zbP≠[]):Calls prog 59 #[.pointer (some ⟨b,0,none⟩)] w (zmb (.tuple #[]) b s (l.dropWhile zbP) w):=by
 have HB:=waV (zeV hs h);have hn:(((l.takeWhile zbP).length:Int)==0)=false:=by
  have:(l.takeWhile zbP).length≠0:=fun e=>hp (List.length_eq_zero_iff.1 e)
  simp;exact hp
 generalize (l.takeWhile zbP).length=q at HB hn;clear h hp;go_enter func59,ntmps59;go_wp2_with fail;refine HB.out.mono ?_;rintro e w1 ⟨rfl,h1,g1⟩;go_wp2
 first|go_end0|(refine waY (results_none rfl _ _ _) rfl ?_)
 exact⟨rfl,h1,g1⟩
end
def upd {α:Type} (f:Nat→α) (k:Nat) (x:α) (j:Nat):α:=if j=k then x else f j
def zkh (A:Nat→Option Addr) (n c:Nat→Nat) (j:Nat):Value:=.slice (A j) (n j) (c j)
theorem zmp {A:Nat→Option Addr} {n c:Nat→Nat} {k:Nat} {A':Option Addr} {n' c':Nat}:zkh (upd A k A') (upd n k n') (upd c k c') k=.slice A' n' c':=by simp[zkh,upd]
theorem zpN {A:Nat→Option Addr} {n c:Nat→Nat} {k j:Nat} {A':Option Addr} {n' c':Nat} (h:j≠k):zkh (upd A k A') (upd n k n') (upd c k c') j=zkh A n c j:=by simp[zkh,upd,h]
theorem znB (s:ByteArray):zfk s 0=(s.size:Int):=by unfold zfk;omega
def nil5 (_:Nat):Value:=.slice none 0 0
theorem zi7 (w:World) (t:TypeId) (v0 v1 v2 v3 v4:Value) (g:Nat→Value) (h0:g 0=v0) (h1:g 1=v1) (h2:g 2=v2) (h3:g 3=v3) (h4:g 4=v4):Arr (w.alloc (.cells #[v0,v1,v2,v3,v4] t)) w.heap.size 5 g:=
 zdZ w #[v0,v1,v2,v3,v4] t g (by
  intro j hj;obtain rfl|rfl|rfl|rfl|rfl:j=0∨j=1∨j=2∨j=3∨j=4:=by simp at hj;omega
  ·rw[h0];rfl
  ·rw[h1];rfl
  ·rw[h2];rfl
  ·rw[h3];rfl
  ·rw[h4];rfl)
theorem arr5 {w:World} {b:Nat} {g:Nat→Value} (h:Arr w b 5 g):w.cell? ⟨b,0,none⟩=some (g 0)∧w.cell? ⟨b,1,none⟩=some (g 1)∧w.cell? ⟨b,2,none⟩=some (g 2)∧w.cell? ⟨b,3,none⟩=some (g 3)∧w.cell? ⟨b,4,none⟩=some (g 4)∧∀j,w.frozen? ⟨b,j,none⟩=false:=
 ⟨h.1 0 dQ,h.1 1 dQ,h.1 2 dQ,h.1 3 dQ,h.1 4 dQ,h.2⟩
theorem ztU {w:World} {B R n k:Nat} {v x0 x1 x2 x3 x4:Value} {t:TypeId} {xs:List Value} (h:w.ownsRow B t k v n xs) (hR:R<B):
 ((((((w.setCell ⟨R,0,none⟩ x0).setCell ⟨R,1,none⟩ x1).setCell ⟨R,2,none⟩ x2).setCell ⟨R,3,none⟩ x3).setCell ⟨R,4,none⟩ x4).drew).ownsRow B t k v n xs:=
 zrQ (own_set (own_set (own_set (own_set (own_set h hR) hR) hR) hR) hR)
end Go.Proofs.YtgedndlifiihkaaGreatDoor
