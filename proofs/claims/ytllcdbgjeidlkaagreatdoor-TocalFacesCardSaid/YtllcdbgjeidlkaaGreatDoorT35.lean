/- A part of the proof: WCalC -/
import Derived.Test.YtllcdbgjeidlkaaGreatDoorT04
import Derived.Test.YtllcdbgjeidlkaaGreatDoorT34
import Derived.Test.YtllcdbgjeidlkaaGreatDoorT28
import Derived.Test.YtllcdbgjeidlkaaGreatDoorT00
import Derived.Lib.IndexMore
set_option maxHeartbeats 80000000
set_option maxRecDepth 100000
set_option linter.unusedSimpArgs false
set_option linter.unusedVariables false
namespace Go.Proofs.YtllcdbgjeidlkaaGreatDoor
open Go.Proofs.Tryz
open Go.RowKit
def zdc (w:World) (B:Nat) (s:ByteArray) (k:Nat):Prop:=
 ∀j x,s.data.toList[j]?=some x->w.cell? ⟨B,j,none⟩=some (.int .u8 ((if j<k then zf2 x else x).toNat:Int))/\w.frozen? ⟨B,j,none⟩=false
theorem zlW (s:ByteArray) (w:World) (C:Array Value) (t:TypeId) (hC:∀(i:Nat) (x:UInt8),s.data.toList[i]?=some x->C[i]?=some (Value.int .u8 (x.toNat:Int))):
 zdc (w.alloc (.cells C t (C.size,C.size+1))) w.heap.size s 0:=by
 intro j x hx;have h1:=heap_alloc_new w (.cells C t (C.size,C.size+1));have h2:=hC j x hx;have hj:=(waL.1 h2).1;refine⟨?_,?_⟩
 ·unfold World.cell?;rw[h1,if_neg (Nat.not_lt_zero _)];exact h2
 ·unfold World.frozen?;rw[h1];simp;omega
theorem zq8 {c:UInt8} (h:65<=c.toNat/\c.toNat<=90):(c.toNat:Int)+32=((zf2 c).toNat:Int):=by
 unfold zf2;rw[if_pos h,UInt8.toNat_add];have:(32:UInt8).toNat=32:=rfl;omega
theorem zdc.skip {w:World} {B k:Nat} {s:ByteArray} (h:zdc w B s k) {hk:k<s.size} (hv:zf2 s[k]=s[k]) (hk':k<s.size):zdc w B s (k+1):=by
 intro j x hx;obtain⟨h1,h2⟩:=h j x hx;refine⟨?_,h2⟩;rw[h1]
 by_cases hj:j<k
 ·rw[if_pos hj,if_pos (by omega)]
 ·rw[if_neg hj]
  by_cases hj2:j<k+1
  ·obtain rfl:j=k:=by omega
   rw[zdt s j hk'] at hx;cases hx;rw[if_pos hj2,hv]
  ·rw[if_neg hj2]
theorem zdc.step {w:World} {B k:Nat} {s:ByteArray} {v:Int} (h:zdc w B s k) (hk:k<s.size) (hv:v=((zf2 s[k]).toNat:Int)):zdc (w.setCell ⟨B,k,none⟩ (.int .u8 v)) B s (k+1):=by
 intro j x hx;obtain⟨h1,h2⟩:=h j x hx;refine⟨?_,by rw[waS];exact h2⟩
 by_cases hj:j=k
 ·subst hj;rw[waT _ _ _ h1,if_pos (Nat.lt_succ_self _),hv];rw[zdt s j hk] at hx;cases hx;rfl
 ·rw[waU _ _ _ _ (by intro e;injection e with _ e2;exact hj e2.symm),h1]
  by_cases hj1:j<k
  ·rw[if_pos hj1,if_pos (by omega)]
  ·rw[if_neg hj1,if_neg (by omega)]
theorem zlX {w:World} {B:Nat} {s:ByteArray} (h:zdc w B s s.size) (cap:Nat):
 (convert 254 9 (.slice (some ⟨B,0,none⟩) s.size cap)).run prog w=.ok (.string (za2 (zc0 s.data.toList))) w:=by
 have:=run_convert_bytes_back (P:=prog) w 254 9 5 ⟨B,0,none⟩ cap (zc0 s.data.toList) underlying254 underlying5 underlying9 (by
  intro j hj;have hj':j<s.data.toList.length:=by simpa[zc0] using hj
  have hx:s.data.toList[j]?=some (s.data.toList[j]):=waE hj';obtain⟨h1,_⟩:=h j _ hx;rw[if_pos (by rwa [zaT] at hj')] at h1
  have e:(⟨B,0,none⟩:Addr).add j=⟨B,j,none⟩:=by unfold Addr.add;split<;>simp_all
  rw[e,h1];simp[zc0])
 have hl:(zc0 s.data.toList).length=s.size:=by simp[zc0]
 rw[hl] at this;exact this
theorem zov (s:ByteArray) (hs:s.size<=9223372036854775807) (w:World):Calls prog 96 #[.string s] w (Ret (.string (za2 (zc0 s.data.toList))) w):=by
 obtain⟨cap,C,hconv,hC⟩:=zhQ s w;have HC:=waV hC;clear hC;have H0:Hid (zdc (w.drew.alloc (.cells C 5 (C.size,C.size+1))) w.heap.size s 0):=zlW s w.drew C 5 HC.out;have hconv:=hconv;go_enter func96,ntmps96;go_wp2
 go_loopw [10] (fun i wr=>∃k:Nat,k<=s.size/\i=.int .i64 k/\Hid (zdc wr w.heap.size s k)/\Below w.heap.size w wr) (fun i _=>s.size - (intOf i).toNat)
 case atStart=>exact⟨0,waK _,rfl,H0.out,by exact zaE⟩
 case round=>
  obtain⟨k,hk,rfl,HS,hb⟩:=hrel;have hsz:=hb.size
  by_cases hlt:k<s.size
  ·have hlt':(k:Int)<(s.size:Int):=by omega
   obtain⟨c0,f0⟩:=HS.out k s[k] (zdt s k hlt);rw[if_neg (Nat.lt_irrefl k)] at c0;have hx0:(0:Int)<=(s[k].toNat:Int):=by omega
   have hx1:(s[k].toNat:Int)<=255:=by have:=s[k].toNat_lt;omega
   by_cases hup:65<=s[k].toNat/\s[k].toNat<=90
   ·have hu1:(65:Int)<=(s[k].toNat:Int):=by omega
    have hu2:(s[k].toNat:Int)<=90:=by omega
    have HV:Hid ((s[k].toNat:Int)+32=((zf2 s[k]).toNat:Int)):=zq8 hup;clear hup;generalize hz:(s[k].toNat:Int)=z at *;clear hz;go_wp2;go_roundw
    case rel=>exact⟨k+1,by omega,by go_num,HS.out.step hlt (by have hv:=HV.out;omega),hb.setCell (waJ _) _⟩
    case measure=>simp [intOf];omega
   ·have HV:Hid (zf2 s[k]=s[k]):=if_neg hup
    by_cases hu1:(65:Int)<=(s[k].toNat:Int)
    ·have hu2:¬(s[k].toNat:Int)<=90:=by omega
     clear hup;go_wp2;go_roundw
     case rel=>exact⟨k+1,by omega,by go_num,HS.out.skip HV.out hlt,hb⟩
     case measure=>simp [intOf];omega
    ·clear hup;go_wp2;go_roundw
     case rel=>exact⟨k+1,by omega,by go_num,HS.out.skip HV.out hlt,hb⟩
     case measure=>simp [intOf];omega
  ·obtain rfl:k=s.size:=by omega
   have hback:=zlX HS.out cap;go_wp2;go_ret;exact⟨rfl,hb⟩
theorem zeW (c:Int) (w:World):Calls prog 98 #[.int .u8 c] w (zbE (.bool (zwR c)) w):=by
 generalize hq:zwR c=q;have HQ:=waV hq;clear hq;go_enter func98,ntmps98;go_wp2
 all_goals go_ret
 all_goals (refine⟨zab ?_,rfl⟩;rw[<-HQ.out];((try simp only[beq_iff_eq,wbE,bne_iff_ne,ne_eq,zwR,waM,decide_eq_false_iff_not,waN,wbF,Bool.not_eq_true',Bool.not_eq_false',Bool.and_eq_false_iff,Bool.or_eq_false_iff] at *)
                                             rw[waQ]
                                             (try simp only[zwR,waM,beq_iff_eq,bne_iff_ne,ne_eq,waN,wbF,Bool.not_eq_true',Bool.not_eq_false',wbE,decide_eq_false_iff_not,iff_true,true_iff,Bool.false_eq_true,false_iff,iff_false,reduceCtorEq])
                                             omega))
theorem zik (s t:ByteArray) (hs:s.size<=9223372036854775807) (ht:t.size<=9223372036854775807) (w:World):Calls prog 210 #[.string s,.string t] w (zbE (.bool (decide (t.data.toList<+:s.data.toList))) w):=by
 generalize hq:decide (t.data.toList<+:s.data.toList)=q;have HQ:=waV hq;clear hq;have HH:Hid (∀W,Calls prog 244 #[.string s,.string t] W (zbE (.bool q) W)):=by
  intro W
  by_cases hle:t.size<=s.size
  ·have hle':(t.size:Int)<=(s.size:Int):=by omega
   go_enter func244,ntmps244;go_wp2;go_ret;refine⟨zab ?_,rfl⟩;rw[<-HQ.out,waQ,waM,beq_iff_eq,ByteArray.toList_eq,ByteArray.toList_eq,zcs,wbA,Nat.sub_zero,List.prefix_iff_eq_take,zaT];exact eq_comm
  ·have hle':¬(t.size:Int)<=(s.size:Int):=by omega
   have hq:Hid (q=false):=by
    show _=_;rw[<-HQ.out];exact waO (fun h=>by have:=h.length_le;rw[zaT,zaT] at this;omega)
   go_enter func244,ntmps244;go_wp2;go_ret;exact⟨zab hq.out.symm,rfl⟩
 go_enter func210,ntmps210;go_wp2_with fail;refine(HH.out _).mono ?_;rintro e w1 ⟨rfl,rfl⟩;go_wp2;go_ret;exact⟨rfl,rfl⟩
def zni (k:Nat):List UInt8:=if k=0 then [77,111,110] else if k=1 then [84,117,101] else if k=2 then [87,101,100] else if k=3 then [84,104,117] else if k=4 then [70,114,105] else if k=5 then [83,97,116] else [83,117,110]
def zhh:Value:=.agg #[.string (za2 (zni 0)),.string (za2 (zni 1)),.string (za2 (zni 2)),.string (za2 (zni 3)),.string (za2 (zni 4)),.string (za2 (zni 5)),.string (za2 (zni 6))]
theorem zlY (w:World):Calls prog 242 #[] w (Ret zhh w):=by
 go_enter func242,ntmps242;go_wp2;refine waY (v:=zhh) ?_ rfl ⟨rfl,by exact zaE⟩
 rw[zah rfl];unfold zhh
 go_simp
 exact⟨rfl,rfl,rfl,rfl,rfl,rfl,rfl⟩
theorem zil (k:Nat) (hk:k<7) (w:World):(Instr.index 277 zhh (.int .i64 (k:Int))).run prog w=.ok (.string (za2 (zni k))) w:=by
 obtain rfl|rfl|rfl|rfl|rfl|rfl|rfl:k=0\/k=1\/k=2\/k=3\/k=4\/k=5\/k=6:=by omega
 all_goals kernel_rfl
theorem zjq (x:List UInt8):(za2 x).toList=x:=by rw[ByteArray.toList_eq,zbd]
theorem znj {x y:List UInt8} (b:Bool) (h:decide (x=y)=b):((za2 x).toList==(za2 y).toList)=b:=by
 rw[zjq,zjq,<-h,waQ,beq_iff_eq,waM]
theorem ztw (k:Nat):(zni k).length<=3:=by
 unfold zni
 repeat' split
 all_goals decide
theorem zow (f:Nat) (hf:f<7) (w:World):(Instr.index 205 (.agg #[.int .i64 1,.int .i64 7,.int .i64 1970,.int .i64 2369,.int .i64 1,.int .i64 12,.int .i64 1,.int .i64 31,.int .i64 0,.int .i64 23,.int .i64 0,.int .i64 59,.int .i64 0,.int .i64 59]) (.int .i64 (f:Int))).run prog w=.ok (.agg #[.int .i64 (kLo f),.int .i64 (kHi f)]) w:=by
 obtain rfl|rfl|rfl|rfl|rfl|rfl|rfl:f=0\/f=1\/f=2\/f=3\/f=4\/f=5\/f=6:=by omega
 all_goals kernel_rfl
theorem zeX (f:Nat) (hf:f<7) (w:World):Calls prog 60 #[.int .i64 (f:Int)] w (Ret (.tuple #[.int .i64 (kLo f),.int .i64 (kHi f)]) w):=by
 have hix:=fun W=>zow f hf W
 have h0:(0:Int)<=(f:Int):=by omega
 have h7:(f:Int)<7:=by omega
 generalize kLo (f:Int)=lo at *;generalize kHi (f:Int)=hi at *;go_enter func60,ntmps60;go_wp2
 go_quiet (fail)
 go_wp2
 go_ret2
 exact⟨rfl,by exact zaE⟩
section
variable {w : World} {b : Nat} {s : ByteArray} {σ : PS} (hs : s.size <= 1000000)
include hs
theorem zv6 (f:Nat) (hf:f<7) (h:RdP w b s σ):Calls prog 250 #[kV b s,.int .i64 (f:Int)] w (zjO (.int .i64 (zou s.size f σ).2) b s (zou s.size f σ).1 w):=by
 have hs9:s.size<=9223372036854775807:=by omega
 have hlt:=h.lt;have hne:¬w.heap.size=b:=by omega
 have H:=waV h;have HA:=waV (fun W (h:RdP W b s σ)=>zsn h)
 have HN:=waV (fun W (h:RdP W b s σ)=>zpA hs9 (most:=zot f) (by unfold zot;split<;>decide) h)
 have HR:Hid (zou s.size f σ=if(znK s.size (zot f) σ).2.2=true/\((znK s.size (zot f) σ).2.1<kLo f\/kHi f<(znK s.size (zot f) σ).2.1) then(zfI (atP s.size σ) 4 (znK s.size (zot f) σ).1,(znK s.size (zot f) σ).2.1) else((znK s.size (zot f) σ).1,(znK s.size (zot f) σ).2.1)):=rfl
 generalize zou s.size f σ=R at *;generalize atP s.size σ=at0 at *;generalize znK s.size (zot f) σ=r at *;obtain⟨τ,n,ok⟩:=r;dsimp only at *;have HF:=waV (fun W (h:RdP W b s τ)=>zpy at0 4 h)
 have HB:=waV (fun W=>zeX f hf W)
 generalize kLo (f:Int)=lo at *;generalize kHi (f:Int)=hi at *;have hd:Hid ((zot f:Int)=if f=1 then 4 else 2):=by show _=_;unfold zot;split<;>split<;>first|rfl|omega
 clear h
 by_cases h1:f=1
 case' pos=>
  subst h1;rw[if_pos rfl] at hd
 case' neg=>
  have h1':((f:Int)==1)=false:=by simp;omega
  rw[if_neg h1] at hd;clear h1
 all_goals
  rw[hd.out] at HN;go_enter func250,ntmps250;go_wp2_with fail;refine(HB.out _).mono ?_;rintro e w1 ⟨rfl,hb1⟩;obtain⟨hc1,hf1⟩:=zad hb1;have hz1:w.heap.size<w1.heap.size:=by have:=hb1.size;simp at this;omega
  have g1:Chg b w w1:=(Chg.refl b w).alloc _|>.trans (Chg.of_below hb1)
  have h1:RdP w1 b s σ:=(H.out.alloc _).below hb1;go_wp2_with fail;refine(HA.out _ h1).mono ?_;rintro e w2 ⟨rfl,rfl⟩;go_wp2_with fail;refine(HN.out _ h1).mono ?_;rintro e w3 ⟨rfl,h3,g3⟩;obtain⟨hc3,hf3⟩:=zsm g3;have g13:=g1.trans g3;cases ok with
  |false=>
   have HE:Hid (R=(τ,n)):=by show _=_;rw[HR.out,if_neg (by rintro ⟨x,_⟩;cases x)]
   clear HR;go_wp2;go_ret;exact⟨by rw[HE.out];rfl,by rw[HE.out];exact h3,g13⟩
  |true=>
   by_cases hr:n<lo\/hi<n
   ·have HE:Hid (R=(zfI at0 4 τ,n)):=by show _=_;rw[HR.out,if_pos ⟨rfl,hr⟩]
    clear HR
    by_cases hr2:n<lo
    case' neg=>have hr3:hi<n:=by omega
    all_goals
     clear hr;go_wp2_with fail;refine(HF.out _ h3).mono ?_;rintro e w4 ⟨rfl,h4,g4⟩;go_wp2;go_ret;exact⟨by rw[HE.out];rfl,by rw[HE.out];exact h4,g13.trans g4⟩
   ·have HE:Hid (R=(τ,n)):=by show _=_;rw[HR.out,if_neg (by rintro ⟨_,x⟩;exact hr x)]
    have hr1:¬n<lo:=fun x=>hr (.inl x)
    have hr2:¬hi<n:=fun x=>hr (.inr x)
    clear HR hr;go_wp2;go_ret;exact⟨by rw[HE.out];rfl,by rw[HE.out];exact h3,g13⟩
end
theorem zhi {s:ByteArray} {k:Nat}:(s.extract k s.size).data.toList=s.data.toList.drop k:=by
 rw[zcs,<-zaT,<-List.length_drop,List.take_length]
def zcv (w:World):Prop:=∃m:Int,w.cell? ⟨1,0,none⟩=some (.int .i64 m)
theorem zcv.below {w w':World} (h:zcv w) (hb:Below w.heap.size w w'):zcv w':=by
 obtain⟨m,hm⟩:=h;exact⟨m,(hb.cell (p:=⟨_,0,none⟩) (waR w _ hm)).trans hm⟩
theorem zcv.chg {w w':World} {b:Nat} {s:ByteArray} {σ:PS} (h:zcv w) (hr:RdP w b s σ) (hg:Chg b w w'):zcv w':=by
 obtain⟨m,hm⟩:=h;obtain⟨k,_,_,hk⟩:=hr;have hne:1≠b:=by
  rintro rfl;rw[hk.cells.1] at hm;cases hm
 exact⟨m,hg.cell hne hm⟩
theorem zlZ (l:List UInt8):(Lib.cut l [32]).1=l.takeWhile (fun c=>decide (c≠32)):=by
 have hi:∀l:List UInt8,(Lib.index l [32]=-1/\l.takeWhile (fun c=>decide (c≠32))=l)\/(0<=Lib.index l [32]/\l.take (Lib.index l [32]).toNat=l.takeWhile (fun c=>decide (c≠32))):=by
  intro l;induction l with
  |nil=>left;exact⟨rfl,rfl⟩
  |cons c l ih=>
   unfold Lib.index
   by_cases hc:c=32
   ·subst hc;right;rw[if_pos (by simp[List.isPrefixOf])]
    exact⟨by decide,by simp[List.takeWhile_cons]⟩
   ·have hp:([32]:List UInt8).isPrefixOf (c::l)=false:=by
     simp[List.isPrefixOf];exact fun e=>hc e.symm
    rw[hp,if_neg (by decide)]
    have ht:(c::l).takeWhile (fun c=>decide (c≠32))=c::l.takeWhile (fun c=>decide (c≠32)):=by
     rw[List.takeWhile_cons,if_pos (by simpa using hc)]
    rw[ht];rcases ih with ⟨h1,h2⟩|⟨h1,h2⟩
    ·left;rw[h1,h2];exact⟨by simp,rfl⟩
    ·right;rw[if_neg (by simp;omega)]
     refine⟨by omega,?_⟩
     rw[show (Lib.index l [32]+1).toNat=(Lib.index l [32]).toNat+1 from by omega,List.take_succ_cons,h2]
 unfold Lib.cut;rcases hi l with ⟨h1,h2⟩|⟨h1,h2⟩
 ·rw[if_neg (by omega),h2]
 ·rw[if_pos h1,h2]
section
variable {w : World} {b : Nat} {s : ByteArray} {σ : PS} (hs : s.size <= 1000000)
include hs
theorem zq9 (h:RdP w b s σ) (hm:zcv w):Calls prog 104 #[kV b s] w (zjO (.string (za2 (zdJ σ))) b s σ w):=by
 have hs9:s.size<=9223372036854775807:=by omega
 have hlt:=h.lt;have hne:¬w.heap.size=b:=by omega
 have H:=waV h;have HD:=waV (fun W (h:RdP W b s σ)=>zpx h)
 cases hd:zgD σ with
 |true=>
  have HW:Hid (zdJ σ=[]):=by
   show _=_;unfold zdJ;unfold zgD at hd;have:=waA hd;split
   ·rcases this with h|h
    ·exact absurd (by assumption) h
    ·rw[h];rfl
   ·rfl
  rw[hd] at HD;clear h hd hm;go_enter func104,ntmps104;go_wp2_with fail;refine(HD.out _ (H.out.alloc _)).mono ?_;rintro e w1 ⟨rfl,h1,g1⟩;go_wp2;go_ret;exact⟨by rw[HW.out];rfl,h1,((Chg.refl b w).alloc _).trans g1⟩
 |false=>
  rw[hd] at HD;have he:σ.e=0:=by
   unfold zgD at hd;have:=of_decide_eq_false hd;rcases Decidable.em (σ.e=0) with h|h
   ·exact h
   ·exact absurd (.inl h) this
  obtain⟨k,hk,hl,hr⟩:=h;have hat:=zjP hk hl;have HA:=waV (fun W (h:RdP W b s σ)=>zsn h)
  rw[hat] at HA;have hk':(k:Int)<=(s.size:Int):=by omega
  have HW:Hid ((Lib.cut (s.extract k s.size).data.toList [32]).1=zdJ σ):=by
   show _=_;rw[zhi,<-hl,zlZ];unfold zdJ;rw[if_pos he]
  obtain⟨v2,v3,hC⟩:∃(v2:ByteArray) (v3:Bool),∀W,zcv W->Calls prog 166 #[.string (s.extract k s.size),.string ⟨#[32]⟩] W (ziA (.tuple #[.string (za2 (zdJ σ)),.string v2,.bool v3]) W):=by
   refine⟨za2 (Lib.cut (s.extract k s.size).data.toList [32]).2.1,(Lib.cut (s.extract k s.size).data.toList [32]).2.2,fun W hW=>?_⟩
   obtain⟨m,hm⟩:=hW;refine(Tryz.strings_Cut (s.extract k s.size) ⟨#[32]⟩ m W (by simp;omega) hm).mono ?_
   rintro e w' ⟨rfl,n,rfl⟩;exact⟨by rw[<-HW.out];rfl,n,rfl⟩
  have HC:=waV hC;have HM:Hid (∀W,Chg b (w.alloc (.cells #[.pointer (some ⟨b,0,none⟩),.string s] 98)) W->zcv W):=fun W hW=>
   (hm.below ((waC _ w).alloc (waJ _) _)).chg (H.out.alloc _) hW
  clear hC hd hr hl hm HW he;go_enter func104,ntmps104;go_wp2_with fail;refine(HD.out _ (H.out.alloc _)).mono ?_;rintro e w1 ⟨rfl,h1,g1⟩;obtain⟨hc1,hf1⟩:=zsm g1;have hm1:=waV (HM.out _ g1);go_wp2
  go_quiet ((first|(go_at_call 107;exact zcJ (HA.out _ (by exact h1.drewN _)))|(go_at_call 166;exact zdZ (HC.out _ (by exact hm1.out)))))
  go_wp2;go_ret;exact⟨rfl,h1.drewN _,(((Chg.refl b w).alloc _).trans g1).drewN _⟩
end
def zby (f:Nat):Nat:=if f<4 then f else f+1
structure EvAt (w:World) (b:Nat) (A:Nat->Option Addr) (n c:Nat->Nat) (bk:Bool):Prop where
 h0:w.cell? ⟨b,0,none⟩=some (.slice (A 0) (n 0) (c 0))
 h1:w.cell? ⟨b,1,none⟩=some (.slice (A 1) (n 1) (c 1))
 h2:w.cell? ⟨b,2,none⟩=some (.slice (A 2) (n 2) (c 2))
 h3:w.cell? ⟨b,3,none⟩=some (.slice (A 3) (n 3) (c 3))
 h4:w.cell? ⟨b,4,none⟩=some (.bool bk)
 h5:w.cell? ⟨b,5,none⟩=some (.slice (A 5) (n 5) (c 5))
 h6:w.cell? ⟨b,6,none⟩=some (.slice (A 6) (n 6) (c 6))
 h7:w.cell? ⟨b,7,none⟩=some (.slice (A 7) (n 7) (c 7))
def evV (A:Nat->Option Addr) (n c:Nat->Nat) (bk:Bool):Value:=.agg #[.slice (A 0) (n 0) (c 0),.slice (A 1) (n 1) (c 1),.slice (A 2) (n 2) (c 2),.slice (A 3) (n 3) (c 3),.bool bk,.slice (A 5) (n 5) (c 5),.slice (A 6) (n 6) (c 6),.slice (A 7) (n 7) (c 7)]
theorem EvAt.below {w w':World} {b:Nat} {A:Nat->Option Addr} {n c:Nat->Nat} {bk:Bool} (h:EvAt w b A n c bk) (hb:Below w.heap.size w w'):EvAt w' b A n c bk:=by
 have hl:=waR _ _ h.h0;exact⟨(hb.cell (p:=⟨b,0,none⟩) hl).trans h.h0,(hb.cell (p:=⟨b,1,none⟩) hl).trans h.h1,(hb.cell (p:=⟨b,2,none⟩) hl).trans h.h2,(hb.cell (p:=⟨b,3,none⟩) hl).trans h.h3,(hb.cell (p:=⟨b,4,none⟩) hl).trans h.h4,(hb.cell (p:=⟨b,5,none⟩) hl).trans h.h5,(hb.cell (p:=⟨b,6,none⟩) hl).trans h.h6,(hb.cell (p:=⟨b,7,none⟩) hl).trans h.h7⟩
theorem zeC (w:World) (A:Nat->Option Addr) (n c:Nat->Nat) (bk:Bool) (t:TypeId):EvAt (w.alloc (.cells #[.slice (A 0) (n 0) (c 0),.slice (A 1) (n 1) (c 1),.slice (A 2) (n 2) (c 2),.slice (A 3) (n 3) (c 3),.bool bk,.slice (A 5) (n 5) (c 5),.slice (A 6) (n 6) (c 6),.slice (A 7) (n 7) (c 7)] t)) w.heap.size A n c bk:=
 ⟨zaa rfl rfl,zaa rfl rfl,zaa rfl rfl,zaa rfl rfl,zaa rfl rfl,zaa rfl rfl,zaa rfl rfl,zaa rfl rfl⟩
theorem ztx (k:Nat) (hk:k<7) (A:Nat->Option Addr) (n c:Nat->Nat) (w:World):(Instr.index 114 (.agg #[.slice (A 0) (n 0) (c 0),.slice (A 1) (n 1) (c 1),.slice (A 2) (n 2) (c 2),.slice (A 3) (n 3) (c 3),.slice (A 5) (n 5) (c 5),.slice (A 6) (n 6) (c 6),.slice (A 7) (n 7) (c 7)]) (.int .i64 k)).run prog w=.ok (.slice (A (zby k)) (n (zby k)) (c (zby k))) w:=by
 obtain rfl|rfl|rfl|rfl|rfl|rfl|rfl:k=0\/k=1\/k=2\/k=3\/k=4\/k=5\/k=6:=by omega
 all_goals kernel_rfl
theorem zgw (k:Nat) (hk:k<7) (b:Nat) (A:Nat->Option Addr) (n c:Nat->Nat) (bk:Bool) (w:World) (h:EvAt w b A n c bk):
 Calls prog 23 #[.pointer (some ⟨b,0,none⟩),.int .i64 k] w (ziA (.slice (A (zby k)) (n (zby k)) (c (zby k))) w):=by
 obtain⟨h0,h1,h2,h3,h4,h5,h6,h7⟩:=h;have hix:=fun W=>ztx k hk A n c W
 have q1:¬(k:Int)<0:=by omega
 have q2:¬(7:Int)<=k:=by omega
 go_enter func23,ntmps23;go_wp2
 go_quiet (fail)
 go_wp2;go_ret;exact⟨rfl,_,rfl⟩
theorem zkO (k:Nat) (w:World):Calls prog 169 #[.int .i64 k] w (zbE (.int .i64 (zcS k)) w):=by
 by_cases h:k=1
 ·subst h;go_enter func169,ntmps169;go_wp2;go_ret;exact⟨rfl,rfl⟩
 ·have h':((k:Int)==1)=false:=by simp;omega
  have HR:Hid (((zcS k:Nat):Int)=64):=by show _=_;unfold zcS;rw[if_neg (by omega)];rfl
  clear h;go_enter func169,ntmps169;go_wp2;go_ret;exact⟨zaR HR.out.symm,rfl⟩
theorem kodd0 {k:Nat} (hk:k=0) (m:Nat) (i:It):zkN (k:Int) (m:Int) i=decide (i.k=0\/i.k=3\/1<i.s):=by subst hk;rfl
theorem kodd1 {k:Nat} (hk:k≠0) (m:Nat) (i:It):zkN (k:Int) (m:Int) i=decide (i.k=0/\(1<(m:Int)\/1<i.s)):=by unfold zkN;rw[if_neg (by omega)]
theorem zty (k:Nat) (m:Nat) (i:It) (w:World):Calls prog 173 #[.int .i64 k,.int .i64 m,itV i] w (Ret (.bool (zkN k m i)) w):=by
 by_cases h:k=0
 ·rw[kodd0 h m i];have hk:((k:Int)==0)=true:=by simp;omega
  clear h
  by_cases h0:i.k=0
  ·have h0':(i.k==0)=true:=by simpa using h0
   rw[waP (Or.inl h0)];clear h0;go_enter func173,ntmps173;go_wp2;go_ret;exact⟨rfl,by exact zaE⟩
  ·have h0':(i.k==0)=false:=by simpa using h0
   by_cases h3:i.k=3
   ·have h3':(i.k==3)=true:=by simpa using h3
    rw[waP (Or.inr (Or.inl h3))];clear h0 h3;go_enter func173,ntmps173;go_wp2;go_ret;exact⟨rfl,by exact zaE⟩
   ·have h3':(i.k==3)=false:=by simpa using h3
    have HR:Hid (decide (i.k=0\/i.k=3\/1<i.s)=decide (1<i.s)):=by show _=_;simp[h0,h3]
    generalize decide (i.k=0\/i.k=3\/1<i.s)=R at *;clear h0 h3;go_enter func173,ntmps173;go_wp2;go_ret;exact⟨zab HR.out.symm,by exact zaE⟩
 ·rw[kodd1 h m i];have hk:((k:Int)==0)=false:=by simp;omega
  clear h
  by_cases h0:i.k=0
  ·have h0':(i.k==0)=true:=by simpa using h0
   by_cases hm:1<(m:Int)
   ·rw[waP ⟨h0,Or.inl hm⟩];clear h0;go_enter func173,ntmps173;go_wp2;go_ret;exact⟨rfl,by exact zaE⟩
   ·have HR:Hid (decide (i.k=0/\(1<(m:Int)\/1<i.s))=decide (1<i.s)):=by show _=_;simp only[h0,hm,true_and,false_or]
    generalize decide (i.k=0/\(1<(m:Int)\/1<i.s))=R at *;clear h0;go_enter func173,ntmps173;go_wp2;go_ret;exact⟨zab HR.out.symm,by exact zaE⟩
  ·have h0':(i.k==0)=false:=by simpa using h0
   rw[waO (fun x=>h0 x.1)]
   clear h0;go_enter func173,ntmps173;go_wp2;go_ret;exact⟨rfl,by exact zaE⟩
theorem zl0 (b b':Nat) (k:Nat) (A:Option Addr) (n c:Nat) (w:World) (h0:w.cell? ⟨b,0,none⟩=some (.int .i64 k)) (h1:w.cell? ⟨b',0,none⟩=some (.slice A n c)):
 zmn 172 #[.pointer (some ⟨b,0,none⟩),.pointer (some ⟨b',0,none⟩)] (fun i=>zkN k n i) w:=by
 intro W x hB;have hb:=waR _ _ h0;have hb':=waR _ _ h1;have g0:W.cell? ⟨b,0,none⟩=some (.int .i64 k):=(hB.cell (p:=⟨b,0,none⟩) hb).trans h0;have g1:W.cell? ⟨b',0,none⟩=some (.slice A n c):=(hB.cell (p:=⟨b',0,none⟩) hb').trans h1;have hb2:b<W.heap.size:=waD hb hB.size;have hb3:b'<W.heap.size:=waD hb' hB.size;have HO:=waV (fun W'=>zty k n x W')
 clear h0 h1 hB hb hb';go_enter func172,ntmps172;go_wp2_with fail;refine(HO.out _).mono ?_;rintro e w1 ⟨rfl,hb1⟩;go_wp2;go_ret;exact⟨rfl,((waC _ W).alloc (waJ _) _).trans (hb1.mono (by simp))⟩
theorem zox {k:Nat} {l:List It} (h:l.length=0):zaF k l=if k=0 then 0 else 11:=by
 unfold zaF;rw[if_pos h]
 by_cases hk:k=0
 ·subst hk;rfl
 ·rw[if_neg (by omega),if_neg hk]
theorem zl1 {k:Nat} {l:List It} (h:zcS k<l.length):zaF k l=5:=by
 unfold zaF;rw[if_neg (by omega),if_pos h]
theorem zkP {k:Nat} {l:List It} (h0:0<l.length) (h1:l.length<=zcS k) (h:zdS (kLo k) (kHi k) (zcS k) l=false):zaF k l=1:=by
 unfold zaF;rw[if_neg (by omega),if_neg (by omega)]
 rw[zdS,waP (by omega),Bool.true_and] at h
 rw[if_pos];rw[List.all_eq_not_any_not] at h;simp only[Bool.not_eq_false'] at h;rw[List.any_eq_true] at h ⊢;obtain⟨x,hx,hm⟩:=h;exact⟨x,hx,by rw[hm,Bool.or_true]⟩
theorem zl2 {k:Nat} {l:List It} (h0:0<l.length) (h1:l.length<=zcS k) (h:zdS (kLo k) (kHi k) (zcS k) l=true):zaF k l=if l.any (fun i=>zkN k l.length i) then 1 else 0:=by
 unfold zaF;rw[if_neg (by omega),if_neg (by omega)]
 rw[zdS,waP (by omega),Bool.true_and,List.all_eq_true] at h
 have e:l.any (fun i=>zkN k l.length i||!zbK i (kLo k) (kHi k))=l.any (fun i=>zkN k l.length i):=by
  rw[waQ,List.any_eq_true,List.any_eq_true];constructor
  ·rintro ⟨x,hx,hm⟩;exact⟨x,hx,by rw[h x hx] at hm;simpa using hm⟩
  ·rintro ⟨x,hx,hm⟩;exact⟨x,hx,by rw[hm];rfl⟩
 rw[e]
theorem zoy (k:Nat) (hk:k<7) (A:Option Addr) (n c:Nat) (l:List It) (w:World) (hA:zcV w A n l) (hn:n<=9223372036854775807):
 Calls prog 108 #[.int .i64 k,.slice A n c] w (Ret (.int .i64 (zaF k l)) w):=by
 have HL:Hid (l.length=n):=hA.1;have HA:=waV hA;clear hA;have HB:=waV (fun W=>zeX k hk W)
 have HM:=waV (fun W=>zkO k W)
 by_cases h0:n=0
 ·subst h0;have HR:Hid (zaF k l=if k=0 then 0 else 11):=zox HL.out
  by_cases hk0:k=0
  case' pos=>
   rw[if_pos hk0] at HR;have hk0':((k:Int)==0)=true:=by simp;omega
  case' neg=>
   rw[if_neg hk0] at HR;have hk0':((k:Int)==0)=false:=by simp;omega
  all_goals
   clear hk0;go_enter func108,ntmps108;go_wp2_with fail;refine(HB.out _).mono ?_;rintro e w1 ⟨rfl,hb1⟩;obtain⟨hc,hf⟩:=zad hb1;go_wp2;go_ret;exact⟨zaR HR.out.symm,((((waC _ w).alloc (waJ _) _).alloc (by simp) _).trans (hb1.mono (by simp;omega)))⟩
 have h0':((n:Int)==0)=false:=by simp;omega
 by_cases h64:zcS k<n
 ·have HR:Hid (zaF k l=5):=zl1 (by have:=HL.out;omega)
  have h64':((zcS k:Nat):Int)<(n:Int):=by omega
  generalize ((zcS k:Nat):Int)=m at *;clear h64;go_enter func108,ntmps108;go_wp2_with fail;refine(HB.out _).mono ?_;rintro e w1 ⟨rfl,hb1⟩;obtain⟨hc,hf⟩:=zad hb1;go_wp2
  go_quiet ((go_at_call 169;exact zcJ (HM.out _)))
  go_wp2;go_ret;exact⟨zaR HR.out.symm,zaj ((((waC _ w).alloc (waJ _) _).alloc (by simp) _).trans (hb1.mono (by simp;omega))) _⟩
 have h64':¬((zcS k:Nat):Int)<(n:Int):=by omega
 have HMr:=waV (fun W=>(zkO k W).mono (fun e w' h=>(⟨h.1,h.2▸waC _ _⟩:Ret (.int .i64 (zcS k)) W e w')))
 cases hr:zdS (kLo k) (kHi k) (zcS k) l with
 |false=>
  have HR:Hid (zaF k l=1):=zkP (by have:=HL.out;omega) (by have:=HL.out;omega) hr
  have HF:=waV (fun W (hb:Below w.heap.size w W)=>zkC A n c l (kLo k) (kHi k) (zcS k) W (HA.out.below hb (waJ _)) hn)
  rw[hr] at HF;generalize ((zcS k:Nat):Int)=m at *;generalize kLo (k:Int)=lo at *;generalize kHi (k:Int)=hi at *;clear hr h64;go_enter func108,ntmps108;go_wp2_with fail;refine(HB.out _).mono ?_;rintro e w1 ⟨rfl,hb1⟩;obtain⟨hc,hf⟩:=zad hb1;have hbw0:Below w.heap.size w w1:=(((waC _ w).alloc (waJ _) _).alloc (by simp) _).trans (hb1.mono (by simp;omega))
  have hz1:=hb1.size;have p0:w1.cell? ⟨w.heap.size,0,none⟩=some (.int .i64 k):=(hc _ _ (by simp;omega)).trans (by simp[go_sem])
  have p1:w1.cell? ⟨w.heap.size+1,0,none⟩=some (.slice A n c):=(hc _ _ (by simp)).trans (by simp[go_sem])
  clear hc hf hb1;go_wp2
  go_quiet ((go_at_call 169;exact zcJ (HM.out _)))
  go_wp2;have hbw:Below w.heap.size w (w1.drewN nq):=zaj hbw0 _;have p0':(w1.drewN nq).cell? ⟨w.heap.size,0,none⟩=some (.int .i64 k):=p0;have p1':(w1.drewN nq).cell? ⟨w.heap.size+1,0,none⟩=some (.slice A n c):=p1;clear p0 p1 hz1;generalize World.drewN w1 nq=w2 at *;have c0:∀x:Ext w2,x.W.cell? ⟨w.heap.size,0,none⟩=some (.int .i64 k):=fun x=>x.cell p0'
  have c1:∀x:Ext w2,x.W.cell? ⟨w.heap.size+1,0,none⟩=some (.slice A n c):=fun x=>x.cell p1'
  have HFx:=waV (fun x:Ext w2=>HF.out x.W (zaf hbw x.h hbw.size))
  have HMx:=waV (fun x:Ext w2=>HMr.out x.W)
  refine zaA kQ kQ ?_
  repeat (first|go_big_quiet_skip|(go_big_quiet_want;go_big_quiet_op;(first|go_big_quiet_on|go_big_quiet_call ((with_reducible first|exact zbP _ (HMx.out _)|exact zbP _ (HFx.out _))))))
  refine wpQuiet_nil ?_;rintro _ ⟨xw,rfl⟩;have q0:=c0 xw;have q1:=c1 xw;have hbx:Below w.heap.size w xw.W:=zaf hbw xw.h hbw.size;go_wp2;go_ret;exact⟨zaR HR.out.symm,zaf hbw xw.h hbw.size⟩
 |true=>
  have HR:Hid (zaF k l=if l.any (fun i=>zkN k n i) then 1 else 0):=by have:=zl2 (k:=k) (by have:=HL.out;omega) (by have:=HL.out;omega) hr;rw[HL.out] at this;exact this
  have HF:=waV (fun W (hb:Below w.heap.size w W)=>zkC A n c l (kLo k) (kHi k) (zcS k) W (HA.out.below hb (waJ _)) hn)
  rw[hr] at HF;generalize ((zcS k:Nat):Int)=m at *;generalize kLo (k:Int)=lo at *;generalize kHi (k:Int)=hi at *;clear hr h64;have eg:∀args w,(callFunc 172 args).run prog w=.ok (.enter 172 args) w:=enters_of func172 kQ rfl;have HG:=waV (fun w1 (hb1:Below w.heap.size w w1) (q0:w1.cell? ⟨w.heap.size,0,none⟩=some (.int .i64 k)) (q1:w1.cell? ⟨w.heap.size+1,0,none⟩=some (.slice A n c))=>zdH A n c l 172 #[.pointer (some ⟨w.heap.size,0,none⟩),.pointer (some ⟨w.heap.size+1,0,none⟩)] _ w1 (HA.out.below hb1 (waJ _)) hn eg (zl0 w.heap.size (w.heap.size+1) k A n c w1 q0 q1))
  clear eg;generalize l.any (fun i=>zkN k n i)=q at *
  go_enter func108,ntmps108;go_wp2_with fail;refine(HB.out _).mono ?_;rintro e w1 ⟨rfl,hb1⟩;obtain⟨hc,hf⟩:=zad hb1;have hbw0:Below w.heap.size w w1:=(((waC _ w).alloc (waJ _) _).alloc (by simp) _).trans (hb1.mono (by simp;omega))
  have hz1:=hb1.size;have p0:w1.cell? ⟨w.heap.size,0,none⟩=some (.int .i64 k):=(hc _ _ (by simp;omega)).trans (by simp[go_sem])
  have p1:w1.cell? ⟨w.heap.size+1,0,none⟩=some (.slice A n c):=(hc _ _ (by simp)).trans (by simp[go_sem])
  clear hc hf hb1;go_wp2
  go_quiet ((go_at_call 169;exact zcJ (HM.out _)))
  go_wp2;have hbw:Below w.heap.size w (w1.drewN nq):=zaj hbw0 _;have p0':(w1.drewN nq).cell? ⟨w.heap.size,0,none⟩=some (.int .i64 k):=p0;have p1':(w1.drewN nq).cell? ⟨w.heap.size+1,0,none⟩=some (.slice A n c):=p1;clear p0 p1 hz1;generalize World.drewN w1 nq=w2 at *;have c0:∀x:Ext w2,x.W.cell? ⟨w.heap.size,0,none⟩=some (.int .i64 k):=fun x=>x.cell p0'
  have c1:∀x:Ext w2,x.W.cell? ⟨w.heap.size+1,0,none⟩=some (.slice A n c):=fun x=>x.cell p1'
  have HFx:=waV (fun x:Ext w2=>HF.out x.W (zaf hbw x.h hbw.size))
  have HMx:=waV (fun x:Ext w2=>HMr.out x.W)
  refine zaA kQ kQ ?_
  repeat (first|go_big_quiet_skip|(go_big_quiet_want;go_big_quiet_op;(first|go_big_quiet_on|go_big_quiet_call ((with_reducible first|exact zbP _ (HMx.out _)|exact zbP _ (HFx.out _))))))
  refine wpQuiet_nil ?_;rintro _ ⟨xw,rfl⟩;have q0:=c0 xw;have q1:=c1 xw;have hbx:Below w.heap.size w xw.W:=zaf hbw xw.h hbw.size;cases q
  all_goals
   go_wp2_with fail;refine(HG.out _ hbx q0 q1).mono ?_;rintro e w3 ⟨rfl,hb3⟩;go_wp2;go_ret;exact⟨zaR HR.out.symm,zaf hbx hb3 hbx.size⟩
section
variable {w : World} {b : Nat} {s : ByteArray} {σ : PS} (hs : s.size <= 1000000)
include hs
theorem zxE (f:Nat) (h:RdP w b s σ):Calls prog 251 #[kV b s,.int .i64 (f:Int)] w (zjO (.tuple #[]) b s (zlU s.size f σ) w):=by
 have hs9:s.size<=9223372036854775807:=by omega
 have hlt:=h.lt;have hne:¬w.heap.size=b:=by omega
 have H:=waV h;have HP:=waV (fun W (h:RdP W b s σ)=>zpw h)
 by_cases h6:f=6
 ·subst h6
  by_cases h46:zdL σ=46
  ·have hpk:(zdL σ==46)=true:=by simpa using h46
   obtain⟨k,hk,hl,hr⟩:=h;have hat:=zjP hk hl;have HA:=waV (fun W (h:RdP W b s σ)=>zsn h)
   have hk':(k:Int)<=(s.size:Int):=by omega
   have HQ:=waV (fun W=>zik (s.extract k s.size) ⟨#[46,46]⟩ (by simp;omega) dQ W)
   rw[zhi,<-hl,show(⟨#[46,46]⟩:ByteArray).data.toList=zwQ from rfl] at HQ
   cases hd:decide (zwQ<+:σ.l) with
   |true=>
    rw[hd] at HQ;have HE:Hid (zlU s.size ((6:Nat):Int) σ=σ):=by
     show _=_;unfold zlU;rw[if_neg (by rintro ⟨_,_,x⟩;exact x (waA hd))]
    rw[hat] at HA;generalize zlU s.size ((6:Nat):Int) σ=R at *;generalize zdL σ=pk at *;clear h46 hl hr hat hd hk;go_enter func251,ntmps251;go_wp2
    go_quiet ((first|(go_at_call 99;exact zdZ (HP.out _ (by exact(H.out.alloc _).drewN _)))|(go_at_call 107;exact zcJ (HA.out _ (by exact(H.out.alloc _).drewN _)))|(go_at_call 210;exact zcJ (HQ.out _))))
    go_wp2
    first|go_end0|(refine waY (results_none rfl _ _ _) rfl ?_)
    exact⟨rfl,by rw[HE.out];exact(H.out.alloc _).drewN _,((Chg.refl b w).alloc _).drewN _⟩
   |false=>
    rw[hd] at HQ;have HE:Hid (zlU s.size ((6:Nat):Int) σ=zfI (atP s.size σ) 8 σ):=by
     show _=_;unfold zlU;rw[if_pos ⟨rfl,h46,of_decide_eq_false hd⟩]
    have HF:=waV (fun W (h:RdP W b s σ)=>zpy (atP s.size σ) 8 h)
    rw[hat] at HA HE HF;generalize zlU s.size ((6:Nat):Int) σ=R at *;generalize zdL σ=pk at *;clear h46 hl hr hat hd hk;go_enter func251,ntmps251;go_wp2
    go_quiet ((first|(go_at_call 99;exact zdZ (HP.out _ (by exact(H.out.alloc _).drewN _)))|(go_at_call 107;exact zcJ (HA.out _ (by exact(H.out.alloc _).drewN _)))|(go_at_call 210;exact zcJ (HQ.out _))))
    have h1:RdP ((w.alloc (.cells #[.pointer (some ⟨b,0,none⟩),.string s] 98)).drewN nq) b s σ:=(H.out.alloc _).drewN _;have g1:Chg b w ((w.alloc (.cells #[.pointer (some ⟨b,0,none⟩),.string s] 98)).drewN nq):=((Chg.refl b w).alloc _).drewN _;have c0:((w.alloc (.cells #[.pointer (some ⟨b,0,none⟩),.string s] 98)).drewN nq).cell? ⟨w.heap.size,0,none⟩=some (.pointer (some ⟨b,0,none⟩)):=zaa rfl rfl;generalize ((w.alloc (.cells #[.pointer (some ⟨b,0,none⟩),.string s] 98)).drewN nq)=w1 at *;go_wp2
    go_still_tail 5,kQ
    still_call ((HA.out _ (by exact h1.drew)).mono (fun _ _ hh=>⟨hh.1,hh.2.symm⟩))
    refine wpStill_nil ?_
    change wpList _ _ _ _ _ w1.drew
    go_wp2_with fail;refine(HF.out _ (by exact h1.drew)).mono ?_
    rintro e w2 ⟨rfl,h2,g2⟩;go_wp2
    first|go_end0|(refine waY (results_none rfl _ _ _) rfl ?_)
    exact⟨rfl,by rw[HE.out];exact h2,(g1.drewN 1).trans g2⟩
  ·have hpk:(zdL σ==46)=false:=by simpa using h46
   have HE:Hid (zlU s.size ((6:Nat):Int) σ=σ):=by
    show _=_;unfold zlU;rw[if_neg (by rintro ⟨_,x,_⟩;exact h46 x)]
   generalize zlU s.size ((6:Nat):Int) σ=R at *;generalize zdL σ=pk at *;clear h46 h;go_enter func251,ntmps251;go_wp2
   go_quiet ((go_at_call 99;exact zdZ (HP.out _ (by exact(H.out.alloc _).drewN _))))
   go_wp2
   first|go_end0|(refine waY (results_none rfl _ _ _) rfl ?_)
   exact⟨rfl,by rw[HE.out];exact(H.out.alloc _).drewN _,((Chg.refl b w).alloc _).drewN _⟩
 ·have h6':((f:Int)==6)=false:=by simp;omega
  have HE:Hid (zlU s.size (f:Int) σ=σ):=by
   show _=_;unfold zlU;rw[if_neg (by rintro ⟨x,_⟩;omega)]
  generalize zlU s.size (f:Int) σ=R at *;clear h6 h;go_enter func251,ntmps251;go_wp2
  go_quiet (fail)
  go_wp2
  first|go_end0|(refine waY (results_none rfl _ _ _) rfl ?_)
  exact⟨rfl,by rw[HE.out];exact(H.out.alloc _).drewN _,((Chg.refl b w).alloc _).drewN _⟩
end
section
variable {w : World} {b : Nat} {s t : ByteArray} {σ : PS} (hs : s.size <= 1000000) (ht : t.size <= 1000000)
include hs ht
theorem zv7 (h:RdP w b s σ):Calls prog 163 #[.pointer (some ⟨b,0,none⟩),.string t] w (zjO (.bool (zeD t.data.toList σ).2) b s (zeD t.data.toList σ).1 w):=by
 have hs9:s.size<=9223372036854775807:=by omega
 have ht9:t.size<=9223372036854775807:=by omega
 have hlt:=h.lt;have H:=waV h;have HD:=waV (fun W (h:RdP W b s σ)=>zpv h)
 have hemp:t.toList.isEmpty=decide (t.data.toList=[]):=by
  rw[ByteArray.toList_eq];cases t.data.toList<;>rfl
 cases hd:zgD σ with
 |true=>
  have HE:Hid (zeD t.data.toList σ=(σ,false)):=by
   show _=_;unfold zeD;rw[if_neg];rintro ⟨h1,h2,h3⟩;unfold zgD at hd;rcases waA hd with h4|h4
   ·exact h4 h1
   ·rw[h4] at h3;exact h2 (List.prefix_nil.1 h3)
  rw[hd] at HD;generalize zeD t.data.toList σ=R at *;clear h hd hemp;go_enter func163,ntmps163;go_wp2
  go_quiet ((go_at_call 160;exact zdZ (HD.out _ (by exact H.out.drewN _))))
  go_wp2;go_ret;exact⟨by rw[HE.out];rfl,by rw[HE.out];exact H.out.drewN _,(Chg.refl _ _).drewN _⟩
 |false=>
  rw[hd] at HD;have he:σ.e=0:=by
   unfold zgD at hd;have:=of_decide_eq_false hd;rcases Decidable.em (σ.e=0) with h|h
   ·exact h
   ·exact absurd (.inl h) this
  by_cases h0:t.data.toList=[]
  ·rw[waP h0] at hemp;have HE:Hid (zeD t.data.toList σ=(σ,false)):=by
    show _=_;unfold zeD;rw[if_neg (fun x=>x.2.1 h0)]
   generalize zeD t.data.toList σ=R at *;clear h hd h0 he;go_enter func163,ntmps163;go_wp2
   go_quiet ((go_at_call 160;exact zdZ (HD.out _ (by exact H.out.drewN _))))
   go_wp2;go_ret;exact⟨by rw[HE.out];rfl,by rw[HE.out];exact H.out.drewN _,(Chg.refl _ _).drewN _⟩
  ·rw[waO h0] at hemp;obtain⟨k,hk,hl,hr⟩:=h;have hk':(k:Int)<=(s.size:Int):=by omega
   have HQ:=waV (fun W=>zik (s.extract k s.size) t (by simp;omega) ht9 W)
   rw[zhi,<-hl] at HQ;obtain⟨c0,c1,c2,c3⟩:=hr.cells;have f1:=hr.free 1;cases hp:decide (t.data.toList<+:σ.l) with
   |false=>
    have HE:Hid (zeD t.data.toList σ=(σ,false)):=by
     show _=_;unfold zeD;rw[if_neg (fun x=>of_decide_eq_false hp x.2.2)]
    rw[hp] at HQ;generalize zeD t.data.toList σ=R at *;clear hd h0 he hl hr hp;go_enter func163,ntmps163;go_wp2
    go_quiet ((first|(go_at_call 160;exact zdZ (HD.out _ (by exact H.out.drewN _)))|(go_at_call 210;exact zcJ (HQ.out _))))
    go_wp2;go_ret;exact⟨by rw[HE.out];rfl,by rw[HE.out];exact H.out.drewN _,(Chg.refl _ _).drewN _⟩
   |true=>
    have hp':=waA hp;have hle:k+t.size<=s.size:=by
     have:=hp'.length_le;rw[hl,List.length_drop,zaT,zaT] at this;have h1:0<t.size:=by rw[<-zaT];exact List.length_pos_iff.2 h0
     omega
    have HE:Hid (zeD t.data.toList σ=(⟨s.data.toList.drop (k+t.size),σ.a,0⟩,true)):=by
     show _=_;unfold zeD;rw[if_pos ⟨he,h0,hp'⟩,hl,List.drop_drop,zaT]
    have HR:=waV hr;rw[he] at HR;rw[hp] at HQ;generalize zeD t.data.toList σ=R at *;clear hd h0 he hl hr hp hp';go_enter func163,ntmps163;go_wp2
    go_quiet ((first|(go_at_call 160;exact zdZ (HD.out _ (by exact H.out.drewN _)))|(go_at_call 210;exact zcJ (HQ.out _))))
    go_wp2;go_ret;refine⟨by rw[HE.out];rfl,?_,((Chg.refl _ _).drewN _).set _ _⟩
    rw[HE.out];refine⟨k+t.size,hle,rfl,?_⟩;have:=(HR.out.drewN nq).setAt (k+t.size);rw[show ((k+t.size:Nat):Int)=(k:Int)+(t.size:Int) from by omega] at this
    exact this
end
end Go.Proofs.YtllcdbgjeidlkaaGreatDoor
