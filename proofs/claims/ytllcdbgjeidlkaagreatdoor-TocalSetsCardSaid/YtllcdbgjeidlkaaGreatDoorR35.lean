/- A part of the proof: RCalMay -/
import Derived.Test.YtllcdbgjeidlkaaGreatDoorR04
import Derived.Test.YtllcdbgjeidlkaaGreatDoorR28
import Derived.Test.YtllcdbgjeidlkaaGreatDoorR00
import Derived.Lib.IndexMore
set_option maxHeartbeats 80000000
set_option maxRecDepth 100000
set_option linter.unusedSimpArgs false
set_option linter.unusedVariables false
namespace Go.Proofs.YtllcdbgjeidlkaaGreatDoor
open Go.Proofs.Tryz
open Go.RowKit
structure CalV where
 week:List It
 year:List It
 month:List It
 day:List It
 back:Bool
 hour:List It
 minute:List It
 second:List It
def zc3:CalV:=⟨[],[],[],[],false,[],[],[]⟩
def kLo (f:Int):Int:=if f=0 then 1 else if f=1 then 1970 else if f=2 then 1 else if f=3 then 1 else 0
def kHi (f:Int):Int:=if f=0 then 7 else if f=1 then 2369 else if f=2 then 12 else if f=3 then 31 else if f=4 then 23 else if f=5 then 59 else if f=6 then 59 else 0
def zv4:List UInt8:=[46,46]
def zn9 (f:Int):Nat:=if f=1 then 4 else 2
def zoa (N:Nat) (f:Int) (σ:PS):PS×Int:=
 let r:=znq N (zn9 f) σ
 if r.2.2=true/\(r.2.1<kLo f\/kHi f<r.2.1) then(ze5 (atP N σ) 4 r.1,r.2.1) else(r.1,r.2.1)
def zlB (N:Nat) (f:Int) (σ:PS):PS:=if f=6/\zdO σ=46/\¬zv4<+:σ.l then ze5 (atP N σ) 8 σ else σ
def zdG (f:Int):Nat:=if f=1 then 400 else 64
def zdL (σ:PS):List UInt8:=if σ.e=0 then σ.l.takeWhile (fun c=>decide (c≠32)) else []
def zhZ (N:Nat) (σ:PS):PS×Bool:=if zgr σ then(σ,false) else((ziu N [32] σ).1,true)
def zv5 (c:Int):Bool:=decide ((97<=c/\c<=122)\/(65<=c/\c<=90))
def zkp (l:List UInt8):Bool:=l.any (fun c=>decide (c=45\/c=126))
def zh0:List (List UInt8×List UInt8):=[
 ([109,105,110,117,116,101,108,121],[42,45,42,45,42,32,42,58,42,58,48,48]),([104,111,117,114,108,121],[42,45,42,45,42,32,42,58,48,48,58,48,48]),
 ([100,97,105,108,121],[42,45,42,45,42,32,48,48,58,48,48,58,48,48]),([119,101,101,107,108,121],[77,111,110,32,42,45,42,45,42,32,48,48,58,48,48,58,48,48]),
 ([109,111,110,116,104,108,121],[42,45,42,45,48,49,32,48,48,58,48,48,58,48,48]),([113,117,97,114,116,101,114,108,121],[42,45,48,49,44,48,52,44,48,55,44,49,48,45,48,49,32,48,48,58,48,48,58,48,48]),
 ([115,101,109,105,97,110,110,117,97,108,108,121],[42,45,48,49,44,48,55,45,48,49,32,48,48,58,48,48,58,48,48]),([121,101,97,114,108,121],[42,45,48,49,45,48,49,32,48,48,58,48,48,58,48,48]),
 ([97,110,110,117,97,108,108,121],[42,45,48,49,45,48,49,32,48,48,58,48,48,58,48,48])]
def zlC (l:List UInt8):List UInt8:=match zh0.find? (fun p=>decide (zcU l=p.1)) with|some p=>p.2|none=>[]
def zui (l:List UInt8):PS:=⟨l,if 8192<l.length then 8192 else 0,if 8192<l.length then 5 else 0⟩
section
variable {N : Nat} {σ τ υ : PS} {P Q : Prop}
def zqC (f many:Int) (i:It):Bool:=if f=0 then decide (i.k=0\/i.k=3\/1<i.s) else decide (i.k=0/\(1<many\/1<i.s))
def zaX (f:Int) (l:List It):Int:=
 if l.length=0 then(if f=0 then 0 else 11) else if zdG f<l.length then 5 else if l.any (fun i=>zqC f (l.length:Int) i||!zct i (kLo f) (kHi f)) then 1 else 0
end
def zaK (c:CalV) (f:Nat):List It:=if f=0 then c.week else if f=1 then c.year else if f=2 then c.month else if f=3 then c.day else if f=4 then c.hour else if f=5 then c.minute else if f=6 then c.second else []
section
variable {N : Nat} {σ : PS} {c : CalV}
end
def zqD (l:Nat->List It):Nat->Int×Int
 |0=>(7,0)
 |q+1=>if zaX ((6 - q:Nat):Int) (l (6 - q))=0 then zqD l q else(((6 - q:Nat):Int),zaX ((6 - q:Nat):Int) (l (6 - q)))
def zf0 (c:CalV):Int×Int:=zqD (zaK c) 7
theorem zmW {c:CalV} (h:∀f:Nat,f<7->zaX f (zaK c f)=0):zf0 c=(7,0):=by
 have h0:=h 0;have h1:=h 1;have h2:=h 2;have h3:=h 3;have h4:=h 4;have h5:=h 5;have h6:=h 6;simp only[zf0,zqD]
 simp_all
def zc9 (w:World) (B:Nat) (s:ByteArray) (k:Nat):Prop:=
 ∀j x,s.data.toList[j]?=some x->w.cell? ⟨B,j,none⟩=some (.int .u8 ((if j<k then zfO x else x).toNat:Int))/\w.frozen? ⟨B,j,none⟩=false
theorem zlD (s:ByteArray) (w:World) (C:Array Value) (t:TypeId) (hC:∀(i:Nat) (x:UInt8),s.data.toList[i]?=some x->C[i]?=some (Value.int .u8 (x.toNat:Int))):
 zc9 (w.alloc (.cells C t (C.size,C.size+1))) w.heap.size s 0:=by
 intro j x hx;have h1:=heap_alloc_new w (.cells C t (C.size,C.size+1));have h2:=hC j x hx;have hj:=(waL.1 h2).1;refine⟨?_,?_⟩
 ·unfold World.cell?;rw[h1,if_neg (Nat.not_lt_zero _)];exact h2
 ·unfold World.frozen?;rw[h1];simp;omega
theorem zqE {c:UInt8} (h:65<=c.toNat/\c.toNat<=90):(c.toNat:Int)+32=((zfO c).toNat:Int):=by
 unfold zfO;rw[if_pos h,UInt8.toNat_add];have:(32:UInt8).toNat=32:=rfl;omega
theorem zc9.skip {w:World} {B k:Nat} {s:ByteArray} (h:zc9 w B s k) {hk:k<s.size} (hv:zfO s[k]=s[k]) (hk':k<s.size):zc9 w B s (k+1):=by
 intro j x hx;obtain⟨h1,h2⟩:=h j x hx;refine⟨?_,h2⟩;rw[h1]
 by_cases hj:j<k
 ·rw[if_pos hj,if_pos (by omega)]
 ·rw[if_neg hj]
  by_cases hj2:j<k+1
  ·obtain rfl:j=k:=by omega
   rw[zds s j hk'] at hx;cases hx;rw[if_pos hj2,hv]
  ·rw[if_neg hj2]
theorem zc9.step {w:World} {B k:Nat} {s:ByteArray} {v:Int} (h:zc9 w B s k) (hk:k<s.size) (hv:v=((zfO s[k]).toNat:Int)):zc9 (w.setCell ⟨B,k,none⟩ (.int .u8 v)) B s (k+1):=by
 intro j x hx;obtain⟨h1,h2⟩:=h j x hx;refine⟨?_,by rw[waS];exact h2⟩
 by_cases hj:j=k
 ·subst hj;rw[waT _ _ _ h1,if_pos (Nat.lt_succ_self _),hv];rw[zds s j hk] at hx;cases hx;rfl
 ·rw[waU _ _ _ _ (by intro e;injection e with _ e2;exact hj e2.symm),h1]
  by_cases hj1:j<k
  ·rw[if_pos hj1,if_pos (by omega)]
  ·rw[if_neg hj1,if_neg (by omega)]
theorem zlE {w:World} {B:Nat} {s:ByteArray} (h:zc9 w B s s.size) (cap:Nat):
 (convert 254 9 (.slice (some ⟨B,0,none⟩) s.size cap)).run prog w=.ok (.string (zaZ (zcU s.data.toList))) w:=by
 have:=run_convert_bytes_back (P:=prog) w 254 9 5 ⟨B,0,none⟩ cap (zcU s.data.toList) underlying254 underlying5 underlying9 (by
  intro j hj;have hj':j<s.data.toList.length:=by simpa[zcU] using hj
  have hx:s.data.toList[j]?=some (s.data.toList[j]):=waE hj';obtain⟨h1,_⟩:=h j _ hx;rw[if_pos (by rwa [zaS] at hj')] at h1
  have e:(⟨B,0,none⟩:Addr).add j=⟨B,j,none⟩:=by unfold Addr.add;split<;>simp_all
  rw[e,h1];simp[zcU])
 have hl:(zcU s.data.toList).length=s.size:=by simp[zcU]
 rw[hl] at this;exact this
theorem zob (s:ByteArray) (hs:s.size<=9223372036854775807) (w:World):Calls prog 96 #[.string s] w (Ret (.string (zaZ (zcU s.data.toList))) w):=by
 obtain⟨cap,C,hconv,hC⟩:=zhx s w;have HC:=waV hC;clear hC;have H0:Hid (zc9 (w.drew.alloc (.cells C 5 (C.size,C.size+1))) w.heap.size s 0):=zlD s w.drew C 5 HC.out;have hconv:=hconv;go_enter func96,ntmps96;go_wp2
 go_loopw [10] (fun i wr=>∃k:Nat,k<=s.size/\i=.int .i64 k/\Hid (zc9 wr w.heap.size s k)/\Below w.heap.size w wr) (fun i _=>s.size - (intOf i).toNat)
 case atStart=>exact⟨0,waK _,rfl,H0.out,by exact zaB⟩
 case round=>
  obtain⟨k,hk,rfl,HS,hb⟩:=hrel;have hsz:=hb.size
  by_cases hlt:k<s.size
  ·have hlt':(k:Int)<(s.size:Int):=by omega
   obtain⟨c0,f0⟩:=HS.out k s[k] (zds s k hlt);rw[if_neg (Nat.lt_irrefl k)] at c0;have hx0:(0:Int)<=(s[k].toNat:Int):=by omega
   have hx1:(s[k].toNat:Int)<=255:=by have:=s[k].toNat_lt;omega
   by_cases hup:65<=s[k].toNat/\s[k].toNat<=90
   ·have hu1:(65:Int)<=(s[k].toNat:Int):=by omega
    have hu2:(s[k].toNat:Int)<=90:=by omega
    have HV:Hid ((s[k].toNat:Int)+32=((zfO s[k]).toNat:Int)):=zqE hup;clear hup;generalize hz:(s[k].toNat:Int)=z at *;clear hz;go_wp2;go_roundw
    case rel=>exact⟨k+1,by omega,by go_num,HS.out.step hlt (by have hv:=HV.out;omega),hb.setCell (waJ _) _⟩
    case measure=>simp [intOf];omega
   ·have HV:Hid (zfO s[k]=s[k]):=if_neg hup
    by_cases hu1:(65:Int)<=(s[k].toNat:Int)
    ·have hu2:¬(s[k].toNat:Int)<=90:=by omega
     clear hup;go_wp2;go_roundw
     case rel=>exact⟨k+1,by omega,by go_num,HS.out.skip HV.out hlt,hb⟩
     case measure=>simp [intOf];omega
    ·clear hup;go_wp2;go_roundw
     case rel=>exact⟨k+1,by omega,by go_num,HS.out.skip HV.out hlt,hb⟩
     case measure=>simp [intOf];omega
  ·obtain rfl:k=s.size:=by omega
   have hback:=zlE HS.out cap;go_wp2;go_ret;exact⟨rfl,hb⟩
theorem zeU (c:Int) (w:World):Calls prog 98 #[.int .u8 c] w (zbF (.bool (zv5 c)) w):=by
 generalize hq:zv5 c=q;have HQ:=waV hq;clear hq;go_enter func98,ntmps98;go_wp2
 all_goals go_ret
 all_goals (refine⟨zab ?_,rfl⟩;rw[<-HQ.out];((try simp only[beq_iff_eq,wbE,bne_iff_ne,ne_eq,zv5,waM,decide_eq_false_iff_not,waN,wbF,Bool.not_eq_true',Bool.not_eq_false',Bool.and_eq_false_iff,Bool.or_eq_false_iff] at *)
                                             rw[waQ]
                                             (try simp only[zv5,waM,beq_iff_eq,bne_iff_ne,ne_eq,waN,wbF,Bool.not_eq_true',Bool.not_eq_false',wbE,decide_eq_false_iff_not,iff_true,true_iff,Bool.false_eq_true,false_iff,iff_false,reduceCtorEq])
                                             omega))
theorem zh1 (s t:ByteArray) (hs:s.size<=9223372036854775807) (ht:t.size<=9223372036854775807) (w:World):Calls prog 210 #[.string s,.string t] w (zbF (.bool (decide (t.data.toList<+:s.data.toList))) w):=by
 generalize hq:decide (t.data.toList<+:s.data.toList)=q;have HQ:=waV hq;clear hq;have HH:Hid (∀W,Calls prog 244 #[.string s,.string t] W (zbF (.bool q) W)):=by
  intro W
  by_cases hle:t.size<=s.size
  ·have hle':(t.size:Int)<=(s.size:Int):=by omega
   go_enter func244,ntmps244;go_wp2;go_ret;refine⟨zab ?_,rfl⟩;rw[<-HQ.out,waQ,waM,beq_iff_eq,ByteArray.toList_eq,ByteArray.toList_eq,zcm,wbA,Nat.sub_zero,List.prefix_iff_eq_take,zaS];exact eq_comm
  ·have hle':¬(t.size:Int)<=(s.size:Int):=by omega
   have hq:Hid (q=false):=by
    show _=_;rw[<-HQ.out];exact waO (fun h=>by have:=h.length_le;rw[zaS,zaS] at this;omega)
   go_enter func244,ntmps244;go_wp2;go_ret;exact⟨zab hq.out.symm,rfl⟩
 go_enter func210,ntmps210;go_wp2_with fail;refine(HH.out _).mono ?_;rintro e w1 ⟨rfl,rfl⟩;go_wp2;go_ret;exact⟨rfl,rfl⟩
def zmX (k:Nat):List UInt8:=if k=0 then [77,111,110] else if k=1 then [84,117,101] else if k=2 then [87,101,100] else if k=3 then [84,104,117] else if k=4 then [70,114,105] else if k=5 then [83,97,116] else [83,117,110]
def zg4:Value:=.agg #[.string (zaZ (zmX 0)),.string (zaZ (zmX 1)),.string (zaZ (zmX 2)),.string (zaZ (zmX 3)),.string (zaZ (zmX 4)),.string (zaZ (zmX 5)),.string (zaZ (zmX 6))]
theorem zlF (w:World):Calls prog 242 #[] w (Ret zg4 w):=by
 go_enter func242,ntmps242;go_wp2;refine waY (v:=zg4) ?_ rfl ⟨rfl,by exact zaB⟩
 rw[zae rfl];unfold zg4
 go_simp
 exact⟨rfl,rfl,rfl,rfl,rfl,rfl,rfl⟩
theorem zh2 (k:Nat) (hk:k<7) (w:World):(Instr.index 277 zg4 (.int .i64 (k:Int))).run prog w=.ok (.string (zaZ (zmX k))) w:=by
 obtain rfl|rfl|rfl|rfl|rfl|rfl|rfl:k=0\/k=1\/k=2\/k=3\/k=4\/k=5\/k=6:=by omega
 all_goals kernel_rfl
theorem zi1 (x:List UInt8):(zaZ x).toList=x:=by rw[ByteArray.toList_eq,zba]
theorem zmY {x y:List UInt8} (b:Bool) (h:decide (x=y)=b):((zaZ x).toList==(zaZ y).toList)=b:=by
 rw[zi1,zi1,<-h,waQ,beq_iff_eq,waM]
theorem zsU (k:Nat):(zmX k).length<=3:=by
 unfold zmX
 repeat' split
 all_goals decide
theorem zoc (f:Nat) (hf:f<7) (w:World):(Instr.index 205 (.agg #[.int .i64 1,.int .i64 7,.int .i64 1970,.int .i64 2369,.int .i64 1,.int .i64 12,.int .i64 1,.int .i64 31,.int .i64 0,.int .i64 23,.int .i64 0,.int .i64 59,.int .i64 0,.int .i64 59]) (.int .i64 (f:Int))).run prog w=.ok (.agg #[.int .i64 (kLo f),.int .i64 (kHi f)]) w:=by
 obtain rfl|rfl|rfl|rfl|rfl|rfl|rfl:f=0\/f=1\/f=2\/f=3\/f=4\/f=5\/f=6:=by omega
 all_goals kernel_rfl
theorem zeV (f:Nat) (hf:f<7) (w:World):Calls prog 60 #[.int .i64 (f:Int)] w (Ret (.tuple #[.int .i64 (kLo f),.int .i64 (kHi f)]) w):=by
 have hix:=fun W=>zoc f hf W
 have h0:(0:Int)<=(f:Int):=by omega
 have h7:(f:Int)<7:=by omega
 generalize kLo (f:Int)=lo at *;generalize kHi (f:Int)=hi at *;go_enter func60,ntmps60;go_wp2
 go_quiet (fail)
 go_wp2
 go_ret2
 exact⟨rfl,by exact zaB⟩
section
variable {w : World} {b : Nat} {s : ByteArray} {σ : PS} (hs : s.size <= 1000000)
include hs
theorem zvh (f:Nat) (hf:f<7) (h:RdP w b s σ):Calls prog 250 #[kV b s,.int .i64 (f:Int)] w (zjp (.int .i64 (zoa s.size f σ).2) b s (zoa s.size f σ).1 w):=by
 have hs9:s.size<=9223372036854775807:=by omega
 have hlt:=h.lt;have hne:¬w.heap.size=b:=by omega
 have H:=waV h;have HA:=waV (fun W (h:RdP W b s σ)=>zrH h)
 have HN:=waV (fun W (h:RdP W b s σ)=>zpe hs9 (most:=zn9 f) (by unfold zn9;split<;>decide) h)
 have HR:Hid (zoa s.size f σ=if(znq s.size (zn9 f) σ).2.2=true/\((znq s.size (zn9 f) σ).2.1<kLo f\/kHi f<(znq s.size (zn9 f) σ).2.1) then(ze5 (atP s.size σ) 4 (znq s.size (zn9 f) σ).1,(znq s.size (zn9 f) σ).2.1) else((znq s.size (zn9 f) σ).1,(znq s.size (zn9 f) σ).2.1)):=rfl
 generalize zoa s.size f σ=R at *;generalize atP s.size σ=at0 at *;generalize znq s.size (zn9 f) σ=r at *;obtain⟨τ,n,ok⟩:=r;dsimp only at *;have HF:=waV (fun W (h:RdP W b s τ)=>zpc at0 4 h)
 have HB:=waV (fun W=>zeV f hf W)
 generalize kLo (f:Int)=lo at *;generalize kHi (f:Int)=hi at *;have hd:Hid ((zn9 f:Int)=if f=1 then 4 else 2):=by show _=_;unfold zn9;split<;>split<;>first|rfl|omega
 clear h
 by_cases h1:f=1
 ·subst h1;rw[if_pos rfl] at hd;rw[hd.out] at HN;go_enter func250,ntmps250;go_wp2_with fail;refine(HB.out _).mono ?_;rintro e w1 ⟨rfl,hb1⟩;obtain⟨hc1,hf1⟩:=zac hb1;have hz1:w.heap.size<w1.heap.size:=by have:=hb1.size;simp at this;omega
  have g1:Chg b w w1:=(Chg.refl b w).alloc _|>.trans (Chg.of_below hb1)
  have h1:RdP w1 b s σ:=(H.out.alloc _).below hb1;go_wp2_with fail;refine(HA.out _ h1).mono ?_;rintro e w2 ⟨rfl,rfl⟩;go_wp2_with fail;refine(HN.out _ h1).mono ?_;rintro e w3 ⟨rfl,h3,g3⟩;obtain⟨hc3,hf3⟩:=zo6 g3;have g13:=g1.trans g3;cases ok with
  |false=>
   have HE:Hid (R=(τ,n)):=by show _=_;rw[HR.out,if_neg (by rintro ⟨x,_⟩;cases x)]
   clear HR;go_wp2;go_ret;exact⟨by rw[HE.out];rfl,by rw[HE.out];exact h3,g13⟩
  |true=>
   by_cases hr:n<lo\/hi<n
   ·have HE:Hid (R=(ze5 at0 4 τ,n)):=by show _=_;rw[HR.out,if_pos ⟨rfl,hr⟩]
    clear HR;rcases hr with hr|hr
    ·go_wp2_with fail;refine(HF.out _ h3).mono ?_;rintro e w4 ⟨rfl,h4,g4⟩;go_wp2;go_ret;exact⟨by rw[HE.out];rfl,by rw[HE.out];exact h4,g13.trans g4⟩
    ·by_cases hr2:n<lo
     ·go_wp2_with fail;refine(HF.out _ h3).mono ?_;rintro e w4 ⟨rfl,h4,g4⟩;go_wp2;go_ret;exact⟨by rw[HE.out];rfl,by rw[HE.out];exact h4,g13.trans g4⟩
     ·go_wp2_with fail;refine(HF.out _ h3).mono ?_;rintro e w4 ⟨rfl,h4,g4⟩;go_wp2;go_ret;exact⟨by rw[HE.out];rfl,by rw[HE.out];exact h4,g13.trans g4⟩
   ·have HE:Hid (R=(τ,n)):=by show _=_;rw[HR.out,if_neg (by rintro ⟨_,x⟩;exact hr x)]
    have hr1:¬n<lo:=fun x=>hr (.inl x)
    have hr2:¬hi<n:=fun x=>hr (.inr x)
    clear HR hr;go_wp2;go_ret;exact⟨by rw[HE.out];rfl,by rw[HE.out];exact h3,g13⟩
 ·have h1':((f:Int)==1)=false:=by simp;omega
  rw[if_neg h1] at hd;rw[hd.out] at HN;clear h1;go_enter func250,ntmps250;go_wp2_with fail;refine(HB.out _).mono ?_;rintro e w1 ⟨rfl,hb1⟩;obtain⟨hc1,hf1⟩:=zac hb1;have hz1:w.heap.size<w1.heap.size:=by have:=hb1.size;simp at this;omega
  have g1:Chg b w w1:=(Chg.refl b w).alloc _|>.trans (Chg.of_below hb1)
  have h1:RdP w1 b s σ:=(H.out.alloc _).below hb1;go_wp2_with fail;refine(HA.out _ h1).mono ?_;rintro e w2 ⟨rfl,rfl⟩;go_wp2_with fail;refine(HN.out _ h1).mono ?_;rintro e w3 ⟨rfl,h3,g3⟩;obtain⟨hc3,hf3⟩:=zo6 g3;have g13:=g1.trans g3;cases ok with
  |false=>
   have HE:Hid (R=(τ,n)):=by show _=_;rw[HR.out,if_neg (by rintro ⟨x,_⟩;cases x)]
   clear HR;go_wp2;go_ret;exact⟨by rw[HE.out];rfl,by rw[HE.out];exact h3,g13⟩
  |true=>
   by_cases hr:n<lo\/hi<n
   ·have HE:Hid (R=(ze5 at0 4 τ,n)):=by show _=_;rw[HR.out,if_pos ⟨rfl,hr⟩]
    clear HR;rcases hr with hr|hr
    ·go_wp2_with fail;refine(HF.out _ h3).mono ?_;rintro e w4 ⟨rfl,h4,g4⟩;go_wp2;go_ret;exact⟨by rw[HE.out];rfl,by rw[HE.out];exact h4,g13.trans g4⟩
    ·by_cases hr2:n<lo
     ·go_wp2_with fail;refine(HF.out _ h3).mono ?_;rintro e w4 ⟨rfl,h4,g4⟩;go_wp2;go_ret;exact⟨by rw[HE.out];rfl,by rw[HE.out];exact h4,g13.trans g4⟩
     ·go_wp2_with fail;refine(HF.out _ h3).mono ?_;rintro e w4 ⟨rfl,h4,g4⟩;go_wp2;go_ret;exact⟨by rw[HE.out];rfl,by rw[HE.out];exact h4,g13.trans g4⟩
   ·have HE:Hid (R=(τ,n)):=by show _=_;rw[HR.out,if_neg (by rintro ⟨_,x⟩;exact hr x)]
    have hr1:¬n<lo:=fun x=>hr (.inl x)
    have hr2:¬hi<n:=fun x=>hr (.inr x)
    clear HR hr;go_wp2;go_ret;exact⟨by rw[HE.out];rfl,by rw[HE.out];exact h3,g13⟩
end
theorem zg5 {s:ByteArray} {k:Nat}:(s.extract k s.size).data.toList=s.data.toList.drop k:=by
 rw[zcm,<-zaS,<-List.length_drop,List.take_length]
def zcr (w:World):Prop:=∃m:Int,w.cell? ⟨1,0,none⟩=some (.int .i64 m)
theorem zcr.below {w w':World} (h:zcr w) (hb:Below w.heap.size w w'):zcr w':=by
 obtain⟨m,hm⟩:=h;exact⟨m,(hb.cell (p:=⟨_,0,none⟩) (waR w _ hm)).trans hm⟩
theorem zcr.chg {w w':World} {b:Nat} {s:ByteArray} {σ:PS} (h:zcr w) (hr:RdP w b s σ) (hg:Chg b w w'):zcr w':=by
 obtain⟨m,hm⟩:=h;obtain⟨k,_,_,hk⟩:=hr;have hne:1≠b:=by
  rintro rfl;rw[hk.cells.1] at hm;cases hm
 exact⟨m,hg.cell hne hm⟩
theorem zlG (l:List UInt8):(Lib.cut l [32]).1=l.takeWhile (fun c=>decide (c≠32)):=by
 have hi:∀l:List UInt8,(Lib.index l [32]=-1/\l.takeWhile (fun c=>decide (c≠32))=l)\/(0<=Lib.index l [32]/\l.take (Lib.index l [32]).toNat=l.takeWhile (fun c=>decide (c≠32))):=by
  intro l;induction l with
  |nil=>left;exact⟨rfl,rfl⟩
  |cons c l ih=>
   unfold Lib.index
   by_cases hc:c=32
   ·subst hc;right;rw[if_pos (by simp[List.isPrefixOf])]
    exact⟨by decide,by simp[List.takeWhile_cons]⟩
   ·have hp:([32]:List UInt8).isPrefixOf (c::l)=false:=by
     simp[List.isPrefixOf];exact fun e=>hc e.symm
    rw[hp,if_neg (by decide)]
    have ht:(c::l).takeWhile (fun c=>decide (c≠32))=c::l.takeWhile (fun c=>decide (c≠32)):=by
     rw[List.takeWhile_cons,if_pos (by simpa using hc)]
    rw[ht];rcases ih with ⟨h1,h2⟩|⟨h1,h2⟩
    ·left;rw[h1,h2];exact⟨by simp,rfl⟩
    ·right;rw[if_neg (by simp;omega)]
     refine⟨by omega,?_⟩
     rw[show (Lib.index l [32]+1).toNat=(Lib.index l [32]).toNat+1 from by omega,List.take_succ_cons,h2]
 unfold Lib.cut;rcases hi l with ⟨h1,h2⟩|⟨h1,h2⟩
 ·rw[if_neg (by omega),h2]
 ·rw[if_pos h1,h2]
section
variable {w : World} {b : Nat} {s : ByteArray} {σ : PS} (hs : s.size <= 1000000)
include hs
theorem zqF (h:RdP w b s σ) (hm:zcr w):Calls prog 104 #[kV b s] w (zjp (.string (zaZ (zdL σ))) b s σ w):=by
 have hs9:s.size<=9223372036854775807:=by omega
 have hlt:=h.lt;have hne:¬w.heap.size=b:=by omega
 have H:=waV h;have HD:=waV (fun W (h:RdP W b s σ)=>zpb h)
 cases hd:zgr σ with
 |true=>
  have HW:Hid (zdL σ=[]):=by
   show _=_;unfold zdL;unfold zgr at hd;have:=waA hd;split
   ·rcases this with h|h
    ·exact absurd (by assumption) h
    ·rw[h];rfl
   ·rfl
  rw[hd] at HD;clear h hd hm;go_enter func104,ntmps104;go_wp2_with fail;refine(HD.out _ (H.out.alloc _)).mono ?_;rintro e w1 ⟨rfl,h1,g1⟩;go_wp2;go_ret;exact⟨by rw[HW.out];rfl,h1,((Chg.refl b w).alloc _).trans g1⟩
 |false=>
  rw[hd] at HD;have he:σ.e=0:=by
   unfold zgr at hd;have:=of_decide_eq_false hd;rcases Decidable.em (σ.e=0) with h|h
   ·exact h
   ·exact absurd (.inl h) this
  obtain⟨k,hk,hl,hr⟩:=h;have hat:=zjq hk hl;have HA:=waV (fun W (h:RdP W b s σ)=>zrH h)
  rw[hat] at HA;have hk':(k:Int)<=(s.size:Int):=by omega
  have HW:Hid ((Lib.cut (s.extract k s.size).data.toList [32]).1=zdL σ):=by
   show _=_;rw[zg5,<-hl,zlG];unfold zdL;rw[if_pos he]
  obtain⟨v2,v3,hC⟩:∃(v2:ByteArray) (v3:Bool),∀W,zcr W->Calls prog 166 #[.string (s.extract k s.size),.string ⟨#[32]⟩] W (zid (.tuple #[.string (zaZ (zdL σ)),.string v2,.bool v3]) W):=by
   refine⟨zaZ (Lib.cut (s.extract k s.size).data.toList [32]).2.1,(Lib.cut (s.extract k s.size).data.toList [32]).2.2,fun W hW=>?_⟩
   obtain⟨m,hm⟩:=hW;refine(Tryz.strings_Cut (s.extract k s.size) ⟨#[32]⟩ m W (by simp;omega) hm).mono ?_
   rintro e w' ⟨rfl,n,rfl⟩;exact⟨by rw[<-HW.out];rfl,n,rfl⟩
  have HC:=waV hC;have HM:Hid (∀W,Chg b (w.alloc (.cells #[.pointer (some ⟨b,0,none⟩),.string s] 98)) W->zcr W):=fun W hW=>
   (hm.below ((waC _ w).alloc (waJ _) _)).chg (H.out.alloc _) hW
  clear hC hd hr hl hm HW he;go_enter func104,ntmps104;go_wp2_with fail;refine(HD.out _ (H.out.alloc _)).mono ?_;rintro e w1 ⟨rfl,h1,g1⟩;obtain⟨hc1,hf1⟩:=zo6 g1;have hm1:=waV (HM.out _ g1);go_wp2
  go_quiet ((first|(go_at_call 107;exact zcv (HA.out _ (by exact h1.drewN _)))|(go_at_call 166;exact zd0 (HC.out _ (by exact hm1.out)))))
  go_wp2;go_ret;exact⟨rfl,h1.drewN _,(((Chg.refl b w).alloc _).trans g1).drewN _⟩
end
def zbx (f:Nat):Nat:=if f<4 then f else f+1
structure EvAt (w:World) (b:Nat) (A:Nat->Option Addr) (n c:Nat->Nat) (bk:Bool):Prop where
 h0:w.cell? ⟨b,0,none⟩=some (.slice (A 0) (n 0) (c 0))
 h1:w.cell? ⟨b,1,none⟩=some (.slice (A 1) (n 1) (c 1))
 h2:w.cell? ⟨b,2,none⟩=some (.slice (A 2) (n 2) (c 2))
 h3:w.cell? ⟨b,3,none⟩=some (.slice (A 3) (n 3) (c 3))
 h4:w.cell? ⟨b,4,none⟩=some (.bool bk)
 h5:w.cell? ⟨b,5,none⟩=some (.slice (A 5) (n 5) (c 5))
 h6:w.cell? ⟨b,6,none⟩=some (.slice (A 6) (n 6) (c 6))
 h7:w.cell? ⟨b,7,none⟩=some (.slice (A 7) (n 7) (c 7))
def evV (A:Nat->Option Addr) (n c:Nat->Nat) (bk:Bool):Value:=.agg #[.slice (A 0) (n 0) (c 0),.slice (A 1) (n 1) (c 1),.slice (A 2) (n 2) (c 2),.slice (A 3) (n 3) (c 3),.bool bk,.slice (A 5) (n 5) (c 5),.slice (A 6) (n 6) (c 6),.slice (A 7) (n 7) (c 7)]
theorem EvAt.below {w w':World} {b:Nat} {A:Nat->Option Addr} {n c:Nat->Nat} {bk:Bool} (h:EvAt w b A n c bk) (hb:Below w.heap.size w w'):EvAt w' b A n c bk:=by
 have hl:=waR _ _ h.h0;exact⟨(hb.cell (p:=⟨b,0,none⟩) hl).trans h.h0,(hb.cell (p:=⟨b,1,none⟩) hl).trans h.h1,(hb.cell (p:=⟨b,2,none⟩) hl).trans h.h2,(hb.cell (p:=⟨b,3,none⟩) hl).trans h.h3,(hb.cell (p:=⟨b,4,none⟩) hl).trans h.h4,(hb.cell (p:=⟨b,5,none⟩) hl).trans h.h5,(hb.cell (p:=⟨b,6,none⟩) hl).trans h.h6,(hb.cell (p:=⟨b,7,none⟩) hl).trans h.h7⟩
theorem zeB (w:World) (A:Nat->Option Addr) (n c:Nat->Nat) (bk:Bool) (t:TypeId):EvAt (w.alloc (.cells #[.slice (A 0) (n 0) (c 0),.slice (A 1) (n 1) (c 1),.slice (A 2) (n 2) (c 2),.slice (A 3) (n 3) (c 3),.bool bk,.slice (A 5) (n 5) (c 5),.slice (A 6) (n 6) (c 6),.slice (A 7) (n 7) (c 7)] t)) w.heap.size A n c bk:=
 ⟨zaa rfl rfl,zaa rfl rfl,zaa rfl rfl,zaa rfl rfl,zaa rfl rfl,zaa rfl rfl,zaa rfl rfl,zaa rfl rfl⟩
theorem zsV (k:Nat) (hk:k<7) (A:Nat->Option Addr) (n c:Nat->Nat) (w:World):(Instr.index 114 (.agg #[.slice (A 0) (n 0) (c 0),.slice (A 1) (n 1) (c 1),.slice (A 2) (n 2) (c 2),.slice (A 3) (n 3) (c 3),.slice (A 5) (n 5) (c 5),.slice (A 6) (n 6) (c 6),.slice (A 7) (n 7) (c 7)]) (.int .i64 k)).run prog w=.ok (.slice (A (zbx k)) (n (zbx k)) (c (zbx k))) w:=by
 obtain rfl|rfl|rfl|rfl|rfl|rfl|rfl:k=0\/k=1\/k=2\/k=3\/k=4\/k=5\/k=6:=by omega
 all_goals kernel_rfl
theorem zgk (k:Nat) (hk:k<7) (b:Nat) (A:Nat->Option Addr) (n c:Nat->Nat) (bk:Bool) (w:World) (h:EvAt w b A n c bk):
 Calls prog 23 #[.pointer (some ⟨b,0,none⟩),.int .i64 k] w (zid (.slice (A (zbx k)) (n (zbx k)) (c (zbx k))) w):=by
 obtain⟨h0,h1,h2,h3,h4,h5,h6,h7⟩:=h;have hix:=fun W=>zsV k hk A n c W
 have q1:¬(k:Int)<0:=by omega
 have q2:¬(7:Int)<=k:=by omega
 go_enter func23,ntmps23;go_wp2
 go_quiet (fail)
 go_wp2;go_ret;exact⟨rfl,_,rfl⟩
theorem zkq (k:Nat) (w:World):Calls prog 169 #[.int .i64 k] w (zbF (.int .i64 (zdG k)) w):=by
 by_cases h:k=1
 ·subst h;go_enter func169,ntmps169;go_wp2;go_ret;exact⟨rfl,rfl⟩
 ·have h':((k:Int)==1)=false:=by simp;omega
  have HR:Hid (((zdG k:Nat):Int)=64):=by show _=_;unfold zdG;rw[if_neg (by omega)];rfl
  clear h;go_enter func169,ntmps169;go_wp2;go_ret;exact⟨zaP HR.out.symm,rfl⟩
theorem kodd0 {k:Nat} (hk:k=0) (m:Nat) (i:It):zqC (k:Int) (m:Int) i=decide (i.k=0\/i.k=3\/1<i.s):=by subst hk;rfl
theorem kodd1 {k:Nat} (hk:k≠0) (m:Nat) (i:It):zqC (k:Int) (m:Int) i=decide (i.k=0/\(1<(m:Int)\/1<i.s)):=by unfold zqC;rw[if_neg (by omega)]
theorem zsW (k:Nat) (m:Nat) (i:It) (w:World):Calls prog 173 #[.int .i64 k,.int .i64 m,itV i] w (Ret (.bool (zqC k m i)) w):=by
 by_cases h:k=0
 ·rw[kodd0 h m i];have hk:((k:Int)==0)=true:=by simp;omega
  clear h
  by_cases h0:i.k=0
  ·have h0':(i.k==0)=true:=by simpa using h0
   rw[waP (Or.inl h0)];clear h0;go_enter func173,ntmps173;go_wp2;go_ret;exact⟨rfl,by exact zaB⟩
  ·have h0':(i.k==0)=false:=by simpa using h0
   by_cases h3:i.k=3
   ·have h3':(i.k==3)=true:=by simpa using h3
    rw[waP (Or.inr (Or.inl h3))];clear h0 h3;go_enter func173,ntmps173;go_wp2;go_ret;exact⟨rfl,by exact zaB⟩
   ·have h3':(i.k==3)=false:=by simpa using h3
    have HR:Hid (decide (i.k=0\/i.k=3\/1<i.s)=decide (1<i.s)):=by show _=_;simp[h0,h3]
    generalize decide (i.k=0\/i.k=3\/1<i.s)=R at *;clear h0 h3;go_enter func173,ntmps173;go_wp2;go_ret;exact⟨zab HR.out.symm,by exact zaB⟩
 ·rw[kodd1 h m i];have hk:((k:Int)==0)=false:=by simp;omega
  clear h
  by_cases h0:i.k=0
  ·have h0':(i.k==0)=true:=by simpa using h0
   by_cases hm:1<(m:Int)
   ·rw[waP ⟨h0,Or.inl hm⟩];clear h0;go_enter func173,ntmps173;go_wp2;go_ret;exact⟨rfl,by exact zaB⟩
   ·have HR:Hid (decide (i.k=0/\(1<(m:Int)\/1<i.s))=decide (1<i.s)):=by show _=_;simp only[h0,hm,true_and,false_or]
    generalize decide (i.k=0/\(1<(m:Int)\/1<i.s))=R at *;clear h0;go_enter func173,ntmps173;go_wp2;go_ret;exact⟨zab HR.out.symm,by exact zaB⟩
  ·have h0':(i.k==0)=false:=by simpa using h0
   rw[waO (fun x=>h0 x.1)]
   clear h0;go_enter func173,ntmps173;go_wp2;go_ret;exact⟨rfl,by exact zaB⟩
theorem zlH (b b':Nat) (k:Nat) (A:Option Addr) (n c:Nat) (w:World) (h0:w.cell? ⟨b,0,none⟩=some (.int .i64 k)) (h1:w.cell? ⟨b',0,none⟩=some (.slice A n c)):
 zl2 172 #[.pointer (some ⟨b,0,none⟩),.pointer (some ⟨b',0,none⟩)] (fun i=>zqC k n i) w:=by
 intro W x hB;have hb:=waR _ _ h0;have hb':=waR _ _ h1;have g0:W.cell? ⟨b,0,none⟩=some (.int .i64 k):=(hB.cell (p:=⟨b,0,none⟩) hb).trans h0;have g1:W.cell? ⟨b',0,none⟩=some (.slice A n c):=(hB.cell (p:=⟨b',0,none⟩) hb').trans h1;have hb2:b<W.heap.size:=waD hb hB.size;have hb3:b'<W.heap.size:=waD hb' hB.size;have HO:=waV (fun W'=>zsW k n x W')
 clear h0 h1 hB hb hb';go_enter func172,ntmps172;go_wp2_with fail;refine(HO.out _).mono ?_;rintro e w1 ⟨rfl,hb1⟩;go_wp2;go_ret;exact⟨rfl,((waC _ W).alloc (waJ _) _).trans (hb1.mono (by simp))⟩
theorem zod {k:Nat} {l:List It} (h:l.length=0):zaX k l=if k=0 then 0 else 11:=by
 unfold zaX;rw[if_pos h]
 by_cases hk:k=0
 ·subst hk;rfl
 ·rw[if_neg (by omega),if_neg hk]
theorem zlI {k:Nat} {l:List It} (h:zdG k<l.length):zaX k l=5:=by
 unfold zaX;rw[if_neg (by omega),if_pos h]
theorem zkr {k:Nat} {l:List It} (h0:0<l.length) (h1:l.length<=zdG k) (h:zdT (kLo k) (kHi k) (zdG k) l=false):zaX k l=1:=by
 unfold zaX;rw[if_neg (by omega),if_neg (by omega)]
 rw[zdT,waP (by omega),Bool.true_and] at h
 rw[if_pos];rw[List.all_eq_not_any_not] at h;simp only[Bool.not_eq_false'] at h;rw[List.any_eq_true] at h ⊢;obtain⟨x,hx,hm⟩:=h;exact⟨x,hx,by rw[hm,Bool.or_true]⟩
theorem zlJ {k:Nat} {l:List It} (h0:0<l.length) (h1:l.length<=zdG k) (h:zdT (kLo k) (kHi k) (zdG k) l=true):zaX k l=if l.any (fun i=>zqC k l.length i) then 1 else 0:=by
 unfold zaX;rw[if_neg (by omega),if_neg (by omega)]
 rw[zdT,waP (by omega),Bool.true_and,List.all_eq_true] at h
 have e:l.any (fun i=>zqC k l.length i||!zct i (kLo k) (kHi k))=l.any (fun i=>zqC k l.length i):=by
  rw[waQ,List.any_eq_true,List.any_eq_true];constructor
  ·rintro ⟨x,hx,hm⟩;exact⟨x,hx,by rw[h x hx] at hm;simpa using hm⟩
  ·rintro ⟨x,hx,hm⟩;exact⟨x,hx,by rw[hm];rfl⟩
 rw[e]
theorem zoe (k:Nat) (hk:k<7) (A:Option Addr) (n c:Nat) (l:List It) (w:World) (hA:zcP w A n l) (hn:n<=9223372036854775807):
 Calls prog 108 #[.int .i64 k,.slice A n c] w (Ret (.int .i64 (zaX k l)) w):=by
 have HL:Hid (l.length=n):=hA.1;have HA:=waV hA;clear hA;have HB:=waV (fun W=>zeV k hk W)
 have HM:=waV (fun W=>zkq k W)
 by_cases h0:n=0
 ·subst h0;have HR:Hid (zaX k l=if k=0 then 0 else 11):=zod HL.out
  by_cases hk0:k=0
  ·rw[if_pos hk0] at HR;have hk0':((k:Int)==0)=true:=by simp;omega
   clear hk0;go_enter func108,ntmps108;go_wp2_with fail;refine(HB.out _).mono ?_;rintro e w1 ⟨rfl,hb1⟩;obtain⟨hc,hf⟩:=zac hb1;go_wp2;go_ret;exact⟨zaP HR.out.symm,((((waC _ w).alloc (waJ _) _).alloc (by simp) _).trans (hb1.mono (by simp;omega)))⟩
  ·rw[if_neg hk0] at HR;have hk0':((k:Int)==0)=false:=by simp;omega
   clear hk0;go_enter func108,ntmps108;go_wp2_with fail;refine(HB.out _).mono ?_;rintro e w1 ⟨rfl,hb1⟩;obtain⟨hc,hf⟩:=zac hb1;go_wp2;go_ret;exact⟨zaP HR.out.symm,((((waC _ w).alloc (waJ _) _).alloc (by simp) _).trans (hb1.mono (by simp;omega)))⟩
 have h0':((n:Int)==0)=false:=by simp;omega
 by_cases h64:zdG k<n
 ·have HR:Hid (zaX k l=5):=zlI (by have:=HL.out;omega)
  have h64':((zdG k:Nat):Int)<(n:Int):=by omega
  generalize ((zdG k:Nat):Int)=m at *;clear h64;go_enter func108,ntmps108;go_wp2_with fail;refine(HB.out _).mono ?_;rintro e w1 ⟨rfl,hb1⟩;obtain⟨hc,hf⟩:=zac hb1;go_wp2
  go_quiet ((go_at_call 169;exact zcv (HM.out _)))
  go_wp2;go_ret;exact⟨zaP HR.out.symm,zai ((((waC _ w).alloc (waJ _) _).alloc (by simp) _).trans (hb1.mono (by simp;omega))) _⟩
 have h64':¬((zdG k:Nat):Int)<(n:Int):=by omega
 have HMr:=waV (fun W=>(zkq k W).mono (fun e w' h=>(⟨h.1,h.2▸waC _ _⟩:Ret (.int .i64 (zdG k)) W e w')))
 cases hr:zdT (kLo k) (kHi k) (zdG k) l with
 |false=>
  have HR:Hid (zaX k l=1):=zkr (by have:=HL.out;omega) (by have:=HL.out;omega) hr
  have HF:=waV (fun W (hb:Below w.heap.size w W)=>zke A n c l (kLo k) (kHi k) (zdG k) W (HA.out.below hb (waJ _)) hn)
  rw[hr] at HF;generalize ((zdG k:Nat):Int)=m at *;generalize kLo (k:Int)=lo at *;generalize kHi (k:Int)=hi at *;clear hr h64;go_enter func108,ntmps108;go_wp2_with fail;refine(HB.out _).mono ?_;rintro e w1 ⟨rfl,hb1⟩;obtain⟨hc,hf⟩:=zac hb1;have hbw0:Below w.heap.size w w1:=(((waC _ w).alloc (waJ _) _).alloc (by simp) _).trans (hb1.mono (by simp;omega))
  have hz1:=hb1.size;have p0:w1.cell? ⟨w.heap.size,0,none⟩=some (.int .i64 k):=(hc _ _ (by simp;omega)).trans (by simp[go_sem])
  have p1:w1.cell? ⟨w.heap.size+1,0,none⟩=some (.slice A n c):=(hc _ _ (by simp)).trans (by simp[go_sem])
  clear hc hf hb1;go_wp2
  go_quiet ((go_at_call 169;exact zcv (HM.out _)))
  go_wp2;have hbw:Below w.heap.size w (w1.drewN nq):=zai hbw0 _;have p0':(w1.drewN nq).cell? ⟨w.heap.size,0,none⟩=some (.int .i64 k):=p0;have p1':(w1.drewN nq).cell? ⟨w.heap.size+1,0,none⟩=some (.slice A n c):=p1;clear p0 p1 hz1;generalize World.drewN w1 nq=w2 at *;have c0:∀x:Ext w2,x.W.cell? ⟨w.heap.size,0,none⟩=some (.int .i64 k):=fun x=>x.cell p0'
  have c1:∀x:Ext w2,x.W.cell? ⟨w.heap.size+1,0,none⟩=some (.slice A n c):=fun x=>x.cell p1'
  have HFx:=waV (fun x:Ext w2=>HF.out x.W (zag hbw x.h hbw.size))
  have HMx:=waV (fun x:Ext w2=>HMr.out x.W)
  refine zav kQ kQ ?_
  repeat (first|go_big_quiet_skip|(go_big_quiet_want;go_big_quiet_op;(first|go_big_quiet_on|go_big_quiet_call ((with_reducible first|exact zbs _ (HMx.out _)|exact zbs _ (HFx.out _))))))
  refine wpQuiet_nil ?_;rintro _ ⟨xw,rfl⟩;have q0:=c0 xw;have q1:=c1 xw;have hbx:Below w.heap.size w xw.W:=zag hbw xw.h hbw.size;go_wp2;go_ret;exact⟨zaP HR.out.symm,zag hbw xw.h hbw.size⟩
 |true=>
  have HR:Hid (zaX k l=if l.any (fun i=>zqC k n i) then 1 else 0):=by have:=zlJ (k:=k) (by have:=HL.out;omega) (by have:=HL.out;omega) hr;rw[HL.out] at this;exact this
  have HF:=waV (fun W (hb:Below w.heap.size w W)=>zke A n c l (kLo k) (kHi k) (zdG k) W (HA.out.below hb (waJ _)) hn)
  rw[hr] at HF;generalize ((zdG k:Nat):Int)=m at *;generalize kLo (k:Int)=lo at *;generalize kHi (k:Int)=hi at *;clear hr h64;have eg:∀args w,(callFunc 172 args).run prog w=.ok (.enter 172 args) w:=enters_of func172 kQ rfl;have HG:=waV (fun w1 (hb1:Below w.heap.size w w1) (q0:w1.cell? ⟨w.heap.size,0,none⟩=some (.int .i64 k)) (q1:w1.cell? ⟨w.heap.size+1,0,none⟩=some (.slice A n c))=>zdI A n c l 172 #[.pointer (some ⟨w.heap.size,0,none⟩),.pointer (some ⟨w.heap.size+1,0,none⟩)] _ w1 (HA.out.below hb1 (waJ _)) hn eg (zlH w.heap.size (w.heap.size+1) k A n c w1 q0 q1))
  clear eg;cases hq:l.any (fun i=>zqC k n i) with
  |true=>
   rw[hq] at HG HR;clear hq;go_enter func108,ntmps108;go_wp2_with fail;refine(HB.out _).mono ?_;rintro e w1 ⟨rfl,hb1⟩;obtain⟨hc,hf⟩:=zac hb1;have hbw0:Below w.heap.size w w1:=(((waC _ w).alloc (waJ _) _).alloc (by simp) _).trans (hb1.mono (by simp;omega))
   have hz1:=hb1.size;have p0:w1.cell? ⟨w.heap.size,0,none⟩=some (.int .i64 k):=(hc _ _ (by simp;omega)).trans (by simp[go_sem])
   have p1:w1.cell? ⟨w.heap.size+1,0,none⟩=some (.slice A n c):=(hc _ _ (by simp)).trans (by simp[go_sem])
   clear hc hf hb1;go_wp2
   go_quiet ((go_at_call 169;exact zcv (HM.out _)))
   go_wp2;have hbw:Below w.heap.size w (w1.drewN nq):=zai hbw0 _;have p0':(w1.drewN nq).cell? ⟨w.heap.size,0,none⟩=some (.int .i64 k):=p0;have p1':(w1.drewN nq).cell? ⟨w.heap.size+1,0,none⟩=some (.slice A n c):=p1;clear p0 p1 hz1;generalize World.drewN w1 nq=w2 at *;have c0:∀x:Ext w2,x.W.cell? ⟨w.heap.size,0,none⟩=some (.int .i64 k):=fun x=>x.cell p0'
   have c1:∀x:Ext w2,x.W.cell? ⟨w.heap.size+1,0,none⟩=some (.slice A n c):=fun x=>x.cell p1'
   have HFx:=waV (fun x:Ext w2=>HF.out x.W (zag hbw x.h hbw.size))
   have HMx:=waV (fun x:Ext w2=>HMr.out x.W)
   refine zav kQ kQ ?_
   repeat (first|go_big_quiet_skip|(go_big_quiet_want;go_big_quiet_op;(first|go_big_quiet_on|go_big_quiet_call ((with_reducible first|exact zbs _ (HMx.out _)|exact zbs _ (HFx.out _))))))
   refine wpQuiet_nil ?_;rintro _ ⟨xw,rfl⟩;have q0:=c0 xw;have q1:=c1 xw;have hbx:Below w.heap.size w xw.W:=zag hbw xw.h hbw.size;go_wp2_with fail;refine(HG.out _ hbx q0 q1).mono ?_;rintro e w3 ⟨rfl,hb3⟩;go_wp2;go_ret;exact⟨zaP HR.out.symm,zag hbx hb3 hbx.size⟩
  |false=>
   rw[hq] at HG HR;clear hq;go_enter func108,ntmps108;go_wp2_with fail;refine(HB.out _).mono ?_;rintro e w1 ⟨rfl,hb1⟩;obtain⟨hc,hf⟩:=zac hb1;have hbw0:Below w.heap.size w w1:=(((waC _ w).alloc (waJ _) _).alloc (by simp) _).trans (hb1.mono (by simp;omega))
   have hz1:=hb1.size;have p0:w1.cell? ⟨w.heap.size,0,none⟩=some (.int .i64 k):=(hc _ _ (by simp;omega)).trans (by simp[go_sem])
   have p1:w1.cell? ⟨w.heap.size+1,0,none⟩=some (.slice A n c):=(hc _ _ (by simp)).trans (by simp[go_sem])
   clear hc hf hb1;go_wp2
   go_quiet ((go_at_call 169;exact zcv (HM.out _)))
   go_wp2;have hbw:Below w.heap.size w (w1.drewN nq):=zai hbw0 _;have p0':(w1.drewN nq).cell? ⟨w.heap.size,0,none⟩=some (.int .i64 k):=p0;have p1':(w1.drewN nq).cell? ⟨w.heap.size+1,0,none⟩=some (.slice A n c):=p1;clear p0 p1 hz1;generalize World.drewN w1 nq=w2 at *;have c0:∀x:Ext w2,x.W.cell? ⟨w.heap.size,0,none⟩=some (.int .i64 k):=fun x=>x.cell p0'
   have c1:∀x:Ext w2,x.W.cell? ⟨w.heap.size+1,0,none⟩=some (.slice A n c):=fun x=>x.cell p1'
   have HFx:=waV (fun x:Ext w2=>HF.out x.W (zag hbw x.h hbw.size))
   have HMx:=waV (fun x:Ext w2=>HMr.out x.W)
   refine zav kQ kQ ?_
   repeat (first|go_big_quiet_skip|(go_big_quiet_want;go_big_quiet_op;(first|go_big_quiet_on|go_big_quiet_call ((with_reducible first|exact zbs _ (HMx.out _)|exact zbs _ (HFx.out _))))))
   refine wpQuiet_nil ?_;rintro _ ⟨xw,rfl⟩;have q0:=c0 xw;have q1:=c1 xw;have hbx:Below w.heap.size w xw.W:=zag hbw xw.h hbw.size;go_wp2_with fail;refine(HG.out _ hbx q0 q1).mono ?_;rintro e w3 ⟨rfl,hb3⟩;go_wp2;go_ret;exact⟨zaP HR.out.symm,zag hbx hb3 hbx.size⟩
end Go.Proofs.YtllcdbgjeidlkaaGreatDoor
