/- A part of the proof: WDisc2 WDisc3 WDisc4 WLap3 WPre -/
import Derived.Test.YtgedndlifiihkaaGreatDoorT13
import Derived.Test.YtgedndlifiihkaaGreatDoorT14
import Derived.Test.YtgedndlifiihkaaGreatDoorT12
set_option maxHeartbeats 80000000
set_option maxRecDepth 100000
set_option linter.unusedSimpArgs false
set_option linter.unusedVariables false
namespace Go.Proofs.YtgedndlifiihkaaGreatDoor
open Go.Proofs.Tryz
open Go.RowKit Go.Shelf
def zcO (p:Nat→Bool) (s k:Nat):Nat:=mkN (fun j=>p (64 * k+j)&&decide (s≤64 * k+j)) 64
theorem zmP (p:Nat→Bool) (s k:Nat):zcO p s k<18446744073709551616:=zcU _ 64
theorem zhn {p:Nat→Bool} {s k:Nat} (h:s≤64 * k):zcO p s k=zaw p k:=by
 unfold zcO zaw;refine zbr fun j _=>?_
 rw[waP (by omega),Bool.and_true]
theorem zlI {p:Nat→Bool} {s k r:Nat} (h:s=64 * k+r) (hr:r<64):zaw p k>>>r<<<r=zcO p s k:=by
 apply Nat.eq_of_testBit_eq;intro j;rw[Nat.testBit_shiftLeft,Nat.testBit_shiftRight];unfold zcO zaw;rw[za8,za8]
 by_cases h1:r≤j
 ·rw[show r+(j - r)=j by omega]
  rw[waP (p:=s≤64 * k+j) (by omega)]
  simp[h1]
 ·rw[waO (p:=s≤64 * k+j) (by omega)]
  simp[h1]
theorem zfB {p:Nat→Bool} {s k j:Nat}:j∈zar (zcO p s k)↔j<64∧p (64 * k+j)=true∧s≤64 * k+j:=by
 rw[zaW];unfold zcO;rw[za8]
 by_cases h:j<64
 ·simp[h]
 ·simp[h]
def zen (p:Nat→Bool) (s x:Nat):Prop:=x<86400∧s≤x∧p x=true∧∀y,s≤y→y<x→p y=false
def zdc (p:Nat→Bool) (s:Nat):Prop:=∀y,s≤y→y<86400→p y=false
def zjl (p:Nat→Bool) (s:Nat) (w:World) (e:Ending) (w':World):Prop:=w=w'∧((∃x,e=.returned (.tuple #[.int .i64 (x:Nat),.bool true])∧zen p s x)∨(e=.returned (.tuple #[.int .i64 0,.bool false])∧zdc p s))
theorem zir {p:Nat→Bool} {s k j:Nat} {r:List Nat} (hk:k<1350) (hb:zar (zcO p s k)=j::r) (hl:∀y,s≤y→y<64 * k→p y=false):zen p s (64 * k+j):=by
 have hj:=zfB.1 (show j∈zar (zcO p s k) by rw[hb];simp)
 refine⟨by omega,hj.2.2,hj.2.1,fun y h1 h2=>?_⟩
 by_cases hy:y<64 * k
 ·exact hl y h1 hy
 ·false_or_by_contra
  rename_i hn;have hp:p y=true:=by simpa using hn
  obtain⟨q,hq⟩:∃q,y=64 * k+q:=⟨y - 64 * k,by omega⟩
  subst hq;have hm:=zfB.2 (⟨by omega,hp,h1⟩:q<64∧p (64 * k+q)=true∧s≤64 * k+q)
  have hs:=zbe (zcO p s k);rw[hb] at hm hs;rcases List.mem_cons.1 hm with e|hm
  ·omega
  ·have:=(List.pairwise_cons.1 hs).1 q hm;omega
theorem zkB {p:Nat→Bool} {s k:Nat} (hb:zar (zcO p s k)=[]) (hl:∀y,s≤y→y<64 * k→p y=false):∀y,s≤y→y<64 * (k+1)→p y=false:=by
 intro y h1 h2
 by_cases hy:y<64 * k
 ·exact hl y h1 hy
 ·false_or_by_contra
  rename_i hn;obtain⟨q,hq⟩:∃q,y=64 * k+q:=⟨y - 64 * k,by omega⟩
  subst hq;have hm:=zfB.2 (⟨by omega,by simpa using hn,h1⟩:q<64∧p (64 * k+q)=true∧s≤64 * k+q)
  rw[hb] at hm;cases hm
theorem ztI {k:IntKind} {a b:Int} {c:Bool} (h:a=b):Ending.returned (.tuple #[.int k a,.bool c])=.returned (.tuple #[.int k b,.bool c]):=by rw[h]
theorem zkC (s:Int) (w:World):Calls prog 71 #[.pointer none,.int .i64 s] w (zbO (.tuple #[.int .i64 0,.bool false]) w):=by
 go_enter func71,ntmps71;go_wp2
 all_goals go_ret2
 all_goals exact⟨rfl,rfl⟩
theorem zho (b s:Nat) (p:Nat→Bool) (w:World) (hd:DiscAt w b p) (hw:Tz w) (hs9:s≤1000000):Calls prog 71 #[.pointer (some ⟨b,0,none⟩),.int .i64 s] w (zjl p s w):=by
 have HM:=waV (fun W=>zgE (s:Int) W)
 have s0:(0:Int)≤(s:Int):=by omega
 have s0':¬(s:Int)<0:=by omega
 by_cases hs:s<86400
 ·rw[waP (p:=0≤(s:Int)∧(s:Int)<86400) (by omega)] at HM
  obtain⟨k0,hk0⟩:∃i,i=s / 64:=⟨_,rfl⟩;obtain⟨r,hr⟩:∃j,j=s%64:=⟨_,rfl⟩;have hkr:s=64 * k0+r:=by omega
  have hr64:r<64:=by omega
  have hk1:k0<1350:=by omega
  have q1:(s:Int) / 64=(k0:Int):=by omega
  have q2:(s:Int)%64=(r:Int):=by omega
  have c0:=hd.cells k0 hk1;have hb:=hd.lt;have HW:Hid (IntKind.u64.wrap ((zaw p k0:Nat) / 2^r * 2^r)=(zcO p s k0:Nat)):=by
   have:=zin (m:=zaw p k0) (k:=r) (zmv _ _ (zbz p k0));rw[zlI hkr hr64] at this;exact this
  have HL0:Hid (∀y,s≤y→y<64 * k0→p y=false):=fun y h1 h2=>by omega
  have HD:=waV hd;have HTz:=waV hw;have hks:s<64 * k0+64:=by omega
  clear hd hw hkr hk0 hr hs;generalize zaw p k0=W0 at *;have k0':(0:Int)≤(k0:Int):=by omega
  have k1':(k0:Int)<1350:=by omega
  have jn:¬(r:Int)<0:=by omega
  go_enter func71,ntmps71;go_wp2_with fail;refine(HM.out _).mono ?_;rintro e w1 ⟨rfl,rfl⟩;go_wp2;rw[HW.out];clear HW c0 q1 q2 jn k0' k1' hr64
  go_loopw [6,7] (fun m i wr=>(∃k:Nat,i=.int .i64 k∧k<1350∧m=.int .u64 (zcO p s k:Nat)∧s<64 * k+64∧Hid (∀y,s≤y→y<64 * k→p y=false))∧wr=w) (fun _ i _=>1350 - (intOf i).toNat)
  case atStart=>exact⟨⟨k0,rfl,hk1,rfl,hks,HL0⟩,rfl⟩
  case round=>
   obtain⟨⟨k,rfl,hk,rfl,hs2,HL⟩,rfl⟩:=hrel;have HA:=waV (fun W (hW:Tz W)=>zfy (zcO p s k) (zmP p s k) W hW)
   unfold zeW zh1 at HA;have HF:=waV (fun j r (h:zar (zcO p s k)=j::r)=>zir hk h HL.out)
   have HN:=waV (fun(h:zar (zcO p s k)=[])=>zkB h HL.out)
   have hj:∀j r,zar (zcO p s k)=j::r→j<64:=fun j r h=>(zfB.1 (show j∈zar (zcO p s k) by rw[h];simp)).1
   generalize zcO p s k=M at *;cases hl:zar M with
   |nil=>
    have hn:=HN.out hl;rw[hl] at HA;simp only[zjh,List.isEmpty_nil,Bool.not_true] at HA
    by_cases h9:k+1=1350
    ·have HNo:Hid (zdc p s):=fun y h1 h2=>hn y h1 oQ
     have e9:((k:Int)+1==1350)=true:=by simp;omega
     clear hn hl hj HF HN HL HM HD;go_wp2_with fail;refine(HA.out _ HTz.out).mono ?_;rintro e w1 ⟨rfl,rfl⟩;go_wp2
     go_ret2
     exact⟨rfl,.inr ⟨rfl,HNo.out⟩⟩
    ·have e9:((k:Int)+1==1350)=false:=by simp;omega
     have c1:=HD.out.cells (k+1) oQ;have hb2:=HD.out.lt;have HLn:=waV hn;have HE:Hid (zcO p s (k+1)=zaw p (k+1)):=by
      show _=_;exact zhn oQ
     clear hn hl hj HF HN HL HM HD;go_wp2_with fail;refine(HA.out _ HTz.out).mono ?_;rintro e w1 ⟨rfl,rfl⟩;go_wp2;go_roundw
     case rel=>exact⟨⟨k+1,by go_num,by omega,by rw[HE.out],by omega,HLn⟩,trivial⟩
     case measure=>simp [intOf];omega
   |cons j r=>
    have hf:=HF.out j r hl;have hj64:=hj j r hl;rw[hl] at HA;simp only[zjh,List.isEmpty_cons,Bool.not_false] at HA;have HF2:=waV hf;clear hf hl hj HF HN HL HM HD;go_wp2_with fail;refine(HA.out _ HTz.out).mono ?_;rintro e w1 ⟨rfl,rfl⟩;go_wp2
    go_ret2
    exact⟨rfl,.inl ⟨64 * k+j,ztI (by push_cast;omega),HF2.out⟩⟩
 ·rw[waO (p:=0≤(s:Int)∧(s:Int)<86400) (by omega)] at HM
  have HNo:Hid (zdc p s):=fun y h1 h2=>by omega
  have hb:=hd.lt;clear hd hw;go_enter func71,ntmps71;go_wp2_with fail;refine(HM.out _).mono ?_;rintro e w1 ⟨rfl,rfl⟩;go_wp2
  go_ret2
  exact⟨rfl,.inr ⟨rfl,HNo.out⟩⟩
theorem zkD {v:Value} {p:Nat→Bool} (i:Nat) (hi:i<1350) (w:World) (h:zeQ w v p):Calls prog 151 #[v,.int .i64 i] w (zbO (.int .u64 (zaw p i:Nat)) w):=by
 rcases h with ⟨rfl,hn⟩|⟨b,rfl,hd⟩
 ·have e:zaw p i=0:=by
   rw[←zio i];unfold zaw;exact zbr fun j hj=>hn _ oQ
  rw[e];exact zp6 _ w
 ·exact zp7 b i p hi w hd
def zlJ (f:Nat→Nat→Nat) (h:Bool→Bool→Bool):Prop:=∀x y,x<18446744073709551616→y<18446744073709551616→f x y<18446744073709551616∧∀j,(f x y).testBit j=h (x.testBit j) (y.testBit j)
theorem zkE {f:Nat→Nat→Nat} {h:Bool→Bool→Bool} (hf:zlJ f h) (p q:Nat→Bool) (i:Nat):f (zaw p i) (zaw q i)=zaw (fun x=>h (p x) (q x)) i:=by
 obtain⟨h1,h2⟩:=hf _ _ (zbz p i) (zbz q i);apply Nat.eq_of_testBit_eq;intro j
 by_cases hj:j<64
 ·rw[h2,zcb p i j hj,zcb q i j hj,zcb (fun x=>h (p x) (q x)) i j hj]
 ·have h64:18446744073709551616≤2^j:=Nat.pow_le_pow_right (n:=2) dQ (show 64≤j by omega)
  rw[waX (waD h1 h64),waX (waD (zbz _ i) h64)]
theorem zlK:zlJ (fun x y=>x^^^y) (fun a b=>a^^b):=fun x y hx hy=>⟨Nat.xor_lt_two_pow (n:=64) hx hy,fun j=>Nat.testBit_xor _ _ _⟩
theorem zst (va vb:Value) (p q:Nat→Bool) (g:Nat) (f:Nat→Nat→Nat) (h:Bool→Bool→Bool) (hf:zlJ f h) (w:World) (hw:Tz w) (ha:zeQ w va p) (hb:zeQ w vb q)
 (eg:∀args w,(callFunc g args).run prog w=.ok (.enter g args) w) (hg:∀x y:Nat,x<18446744073709551616→y<18446744073709551616→Calls prog g #[.int .u64 x,.int .u64 y] w (zbO (.int .u64 (f x y:Nat)) w)):
 Calls prog 91 #[va,vb,.func (.func g) #[] #[]] w (zjl (fun x=>h (p x) (q x)) 0 w):=by
 have HA:=waV (fun i hi=>zkD i hi w ha)
 have HB:=waV (fun i hi=>zkD i hi w hb)
 have HG:=waV (fun i=>hg (zaw p i) (zaw q i) (zbz p i) (zbz q i))
 have HE:=waV eg;have HW:=waV hw;have HBW:=waV hf;clear ha hb hg eg hw;go_enter func91,ntmps91;go_wp2
 go_loopw [11] (fun i wr=>(∃k:Nat,i=.int .i64 k∧k≤1350∧Hid (∀y,0≤y→y<64 * k→h (p y) (q y)=false))∧wr=w) (fun i _=>1350 - (intOf i).toNat)
 case atStart=>exact⟨⟨0,rfl,by omega,fun y _ h2=>by omega⟩,rfl⟩
 case round=>
  obtain⟨⟨k,rfl,hk,HL⟩,rfl⟩:=hrel
  by_cases hlt:k<1350
  ·have hlt':(k:Int)<1350:=by omega
   have H1:=waV (HA.out k hlt);have H2:=waV (HB.out k hlt);have H3:=waV (HG.out k);have hwd:f (zaw p k) (zaw q k)=zcO (fun x=>h (p x) (q x)) 0 k:=by rw[zkE HBW.out,zhn (waK _)]
   rw[hwd] at H3;have H4:=waV (zfy (zcO (fun x=>h (p x) (q x)) 0 k) (zmP _ 0 k) wr HW.out)
   unfold zeW zh1 at H4;have HF:=waV (fun j r (e:zar (zcO (fun x=>h (p x) (q x)) 0 k)=j::r)=>zir hlt e HL.out)
   have HN:=waV (fun(e:zar (zcO (fun x=>h (p x) (q x)) 0 k)=[])=>zkB e HL.out)
   generalize zcO (fun x=>h (p x) (q x)) 0 k=M at *
   generalize zaw p k=W1 at *;generalize zaw q k=W2 at *;cases hl:zar M with
   |nil=>
    have HLn:=waV (HN.out hl);rw[hl] at H4;simp only[zjh,List.isEmpty_nil,Bool.not_true] at H4;clear hl HF HN HL hwd;have eg:=HE.out;go_wp2_with fail;refine H1.out.mono ?_;rintro e w1 ⟨rfl,rfl⟩;go_wp2_with fail;refine H2.out.mono ?_;rintro e w1 ⟨rfl,rfl⟩
    go_wp2_with (go_at_fn g;refine H3.out.mono ?_;rintro e w1 ⟨rfl,rfl⟩)
    refine H4.out.mono ?_;rintro e w1 ⟨rfl,rfl⟩;go_wp2;go_roundw
    case rel=>exact⟨⟨k+1,by go_num,by omega,HLn⟩,trivial⟩
    case measure=>simp [intOf];omega
   |cons j r=>
    have HX:=waV (HF.out j r hl);rw[hl] at H4;simp only[zjh,List.isEmpty_cons,Bool.not_false] at H4;have hj64:j<64:=(zaW.1 (show j∈zar M by rw[hl];simp)).1
    clear hl HF HN HL hwd;have eg:=HE.out;go_wp2_with fail;refine H1.out.mono ?_;rintro e w1 ⟨rfl,rfl⟩;go_wp2_with fail;refine H2.out.mono ?_;rintro e w1 ⟨rfl,rfl⟩
    go_wp2_with (go_at_fn g;refine H3.out.mono ?_;rintro e w1 ⟨rfl,rfl⟩)
    refine H4.out.mono ?_;rintro e w1 ⟨rfl,rfl⟩;go_wp2
    go_ret2
    exact⟨rfl,.inl ⟨64 * k+j,ztI (by push_cast;omega),HX.out⟩⟩
  ·obtain rfl:k=1350:=by omega
   have HX:Hid (zdc (fun x=>h (p x) (q x)) 0):=fun y h1 h2=>HL.out y h1 oQ
   clear HL;go_wp2
   go_ret2
   exact⟨rfl,.inr ⟨rfl,HX.out⟩⟩
theorem zlL (x y:Nat) (hx:x<18446744073709551616) (hy:y<18446744073709551616) (w:World):Calls prog 92 #[.int .u64 x,.int .u64 y] w (zbO (.int .u64 (x^^^y:Nat)) w):=by
 have HE:=waV (bits_xor_u64_nat x y hx hy);go_enter func92,ntmps92;go_wp2;go_ret;exact⟨zaR HE.out,rfl⟩
theorem zf5 (va vb:Value) (p q:Nat→Bool) (w:World) (hw:Tz w) (ha:zeQ w va p) (hb:zeQ w vb q):Calls prog 47 #[va,vb] w (zjl (fun x=>p x^^q x) 0 w):=by
 have H:=waV (zst va vb p q 92 (fun x y=>x^^^y) (fun a b=>a^^b) zlK w hw ha hb (enters_of func92 kQ rfl) (fun x y hx hy=>zlL x y hx hy w))
 clear ha hb hw;go_enter func47,ntmps47;go_wp2_with fail;refine H.out.mono ?_;rintro e w1 ⟨rfl,⟨x,rfl,hx⟩|⟨rfl,hx⟩⟩
 ·have HX:=waV hx;clear hx;go_wp2
  go_ret2
  exact⟨rfl,.inl ⟨x,rfl,HX.out⟩⟩
 ·have HX:=waV hx;clear hx;go_wp2
  go_ret2
  exact⟨rfl,.inr ⟨rfl,HX.out⟩⟩
theorem zsu:(prog.info? 33).map (fun i=>(i.zero,i.size,i.bytes))=some (some (.int .u64 0),1,8):=by kernel_rfl
theorem zhp (cs:Array Value) (i:Nat) (hi:i<1350) (v:Value) (hv:cs[i]?=some v) (W:World):(Instr.index 198 (.agg cs) (.int .i64 i)).run prog W=.ok v W:=by
 obtain⟨i0,hi0,hz0,hz1,hz2⟩:=info_parts zsu;unfold Instr.index;simp[Sem.run_bind,run_underlying underlying198,asIntOf,Result.andThen,sizeOf,typeInfo,hi0,hz1,hi,part,run_underlying underlying33,isAgg,hv]
theorem zsv {w:World} {b k:Nat} {p p':Nat→Bool} (hd:DiscAt w b p) (hk:k<1350) (h:∀i,i<1350→i≠k→zaw p' i=zaw p i):DiscAt (w.setCell ⟨b,k,none⟩ (.int .u64 (zaw p' k:Nat))) b p':=by
 refine⟨fun j hj=>?_,?_⟩
 ·by_cases e:j=k
  ·subst e;exact World.cell?_setCell_same' _ _ _ (by rw[hd.cells _ hj];rfl)
  ·rw[waU _ _ _ _ (by simp[e])]
   rw[hd.cells j hj,h j hj e]
 ·obtain⟨cs,hc⟩:=hd.obj;refine⟨cs.setIfInBounds k (.int .u64 (zaw p' k:Nat)),?_⟩;show(w.heap.modify b _)[b]?=_;obtain⟨hlt,hk⟩:=waL.1 hc;rw[wbI (by rw[Array.size_modify];exact hlt),Array.getElem_modify_self,hk]
  simp
def zc1 (q:Nat→Bool):Array Value:=(Array.range 1350).map fun i=>.int .u64 (zaw q i:Nat)
theorem zcw (q:Nat→Bool):(zc1 q).size=1350:=by simp[zc1]
theorem zfC (q:Nat→Bool) (i:Nat) (h:i<1350):(zc1 q)[i]?=some (.int .u64 (zaw q i:Nat)):=by simp[zc1,h]
theorem zhq {w:World} {b:Nat} {q:Nat→Bool} (h:DiscAt w b q):∀j v,(zc1 q)[j]?=some v→w.cell? ⟨b,0+j,none⟩=some v:=fun j v hv=>by
 have hj:j<1350:=by
  have:=(waL.1 hv).1
  rwa [zcw] at this
 rw[zfC q j hj] at hv;rw[waH,h.cells j hj];exact hv
def zf6 (p q:Nat→Bool) (k:Nat) (x:Nat):Bool:=p x||(q x&&decide (x<64 * k))
theorem zqd (p q:Nat→Bool) (k:Nat):bits .or .u64 (zaw (zf6 p q k) k:Nat) (zaw q k:Nat)=(zaw (zf6 p q (k+1)) k:Nat):=by
 have h1:=bits_or_u64_nat (zaw (zf6 p q k) k) (zaw q k) (zbz _ _) (zbz _ _);rw[h1];congr 1;unfold zaw;rw[zmf];refine zbr fun j hj=>?_
 unfold zf6;rw[waO (p:=64 * k+j<64 * k) (by omega),waP (p:=64 * k+j<64 * (k+1)) (by omega)]
 simp
theorem zn7 (p q:Nat→Bool) (k i:Nat) (h:i≠k):zaw (zf6 p q (k+1)) i=zaw (zf6 p q k) i:=by
 unfold zaw;refine zbr fun j hj=>?_
 unfold zf6;congr 2;rw[wbH];omega
theorem zqe (b b2 B o c:Nat) (p q:Nat→Bool) (w:World) (hd:DiscAt w b p) (hq:DiscAt w b2 q) (hne:b2≠b) (hc:w.cell? ⟨B,o,none⟩=some (.pointer (some ⟨b2,0,none⟩))):
 Calls prog 191 #[.pointer (some ⟨b,0,none⟩),.slice (some ⟨B,o,none⟩) 1 c] w (fun e w'=>e=.returned (.tuple #[])∧DiscAt w' b (fun x=>p x||q x)∧Rl b (b+1) w.heap.size w w'):=by
 have HL:=waV (zhq hq);have HS:Hid ((prog.info? 198).map (·.size)=some (zc1 q).size):=by show _=_;rw[zcw];kernel_rfl
 have HX:=waV (fun i (h:i<1350) W=>zhp (zc1 q) i h _ (zfC q i h) W)
 have HD0:Hid (DiscAt w b (zf6 p q 0)):=hd.congr fun x _=>by unfold zf6;rw[waO (by omega)];simp
 have HDn:Hid (∀W,DiscAt W b (zf6 p q 1350)→DiscAt W b (fun x=>p x||q x)):=fun W h=>h.congr fun x hx=>by unfold zf6;rw[waP (by omega)];simp
 have HBl:=waR w _ hc;have hb2:=hq.lt;have hbl:=hd.lt;have h1c:(Value.agg (zc1 q)).oneCell'=false:=rfl;clear hd hq;generalize zc1 q=ws at *;go_enter func191,ntmps191;go_wp2
 go_loopw [12] (fun i wr=>(i=.int .i64 0∧wr=w)∨(i=.int .i64 1∧Hid (DiscAt wr b (fun x=>p x||q x))∧Rl b (b+1) w.heap.size w wr)) (fun i _=>1 - (intOf i).toNat)
 case atStart=>exact .inl ⟨rfl,rfl⟩
 case round=>
  rcases hrel with ⟨rfl,rfl⟩|⟨rfl,hD,hR⟩
  ·go_wp2_with (refine zai (by rfl) 198 _ rfl ws b2 0 rfl underlying198 rfl HS.out HL.out ?_)
   go_loopw [22] (fun i V=>∃k:Nat,i=.int .i64 k∧k≤1350∧Hid (DiscAt V b (zf6 p q k))∧Rl b (b+1) wr.heap.size wr V) (fun i _=>1350 - (intOf i).toNat)
   case atStart=>exact⟨0,rfl,by omega,HD0,Rl.refl _ _ _ _⟩
   case round=>
    obtain⟨k,rfl,hk,HV,hR⟩:=hrel
    by_cases hlt:k<1350
    ·have hlt':(k:Int)<1350:=by omega
     have hk0:(0:Int)≤(k:Int):=by omega
     have hx:=HX.out k hlt;have hN:=zsv HV.out hlt (fun i _ hi=>zn7 p q k i hi)
     rw[←zqd] at hN;have HN:=waV hN;have c0:=HV.out.cells k hlt;have f0:=HV.out.frozen k;have hbV:=HV.out.lt;have wi:IntKind.i64.wrap (k:Int)=(k:Int):=zb7 oQ oQ;generalize zaw (zf6 p q k) k=W0 at *;generalize zaw q k=W1 at *;clear hN HV HX HL HS HD0 HDn;go_wp2;have c0':wr.drew.cell? ⟨b,k,none⟩=some (.int .u64 W0):=c0;have f0':wr.drew.frozen? ⟨b,k,none⟩=false:=f0
     go_still_tail 11,kQ
     change wpList _ _ _ _ _ wr.drew
     go_wp2;go_roundw
     case rel=>exact⟨k+1,by go_num,by omega,⟨HN.out.cells,HN.out.obj⟩,hR.drew.set ⟨b,k,none⟩ _ (waJ _) (Nat.lt_succ_self _)⟩
     case measure=>simp [intOf];omega
    ·obtain rfl:k=1350:=by omega
     have hf:=HDn.out _ HV.out;have HF:=waV hf;clear hf HV HDn HX;go_wp2;go_roundw
     case rel=>exact .inr ⟨rfl,HF.out,hR⟩
     case measure=>simp [intOf]
  ·go_wp2
   go_end0
   exact⟨rfl,hD.out,hR⟩
end Go.Proofs.YtgedndlifiihkaaGreatDoor
namespace Go.Proofs.YtgedndlifiihkaaGreatDoor
open Go.Proofs.Tryz
open Go.RowKit Go.Shelf
attribute [local go_sem] Oper.semAt_some
def zhr (p:Nat→Bool) (w:World) (e:Ending) (w':World):Prop:=∃b,e=.returned (.pointer (some ⟨b,0,none⟩))∧w.heap.size≤b∧DiscAt w' b p∧Below w.heap.size w w'
theorem zaZ {n lo hi B:Nat} {w X Y:World} (h:Below n w X) (hr:Rl lo hi B X Y) (h1:n≤lo∨hi=0) (hB:n≤B) (hn:n≤w.heap.size):Below n w Y:=
 ⟨hr.os.trans h.os,hr.tape.trans h.tape,hr.output.trans h.output,waW h.size hr.size,fun k hk=>by
  have hkw:k<X.heap.size:=by have:=h.size;omega
  rw[←h.block k hk];rw[hr.block k _ (wbI hkw) (by omega) (.inl (by omega)),wbI hkw]⟩
theorem DiscAt.rl {X Y:World} {b:Nat} {p:Nat→Bool} {lo hi B:Nat} (h:DiscAt X b p) (hr:Rl lo hi B X Y) (hb:b<lo∨hi≤b):DiscAt Y b p:=by
 obtain⟨cs,hc⟩:=h.obj;exact h.same ((hr.block b _ hc hb (.inr rfl)).trans hc.symm)
theorem zdd {lo hi B B0:Nat} {X Y:World} (h:Rl lo hi B X Y) (h1:hi≤B0) (h2:X.heap.size≤B):KeepsFrom B0 X Y:=
 ⟨h.size,fun i o h3 h4 h5=>h.block i o h4 (.inr oQ) (.inl (by have:=(waL.1 h4).1;omega))⟩
def ztJ (f:Int) (pre:List Nat) (k:Nat):Bool:=decide (k∈pre∧f≤(k:Int))
theorem zkF (f:Int) (pre:List Nat) (x k:Nat):ztJ f (pre++[x]) k=(ztJ f pre k||decide (k=x∧f≤(x:Int))):=by
 unfold ztJ;rw[waQ];simp only[wbF,waM,wbB,wbC];constructor
 ·rintro ⟨h|rfl,h2⟩
  ·exact .inl ⟨h,h2⟩
  ·exact .inr ⟨rfl,h2⟩
 ·rintro (⟨h,h2⟩|⟨rfl,h2⟩)
  ·exact⟨.inl h,h2⟩
  ·exact⟨.inr rfl,h2⟩
def zhs (c:Cl) (x:LSt) (k:Nat):Bool:=decide (x.fr≤(k:Int)∧(k:Int)≤x.un)&&zcM (k:Int) (c.m 2) (c.m 1) (c.m 0)
theorem zqf (c:Cl) (hc:zbD c) (x:LSt) (w:World) (hw:Tz w):Calls prog 252 #[.agg (clA c),zd3 x] w (zhr (zhs c x) w):=by
 have eg:∀args w,(callFunc 276 args).run prog w=.ok (.enter 276 args) w:=enters_of func276 kQ rfl;obtain⟨h,hh⟩:∃h:Nat,c.m 2=(h:Int):=⟨(c.m 2).toNat,by have:=(hc.1 2 dQ).1;omega⟩
 obtain⟨m,hm⟩:∃h:Nat,c.m 1=(h:Int):=⟨(c.m 1).toNat,by have:=(hc.1 1 dQ).1;omega⟩
 obtain⟨s,hs⟩:∃h:Nat,c.m 0=(h:Int):=⟨(c.m 0).toNat,by have:=(hc.1 0 dQ).1;omega⟩
 have h1:h<18446744073709551616:=by have:=(hc.1 2 dQ).2;omega
 have m1:m<18446744073709551616:=by have:=(hc.1 1 dQ).2;omega
 have s1:s<18446744073709551616:=by have:=(hc.1 0 dQ).2;omega
 have HA:=waV (fun k V=>wbP (n:=k).2 (zmO h m s h1 m1 s1 V))
 have HD:=waV (fun k V=>wbP (n:=k).2 (zji 0 V))
 have HX:=waV (zg3 w c 61);have g0:gC c 0=.int .u64 (s:Int):=by show Value.int .u64 (c.m 0)=_;rw[hs]
 have g1:gC c 1=.int .u64 (m:Int):=by show Value.int .u64 (c.m 1)=_;rw[hm]
 have g2:gC c 2=.int .u64 (h:Int):=by show Value.int .u64 (c.m 2)=_;rw[hh]
 have HR:Hid (∀k,zhs c x k=(decide (x.fr≤(k:Int)∧(k:Int)≤x.un)&&zcM (k:Int) h m s)):=fun k=>by unfold zhs;rw[hh,hm,hs]
 have h1c:(Value.agg (clA c)).oneCell'=false:=rfl;obtain⟨xa,xf,xu,xp⟩:=x;unfold zd3;dsimp only at HR ⊢;generalize zhs c ⟨xa,xf,xu,xp⟩=R at *;generalize gC c=gc at *;generalize clA c=cs at *;clear hh hm hs hc;have HW:=waV hw;clear hw;refine(wbP (n:=20)).1 ?_;refine callsIn_of_wp_marks func252 rfl trivial ?_ rfl;simp only[ntmps252,wbQ,waG,List.length_nil,Nat.reduceAdd,Nat.reduceSub,wbR,wbS,List.push_toArray,List.append_toArray,wbN,wbT]
 gi_wp2
 apply zdv
 gi_wp2_with (refine⟨trivial,?_⟩;gi_at_call 190;refine(HD.out _ _).mono ?_;rintro e w1 ⟨rfl,hd1,hq1⟩)
 have hX0:=Arr.below HX.out (Arr.lt HX.out dQ) ((waC _ _).alloc (waJ _) (.cells #[.bool xa,.int .i64 xf,.int .i64 xu,.int .i64 xp] 208));have hX1:=Arr.below hX0 (Arr.lt hX0 dQ) hq1;have hZ0:((w.alloc (.cells cs 61)).alloc (.cells #[.bool xa,.int .i64 xf,.int .i64 xu,.int .i64 xp] 208)).heap.size=w.heap.size+1+1:=by simp
 have hx:∀j v,(#[.bool xa,.int .i64 xf,.int .i64 xu,.int .i64 xp]:Array Value)[j]?=some v→w1.cell? ⟨w.heap.size+1,j,none⟩=some v:=fun j v hv=>by
  refine((zad hq1).1 (w.heap.size+1) j oQ).trans ?_;have hs:(w.alloc (.cells cs 61)).heap.size=w.heap.size+1:=by simp
  rw[←hs];exact zaa rfl hv
 have cf1:=hx 1 _ rfl;have cu1:=hx 2 _ rfl;have c0:w1.cell? ⟨w.heap.size,0,none⟩=some (.int .u64 (s:Int)):=(hX1.1 0 (by decide)).trans (by rw[g0])
 have c1:w1.cell? ⟨w.heap.size,1,none⟩=some (.int .u64 (m:Int)):=(hX1.1 1 (by decide)).trans (by rw[g1])
 have c2:w1.cell? ⟨w.heap.size,2,none⟩=some (.int .u64 (h:Int)):=(hX1.1 2 (by decide)).trans (by rw[g2])
 have hb1:Below w.heap.size w w1:=((((waC _ w).alloc (waJ _) _).alloc (by simp) _).trans (hq1.mono oQ))
 have hz1:w.heap.size+2<w1.heap.size:=by have:=hd1.lt;omega
 have hT1:=HW.out.below hb1;rw[hZ0] at hd1;clear hX0 hX1 hq1 hx hZ0 HX HD g0 g1 g2;apply wpIn_label;simp only[Exit.then]
 have e0:w.heap.size<w1.heap.size:=by omega
 have e1:w.heap.size+1<w1.heap.size:=by omega
 gi_wp2_with (refine⟨trivial,?_⟩;gi_at_call 267;refine(HA.out _ _).mono ?_;rintro e w3 ⟨b1,b2,b3,rfl,n1,n2,n3,k1,k2,k3,hq3⟩)
 have hqA:Below w1.heap.size w1 w3:=((waC _ w1).alloc (waJ _) _).trans (hq3.mono (by simp))
 have hz3:w1.heap.size+1≤w3.heap.size:=by have:=hq3.size;simp at this;omega
 have cD:w3.cell? ⟨w1.heap.size,0,none⟩=some (.pointer (some ⟨w.heap.size+1+1,0,none⟩)):=((zad hq3).1 _ _ (by simp)).trans (zaa rfl rfl)
 have hD3:=hd1.below (hqA.mono (waJ _));have cf3:=((zad hqA).1 _ 1 e1).trans cf1;have cu3:=((zad hqA).1 _ 2 e1).trans cu1;have hT3:=hT1.below hqA;have hb3:Below w.heap.size w w3:=zak hb1 hqA hb1.size;have m1':w1.heap.size+1≤b1:=by simpa using n1
 have m2':w1.heap.size+1≤b2:=by simpa using n2
 have m3':w1.heap.size+1≤b3:=by simpa using n3
 have hAl:h&&&16777215<16777216:=Nat.lt_of_le_of_lt Nat.and_le_right dQ;have hBl:m&&&1152921504606846975<1152921504606846976:=Nat.lt_of_le_of_lt Nat.and_le_right dQ;have hCl:s&&&1152921504606846975<1152921504606846976:=Nat.lt_of_le_of_lt Nat.and_le_right dQ;have HL:Hid (∀k,k∈zhQ (h&&&16777215) (m&&&1152921504606846975) (s&&&1152921504606846975)↔k<86400∧zcM (k:Int) h m s=true):=fun k=>zgH
 have HSo:Hid ((zhQ (h&&&16777215) (m&&&1152921504606846975) (s&&&1152921504606846975)).Pairwise (·< ·)):=zlH hAl hBl hCl;have hseq:=zgG (fun k=>k=w.heap.size+1+1) 19 b1 b2 b3 (h&&&16777215) (m&&&1152921504606846975) (s&&&1152921504606846975) hAl hBl hCl oQ oQ oQ (by show ¬(0=w.heap.size+1+1);have h9:0<w.heap.size:=waR w _ (HW.out 0 dQ);omega)
 generalize zhQ (h&&&16777215) (m&&&1152921504606846975) (s&&&1152921504606846975)=L at *;generalize (h&&&16777215)=hA at *;generalize (m&&&1152921504606846975)=hB at *;generalize (s&&&1152921504606846975)=hC at *;clear hq3 n1 n2 n3 hd1 cf1 cu1 c0 c1 c2 hT1 HA;have nM:∀k:Nat,k≠w.heap.size+1+1→¬(k=w.heap.size+1+1):=fun _ h=>h
 refine za0 rfl dQ (gf:=276) (lb:=#[.pointer (some ⟨b1,0,none⟩),.pointer (some ⟨b2,0,none⟩),.pointer (some ⟨b3,0,none⟩)]) rfl trivial eg hseq
  (fun h k=>h.trans k) (fun V l o o' _ hl ho _=>KpM.putObj o' hl ho) (fun o o'=>?st) (fun _=>rfl) (waK _)
  (fun pre V=>DiscAt V (w.heap.size+1+1) (ztJ xf pre)∧(∀k,k∈pre→xf≤(k:Int)→(k:Int)≤xu)∧KpM (fun k=>k=w.heap.size+1+1) w3 V∧Below w.heap.size w V)
  (fun c pre V=>c=.exit 0∧(∃(p0:List Nat) (y:Nat),pre=p0++[y]∧DiscAt V (w.heap.size+1+1) (ztJ xf p0)∧(∀k,k∈p0→xf≤(k:Int)→(k:Int)≤xu)∧xu<(y:Int))∧KpM (fun k=>k=w.heap.size+1+1) w3 V∧Below w.heap.size w V)
  (fun pre A B hs hr=>⟨hs.1.rl hr (.inr (waK _)),hs.2.1,hs.2.2.1.trans (KpM.of_rl hr (by intro k h1 h2;omega)),zaZ hs.2.2.2 hr (.inr rfl) oQ (waJ _)⟩)
  (fun c pre A B hs hr=>by obtain⟨h1,⟨p0,y,h2,h3,h4,h5⟩,h6,h7⟩:=hs;exact⟨h1,⟨p0,y,h2,h3.rl hr (.inr (waK _)),h4,h5⟩,h6.trans (KpM.of_rl hr (by intro k h1 h2;omega)),zaZ h7 hr (.inr rfl) oQ (waJ _)⟩)
  ⟨hD3.congr (fun k _=>by unfold ztJ;simp),by simp,KpM.refl _ _,hb3⟩
  (fun x a' _=>a'={tmps:=#[.agg cs,.agg #[.bool xa,.int .i64 xf,.int .i64 xu,.int .i64 xp],.pointer (some ⟨w.heap.size,0,none⟩),.pointer (some ⟨w.heap.size+1,0,none⟩),.pointer none,.pointer (some ⟨w1.heap.size,0,none⟩),.int .i64 (x:Int),.pointer (some ⟨w.heap.size+1+1,0,none⟩),.pointer (some ⟨w.heap.size,2,none⟩),.int .u64 (h:Int),.pointer (some ⟨w.heap.size,1,none⟩),.int .u64 (m:Int),.pointer (some ⟨w.heap.size,0,none⟩),.int .u64 (s:Int),.func (.func 276) #[] #[.pointer (some ⟨b1,0,none⟩),.pointer (some ⟨b2,0,none⟩),.pointer (some ⟨b3,0,none⟩)],.int .i64 (x:Int),undef,undef,undef,undef,undef,undef,undef,undef,undef,undef,undef,undef,undef,undef,undef],defers:=[]})
  (fun _ _ _ _ hs _=>hs) (fun _ _ _ hs _=>hs)
  ?assign ?body ?done ?stop
 case st=>
  have hb:Below w3.heap.size w3 ((w3.alloc o).alloc o'):=((waC _ w3).alloc (waJ _) _).alloc (by simp) _
  have bc:=zad hb;exact⟨fun k e=>by subst e;have:=hb.size;omega,(bc.1 _ _ (waR w3 _ k1)).trans k1,(bc.1 _ _ (waR w3 _ k2)).trans k2,(bc.1 _ _ (waR w3 _ k3)).trans k3,hT3.below hb⟩
 case assign=>
  rintro l1 pre x V K hi he hK
  gi_wp2
  exact hK _ _ (KeepsFrom.refl _ _) (KpM.refl _ _) (Rl.refl _ _ _ _) hi rfl
 case body=>
  rintro l1 pre x a' V hl1 _ ⟨hd,hp,hk,hb⟩ hx86 rfl hlt;have cDV:=hk.cell cD oQ;have cfV:=hk.cell cf3 oQ;have cuV:=hk.cell cu3 oQ;have hsV:=hk.size;have hDl:=hd.lt;have hWV:w.heap.size+1<V.heap.size:=by omega
  by_cases h1':(x:Int)<xf
  ·gi_wp2
   refine⟨KeepsFrom.refl _ _,KpM.refl _ _,hd.congr (fun k _=>?_),fun k hk2=>?_,hk,hb⟩
   ·rw[zkF,waO (p:=k=x∧xf≤(x:Int)) (by omega),Bool.or_false]
   ·rcases wbB.1 hk2 with h|h
    ·exact hp k h
    ·rw[wbC.1 h];omega
  ·by_cases h2':xu<(x:Int)
   ·gi_wp2
    exact⟨KeepsFrom.refl _ _,rfl,⟨pre,x,rfl,hd,hp,h2'⟩,hk,hb⟩
   ·gi_wp2_with (refine⟨trivial,?_⟩;gi_at_call 226;refine(zam (l':=l1) (zgF _ x V.heap.size 0 1 _ hx86 _ (hd.below ((waC _ V).alloc (waJ _) _)) (zaa rfl rfl) oQ)).mono ?_;rintro e w4 ⟨⟨k,rfl⟩,hd4,hr4⟩)
    have hr5:Rl (w.heap.size+1+1) (w.heap.size+1+1+1) V.heap.size V w4:=((Rl.refl _ _ _ V).alloc _).trans (hr4.mono (by simp))
    refine⟨zdd hr5 oQ (waJ _),KpM.of_rl hr5 (by intro k h3 h4;omega),hd4.congr (fun k _=>?_),fun k hk2=>?_,hk.trans (KpM.of_rl hr5 (by intro k h3 h4;omega)),zaZ hb hr5 (.inl oQ) oQ (waJ _)⟩
    ·rw[zkF];unfold zkv;congr 1;rw[wbH];exact⟨fun h=>⟨h,by omega⟩,fun h=>h.1⟩
    ·rcases wbB.1 hk2 with h|h
     ·exact hp k h
     ·rw[wbC.1 h];omega
 case done=>
  rintro D zs V hD rfl ⟨hd,hp,hk,hb⟩ hKd;have cDV:=hk.cell cD oQ
  gi_wp2
  refine⟨by simp,.inl ⟨_,_,rfl,run_takeDeferred hKd,?_⟩⟩
  have hr:Rl 0 0 w.heap.size V (V.putObj D (.deferred none)):=(Rl.refl _ _ _ V).put _ hKd rfl oQ;refine⟨_,results_tmp rfl _ _ _,w.heap.size+1+1,rfl,by omega,(hd.rl hr (.inr (waK _))).congr (fun k hk86=>?_),zaZ hb hr (.inr rfl) (waJ _) (waJ _)⟩
  rw[HR.out];unfold ztJ;rw[waQ,waN,waM,waM];constructor
  ·rintro ⟨h1,h2⟩;exact⟨⟨h2,hp k h1 h2⟩,((HL.out k).1 h1).2⟩
  ·rintro ⟨⟨h1,h2⟩,h3⟩;exact⟨(HL.out k).2 ⟨hk86,h3⟩,h1⟩
 case stop=>
  rintro D c pre V hD hpre ⟨rfl,⟨p0,y,rfl,hd,hp,hy⟩,hk,hb⟩ hKd;have cDV:=hk.cell cD oQ
  gi_wp2
  refine⟨by simp,.inl ⟨_,_,rfl,run_takeDeferred hKd,?_⟩⟩
  have hr:Rl 0 0 w.heap.size V (V.putObj D (.deferred none)):=(Rl.refl _ _ _ V).put _ hKd rfl oQ;refine⟨_,results_tmp rfl _ _ _,w.heap.size+1+1,rfl,by omega,(hd.rl hr (.inr (waK _))).congr (fun k hk86=>?_),zaZ hb hr (.inr rfl) (waJ _) (waJ _)⟩
  rw[HR.out];unfold ztJ;rw[waQ,waN,waM,waM];constructor
  ·rintro ⟨h1,h2⟩;have hm:k∈L:=hpre.subset (wbB.2 (.inl h1));exact⟨⟨h2,hp k h1 h2⟩,((HL.out k).1 hm).2⟩
  ·rintro ⟨⟨h1,h2⟩,h3⟩;have hm:k∈L:=(HL.out k).2 ⟨hk86,h3⟩;refine⟨?_,h1⟩
   false_or_by_contra
   rename_i hn
   by_cases e:k=y
   ·subst e;omega
   ·have:=zkA HSo.out hpre hm (by simp[hn,e]);omega
end Go.Proofs.YtgedndlifiihkaaGreatDoor
namespace Go.Proofs.YtgedndlifiihkaaGreatDoor
open Go.Proofs.Tryz
section
variable {P : Program} {ops : Array Oper} {Q : Exit → Act → World → Prop} {md : Region.Mode} {C : World → Prop}
theorem zis:∀(m:Nat) (L:Array Bool) (a:Act) (w:World),wpAny P md ops Q m L a w→wpAny P md ops Q (m+1) L a w
 |0,L,a,w,h=>⟨fun _=>h.2,fun i hi=>by rw[h.1] at hi;cases hi⟩
 |m+1,L,a,w,h=>⟨h.1,fun i hi=>wpOp_mono (fun a' w' h'=>zis m _ a' w' h') (h.2 i hi)⟩
theorem zmQ {m:Nat} {L:Array Bool} {a:Act} {w:World} (h:wpAny P md ops Q m L a w):∀j,wpAny P md ops Q (m+j) L a w
 |0=>h
 |j+1=>zis _ _ _ _ (zmQ h j)
def zkG (md:Region.Mode) (ops:Array Oper):Nat→List Nat→List Nat
 |0,S=>S
 |n+1,S=>zkG md ops n (if S.contains n then((ops[n]?).map fun o=>(o.after.toList.filter (Region.binds md)).map (·.on)).getD []++S else S)
theorem zeo {L:Array Bool} (hd:∀i o,ops[i]?=some o→L.getD i false=true→∀e∈o.after,Region.binds md e=true→L.getD e.on false=true):
 ∀(n:Nat) (S:List Nat),(∀x∈S,L.getD x false=true)→∀x∈zkG md ops n S,L.getD x false=true
 |0,S,h,x,hx=>h x hx
 |n+1,S,h,x,hx=>by
  refine zeo hd n _ ?_ x hx;intro y hy;split at hy
  ·rename_i hc;rcases wbB.1 hy with hy|hy
   ·cases ho:ops[n]? with
    |none=>rw [ho] at hy;cases hy
    |some o=>
     rw[ho] at hy;obtain⟨e,he,rfl⟩:=List.mem_map.1 (show y∈(o.after.toList.filter (Region.binds md)).map (·.on) from hy)
     obtain⟨h1,h2⟩:=List.mem_filter.1 he;exact hd n o ho (h n (by simpa using hc)) e (by simpa using h1) h2
   ·exact h y hy
  ·exact h y hy
def covB (md:Region.Mode) (ops:Array Oper) (k:Nat):Bool:=
 (List.range ops.size).all fun i=>decide (i<k)||((List.range k).all fun j=>(zkG md ops k (((ops[i]?).map fun o=>(o.after.toList.filter (Region.binds md)).map (·.on)).getD [])).contains j)||((ops[i]?).map fun o=>o.after.any fun e=>Region.binds md e&&decide (k≤e.on)).getD false
theorem zsw {A B:Array Bool} (hs:A.size=B.size) (h:∀i,i<A.size→A.getD i false=B.getD i false):A=B:=by
 refine Array.ext hs fun i h1 h2=>?_
 have:=h i h1;rw[wbL,wbL,wbI h1,wbI h2] at this;exact this
def zjm (ops:Array Oper):Bool:=ops.all fun o=>o.guard.isNone
theorem zlM {o:Oper} {x:Nat→Option Bool} (h:o.guard=none):Region.wanted o x=true:=by unfold Region.wanted;rw[h]
theorem zep {K K':Act→Prop} (h:∀a,K a→K' a):∀(l:List Oper) (a:Act),wpQuiet P ops C K l a→wpQuiet P ops C K' l a
 |[],a,hh=>h a hh
 |o::rest,a,hh=>by
  unfold wpQuiet at hh ⊢;split
  ·rename_i hw;rw[if_pos hw] at hh;exact Oper.quiet_mono (fun a' h'=>zep h rest a' h') hh
  ·rename_i hw;rw[if_neg hw] at hh;exact zep h rest _ hh
def DcL (md:Region.Mode) (ops:Array Oper) (L:Array Bool):Prop:=∀i o,ops[i]?=some o→L.getD i false=true→∀e∈o.after,Region.binds md e=true→L.getD e.on false=true
def zjL (L:Array Bool) (m:Nat):Array Bool:=L++Array.replicate m false
theorem zjn {L:Array Bool} {m i:Nat} {d:Bool} (h:i<L.size):(zjL L m).getD i d=L.getD i d:=by
 unfold zjL;rw[wbL,wbL,Array.getElem?_append_left h]
theorem zht {L:Array Bool} {m i:Nat} (h:L.size≤i):(zjL L m).getD i false=false:=by
 unfold zjL;rw[wbL,Array.getElem?_append_right h,Array.getElem?_replicate];split<;>rfl
theorem zsx {L:Array Bool} {m i:Nat} (h:i<L.size):(zjL L m).setIfInBounds i true=zjL (L.setIfInBounds i true) m:=by
 unfold zjL;rw[Array.setIfInBounds_append,if_pos h]
theorem zeF {L:Array Bool} {i:Nat} (h:i<L.size) (d d':Bool):L.getD i d=L.getD i d':=by
 rw[wbL,wbL,wbI h];rfl
theorem zhu {l:List Oper} {k m:Nat} (hkm:l.length=k+m) (hm:0<m) (hlow:zsk md l.toArray=true) (hlowk:zsk md (l.take k).toArray=true) (hg:zjm l.toArray=true) (hcov:covB md l.toArray k=true):
 ∀(fuel:Nat) (L:Array Bool) (a:Act) (w:World),L.size=k→DcL md l.toArray L→C w→wpAnyQ P md (l.take k).toArray C (fun a'=>∀w',C w'→wpAny P md l.toArray Q m (zjL (Array.replicate k true) m) a' w') fuel L a→wpAny P md l.toArray Q (fuel+m) (zjL L m) a w:=by
 have hkl:(l.take k).toArray.size=k:=by simp;omega
 have hget:∀i,i<k→(l.take k).toArray[i]?=l.toArray[i]? :=fun i hi=>by simp[hi]
 have hgn:∀i (o:Oper),l.toArray[i]?=some o→o.guard=none:=fun i o ho=>by
  have h1:=Array.all_eq_true_iff_forall_mem.1 hg o (Array.mem_of_getElem? ho);exact Option.isNone_iff_eq_none.1 h1
 have hall:∀L:Array Bool,L.size=k→(∀j,j<k→L.getD j false=true)→L=Array.replicate k true:=fun L hs h=>zsw (by simpa using hs) (fun i hi=>by
  rw[h i (by omega),wbL,Array.getElem?_replicate,if_pos (by omega)];rfl)
 have hdone:∀L:Array Bool,L.size=k→(∀j,j<k→L.getD j false=true)→Region.ready md (l.take k).toArray L=[]:=fun L hs h=>by
  rw[List.eq_nil_iff_forall_not_mem];intro i hi;obtain⟨h1,o,ho,_⟩:=mem_ready.1 hi;have hik:i<k:=by have:=(waL.1 ho).1;omega
  have h2:=h i hik;rw[zeF (by omega) false true,h1] at h2
  cases h2
 intro fuel;induction fuel with
 |zero=>
  intro L a w hs hd hw h;have hr:=zf4 hlowk h.1 (by rw[hs,hkl])
  have e:=hall L hs (fun j hj=>by rw[zeF (by omega) false true];exact hr j (by omega))
  rw[e,waH];exact h.2 w hw
 |succ fuel ih=>
  intro L a w hs hd hw h;rw[show fuel+1+m=(fuel+m)+1 by omega]
  have hsz:(zjL L m).size=l.toArray.size:=by unfold zjL;simp;omega
  refine⟨fun h0=>?_,fun i hi=>?_⟩
  ·have hr:=zf4 hlow h0 hsz k (by simp;omega)
   rw[zeF (by rw[hsz];simp;omega) true false,zht (by omega)] at hr
   cases hr
  ·obtain⟨h1,o,ho,h2⟩:=mem_ready.1 hi;have hil:i<k+m:=by have:=(waL.1 ho).1;simp at this;omega
   by_cases hik:i<k
   ·rw[zjn (by omega)] at h1
    have h3:∀e∈o.after,Region.binds md e=true→L.getD e.on false=true:=fun e he hb=>by
     have h4:=h2 e he hb
     by_cases hek:e.on<k
     ·rwa [zjn (by omega)] at h4
     ·rw[zht (by omega)] at h4;cases h4
    have hq:=h.2 i (mem_ready.2 ⟨h1,o,by rw[hget i hik];exact ho,h3⟩)
    have hd':DcL md l.toArray (L.setIfInBounds i true):=fun j oj hj hjl e he hb=>by
     by_cases hji:i=j
     ·subst hji;rw[ho] at hj;cases hj;exact getD_set_true (h3 e he hb)
     ·rw[getD_set_ne false hji] at hjl;exact getD_set_true (hd j oj hj hjl e he hb)
    rw[zsx (by omega)]
    have key:∀a' w',C w'→wpAnyQ P md (l.take k).toArray C (fun a'=>∀w',C w'→wpAny P md l.toArray Q m (zjL (Array.replicate k true) m) a' w') fuel (L.setIfInBounds i true) a'→wpAny P md l.toArray Q (fuel+m) (zjL (L.setIfInBounds i true) m) a' w':=fun a' w' hw' h'=>ih _ a' w' (by simpa using hs) hd' hw' h'
    unfold qOp at hq;rw[hget i hik] at hq;unfold wpOp;rw[ho] at hq ⊢;dsimp only at hq ⊢;rw[if_pos (zlM (hgn i o ho))] at hq ⊢;exact .inl (Oper.wp_of_quiet hw key hq)
   ·have hjl:∀j,j<k→L.getD j false=true:=by
     have hc:=List.all_eq_true.1 hcov i (wbG.2 (by simp;omega))
     rw[wbF,wbF] at hc;have ho2:∀e∈o.after,Region.binds md e=true→e.on<k∧L.getD e.on false=true:=fun e he hb=>by
      have h4:=h2 e he hb
      by_cases hek:e.on<k
      ·rw[zjn (by omega)] at h4;exact⟨hek,h4⟩
      ·rw[zht (by omega)] at h4;cases h4
     rcases hc with (hc|hc)|hc
     ·exact absurd (waA hc) hik
     ·intro j hj;have hc2:=List.all_eq_true.1 hc j (wbG.2 hj);refine zeo hd k _ ?_ j (List.contains_iff_mem.1 hc2);intro x hx;rw[ho] at hx;obtain⟨e,he,rfl⟩:=List.mem_map.1 (show x∈(o.after.toList.filter (Region.binds md)).map (·.on) from hx)
      obtain⟨h5,h6⟩:=List.mem_filter.1 he;exact(ho2 e (by simpa using h5) h6).2
     ·rw[ho] at hc;obtain⟨e,he,h5⟩:=Array.any_eq_true'.1 (show(o.after.any fun e=>Region.binds md e&&decide (k≤e.on))=true from hc)
      rw[waN] at h5;have:=(ho2 e he h5.1).1;have:=waA h5.2;omega
    have e:=hall L hs hjl;have hq:=h.1 (hdone L hs hjl) w hw;rw[←e] at hq;have h6:=zmQ hq (fuel+1);rw[show m+(fuel+1)=(fuel+m)+1 by omega] at h6
    exact h6.2 i hi
def zfD (md:Region.Mode) (ops:Array Oper) (n:Nat):Nat→Array Bool→Bool
 |0,L=>(Region.ready md ops L).isEmpty
 |j+1,L=>(Region.ready md ops L==[n - (j+1)])&&zfD md ops n j (L.setIfInBounds (n - (j+1)) true)
theorem zhv:∀(j:Nat) (L:Array Bool) (a:Act) (w:World),j≤ops.size→zfD md ops ops.size j L=true→wpList P ops Q (ops.toList.drop (ops.size - j)) a w→wpAny P md ops Q j L a w
 |0,L,a,w,_,hc,h=>by
  rw[List.drop_eq_nil_of_le (by simp)] at h
  exact⟨by simpa[zfD] using hc,h⟩
 |j+1,L,a,w,hj,hc,h=>by
  unfold zfD at hc;rw[waN] at hc;have hr:Region.ready md ops L=[ops.size - (j+1)]:=by simpa using hc.1
  have hlt:ops.size - (j+1)<ops.toList.length:=by simp;omega
  rw[List.drop_eq_getElem_cons hlt,show ops.size - (j+1)+1=ops.size - j by omega] at h
  refine⟨fun h0=>(by rw[hr] at h0;cases h0),fun i hi=>?_⟩
  rw[hr,wbC] at hi;subst hi;refine wpOp_mono (fun a' w' h'=>zhv j _ a' w' oQ hc.2 h') ?_
  unfold wpOp;rw[wbI (by omega)]
  dsimp only;have e:ops.toList[ops.size - (j+1)]=ops[ops.size - (j+1)]'oQ:=by simp
  rw[e] at h;unfold wpList at h;exact h
theorem zqg (k:Nat) {a:Act} {w:World} {l:List Oper} (hk:k<l.length) (hlow:zsk md l.toArray=true) (hlowk:zsk md (l.take k).toArray=true) (hg:zjm l.toArray=true) (hcov:covB md l.toArray k=true)
 (hlex:Region.lexB md (l.take k).toArray=true) (hch:zfD md l.toArray l.length (l.length - k) (zjL (Array.replicate k true) (l.length - k))=true) (hC:C w)
 (h:wpQuiet P (l.take k).toArray C (fun a'=>∀w',C w'→wpList P l.toArray Q (l.drop k) a' w') (l.take k) a):wpAny P md l.toArray Q l.length (Array.replicate l.length false) a w:=by
 simp only[Region.lexB,waN] at hlex;have hkl:(l.take k).length=k:=by simp;omega
 have h1:=wpAnyQ_lex (P:=P) (C:=C) (md:=md) hlex.1 (l.take k) 0 (Array.replicate (l.take k).toArray.size false) a (by simp) (by simpa using hlex.2) (Q:=fun a'=>∀w',C w'→wpAny P md l.toArray Q (l.length - k) (zjL (Array.replicate k true) (l.length - k)) a' w')
  (zep (fun a' h2 w' hw'=>zhv (ops:=l.toArray) (l.length - k) _ a' w' (by simp) (by simpa using hch) (by
    have:=h2 w' hw'
    rwa [show l.toArray.size - (l.length - k)=k by simp;omega])) _ _ h)
 rw[hkl] at h1;have h2:=zhu (P:=P) (C:=C) (md:=md) (Q:=Q) (l:=l) (k:=k) (m:=l.length - k) oQ oQ hlow hlowk hg hcov k (Array.replicate k false) a w (by simp) (fun i o _ hl=>by
  rw[wbL,Array.getElem?_replicate] at hl;split at hl<;>cases hl) hC (by simpa[Nat.min_eq_left (show k≤l.length by omega)] using h1)
 rw[show k+(l.length - k)=l.length by omega] at h2
 have e:zjL (Array.replicate k false) (l.length - k)=Array.replicate l.length false:=by
  unfold zjL;rw[Array.replicate_append_replicate,show k+(l.length - k)=l.length by omega]
 rw[e] at h2;exact h2
theorem zbg (k:Nat) {id:Nat} {a:Act} {w:World} {l:List Oper} (hm:P.follows .mixedOrders=true) (hk:k<l.length) (hlow:zsk .any l.toArray=true) (hlowk:zsk .any (l.take k).toArray=true) (hg:zjm l.toArray=true) (hcov:covB .any l.toArray k=true)
 (hlex:Region.lexB .any (l.take k).toArray=true) (hch:zfD .any l.toArray l.length (l.length - k) (zjL (Array.replicate k true) (l.length - k))=true)
 (h:wpQuiet P (l.take k).toArray (fun w'=>∃n,w'=w.drewN n) (fun a'=>∀w',(∃n,w'=w.drewN n)→wpList P l.toArray Q (l.drop k) a' w') (l.take k) a):(Code.region id l.toArray true).wp P Q a w:=by
 refine wp_region_any hm ?_;have:=zqg (C:=fun w'=>∃n,w'=w.drewN n) (w:={w with drawn:=w.drawn+1}) k hk hlow hlowk hg hcov hlex hch ⟨1,rfl⟩ h
 simpa using this
end
end Go.Proofs.YtgedndlifiihkaaGreatDoor
