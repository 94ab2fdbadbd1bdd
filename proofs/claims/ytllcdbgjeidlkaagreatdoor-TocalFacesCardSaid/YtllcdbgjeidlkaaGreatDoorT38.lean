/- A part of the proof: WWide2 -/
import Derived.Test.YtllcdbgjeidlkaaGreatDoorT29
import Derived.Test.YtllcdbgjeidlkaaGreatDoorT01
set_option maxHeartbeats 80000000
set_option maxRecDepth 100000
set_option linter.unusedSimpArgs false
set_option linter.unusedVariables false
namespace Go.Proofs.YtllcdbgjeidlkaaGreatDoor
open Go.Proofs.Tryz
open Go.RowKit
def zdp (l:List Int) (n:Nat):Bool:=decide (n<400/\(n:Int)∈l)
def zaH (l:List Int) (i:Nat):Int:=(mkN (fun k=>zdp l (64 * i+k)) 64:Nat)
abbrev zkU (l:List Int):Value:=.agg #[.int .u64 (zaH l 0),.int .u64 (zaH l 1),.int .u64 (zaH l 2),.int .u64 (zaH l 3),.int .u64 (zaH l 4),.int .u64 (zaH l 5),.int .u64 (zaH l 6)]
theorem zkV (i:Nat):zaH [] i=0:=by
 unfold zaH;have:(fun k=>zdp [] (64 * i+k))=fun _=>false:=by funext k;simp[zdp]
 rw[this,ze0];rfl
theorem zin {l:List Int} {x:Int} {i:Nat} (h:¬(0<=x/\x<400/\x / 64=(i:Int))):zaH (l++[x]) i=zaH l i:=by
 unfold zaH;rw[zbe (q:=fun k=>zdp l (64 * i+k))]
 intro k hk;rw[waQ];simp only[zdp,waM,wbB,wbC];constructor
 ·rintro ⟨h1,h2|h2⟩
  ·exact⟨h1,h2⟩
  ·exact absurd ⟨by omega,by omega,by omega⟩ h
 ·rintro ⟨h1,h2⟩;exact⟨h1,.inl h2⟩
theorem zrk {l:List Int} {x:Int} {i:Nat} (h0:0<=x) (h1:x<400) (hi:x / 64=(i:Int)):bits .or .u64 (zaH l i) (2^(x%64).toNat)=zaH (l++[x]) i:=by
 obtain⟨n,hn⟩:∃n:Nat,(n:Int)=x%64:=⟨(x%64).toNat,by omega⟩
 have hn64:n<64:=by omega
 have h2:(2:Int)^(x%64).toNat=((2^n:Nat):Int):=by rw[<-hn];simp
 have h3:2^n<2^64:=Nat.pow_lt_pow_right oQ hn64;obtain⟨P,hP⟩:∃P:Nat->Bool,P=fun k=>zdp l (64 * i+k):=⟨_,rfl⟩
 obtain⟨Q,hQ⟩:∃Q:Nat->Bool,Q=fun k=>zdp (l++[x]) (64 * i+k):=⟨_,rfl⟩
 have hPQ:∀k,k<64->(P k||decide (k=n))=Q k:=?_
 ·show bits .or .u64 ((mkN (fun k=>zdp l (64 * i+k)) 64:Nat):Int) _=((mkN (fun k=>zdp (l++[x]) (64 * i+k)) 64:Nat):Int)
  rw[<-hP,<-hQ];have h5:=zcI P 64;rw[h2,u64_or_nat _ _ h5 h3,<-ziH n 64 hn64,zmo,zbe hPQ]
 intro k hk;clear h2 h3;rw[hP,hQ];rw[waQ];simp only[zdp,waM,wbB,wbC,wbF];constructor
 ·rintro (⟨h5,h6⟩|h5)
  ·exact⟨h5,.inl h6⟩
  ·exact⟨by omega,.inr oQ⟩
 ·rintro ⟨h5,h6|h6⟩
  ·exact .inl ⟨h5,h6⟩
  ·exact .inr oQ
theorem ztJ (n:Int) (w:World):Calls prog 185 #[.int .i64 n] w (zbE (.bool (decide (0<=n/\n<400))) w):=by
 obtain⟨B,hB⟩:∃B,B=decide (0<=n/\n<400):=⟨_,rfl⟩;rw[<-hB]
 by_cases h0:0<=n
 ·by_cases h1:n<400
  ·have HQ:Hid (B=true):=by show _=_;rw[hB];exact waP ⟨h0,h1⟩
   clear hB;go_enter func185,ntmps185;go_wp2;go_ret;exact⟨zab HQ.out.symm,rfl⟩
  ·have HQ:Hid (B=false):=by show _=_;rw[hB];exact waO (fun h=>h1 h.2)
   clear hB;go_enter func185,ntmps185;go_wp2;go_ret;exact⟨zab HQ.out.symm,rfl⟩
 ·have HQ:Hid (B=false):=by show _=_;rw[hB];exact waO (fun h=>h0 h.1)
  clear hB;go_enter func185,ntmps185;go_wp2;go_ret;exact⟨zab HQ.out.symm,rfl⟩
def za1 (w:World) (b:Nat) (g:Nat->Int):Prop:=(∀j,j<7->w.cell? ⟨b,j,none⟩=some (.int .u64 (g j)))/\∀j,w.frozen? ⟨b,j,none⟩=false
theorem za1.set {w:World} {b:Nat} {g g':Nat->Int} (h:za1 w b g) (i:Nat) (hi:i<7) (v:Int) (h1:g' i=v) (h2:∀j,j<7->j≠i->g' j=g j):za1 (w.setCell ⟨b,i,none⟩ (.int .u64 v)) b g':=by
 refine⟨fun j hj=>?_,fun j=>by rw[waS];exact h.2 j⟩
 by_cases e:j=i
 ·subst e;rw[waT _ _ _ (h.1 j hj),h1]
 ·rw[waU _ _ _ _ (by intro e2;injection e2 with _ e3;exact e e3.symm),h.1 j hj,h2 j hj e]
theorem za1.drew {w:World} {b:Nat} {g:Nat->Int} (h:za1 w b g):za1 w.drew b g:=h
theorem za1.other {w:World} {b b' i:Nat} {g:Nat->Int} {v:Value} (h:za1 w b g) (hne:b'≠b):za1 (w.setCell ⟨b',i,none⟩ v) b g:=
 ⟨fun j hj=>by rw[waU _ _ _ _ (by intro e2;injection e2 with e3;exact hne e3)];exact h.1 j hj,fun j=>by rw[waS];exact h.2 j⟩
theorem za1.alloc {w:World} {b:Nat} {g:Nat->Int} (h:za1 w b g) (hb:b<w.heap.size) (o:Obj):za1 (w.alloc o) b g:=by
 have hb1:Below w.heap.size w (w.alloc o):=(waC _ w).alloc (waJ _) _;exact⟨fun j hj=>(hb1.cell (p:=⟨b,j,none⟩) hb).trans (h.1 j hj),fun j=>(hb1.frozen (p:=⟨b,j,none⟩) hb).trans (h.2 j)⟩
theorem za1.below {w w':World} {b:Nat} {g:Nat->Int} (h:za1 w b g) (hb:b<w.heap.size) (hb1:Below w.heap.size w w'):za1 w' b g:=
 ⟨fun j hj=>(hb1.cell (p:=⟨b,j,none⟩) hb).trans (h.1 j hj),fun j=>(hb1.frozen (p:=⟨b,j,none⟩) hb).trans (h.2 j)⟩
theorem zio (w:World) (C:Array Value) (t:TypeId) (j:Nat):(w.alloc (.cells C t)).frozen? ⟨w.heap.size,j,none⟩=false:=by
 have h1:=heap_alloc_new w (.cells C t);unfold World.frozen?;rw[h1];simp
theorem za1.new (w:World) (t:TypeId) (l:List Int):za1 (w.alloc (.cells #[.int .u64 (zaH [] 0),.int .u64 (zaH [] 1),.int .u64 (zaH [] 2),.int .u64 (zaH [] 3),.int .u64 (zaH [] 4),.int .u64 (zaH [] 5),.int .u64 (zaH [] 6)] t)) w.heap.size (zaH []):=by
 refine⟨fun j hj=>?_,fun j=>zio _ _ _ _⟩
 rcases j with _|_|_|_|_|_|_|j
 all_goals first|exact zaa rfl rfl|omega
theorem za1.zero (w:World) (t:TypeId):za1 (w.alloc (.cells #[.int .u64 0,.int .u64 0,.int .u64 0,.int .u64 0,.int .u64 0,.int .u64 0,.int .u64 0] t)) w.heap.size (zaH []):=by
 have:=za1.new w t [];simp only[zkV] at this;exact this
theorem ztK {r:Int} (h0:0<=r) (h1:r<64):IntKind.u64.wrap ((2:Int)^r.toNat)=2^r.toNat:=by
 obtain⟨n,rfl⟩:=wbD h0;have h2:(2:Int)^((n:Int)).toNat=((2^n:Nat):Int):=by simp
 have h3:2^n<2^64:=Nat.pow_lt_pow_right oQ oQ;rw[h2];have h4:((2^n:Nat):Int)<18446744073709551616:=by omega
 have h5:(0:Int)<=((2^n:Nat):Int):=Int.natCast_nonneg _;generalize ((2^n:Nat):Int)=z at h4 h5 ⊢;simp[IntKind.wrap,IntKind.bits,IntKind.signed];omega
theorem ziq (A:Option Addr) (n c:Nat) (l:List Int) (w:World) (hA:zaI w A n l) (hn:n<=9223372036854775807):
 Calls prog 124 #[.slice A n c] w (Ret (zkU l) w):=by
 have HL:Hid (l.length=n):=hA.1;have HA:=waV hA;have HM:=waV (fun x W=>ztJ x W)
 clear hA;go_enter func124,ntmps124;go_wp2
 go_loopw [8] (fun i wr=>∃k:Nat,k<=n/\i=.int .i64 k/\Hid (za1 wr (w.heap.size+1) (zaH (l.take k)))/\Hid (za1 wr w.heap.size (zaH []))/\w.heap.size+2<=wr.heap.size/\Below w.heap.size w wr) (fun i _=>n - (intOf i).toNat)
 case atStart=>
  refine⟨0,waK _,by go_num,?_,?_,by simp,by exact zaE⟩
  ·have:=za1.zero (w.alloc (.cells #[.int .u64 0,.int .u64 0,.int .u64 0,.int .u64 0,.int .u64 0,.int .u64 0,.int .u64 0] 40)) 40;have e:(w.alloc (.cells #[.int .u64 0,.int .u64 0,.int .u64 0,.int .u64 0,.int .u64 0,.int .u64 0,.int .u64 0] 40)).heap.size=w.heap.size+1:=by simp
   rw[e] at this;exact this
  ·exact(za1.zero w 40).alloc (by simp) _
 case round=>
  obtain⟨k,hk,rfl,HW,HZ,hs2,hb⟩:=hrel
  by_cases hlt:k<n
  ·obtain⟨b,o,x,rfl,hbl,hx,c0⟩:=zaI.at_ (HA.out.below hb (waJ _)) hlt
   have hlt':(k:Int)<(n:Int):=by omega
   have hts:l.take (k+1)=l.take k++[x]:=by rw[List.take_add_one,hx];rfl
   have HMx:=waV (fun W=>HM.out x W)
   clear hx
   by_cases hin:0<=x/\x<400
   ·rw[waP hin] at HMx;obtain⟨h0,h4⟩:=hin;obtain⟨i,hi⟩:∃i:Nat,(i:Int)=x / 64:=⟨(x / 64).toNat,by omega⟩
    have hi7:i<7:=by omega
    have HP:Hid (bits .or .u64 (zaH (l.take k) (x / 64).toNat) (IntKind.u64.wrap (2^(x%64).toNat))=zaH (l.take (k+1)) (x / 64).toNat):=by
     show _=_;rw[ztK (by omega) (by omega),hts,zrk h0 h4 (by omega)]
    have HN:Hid (∀j,j≠i->zaH (l.take (k+1)) j=zaH (l.take k) j):=by
     intro j hj;rw[hts,zin (by omega)]
    have HT:=waV hts;clear hts;have g0:=HW.out.1 i hi7;have g1:=HW.out.2 i;have hi2:(x / 64).toNat=i:=by omega
    rw[<-hi2] at g0 g1;have HI2:=waV hi2;clear hi2;have q4:¬(x / 64<0):=by omega
    have q5:x / 64<7:=by omega
    have q6:¬(x%64<0):=by omega
    go_wp2_with fail;refine(HMx.out _).mono ?_;rintro e w1 ⟨rfl,rfl⟩;go_wp2
    go_region
    rw[HP.out];have HW2:Hid (za1 (wr.setCell ⟨w.heap.size+1,(x / 64).toNat,none⟩ (.int .u64 (zaH (l.take (k+1)) (x / 64).toNat))) (w.heap.size+1) (zaH (l.take (k+1)))):=
     za1.set HW.out _ (by have:=HI2.out;omega) _ rfl (fun j _ hj=>HN.out j (by have:=HI2.out;omega))
    have HZ2:Hid (za1 (wr.setCell ⟨w.heap.size+1,(x / 64).toNat,none⟩ (.int .u64 (zaH (l.take (k+1)) (x / 64).toNat))) w.heap.size (zaH [])):=za1.other HZ.out oQ;have hb2:Below w.heap.size w (wr.setCell ⟨w.heap.size+1,(x / 64).toNat,none⟩ (.int .u64 (zaH (l.take (k+1)) (x / 64).toNat))):=hb.setCell (by simp) _
    have hs3:w.heap.size+2<=(wr.setCell ⟨w.heap.size+1,(x / 64).toNat,none⟩ (.int .u64 (zaH (l.take (k+1)) (x / 64).toNat))).heap.size:=by simpa using hs2
    generalize wr.setCell ⟨w.heap.size+1,(x / 64).toNat,none⟩ (.int .u64 (zaH (l.take (k+1)) (x / 64).toNat))=wx at *;go_wp2;go_roundw
    case rel=>exact⟨k+1,by omega,by go_num,HW2.out.drew,HZ2.out.drew,hs3,Below.drew hb2⟩
    case measure=>simp [intOf];omega
   ·have HN:Hid (zaH (l.take (k+1))=zaH (l.take k)):=by
     show _=_;rw[hts];funext j;rw[zin (by omega)]
    rw[waO hin] at HMx;clear hts hin;go_wp2_with fail;refine(HMx.out _).mono ?_;rintro e w1 ⟨rfl,rfl⟩;go_wp2;go_roundw
    case rel=>exact⟨k+1,by omega,by go_num,by rw[HN.out];exact HW.out,HZ.out,hs2,hb⟩
    case measure=>simp [intOf];omega
  ·obtain rfl:k=n:=by omega
   have HE:Hid (l.take k=l):=List.take_of_length_le (by have:=HL.out;omega)
   rw[HE.out] at HW;have g0:=HW.out.1 0 dQ;have g1:=HW.out.1 1 dQ;have g2:=HW.out.1 2 dQ;have g3:=HW.out.1 3 dQ;have g4:=HW.out.1 4 dQ;have g5:=HW.out.1 5 dQ;have g6:=HW.out.1 6 dQ;have z0:=HZ.out.1 0 dQ;have z1:=HZ.out.1 1 dQ;have z2:=HZ.out.1 2 dQ;have z3:=HZ.out.1 3 dQ;have z4:=HZ.out.1 4 dQ;have z5:=HZ.out.1 5 dQ;have z6:=HZ.out.1 6 dQ;have f0:=HZ.out.2;go_wp2
   (try simp only[Exit.inBlock,Exit.then])
   refine waY (v:=zkU l) ?_ rfl ⟨rfl,?_⟩
   ·rw[zah rfl]
    go_simp
   ·have hl:=hb;exact zaE
def zcd (w:World) (b:Nat) (g:Nat->Bool):Prop:=(∀j,j<448->w.cell? ⟨b,j,none⟩=some (.bool (g j)))/\∀j,w.frozen? ⟨b,j,none⟩=false
theorem zcd.set {w:World} {b:Nat} {g g':Nat->Bool} (h:zcd w b g) (i:Nat) (v:Bool) (h1:g' i=v) (h2:∀j,j≠i->g' j=g j):zcd (w.setCell ⟨b,i,none⟩ (.bool v)) b g':=by
 refine⟨fun j hj=>?_,fun j=>by rw[waS];exact h.2 j⟩
 by_cases e:j=i
 ·subst e;rw[waT _ _ _ (h.1 j hj),h1]
 ·rw[waU _ _ _ _ (by intro e2;injection e2 with _ e3;exact e e3.symm),h.1 j hj,h2 j e]
theorem zcd.other {w:World} {b b' i:Nat} {g:Nat->Bool} {v:Value} (h:zcd w b g) (hne:b'≠b):zcd (w.setCell ⟨b',i,none⟩ v) b g:=
 ⟨fun j hj=>by rw[waU _ _ _ _ (by intro e2;injection e2 with e3;exact hne e3)];exact h.1 j hj,fun j=>by rw[waS];exact h.2 j⟩
theorem zcd.alloc {w:World} {b:Nat} {g:Nat->Bool} (h:zcd w b g) (hb:b<w.heap.size) (o:Obj):zcd (w.alloc o) b g:=by
 have hb1:Below w.heap.size w (w.alloc o):=(waC _ w).alloc (waJ _) _;exact⟨fun j hj=>(hb1.cell (p:=⟨b,j,none⟩) hb).trans (h.1 j hj),fun j=>(hb1.frozen (p:=⟨b,j,none⟩) hb).trans (h.2 j)⟩
theorem zwb:Tryz.zeroCells197=Array.replicate 448 (.bool false):=by kernel_rfl
theorem zcd.zero (w:World) (t:TypeId):zcd (w.alloc (.cells Tryz.zeroCells197 t)) w.heap.size (zdp []):=by
 refine⟨fun j hj=>?_,fun j=>zio _ _ _ _⟩
 refine zaa rfl ?_;rw[zwb,Array.getElem?_replicate,if_pos hj];simp[zdp]
theorem zwc {l:List Int} {x:Int} (h0:0<=x) (h1:x<400):zdp (l++[x]) x.toNat=true:=by
 simp only[zdp,waM,wbB,wbC];omega
theorem znk {l:List Int} {x:Int} {j:Nat} (h:¬((j:Int)=x/\j<400)):zdp (l++[x]) j=zdp l j:=by
 rw[waQ];simp only[zdp,waM,wbB,wbC];constructor
 ·rintro ⟨h1,h2|h2⟩
  ·exact⟨h1,h2⟩
  ·exact absurd ⟨h2,h1⟩ h
 ·rintro ⟨h1,h2⟩;exact⟨h1,.inl h2⟩
def upW (l:List Int) (i k:Nat):Int:=(mkN (fun t=>zdp l (64 * i+(t+k))) (64 - k):Nat)
theorem ztL (l:List Int) (i:Nat):upW l i 0=zaH l i:=rfl
theorem zwd (l:List Int) (i:Nat):upW l i 64=0:=rfl
theorem ztM (l:List Int) (i k:Nat) (h:k<64):upW l i k=(if zdp l (64 * i+k) then 1 else 0)+2 * upW l i (k+1):=by
 obtain⟨q,hq⟩:∃q,64 - k=q+1:=⟨63 - k,by omega⟩
 unfold upW;rw[hq,show 64 - (k+1)=q by omega,zo9]
 have:(fun t=>zdp l (64 * i+(t+1+k)))=fun t=>zdp l (64 * i+(t+(k+1))):=by funext t;congr 2;omega
 rw[this,waH];split<;>simp
theorem zxI (l:List Int) (i k:Nat) (h:k<64):0<=upW l i (k+1)/\upW l i (k+1)<9223372036854775808:=by
 obtain⟨P,hP⟩:∃P:Nat->Bool,P=fun t=>zdp l (64 * i+(t+(k+1))):=⟨_,rfl⟩
 have h1:=zcI P (64 - (k+1));have h2:2^(64 - (k+1))<=2^63:=Nat.pow_le_pow_right oQ oQ;unfold upW;rw[<-hP];generalize mkN P (64 - (k+1))=z at *;omega
def zl5 (l:List Int) (q j:Nat):Int:=if j<q then zaH l j else 0
def zeY (l:List Int) (q p j:Nat):Int:=if j<q then zaH l j else if j=q then upW l q p else 0
theorem zrl (l:List Int) (q:Nat):zeY l q 64=zl5 l q:=by
 funext j;unfold zeY zl5;split
 ·rfl
 ·split
  ·exact zwd l q
  ·rfl
theorem zoB (l:List Int) (q:Nat):zeY l q 0=zl5 l (q+1):=by
 funext j;unfold zeY zl5
 by_cases h1:j<q
 ·rw[if_pos h1,if_pos (by omega)]
 ·rw[if_neg h1]
  by_cases h2:j=q
  ·rw[if_pos h2,if_pos (by omega),h2,ztL]
  ·rw[if_neg h2,if_neg (by omega)]
theorem zjv (l:List Int) (q p:Nat):zeY l q p q=upW l q p:=by unfold zeY;simp
theorem znl (l:List Int) (q p p' j:Nat) (h:j≠q):zeY l q p j=zeY l q p' j:=by unfold zeY;simp[h]
theorem zl6 (A:Option Addr) (n c:Nat) (l:List Int) (w:World) (hA:zaI w A n l) (hn:n<=9223372036854775806):
 Calls prog 52 #[.slice A n c] w (Ret (zkU l) w):=by
 have HL:Hid (l.length=n):=hA.1;have HA:=waV hA;clear hA;go_enter func52,ntmps52;go_wp2
 go_loopw [4] (fun i wr=>∃k:Nat,k<=n/\i=.int .i64 k/\Hid (zcd wr (w.heap.size+1) (zdp (l.take k)))/\Hid (za1 wr w.heap.size (zaH []))/\w.heap.size+2<=wr.heap.size/\Below w.heap.size w wr) (fun i _=>n - (intOf i).toNat)
 case atStart=>
  refine⟨0,waK _,by go_num,?_,?_,by simp,by exact zaE⟩
  ·have:=zcd.zero (w.alloc (.cells #[.int .u64 0,.int .u64 0,.int .u64 0,.int .u64 0,.int .u64 0,.int .u64 0,.int .u64 0] 40)) 197;have e:(w.alloc (.cells #[.int .u64 0,.int .u64 0,.int .u64 0,.int .u64 0,.int .u64 0,.int .u64 0,.int .u64 0] 40)).heap.size=w.heap.size+1:=by simp
   rw[e] at this;exact this
  ·exact(za1.zero w 40).alloc (by simp) _
 case round=>
  obtain⟨k,hk,rfl,HT,HZ,hs2,hb⟩:=hrel
  by_cases hlt:k<n
  ·obtain⟨b,o,x,rfl,hbl,hx,c0⟩:=zaI.at_ (HA.out.below hb (waJ _)) hlt
   have hlt':(k:Int)<(n:Int):=by omega
   have hts:l.take (k+1)=l.take k++[x]:=by rw[List.take_add_one,hx];rfl
   clear hx
   by_cases hin:0<=x/\x<400
   ·obtain⟨h0,h4⟩:=hin;have HP:Hid (zdp (l.take (k+1)) x.toNat=true):=by show _=_;rw[hts,zwc h0 h4]
    have HN:Hid (∀j,j≠x.toNat->zdp (l.take (k+1)) j=zdp (l.take k) j):=fun j hj=>by rw[hts,znk (by omega)]
    clear hts;have g0:=HT.out.1 x.toNat oQ;have f0:=HT.out.2 x.toNat;have h5:x<448:=by omega
    go_wp2;go_roundw
    case rel=>exact⟨k+1,by omega,by go_num,zcd.set HT.out _ _ HP.out HN.out,za1.other HZ.out oQ,by simpa using hs2,hb.setCell (by simp) _⟩
    case measure=>simp [intOf];omega
   ·have HN:Hid (zdp (l.take (k+1))=zdp (l.take k)):=by
     show _=_;rw[hts];funext j;rw[znk (by omega)]
    clear hts
    by_cases h0:x<0
    ·clear hin;go_wp2;go_roundw
     case rel=>exact⟨k+1,by omega,by go_num,by rw[HN.out];exact HT.out,HZ.out,hs2,hb⟩
     case measure=>simp [intOf];omega
    ·have h1:400<=x:=by omega
     have h0':0<=x:=by omega
     clear hin;go_wp2;go_roundw
     case rel=>exact⟨k+1,by omega,by go_num,by rw[HN.out];exact HT.out,HZ.out,hs2,hb⟩
     case measure=>simp [intOf];omega
  ·obtain rfl:k=n:=by omega
   have HE:Hid (l.take k=l):=List.take_of_length_le (by have:=HL.out;omega)
   rw[HE.out] at HT;clear HE HA;obtain⟨wo,rfl⟩:∃wo:World,wo=wr:=⟨_,rfl⟩;go_wp2
   go_loopw [6,7] (fun i _ wr=>∃q:Nat,q<=7/\i=.int .i64 q/\Hid (zcd wr (w.heap.size+1) (zdp l))/\Hid (za1 wr w.heap.size (zaH []))/\Hid (za1 wr wo.heap.size (zl5 l q))/\wo.heap.size<wr.heap.size/\Below w.heap.size w wr) (fun i _ _=>7 - (intOf i).toNat)
   case atStart=>
    refine⟨0,waK _,by go_num,HT.out.alloc oQ _,HZ.out.alloc oQ _,?_,by simp,by exact zaE⟩
    have:=za1.zero wo 40;refine⟨fun j hj=>?_,this.2⟩
    have h1:=this.1 j hj;rw[zkV] at h1;exact h1
   case round=>
    obtain⟨q,hq,rfl,HT2,HZ2,HS,hs3,hb3⟩:=hrel
    by_cases hq7:q<7
    ·have hq7':(q:Int)<7:=by omega
     obtain⟨wi,rfl⟩:∃wi:World,wi=wr:=⟨_,rfl⟩;go_wp2
     go_loopw [7] (fun i wr=>∃p:Nat,p<=64/\i=.int .i64 ((p:Int) - 1)/\Hid (zcd wr (w.heap.size+1) (zdp l))/\Hid (za1 wr w.heap.size (zaH []))/\Hid (za1 wr wo.heap.size (zeY l q p))/\wo.heap.size<wr.heap.size/\Below w.heap.size w wr) (fun i _=>(intOf i+1).toNat)
     case atStart=>
      exact⟨64,waJ _,by go_num,HT2.out,HZ2.out,by rw[zrl];exact HS.out,hs3,hb3⟩
     case round=>
      obtain⟨p,hp,rfl,HT3,HZ3,HS3,hs4,hb4⟩:=hrel;rcases p with _|p
      ·have HS4:Hid (za1 wr wo.heap.size (zl5 l (q+1))):=by
        rw[<-zoB];exact HS3.out
       clear HS3 HS;go_wp2;go_roundw
       case rel=>exact⟨q+1,by omega,by go_num,HT3.out,HZ3.out,HS4.out,hs4,hb4⟩
       case measure=>simp [intOf];omega
      ·have e1:((p+1:Nat):Int) - 1=(p:Int):=by omega
       rw[e1];clear e1;have hu:=zxI l q p oQ;have HU:=waV (ztM l q p oQ);obtain⟨hu0,hu1⟩:=hu;have g0:=HS3.out.1 q hq7;rw[zjv] at g0;have f0:=HS3.out.2 q;have t0:=HT3.out.1 (64 * q+p) oQ;have hi1:(64 * (q:Int)+(p:Int)).toNat=64 * q+p:=by omega
       rw[<-hi1] at t0;have HI1:=waV hi1;clear hi1;have q1:¬(64 * (q:Int)+(p:Int)<0):=by omega
       have q2:64 * (q:Int)+(p:Int)<448:=by omega
       have HA1:Hid (zcd (wr.setCell ⟨wo.heap.size,q,none⟩ (.int .u64 (2 * upW l q (p+1)))) (w.heap.size+1) (zdp l)):=HT3.out.other oQ;have HA2:Hid (za1 (wr.setCell ⟨wo.heap.size,q,none⟩ (.int .u64 (2 * upW l q (p+1)))) w.heap.size (zaH [])):=HZ3.out.other oQ;have HA3:Hid (∀g':Nat->Int,g' q=2 * upW l q (p+1)->(∀j,j<7->j≠q->g' j=zeY l q (p+1) j)->za1 (wr.setCell ⟨wo.heap.size,q,none⟩ (.int .u64 (2 * upW l q (p+1)))) wo.heap.size g'):=fun g' h1 h2=>HS3.out.set q hq7 _ h1 h2
       have hb5:Below w.heap.size w (wr.setCell ⟨wo.heap.size,q,none⟩ (.int .u64 (2 * upW l q (p+1)))):=hb4.setCell (by show w.heap.size<=wo.heap.size;omega) _
       have hs5:wo.heap.size<(wr.setCell ⟨wo.heap.size,q,none⟩ (.int .u64 (2 * upW l q (p+1)))).heap.size:=by simpa using hs4
       have hmul:(2 * upW l q (p+1))<18446744073709551616:=by omega
       clear t0 q1 q2
       go_upto_region 15 with (fail)
       clear g0 f0;generalize (wr.setCell ⟨wo.heap.size,q,none⟩ (.int .u64 (2 * upW l q (p+1))))=wx at *;have t0:=HA1.out.1 (64 * q+p) oQ;have hqn:(q:Int).toNat=q:=Int.toNat_natCast q;generalize hQ:(q:Int)=Q at *;generalize hP:(p:Int)=P at *;have HQ:=waV hQ;have HPP:=waV hP;have hi2:(64 * Q+P).toNat=64 * q+p:=by omega
       rw[<-hi2] at t0;have q1:¬(64 * Q+P<0):=by omega
       have q2:64 * Q+P<448:=by omega
       have q3:0<=Q:=by omega
       have q4:Q<7:=by omega
       have q5:0<=P:=by omega
       have q6:P<64:=by omega
       cases hb':zdp l (64 * q+p) with
       |false=>
        rw[hi2,hb',<-hi2] at t0;have HS5:Hid (za1 wx wo.heap.size (zeY l q p)):=HA3.out _ (by rw[zjv,HU.out,hb'];simp) (fun j _ hj=>znl l q p (p+1) j hj)
        clear hb' HU HA3 hi2 hQ hP hqn HI1;go_wp2;obtain rfl:=HQ.out;obtain rfl:=HPP.out;go_roundw
        case rel=>
         refine⟨_,⟨p,by omega,rfl,?_⟩,?_⟩
         ·(repeat' (with_reducible refine And.intro ?_ ?_))
          all_goals (with_reducible assumption)
         ·first|exact rfl|exact⟨rfl,rfl⟩|exact⟨rfl,rfl,rfl⟩|trivial
        case measure=>simp [intOf];omega
       |true=>
        rw[hi2,hb',<-hi2] at t0;have HUU:Hid (upW l q p=2 * upW l q (p+1)+1):=by show _=_;rw[HU.out,hb'];simp;omega
        have HS5:=waV (HA3.out (fun j=>if j=q then 2 * upW l q (p+1) else zeY l q (p+1) j) (by simp) (fun j _ hj=>by simp[hj]))
        have g0:wx.cell? ⟨wo.heap.size,Q.toNat,none⟩=some (.int .u64 (2 * upW l q (p+1))):=by
         have h:=HS5.out.1 q hq7;simp only[if_true] at h;rw[hqn];exact h
        have f0:wx.frozen? ⟨wo.heap.size,Q.toNat,none⟩=false:=HS5.out.2 _;have HB1:Hid (zcd (wx.setCell ⟨wo.heap.size,q,none⟩ (.int .u64 (upW l q p))) (w.heap.size+1) (zdp l)):=HA1.out.other oQ;have HB2:Hid (za1 (wx.setCell ⟨wo.heap.size,q,none⟩ (.int .u64 (upW l q p))) w.heap.size (zaH [])):=HA2.out.other oQ;have HB3:Hid (za1 (wx.setCell ⟨wo.heap.size,q,none⟩ (.int .u64 (upW l q p))) wo.heap.size (zeY l q p)):=HS5.out.set q hq7 _ (zjv l q p) (fun j _ hj=>by simp only[if_neg hj];exact znl l q p (p+1) j hj)
        have hb6:Below w.heap.size w (wx.setCell ⟨wo.heap.size,q,none⟩ (.int .u64 (upW l q p))):=hb5.setCell (by show w.heap.size<=wo.heap.size;omega) _
        have hs6:wo.heap.size<(wx.setCell ⟨wo.heap.size,q,none⟩ (.int .u64 (upW l q p))).heap.size:=by simpa using hs5
        rw[HUU.out] at HB1 HB2 hb6 hs6;have HB3':Hid (za1 (wx.setCell ⟨wo.heap.size,q,none⟩ (.int .u64 (2 * upW l q (p+1)+1))) wo.heap.size (zeY l q p)):=by rw[<-HUU.out];exact HB3.out
        clear hb' HU HA3 HS5 hi2 hQ hP hqn HI1 HB3;go_wp2;obtain rfl:=HQ.out;obtain rfl:=HPP.out
        (try simp only[Int.toNat_natCast])
        go_roundw
        case rel=>
         refine⟨_,⟨p,by omega,rfl,?_⟩,?_⟩
         ·(repeat' (with_reducible refine And.intro ?_ ?_))
          all_goals (with_reducible assumption)
         ·exact⟨trivial,rfl,trivial⟩
        case measure=>simp [intOf];omega
    ·obtain rfl:q=7:=by omega
     have HS7:Hid (za1 wr wo.heap.size (zaH l)):=⟨fun j hj=>by rw[HS.out.1 j hj];unfold zl5;rw[if_pos hj],HS.out.2⟩
     have g0:=HS7.out.1 0 dQ;have g1:=HS7.out.1 1 dQ;have g2:=HS7.out.1 2 dQ;have g3:=HS7.out.1 3 dQ;have g4:=HS7.out.1 4 dQ;have g5:=HS7.out.1 5 dQ;have g6:=HS7.out.1 6 dQ;have z0:=HZ2.out.1 0 dQ;have z1:=HZ2.out.1 1 dQ;have z2:=HZ2.out.1 2 dQ;have z3:=HZ2.out.1 3 dQ;have z4:=HZ2.out.1 4 dQ;have z5:=HZ2.out.1 5 dQ;have z6:=HZ2.out.1 6 dQ;have f0:=HZ2.out.2;clear HS HT2;go_wp2
     (try simp only[Exit.inBlock,Exit.then])
     refine waY (v:=zkU l) ?_ rfl ⟨rfl,?_⟩
     ·rw[zah rfl]
      go_simp
     ·have hl:=hb3;exact zaE
theorem zxJ {lo hi:Int} {l:List It} {x:Int} (h:x∈zlI lo hi l):0<=lo/\lo<=x/\x<=9999:=by
 have h1:=((zhc lo hi l).2 x).1 h;simp only[inB,List.any_eq_true,zfr,waN,zqO,waM] at h1;obtain⟨i,_,hm,h2,h3,_⟩:=h1;obtain⟨h4,h5,h6,h7⟩:=zlJ hm;omega
theorem zrm {w:World} {B g c:Nat} {l:List Int} {n:Nat} (h:w.ownsRow B 3 1 (.slice (some ⟨g,0,none⟩) n c) n (l.map (Value.int .i64))):g<w.heap.size/\B<=g/\(∀j,w.frozen? ⟨g,j,none⟩=false):=by
 rcases h.2 with ⟨h0,_⟩|⟨g',cap,cur,hv,hb,hg,_⟩
 ·cases h0
 ·cases hv;refine⟨(waL.1 hg).1,hb,fun j=>?_⟩
  unfold World.frozen?;rw[hg];simp
theorem ztN (lo hi:Int) (A:Option Addr) (n c:Nat) (l:List It) (w:World) (hA:zcV w A n l) (hn:n<=100000) (hlo:zne lo):
 Calls prog 64 #[.int .i64 lo,.int .i64 hi,.slice A n c] w (Ret (zkU ((zlI lo hi l).map (· - lo))) w):=by
 have hb0:Below w.heap.size w (w.alloc (.cells #[.int .u64 0,.int .u64 0,.int .u64 0,.int .u64 0,.int .u64 0,.int .u64 0,.int .u64 0] 40)):=by exact zaE
 have HV:=waV (zif lo hi A n c l (w.alloc (.cells #[.int .u64 0,.int .u64 0,.int .u64 0,.int .u64 0,.int .u64 0,.int .u64 0,.int .u64 0] 40)) (hA.below hb0 (waJ _)) hn);have HZ:=waV (za1.zero w 40);have hlen:(zlI lo hi l).length<=1000000000:=by
  have h1:=zgs lo hi l;have h2:=zdB ((zeF lo hi l).mergeSort fun x y=>decide (x<=y))
  rw[zef] at h2;have h3:l.length=n:=hA.1;unfold zlI;omega
 have HBd:Hid (∀x∈zlI lo hi l,0<=lo/\lo<=x/\x<=9999):=fun x hx=>zxJ hx
 generalize zlI lo hi l=V at *;clear hA;obtain⟨L,hL⟩:∃L,L=V.map (· - lo):=⟨_,rfl⟩;rw[<-hL];have HL:=waV hL;clear hL;go_enter func64,ntmps64;go_wp2_with fail;have hsz0:(w.alloc (.cells #[.int .u64 0,.int .u64 0,.int .u64 0,.int .u64 0,.int .u64 0,.int .u64 0,.int .u64 0] 40)).heap.size=w.heap.size+1:=by simp
 generalize (w.alloc (.cells #[.int .u64 0,.int .u64 0,.int .u64 0,.int .u64 0,.int .u64 0,.int .u64 0,.int .u64 0] 40))=w0 at *;refine HV.out.mono ?_;rintro e w1 ⟨v,rfl,hown,hb1⟩;have hb01:Below w.heap.size w w1:=hb0.trans (hb1.mono oQ);have HZ1:=waV (HZ.out.below oQ hb1);have hsz1:=hb1.size;rcases zbO hown with ⟨rfl,h0⟩|⟨g,c',rfl,hg,hgs⟩
 ·obtain rfl:=List.length_eq_zero_iff.1 h0;clear hown h0;have HF:=waV (ziq none 0 0 L w1 (by rw[HL.out];exact Rd.nil) (by decide))
  have hbw:Below w.heap.size w w1:=hb01;have hz:w.heap.size<w1.heap.size:=by omega
  have HZw:=HZ1;clear HL HV;go_wp2
  go_loopw [15] (fun i wr=>i=.int .i64 0/\wr=w1) (fun _ _=>0)
  case atStart=>exact⟨by go_num,rfl⟩
  case round=>
   obtain⟨rfl,rfl⟩:=hrel;go_wp2_with fail;refine HF.out.mono ?_;rintro e w3 ⟨rfl,hb3⟩;have HZ3:=waV (HZw.out.below hz hb3);have hbf:Below w.heap.size w w3:=zaf hbw hb3 hbw.size;have hszf:=hbf.size;have hzf:w.heap.size<w3.heap.size:=waD hz hb3.size;have z0:=HZ3.out.1 0 dQ;have z1:=HZ3.out.1 1 dQ;have z2:=HZ3.out.1 2 dQ;have z3:=HZ3.out.1 3 dQ;have z4:=HZ3.out.1 4 dQ;have z5:=HZ3.out.1 5 dQ;have z6:=HZ3.out.1 6 dQ;have f0:=HZ3.out.2;clear hb3 hbw;go_wp2
   (try simp only[Exit.inBlock,Exit.then])
   refine waY (v:=zkU L) ?_ rfl ⟨rfl,?_⟩
   ·rw[zah rfl]
    go_simp
   ·exact zaE
 ·obtain⟨-,hgB,hfz⟩:=zrm hown;obtain⟨A',c2,e,hc1,hc2,hrd,hge⟩:=za8.rd hown;cases e;obtain⟨m,hm⟩:∃m,m=V.length:=⟨_,rfl⟩;have HVL:Hid (V.length=m):=hm.symm;rw[<-hm] at hrd hc1 hlen ⊢;have HRD:=waV hrd;have HFZ:=waV hfz;clear hm hown hrd hfz HV hge;go_wp2
  go_loopw [15] (fun i wr=>∃k:Nat,k<=m/\i=.int .i64 k/\Hid (∀j x,V[j]?=some x->wr.cell? ⟨g,j,none⟩=some (.int .i64 (if j<k then x - lo else x)))/\Hid (∀j,wr.frozen? ⟨g,j,none⟩=false)/\Hid (za1 wr w.heap.size (zaH []))/\w1.heap.size<=wr.heap.size/\Below w.heap.size w wr) (fun i _=>m - (intOf i).toNat)
  case atStart=>
   refine⟨0,waK _,by go_num,fun j x hj=>?_,HFZ.out,HZ1.out,waJ _,hb01⟩
   obtain⟨b,o,x',e,_,hx,hc⟩:=zaI.at_ HRD.out (i:=j) (by have:=(waI.1 hj).1;have:=HVL.out;omega)
   cases e;obtain rfl:x=x':=by rw[hj] at hx;injection hx
   simpa using hc
  case round=>
   obtain⟨k,hk,rfl,HC,HFZ,HZw,hsw,hbw⟩:=hrel
   by_cases hlt:k<m
   ·have hlt':(k:Int)<(m:Int):=by omega
    have hkV:k<V.length:=by have:=HVL.out;omega
    have hx:=waE hkV;obtain⟨x,hxx⟩:∃x,x=V[k]:=⟨_,rfl⟩;rw[<-hxx] at hx;have hxm:x∈V:=List.mem_of_getElem? hx;obtain⟨b0,b1,b2⟩:=HBd.out x hxm;have c0:=HC.out k x hx;rw[if_neg (Nat.lt_irrefl k)] at c0;have f0:=HFZ.out k;have HX:=waV hx;clear hx hxx hxm hkV;go_wp2;go_roundw
    case rel=>
     refine⟨k+1,by omega,by go_num,fun j y hj=>?_,fun j=>by rw[waS];exact HFZ.out j,za1.other HZw.out (by omega),by simpa using hsw,hbw.setCell (by show w.heap.size<=g;omega) _⟩
     by_cases e:j=k
     ·subst e;obtain rfl:x=y:=by have:=HX.out;rw[hj] at this;injection this with h;exact h.symm
      rw[waT _ _ _ (HC.out j x hj),if_pos (by omega)]
     ·rw[waU _ _ _ _ (by intro e2;injection e2 with _ e3;exact e e3.symm),HC.out j y hj]
      by_cases hjk:j<k
      ·rw[if_pos hjk,if_pos (by omega)]
      ·rw[if_neg hjk,if_neg (by omega)]
    case measure=>simp [intOf];omega
   ·obtain rfl:k=m:=by omega
    have hrd2:zaI wr (some ⟨g,0,none⟩) k L:=by
     rw[HL.out];refine⟨by rw[List.length_map];exact HVL.out,fun hn=>⟨g,0,rfl,by omega,fun j y hj i v hv=>?_⟩⟩
     rw[List.getElem?_map] at hj;rcases hvj:V[j]? with _|x
     ·rw[hvj] at hj;cases hj
     ·rw[hvj] at hj;obtain rfl:x - lo=y:=by simpa using hj
      have hi:i=0:=by have:=(waI.1 hv).1;simpa[zcY] using this
      subst hi;obtain rfl:Value.int .i64 (x - lo)=v:=by simpa[zcY] using hv
      have:=HC.out j x hvj;rw[if_pos (by have:=(waI.1 hvj).1;have:=HVL.out;omega)] at this
      simpa using this
    have HF:=waV (ziq (some ⟨g,0,none⟩) k c' L wr hrd2 oQ);have hz:w.heap.size<wr.heap.size:=by omega
    clear hrd2 HC HFZ;go_wp2_with fail;refine HF.out.mono ?_;rintro e w3 ⟨rfl,hb3⟩;have HZ3:=waV (HZw.out.below hz hb3);have hbf:Below w.heap.size w w3:=zaf hbw hb3 hbw.size;have hszf:=hbf.size;have hzf:w.heap.size<w3.heap.size:=waD hz hb3.size;have z0:=HZ3.out.1 0 dQ;have z1:=HZ3.out.1 1 dQ;have z2:=HZ3.out.1 2 dQ;have z3:=HZ3.out.1 3 dQ;have z4:=HZ3.out.1 4 dQ;have z5:=HZ3.out.1 5 dQ;have z6:=HZ3.out.1 6 dQ;have f0:=HZ3.out.2;clear hb3 hbw;go_wp2
    (try simp only[Exit.inBlock,Exit.then])
    refine waY (v:=zkU L) ?_ rfl ⟨rfl,?_⟩
    ·rw[zah rfl]
     go_simp
    ·exact zaE
end Go.Proofs.YtllcdbgjeidlkaaGreatDoor
