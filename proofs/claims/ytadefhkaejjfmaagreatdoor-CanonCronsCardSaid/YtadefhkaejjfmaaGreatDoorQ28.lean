/- A part of the proof: WCst3 WRef12 WLine WCron Shelf -/
import Derived.Test.YtadefhkaejjfmaaGreatDoorQ27
import Derived.Test.YtadefhkaejjfmaaGreatDoorQ00
import Derived.Shelf.Strings.Builder1
import Derived.Shelf.Strings.Builder2
import Derived.Shelf.Strings.OnBuilder
import Derived.Shelf.Small.Utf8
import Derived.Shelf.Small.Bits
import Derived.Shelf.Small.Strs
import Derived.Shelf.Small.Wraps
import Derived.Shelf.Strings.BuilderF
import Derived.Shelf.Strings.BuilderK
import Derived.Shelf.Strings.BuilderRune
import Derived.Shelf.Utf8.RuneCount
import Derived.Shelf.Strings.Builder2Cap
import Derived.Shelf.Strconv.Itoa0
import Derived.Shelf.Strconv.Itoa1
import Derived.Shelf.LaysM
import Derived.Shelf.Strconv.Itoa2
import Derived.Shelf.Strconv.Itoa3
import Derived.Shelf.Strings.Search1
import Derived.Shelf.Strings.Search2
import Derived.Shelf.Strings.Search3
import Derived.Shelf.Strings.Cut
import Derived.Shelf.Strings.Count
import Derived.Shelf.Strings.Shaped
import Derived.Shelf.Sort.Plain
import Derived.Shelf.Strings.Prefix
import Derived.Shelf.Strings.Split
import Derived.Shelf.Unicode.Latin
import Derived.Shelf.Unicode.Decode
import Derived.Shelf.Strings.Runes
import Derived.Shelf.Strings.RuneCount
import Derived.Shelf.Strings.IndexAny
import Derived.Shelf.Strings.AsciiSet
import Derived.Shelf.Strings.IndexAnyAll
import Derived.Shelf.Bits.Mul64
import Derived.Shelf.Strings.Repeat
import Derived.Shelf.Unicode.DecodeSlow
import Derived.Shelf.Unicode.DecodeAny
import Derived.Shelf.Unicode.CaseLookup
import Derived.Shelf.Unicode.CaseConvert
import Derived.Shelf.Unicode.CaseTo
import Derived.Shelf.Unicode.CaseLaid
import Derived.Shelf.Strings.MapAny
import Derived.Shelf.Strings.CaseAny
import Derived.Shelf.Strings.BuilderCap
import Derived.Shelf.Slices.Turned
import Derived.Shelf.Slices.Equal
import Derived.Ground.Names2Prog
import Derived.Shelf.Slices.CompactI
import Derived.Shelf.Slices.SearchI
import Derived.Shelf.Slices.Cells
import Derived.Shelf.Slices.In.SortNone
import Derived.Shelf.Slices.Empties2
import Derived.Test.YtadefhkaejjfmaaGreatDoorProg
set_option maxHeartbeats 80000000
set_option maxRecDepth 100000
set_option linter.unusedSimpArgs false
set_option linter.unusedVariables false
namespace Go.Proofs.YtadefhkaejjfmaaGreatDoor
open Go.Proofs.Tryz
open Go.RowKit
open Go.Maps
structure TimeAt (W:World) (fb b1 b2 b3 kb m:Nat) (P:Nat→Prop) (v:Value):Prop where
 x1:Boxed W b1 187 (.pointer (some ⟨fb,0,none⟩))
 x2:Boxed W b2 188 (.func (.func 198) #[] #[.pointer (some ⟨kb,0,none⟩)])
 x3:Boxed W b3 103 v
 fr:FreshAt W kb m P
def zuL (fb:Nat) (W:World) (e:Ending) (W':World):Prop:=
 ∃b1 b2 b3 kb m,e=.returned (.func (.func 102) #[] #[.pointer (some ⟨b1,0,none⟩),.pointer (some ⟨b2,0,none⟩),.pointer (some ⟨b3,0,none⟩)])∧W.heap.size≤b1∧W.heap.size≤b2∧W.heap.size≤b3∧W.heap.size≤kb∧W.heap.size≤m∧b1≠b2∧b1≠b3∧b2≠b3∧kb≠b1∧kb≠b2∧kb≠b3∧
  TimeAt W' fb b1 b2 b3 kb m (fun _=>False) (.pointer none)∧Below W.heap.size W W'
theorem zsL (fb:Nat) (W:World):Calls prog 42 #[.pointer (some ⟨fb,0,none⟩)] W (zuL fb W):=by
 have HF:=waV (fun V=>zkM V)
 go_enter func42,ntmps42;go_wp2_with fail;have hb0:Below W.heap.size W ((W.alloc (.cells #[.pointer (some ⟨fb,0,none⟩)] 187)).alloc (.cells #[.pointer none] 103)):=((waC _ W).alloc (waJ _) _).alloc (by simp) _
 have hz0:((W.alloc (.cells #[.pointer (some ⟨fb,0,none⟩)] 187)).alloc (.cells #[.pointer none] 103)).heap.size=W.heap.size+2:=by simp
 have x1:Boxed ((W.alloc (.cells #[.pointer (some ⟨fb,0,none⟩)] 187)).alloc (.cells #[.pointer none] 103)) W.heap.size 187 (.pointer (some ⟨fb,0,none⟩)):=(Boxed.new _ _ _).alloc _;have x3:Boxed ((W.alloc (.cells #[.pointer (some ⟨fb,0,none⟩)] 187)).alloc (.cells #[.pointer none] 103)) (W.heap.size+1) 103 (.pointer none):=by
  have h:W.heap.size+1=(W.alloc (.cells #[.pointer (some ⟨fb,0,none⟩)] 187)).heap.size:=by simp
  rw[h];exact Boxed.new _ _ _
 generalize ((W.alloc (.cells #[.pointer (some ⟨fb,0,none⟩)] 187)).alloc (.cells #[.pointer none] 103))=W0 at *;refine(HF.out _).mono ?_;rintro e w1 ⟨kb,m,rfl,hk,hm,hfr,hfz,hb1⟩;have x1:=zaB hb1 x1;have x3:=zaB hb1 x3;have hz1:=hb1.size;have HFr:=waV hfr;have lk:=waR w1 _ hfr.c;clear hfr;go_wp2_with fail;go_ret;have hbA:Below w1.heap.size w1 (w1.alloc (.cells #[.func (.func 198) #[] #[.pointer (some ⟨kb,0,none⟩)]] 188)):=(waC _ w1).alloc (waJ _) _;have lk:kb<w1.heap.size:=lk;exact⟨W.heap.size,w1.heap.size,W.heap.size+1,kb,m,rfl,waJ _,by omega,by omega,by omega,by omega,by omega,by omega,by omega,by omega,by omega,by omega,
  ⟨zaB hbA x1,Boxed.new _ _ _,zaB hbA x3,HFr.out.imp ((RlS.refl (fun _=>False) w1).below hbA (waJ _)) (fun g=>g) (fun g=>g) (fun e p g=>g.below hbA)⟩,(hb0.trans (hb1.mono oQ)).alloc oQ _⟩
end Go.Proofs.YtadefhkaejjfmaaGreatDoor
namespace Go.Proofs.YtadefhkaejjfmaaGreatDoor
open Go.Proofs.Tryz
open Go.RowKit
def zbf (w:World) (b o:Nat) (A:Nat→Option Addr) (n c:Nat→Nat):Prop:=
 w.cell? ⟨b,o,none⟩=some (.slice (A 0) (n 0) (c 0))∧w.cell? ⟨b,o+1,none⟩=some (.slice (A 1) (n 1) (c 1))∧w.cell? ⟨b,o+2,none⟩=some (.slice (A 2) (n 2) (c 2))∧
 w.cell? ⟨b,o+3,none⟩=some (.slice (A 3) (n 3) (c 3))∧w.cell? ⟨b,o+4,none⟩=some (.slice (A 4) (n 4) (c 4))
abbrev crV (A:Nat→Option Addr) (n c:Nat→Nat):Value:=.agg #[.slice (A 0) (n 0) (c 0),.slice (A 1) (n 1) (c 1),.slice (A 2) (n 2) (c 2),.slice (A 3) (n 3) (c 3),.slice (A 4) (n 4) (c 4)]
def zbp (w:World) (A:Nat→Option Addr) (n:Nat→Nat) (l:Nat→List It):Prop:=∀k,k<5→zcH w (A k) (n k) (l k)
theorem zbp.below {w w':World} {A:Nat→Option Addr} {n:Nat→Nat} {l:Nat→List It} {B:Nat} (h:zbp w A n l) (hb:Below B w w') (hB:w.heap.size≤B):zbp w' A n l:=fun k hk=>(h k hk).below hb hB
theorem zbf.below {w w':World} {b o:Nat} {A:Nat→Option Addr} {n c:Nat→Nat} (h:zbf w b o A n c) (hb:∀o,w'.cell? ⟨b,o,none⟩=w.cell? ⟨b,o,none⟩):zbf w' b o A n c:=
 ⟨(hb _).trans h.1,(hb _).trans h.2.1,(hb _).trans h.2.2.1,(hb _).trans h.2.2.2.1,(hb _).trans h.2.2.2.2⟩
theorem zqt {n:Int} (h:1≤n):zgU n=decide (n≤999):=by simp[zgU,h]
theorem zkN {n:Int} (h:n<1):zgU n=false:=by simp[zgU];omega
theorem zsM (n:Int) (w:World):Calls prog 338 #[.int .i64 n] w (zb4 (.bool (zgU n)) w):=by
 go_enter func338,ntmps338;go_wp2
 all_goals go_ret
 ·exact⟨zap (zqt (by assumption)).symm,rfl⟩
 ·exact⟨zap (zkN (by assumption)).symm,rfl⟩
theorem ztJ (lo hi:Int) (A:Option Addr) (n c:Nat) (l:List Int) (w:World) (h:zba w A n l) (hn:n≤9223372036854775807):
 Calls prog 339 #[.int .i64 lo,.int .i64 hi,.slice A n c] w (zb4 (.bool (ofB lo hi l)) w):=by
 have HL:Hid (l.length=n):=h.1;go_enter func339,ntmps339;go_wp2
 go_loop [11] (fun i=>∃k:Nat,k≤n∧i=.int .i64 k∧Hid (OfP lo hi l k)) (fun i=>n - (intOf i).toNat)
 case atStart=>exact⟨0,waK _,rfl,OfP.zero _ _ _⟩
 case round=>
  obtain⟨k,hk,rfl,H⟩:=hrel
  by_cases hlt:k<n
  ·obtain⟨b,o,x,rfl,_,hx,c0⟩:=zba.at_ h hlt
   have hlt':(k:Int)<(n:Int):=by omega
   have Hx:=waV hx;clear hx;rcases Nat.eq_zero_or_pos k with rfl|hpos
   ·rw[Nat.add_zero] at c0;go_wp2
    all_goals first
     |(go_ret;exact⟨zap (zlh Hx.out oQ).symm,rfl⟩)
     |(go_round
       case rel=>exact⟨0+1,by omega,by go_num,OfP.one Hx.out oQ⟩
       case measure=>simp [intOf];omega)
   ·obtain⟨k,rfl⟩:∃j,k=j+1:=⟨k - 1,by omega⟩
    obtain⟨b',o',y,e,_,hy,c1⟩:=zba.at_ h (i:=k) oQ
    cases e;have Hy:=waV hy;clear hy;go_wp2
    all_goals first
     |(go_ret;exact⟨zap (zvk Hx.out Hy.out oQ).symm,rfl⟩)
     |(go_round
       case rel=>exact⟨k+1+1,by omega,by go_num,OfP.succ H.out Hx.out Hy.out oQ⟩
       case measure=>simp [intOf];omega)
  ·obtain rfl:k=n:=by omega
   go_wp2;go_ret;exact⟨zap (OfP.all (HL.out▸H.out)).symm,rfl⟩
theorem zf7 (w:World) (b:Nat) (x:Int) (hb:b<w.heap.size) (h:w.cell? ⟨b,0,none⟩=some (.int .i64 x)):zba w (some ⟨b,0,none⟩) 1 [x]:=
 ⟨rfl,fun _=>⟨b,0,rfl,hb,fun i y hi j v hj=>by
  rcases i with _|i
  ·obtain rfl:x=y:=by simpa using hi
   rcases j with _|j
   ·obtain rfl:Value.int .i64 x=v:=by simpa[zd4] using hj
    simpa using h
   ·simp[zd4] at hj
  ·simp at hi⟩⟩
theorem zob (w:World) (b:Nat) (x y:Int) (hb:b<w.heap.size) (h:w.cell? ⟨b,0,none⟩=some (.int .i64 x)) (h1:w.cell? ⟨b,1,none⟩=some (.int .i64 y)):zba w (some ⟨b,0,none⟩) 2 [x,y]:=
 ⟨rfl,fun _=>⟨b,0,rfl,hb,fun i z hi j v hj=>by
  rcases j with _|j
  ·obtain rfl:Value.int .i64 z=v:=by simpa[zd4] using hj
   rcases i with _|_|i
   ·obtain rfl:x=z:=by simpa using hi
    simpa using h
   ·obtain rfl:y=z:=by simpa using hi
    simpa using h1
   ·simp at hi
  ·simp[zd4] at hj⟩⟩
theorem zvZ (lo hi x:Int) (b:Nat) (w:World) (hb:b<w.heap.size) (h:w.cell? ⟨b,0,none⟩=some (.int .i64 x)):
 Calls prog 339 #[.int .i64 lo,.int .i64 hi,.slice (some ⟨b,0,none⟩) 1 1] w (zb4 (.bool (ofB lo hi [x])) w):=
 ztJ lo hi _ 1 1 [x] w (zf7 w b x hb h) dQ
theorem zv0 (lo hi x y:Int) (b:Nat) (w:World) (hb:b<w.heap.size) (h:w.cell? ⟨b,0,none⟩=some (.int .i64 x)) (h1:w.cell? ⟨b,1,none⟩=some (.int .i64 y)):
 Calls prog 339 #[.int .i64 lo,.int .i64 hi,.slice (some ⟨b,0,none⟩) 2 2] w (zb4 (.bool (ofB lo hi [x,y])) w):=
 ztJ lo hi _ 2 2 [x,y] w (zob w b x y hb h h1) dQ
theorem zlY (i:It) (lo hi:Int) (w:World):Calls prog 271 #[.agg #[.int .i64 i.k,.int .i64 i.f,.int .i64 i.t,.int .i64 i.s],.int .i64 lo,.int .i64 hi] w (Ret (.bool (zbx i lo hi)) w):=by
 go_enter func271,ntmps271
 go_wp2_with (first
  |(go_at_call 338;refine(zsM _ _).mono ?_;rintro e w' ⟨rfl,rfl⟩)
  |(go_at_call 339;(with_reducible refine(zvZ _ _ i.f _ _ ?_ ?_).mono ?_);(focus simp);(focus simp[go_sem]);rintro e w' ⟨rfl,rfl⟩)
  |(go_at_call 339;(with_reducible refine(zv0 _ _ i.f i.t _ _ ?_ ?_ ?_).mono ?_);(focus simp);(focus simp[go_sem]);(focus simp[go_sem]);rintro e w' ⟨rfl,rfl⟩))
 all_goals go_ret
 all_goals (refine⟨zap ?_,by exact zaI⟩
            ((try simp only[beq_iff_eq,wbE,bne_iff_ne,ne_eq,zbx,zvb,zgU,ofB,waM,decide_eq_false_iff_not,waN,wbF,Bool.not_eq_true',Bool.not_eq_false',Bool.and_eq_false_iff,Bool.or_eq_false_iff] at *)
             rw[waQ]
             (try simp only[zbx,zvb,zgU,ofB,waM,beq_iff_eq,bne_iff_ne,ne_eq,waN,wbF,Bool.not_eq_true',Bool.not_eq_false',wbE,decide_eq_false_iff_not,iff_true,true_iff,Bool.false_eq_true,false_iff,iff_false,reduceCtorEq])
             omega))
theorem zqu (k:Nat) (hk:k<5) (w:World):(Instr.index 352 (.agg #[.int .i64 0,.int .i64 59,.int .i64 0,.int .i64 23,.int .i64 1,.int .i64 31,.int .i64 1,.int .i64 12,.int .i64 0,.int .i64 7]) (.int .i64 k)).run prog w=.ok (.agg #[.int .i64 (cLo k),.int .i64 (cHi k)]) w:=by
 obtain rfl|rfl|rfl|rfl|rfl:k=0∨k=1∨k=2∨k=3∨k=4:=by omega
 ·exact(show _=Result.ok (Value.agg #[.int .i64 0,.int .i64 59]) w by kernel_rfl)
 ·exact(show _=Result.ok (Value.agg #[.int .i64 0,.int .i64 23]) w by kernel_rfl)
 ·exact(show _=Result.ok (Value.agg #[.int .i64 1,.int .i64 31]) w by kernel_rfl)
 ·exact(show _=Result.ok (Value.agg #[.int .i64 1,.int .i64 12]) w by kernel_rfl)
 ·exact(show _=Result.ok (Value.agg #[.int .i64 0,.int .i64 7]) w by kernel_rfl)
theorem zfG (k:Nat) (hk:k<5) (w:World):Calls prog 148 #[.int .i64 k] w (Ret (.tuple #[.int .i64 (cLo k),.int .i64 (cHi k)]) w):=by
 have hix:=zqu k hk;have h1:¬(k:Int)<0:=by omega
 have h2:¬(5:Int)≤k:=by omega
 generalize cLo k=lo at hix ⊢;generalize cHi k=hi at hix ⊢;go_enter func148,ntmps148;go_wp2
 go_quiet (fail)
 go_wp2
 go_ret2
 exact⟨rfl,by exact zaI⟩
theorem zuM (k:Nat) (hk:k<5) (A:Nat→Option Addr) (n c:Nat→Nat) (w:World):(Instr.index 260 (.agg #[.slice (A 0) (n 0) (c 0),.slice (A 1) (n 1) (c 1),.slice (A 2) (n 2) (c 2),.slice (A 3) (n 3) (c 3),.slice (A 4) (n 4) (c 4)]) (.int .i64 k)).run prog w=.ok (.slice (A k) (n k) (c k)) w:=by
 obtain rfl|rfl|rfl|rfl|rfl:k=0∨k=1∨k=2∨k=3∨k=4:=by omega
 all_goals kernel_rfl
theorem zhw (k:Nat) (hk:k<5) (b:Nat) (A:Nat→Option Addr) (n c:Nat→Nat) (w:World) (h:zbf w b 0 A n c):
 Calls prog 68 #[.pointer (some ⟨b,0,none⟩),.int .i64 k] w (znr (.slice (A k) (n k) (c k)) w):=by
 obtain⟨h0,h1,h2,h3,h4⟩:=h;simp only[waH] at h1 h2 h3 h4;have hix:=zuM k hk A n c;have q1:¬(k:Int)<0:=by omega
 have q2:¬(5:Int)≤k:=by omega
 go_enter func68,ntmps68;go_wp2
 go_quiet (fail)
 go_wp2;go_ret;exact⟨rfl,_,rfl⟩
theorem zoc (b b':Nat) (lo hi:Int) (w:World) (h0:w.cell? ⟨b,0,none⟩=some (.int .i64 lo)) (h1:w.cell? ⟨b',0,none⟩=some (.int .i64 hi)) (hb:b<w.heap.size) (hb':b'<w.heap.size):
 zml 331 #[.pointer (some ⟨b,0,none⟩),.pointer (some ⟨b',0,none⟩)] (fun i=>!zbx i lo hi) w:=by
 intro W x hB;have g0:W.cell? ⟨b,0,none⟩=some (.int .i64 lo):=(hB.cell (p:=⟨b,0,none⟩) hb).trans h0;have g1:W.cell? ⟨b',0,none⟩=some (.int .i64 hi):=(hB.cell (p:=⟨b',0,none⟩) hb').trans h1;have hb2:b<W.heap.size:=waD hb hB.size;have hb3:b'<W.heap.size:=waD hb' hB.size;clear h0 h1 hB;go_enter func331,ntmps331
 go_wp2_with (go_at_call 271;refine(zlY _ _ _ _).mono ?_;rintro e w1 ⟨rfl,hb1⟩)
 go_ret;exact⟨rfl,((waC _ W).alloc (waJ _) _).trans (hb1.mono (by simp))⟩
theorem zqv (A:Option Addr) (n c:Nat) (l:List It) (lo hi most:Int) (w:World) (hA:zcH w A n l) (hn:n≤9223372036854775807):
 Calls prog 260 #[.int .i64 lo,.int .i64 hi,.int .i64 most,.slice A n c] w (Ret (.bool (zd5 lo hi most l)) w):=by
 have HL:Hid (l.length=n):=hA.1
 by_cases hcase:0<n∧(n:Int)≤most
 ·have e:zd5 lo hi most l=!(l.any fun i=>!zbx i lo hi):=by
   rw[zd5,waP (by have:=HL.out;omega),Bool.true_and,List.all_eq_not_any_not]
  have h1:(0:Int)<n:=by omega
  have h2:(n:Int)≤most:=hcase.2;rw[e];generalize hq:(l.any fun i=>!zbx i lo hi)=q
  have HQ:=waV hq;clear hq e hcase;have HA:=waV hA;clear hA;have eg:∀args w,(callFunc 331 args).run prog w=.ok (.enter 331 args) w:=enters_of func331 kQ rfl;go_enter func260,ntmps260;go_wp2_with fail;refine(zdV A n c l _ _ (fun i=>!zbx i lo hi) _ ?_ oQ eg (zoc _ _ lo hi _ ?_ ?_ ?_ ?_)).mono ?_
  ·exact Rd.below HA.out (by exact zaI) (waJ _)
  ·simp[go_sem]
  ·simp[go_sem]
  ·(first|(simp;done)|(simp;omega))
  ·(first|(simp;done)|(simp;omega))
  rintro e w1 ⟨rfl,hb1⟩;rw[HQ.out];go_wp2;go_ret;exact⟨rfl,(((waC _ w).alloc (waJ _) _).alloc (by simp) _).trans (hb1.mono (by simp;omega))⟩
 ·have HR:Hid (zd5 lo hi most l=false):=zoS (by have:=HL.out;omega)
  by_cases h1:0<n
  ·have h1':(0:Int)<n:=by omega
   have h2:¬(n:Int)≤most:=by omega
   have h2':most<(n:Int):=by omega
   go_enter func260,ntmps260;go_wp2;go_ret;exact⟨zap HR.out.symm,by exact zaI⟩
  ·have h0:n=0:=by omega
   subst h0;go_enter func260,ntmps260;go_wp2;go_ret;exact⟨zap HR.out.symm,by exact zaI⟩
theorem zod (w:World):zml 304 #[] (fun i=>decide (i.k=3)) w:=by
 intro W x hB;go_enter func304,ntmps304;go_wp2;go_ret;exact⟨zap (by rw[waQ];simp),by exact zaI⟩
theorem zqw (k:Nat) (hk:k<5) (A:Option Addr) (n c:Nat) (l:List It) (w:World) (hA:zcH w A n l) (hn:n≤9223372036854775807):
 Calls prog 226 #[.int .i64 k,.slice A n c] w (Ret (.int .i64 (zaJ k l)) w):=by
 have HL:Hid (l.length=n):=hA.1;have HA:=waV hA;clear hA;have HB:=waV (zfG k hk w)
 by_cases h0:n=0
 ·subst h0;have HR:Hid (zaJ k l=11):=zns HL.out;go_enter func226,ntmps226;go_wp2_with fail;refine HB.out.mono ?_;rintro e w1 ⟨rfl,hb1⟩;go_wp2;go_ret;exact⟨zaW HR.out.symm,hb1⟩
 have h0':((n:Int)==0)=false:=by simp;omega
 by_cases h64:64<n
 ·have HR:Hid (zaJ k l=5):=zli (by have:=HL.out;omega)
  have h64':(64:Int)<(n:Int):=by omega
  go_enter func226,ntmps226;go_wp2_with fail;refine HB.out.mono ?_;rintro e w1 ⟨rfl,hb1⟩;go_wp2;go_ret;exact⟨zaW HR.out.symm,hb1⟩
 have h64':¬(64:Int)<(n:Int):=by omega
 have HF:=waV (fun w1 (hb1:Below w.heap.size w w1)=>zqv A n c l (cLo k) (cHi k) 64 w1 (HA.out.below hb1 (waJ _)) hn)
 cases hr:zd5 (cLo k) (cHi k) 64 l with
 |false=>
  have HR:Hid (zaJ k l=1):=zjR (by have:=HL.out;omega) (by have:=HL.out;omega) hr
  rw[hr] at HF;clear hr;go_enter func226,ntmps226;go_wp2_with fail;refine HB.out.mono ?_;rintro e w1 ⟨rfl,hb1⟩;go_wp2_with fail;refine(HF.out _ hb1).mono ?_;rintro e w2 ⟨rfl,hb2⟩;go_wp2;go_ret;exact⟨zaW HR.out.symm,zai hb1 hb2 hb1.size⟩
 |true=>
  have HR:Hid (zaJ k l=if l.any (fun i=>decide (i.k=3)) then 1 else 0):=zlj (by have:=HL.out;omega) (by have:=HL.out;omega) hr
  rw[hr] at HF;clear hr;have eg:∀args w,(callFunc 304 args).run prog w=.ok (.enter 304 args) w:=enters_of func304 kQ rfl;have HG:=waV (fun w1 (hb1:Below w.heap.size w w1)=>zdV A n c l 304 #[] _ w1 (HA.out.below hb1 (waJ _)) hn eg (zod w1))
  clear eg;cases hq:l.any (fun i=>decide (i.k=3)) with
  |true=>
   rw[hq] at HG HR;clear hq;go_enter func226,ntmps226;go_wp2_with fail;refine HB.out.mono ?_;rintro e w1 ⟨rfl,hb1⟩;go_wp2_with fail;refine(HF.out _ hb1).mono ?_;rintro e w2 ⟨rfl,hb2⟩;go_wp2_with fail;refine(HG.out _ (zai hb1 hb2 hb1.size)).mono ?_;rintro e w3 ⟨rfl,hb3⟩;go_wp2;go_ret;exact⟨zaW HR.out.symm,zai (zai hb1 hb2 hb1.size) hb3 (zai hb1 hb2 hb1.size).size⟩
  |false=>
   rw[hq] at HG HR;clear hq;go_enter func226,ntmps226;go_wp2_with fail;refine HB.out.mono ?_;rintro e w1 ⟨rfl,hb1⟩;go_wp2_with fail;refine(HF.out _ hb1).mono ?_;rintro e w2 ⟨rfl,hb2⟩;go_wp2_with fail;refine(HG.out _ (zai hb1 hb2 hb1.size)).mono ?_;rintro e w3 ⟨rfl,hb3⟩;go_wp2;go_ret;exact⟨zaW HR.out.symm,zai (zai hb1 hb2 hb1.size) hb3 (zai hb1 hb2 hb1.size).size⟩
theorem zhx (A:Nat→Option Addr) (n c:Nat→Nat) (l:Nat→List It) (w:World) (hA:zbp w A n l) (hn:∀k,n k≤9223372036854775807):
 Calls prog 132 #[crV A n c] w (Ret (.tuple #[.int .i64 (chk l).1,.int .i64 (chk l).2]) w):=by
 have HA:=waV hA;have HN:=waV hn;clear hA hn;go_enter func132,ntmps132;go_wp2
 go_loopw [6] (fun i wr=>∃k:Nat,k≤5∧i=.int .i64 k∧Hid (∀j,j<k→zaJ j (l j)=0)∧Hid (zbf wr w.heap.size 0 A n c)∧w.heap.size<wr.heap.size∧Below w.heap.size w wr) (fun i _=>5 - (intOf i).toNat)
 case atStart=>exact⟨0,by omega,rfl,fun j h=>absurd h (Nat.not_lt_zero _),⟨by simp[go_sem],by simp[go_sem],by simp[go_sem],by simp[go_sem],by simp[go_sem]⟩,by(first|(simp;done)|(simp;omega)),by exact zaI⟩
 case round=>
  obtain⟨k,hk,rfl,H,HC,hlt,hb⟩:=hrel;have hsz:=hb.size
  by_cases h5:k<5
  ·have h5':(k:Int)<5:=by omega
   have HL:=waV (zhw k h5 w.heap.size A n c wr HC.out);have HF:=waV (fun w1 (hb1:Below wr.heap.size wr w1)=>zqw k h5 (A k) (n k) (c k) (l k) w1 (((HA.out k h5).below hb (waJ _)).below hb1 (waJ _)) (HN.out k))
   by_cases hf:zaJ k (l k)=0
   ·have Hf:=waV hf;rw[hf] at HF;clear hf;go_wp2_with fail;refine HL.out.mono ?_;rintro e w1 ⟨rfl,q,rfl⟩;go_wp2_with fail;refine(HF.out _ (zas (waC _ _) q)).mono ?_;rintro e w1 ⟨rfl,hb1⟩;go_wp2;go_roundw
    case rel=>
     have hb2:Below wr.heap.size wr w1:=(zas (waC _ wr) q).trans hb1;exact⟨k+1,by omega,by go_num,zgV H.out Hf.out,zbf.below HC.out (fun o=>hb2.cell (p:=⟨_,o,none⟩) hlt),waD hlt hb2.size,zai hb hb2 hsz⟩
    case measure=>simp [intOf];omega
   ·have HK:Hid (chk l=((k:Int),zaJ k (l k))):=zvl h5 H.out hf;have hf':(zaJ k (l k) !=0)=true:=by simpa using hf
    clear hf;generalize zaJ k (l k)=q at HF HK hf';go_wp2_with fail;refine HL.out.mono ?_;rintro e w1 ⟨rfl,q,rfl⟩;go_wp2_with fail;refine(HF.out _ (zas (waC _ _) _)).mono ?_;rintro e w1 ⟨rfl,hb1⟩;go_wp2
    go_ret2
    have hb2:Below wr.heap.size wr w1:=(zas (waC _ wr) _).trans hb1;exact⟨by rw[HK.out];rfl,zai hb hb2 hsz⟩
  ·obtain rfl:k=5:=by omega
   have HK:Hid (chk l=(5,0)):=ziM H.out;go_wp2
   go_ret2
   exact⟨by rw[HK.out];rfl,hb⟩
end Go.Proofs.YtadefhkaejjfmaaGreatDoor
namespace Go.Proofs
open Go.Proofs.Tryz Go.Proofs.YtadefhkaejjfmaaGreatDoor
open Go.Shelf
def Tryz.lays156_ren:Go.Shelf.Ren:=⟨fun|156=>169|165=>267|166=>268|169=>269|240=>336|241=>337|276=>384|277=>385|n=>n,fun|31=>147|9=>9|3=>3|4=>4|0=>0|20=>20|72=>373|76=>377|70=>371|37=>359|75=>376|127=>438|164=>464|5=>5|80=>269|n=>n,fun|n=>n⟩
theorem Tryz.lays156:Go.Proofs.Lays.n156 prog Tryz.lays156_ren:={
 mixed:=by kernel_rfl
 f156:=func169.trans (congrArg some kQ)
 f165:=func267.trans (congrArg some kQ)
 f166:=func268.trans (congrArg some kQ)
 f169:=func269.trans (congrArg some kQ)
 f240:=func336.trans (congrArg some kQ)
 f241:=func337.trans (congrArg some kQ)
 f276:=func384.trans (congrArg some kQ)
 f277:=func385.trans (congrArg some kQ)
 t0:=underlying0
 a0:=Tryz.isAgg0
 z0:=Tryz.sizeOf0
 v0:=Tryz.zeroValue0
 t3:=underlying3
 a3:=Tryz.isAgg3
 z3:=Tryz.sizeOf3
 v3:=Tryz.zeroValue3
 t4:=underlying4
 a4:=Tryz.isAgg4
 z4:=Tryz.sizeOf4
 v4:=Tryz.zeroValue4
 t9:=underlying9
 a9:=Tryz.isAgg9
 z9:=Tryz.sizeOf9
 v9:=Tryz.zeroValue9
 t20:=underlying20
 a20:=Tryz.isAgg20
 z20:=Tryz.sizeOf20
 v20:=Tryz.zeroValue20
 t31:=underlying147
 a31:=Tryz.isAgg147
 z31:=Tryz.sizeOf147
 v31:=Tryz.zeroValue147
 t37:=underlying359
 a37:=Tryz.isAgg359
 z37:=Tryz.sizeOf359
 v37:=Tryz.zeroValue359
 t70:=underlying371
 a70:=Tryz.isAgg371
 z70:=Tryz.sizeOf371
 v70:=Tryz.zeroValue371
 t72:=underlying373
 a72:=Tryz.isAgg373
 z72:=Tryz.sizeOf373
 v72:=Tryz.zeroValue373
 t75:=underlying376
 a75:=Tryz.isAgg376
 z75:=Tryz.sizeOf376
 v75:=Tryz.zeroValue376
 t76:=underlying377
 a76:=Tryz.isAgg377
 z76:=Tryz.sizeOf377
 v76:=Tryz.zeroValue377
 t127:=underlying438
 a127:=Tryz.isAgg438
 z127:=Tryz.sizeOf438
 v127:=Tryz.zeroValue438
 t164:=underlying464
 a164:=Tryz.isAgg464
 z164:=Tryz.sizeOf464
 v164:=Tryz.zeroValue464}
theorem Tryz.Builder_Extra_156:Builder.Extra prog Tryz.lays156_ren:={
 sizeBuilder:=by kernel_rfl
 liesBuilder:=by kernel_rfl
 t5:=underlying5
 a5:=Tryz.isAgg5
 z5:=Tryz.sizeOf5
 v5:=Tryz.zeroValue5
 infoByte:=by kernel_rfl
 cellsByte:=by kernel_rfl
 sizeByte:=by kernel_rfl
 neB5:=by decide}
open Go.RowKit in
theorem Tryz.strings_Join_none (a:Option Addr) (c:Nat) (sep:ByteArray) (w:World):
 Calls prog 169 #[.slice a 0 c,.string sep] w fun e w'=>e=.returned (.string ⟨#[]⟩)∧w'=w:=Any.strings_Join_none Tryz.lays156 Tryz.Builder_Extra_156 a c sep w
open Go.RowKit in
theorem Tryz.strings_Join (bk o c:Nat) (xs:List ByteArray) (sep:ByteArray) (w:World) (hcells:∀(j:Nat) x,xs[j]?=some x→w.cell? ⟨bk,o+j,none⟩=some (.string x)) (hbk:bk<w.heap.size) (hN:xs.length≤140737488355328) (hcap:xs.length≤c) (hlen:(Lib.join (xs.map (·.data.toList)) sep.data.toList).length≤140737488355328):
 Calls prog 169 #[.slice (some ⟨bk,o,none⟩) xs.length c,.string sep] w fun e w'=>e=.returned (.string ⟨(Lib.join (xs.map (·.data.toList)) sep.data.toList).toArray⟩)∧Below w.heap.size w w':=Any.strings_Join Tryz.lays156 Tryz.Builder_Extra_156 bk o c xs sep w hcells hbk hN hcap hlen
def Tryz.lays129_ren:Go.Shelf.Ren:=⟨fun|129=>113|n=>n,fun|53=>39|3=>3|4=>4|46=>324|5=>5|9=>9|n=>n,fun|n=>n⟩
theorem Tryz.lays129:Go.Proofs.Lays.n129 prog Tryz.lays129_ren:={
 mixed:=by kernel_rfl
 f129:=func113.trans (congrArg some kQ)
 t3:=underlying3
 a3:=Tryz.isAgg3
 z3:=Tryz.sizeOf3
 v3:=Tryz.zeroValue3
 t4:=underlying4
 a4:=Tryz.isAgg4
 z4:=Tryz.sizeOf4
 v4:=Tryz.zeroValue4
 t5:=underlying5
 a5:=Tryz.isAgg5
 z5:=Tryz.sizeOf5
 v5:=Tryz.zeroValue5
 t9:=underlying9
 a9:=Tryz.isAgg9
 z9:=Tryz.sizeOf9
 v9:=Tryz.zeroValue9
 t46:=underlying324
 a46:=Tryz.isAgg324
 z46:=Tryz.sizeOf324
 v46:=Tryz.zeroValue324
 t53:=underlying39
 a53:=Tryz.isAgg39
 z53:=Tryz.sizeOf39
 v53:=Tryz.zeroValue39}
theorem Tryz.bits_Len64 (x:Int) (w:World) (h0:0≤x) (h1:x≤18446744073709551615):
 Calls prog 113 #[.int .u64 x] w fun e w'=>e=.returned (.int .i64 (Lib.bitLen x.toNat))∧w'=w:=Any.bits_Len64 Tryz.lays129 x w h0 h1
def Tryz.laysM171_ren:Go.Shelf.Ren:=⟨fun|171=>266|243=>335|246=>383|283=>412|284=>413|285=>414|286=>415|129=>113|317=>430|318=>431|319=>432|320=>433|337=>439|338=>209|n=>n,fun|3=>3|9=>9|2=>2|4=>4|171=>489|0=>0|53=>39|37=>359|5=>5|173=>491|212=>508|51=>475|20=>20|213=>509|46=>324|232=>523|233=>405|n=>n,fun|17=>3|18=>6|19=>0|n=>n⟩
theorem Tryz.laysM171:Go.Proofs.LaysM.n171 prog Tryz.laysM171_ren:={
 mixed:=by kernel_rfl
 f129:=func113.trans (congrArg some kQ)
 f171:=func266.trans (congrArg some kQ)
 f243:=func335.trans (congrArg some kQ)
 f246:=func383.trans (congrArg some kQ)
 f283:=func412.trans (congrArg some kQ)
 f284:=func413.trans (congrArg some kQ)
 f285:=func414.trans (congrArg some kQ)
 f286:=func415.trans (congrArg some kQ)
 f317:=func430.trans (congrArg some kQ)
 f318:=func431.trans (congrArg some kQ)
 f319:=func432.trans (congrArg some kQ)
 f320:=func433.trans (congrArg some kQ)
 f337:=func439.trans (congrArg some kQ)
 f338:=func209.trans (congrArg some kQ)
 t0:=underlying0
 a0:=Tryz.isAgg0
 z0:=Tryz.sizeOf0
 v0:=Tryz.zeroValue0
 t2:=underlying2
 a2:=Tryz.isAgg2
 z2:=Tryz.sizeOf2
 v2:=Tryz.zeroValue2
 t3:=underlying3
 a3:=Tryz.isAgg3
 z3:=Tryz.sizeOf3
 v3:=Tryz.zeroValue3
 t4:=underlying4
 a4:=Tryz.isAgg4
 z4:=Tryz.sizeOf4
 v4:=Tryz.zeroValue4
 t5:=underlying5
 a5:=Tryz.isAgg5
 z5:=Tryz.sizeOf5
 v5:=Tryz.zeroValue5
 t9:=underlying9
 a9:=Tryz.isAgg9
 z9:=Tryz.sizeOf9
 v9:=Tryz.zeroValue9
 t20:=underlying20
 a20:=Tryz.isAgg20
 z20:=Tryz.sizeOf20
 v20:=Tryz.zeroValue20
 t37:=underlying359
 a37:=Tryz.isAgg359
 z37:=Tryz.sizeOf359
 v37:=Tryz.zeroValue359
 t46:=underlying324
 a46:=Tryz.isAgg324
 z46:=Tryz.sizeOf324
 v46:=Tryz.zeroValue324
 t51:=underlying475
 a51:=Tryz.isAgg475
 z51:=Tryz.sizeOf475
 v51:=Tryz.zeroValue475
 t53:=underlying39
 a53:=Tryz.isAgg39
 z53:=Tryz.sizeOf39
 v53:=Tryz.zeroValue39
 t171:=underlying489
 a171:=Tryz.isAgg489
 z171:=Tryz.sizeOf489
 v171:=Tryz.zeroValue489
 t173:=underlying491
 a173:=Tryz.isAgg491
 z173:=Tryz.sizeOf491
 v173:=Tryz.zeroValue491
 t212:=underlying508
 a212:=Tryz.isAgg508
 z212:=Tryz.sizeOf508
 v212:=Tryz.zeroValue508
 t213:=underlying509
 a213:=Tryz.isAgg509
 z213:=Tryz.sizeOf509
 t232:=underlying523
 a232:=Tryz.isAgg523
 z232:=Tryz.sizeOf523
 v232:=Tryz.zeroValue523
 t233:=underlying405
 a233:=Tryz.isAgg405
 z233:=Tryz.sizeOf405
 v233:=Tryz.zeroValue405
 g17:=by kernel_rfl
 g18:=by kernel_rfl
 g19:=by kernel_rfl
 i0:=by kernel_rfl
 i2:=by kernel_rfl
 i3:=by kernel_rfl
 i4:=by kernel_rfl
 i5:=by kernel_rfl
 i9:=by kernel_rfl
 i20:=by kernel_rfl
 i37:=by kernel_rfl
 i46:=by kernel_rfl
 i51:=by kernel_rfl
 i53:=by kernel_rfl
 i171:=by kernel_rfl
 i173:=by kernel_rfl
 i212:=by kernel_rfl
 i232:=by kernel_rfl
 i233:=by kernel_rfl
 m17:=by kernel_rfl
 m18:=by kernel_rfl
 m19:=by kernel_rfl}
open Go.RowKit Go.Sort Go.Lib in
theorem Tryz.strconv_Itoa (n:Int) (h0:-9223372036854775808≤n) (h1:n≤9223372036854775807) (w:World) (htab:Lib.TabIs prog w "internal/strconv.uint64pow10" .u64 Lib.pow10Tab):
 Calls prog 266 #[.int .i64 n] w fun e w'=>e=.returned (.string ⟨(Lib.itoa n).toArray⟩)∧∃k os,w'=grow (w.drewN k) os:=Any.strconv_Itoa Tryz.laysM171 n h0 h1 w htab
def Tryz.lays189_ren:Go.Shelf.Ren:=⟨fun|189=>273|125=>341|257=>340|128=>395|129=>113|294=>386|295=>387|296=>388|297=>389|298=>390|299=>391|216=>392|300=>393|301=>394|328=>416|329=>417|330=>418|331=>419|332=>420|215=>421|343=>434|n=>n,fun|28=>49|3=>3|46=>324|0=>0|51=>475|53=>39|4=>4|183=>469|182=>468|131=>104|5=>5|9=>9|218=>493|222=>497|228=>510|229=>157|n=>n,fun|n=>n⟩
theorem Tryz.lays189:Go.Proofs.Lays.n189 prog Tryz.lays189_ren:={
 mixed:=by kernel_rfl
 f125:=func341.trans (congrArg some kQ)
 f128:=func395.trans (congrArg some kQ)
 f129:=func113.trans (congrArg some kQ)
 f189:=func273.trans (congrArg some kQ)
 f215:=func421.trans (congrArg some kQ)
 f216:=func392.trans (congrArg some kQ)
 f257:=func340.trans (congrArg some kQ)
 f294:=func386.trans (congrArg some kQ)
 f295:=func387.trans (congrArg some kQ)
 f296:=func388.trans (congrArg some kQ)
 f297:=func389.trans (congrArg some kQ)
 f298:=func390.trans (congrArg some kQ)
 f299:=func391.trans (congrArg some kQ)
 f300:=func393.trans (congrArg some kQ)
 f301:=func394.trans (congrArg some kQ)
 f328:=func416.trans (congrArg some kQ)
 f329:=func417.trans (congrArg some kQ)
 f330:=func418.trans (congrArg some kQ)
 f331:=func419.trans (congrArg some kQ)
 f332:=func420.trans (congrArg some kQ)
 f343:=func434.trans (congrArg some kQ)
 t0:=underlying0
 a0:=Tryz.isAgg0
 z0:=Tryz.sizeOf0
 v0:=Tryz.zeroValue0
 t3:=underlying3
 a3:=Tryz.isAgg3
 z3:=Tryz.sizeOf3
 v3:=Tryz.zeroValue3
 t4:=underlying4
 a4:=Tryz.isAgg4
 z4:=Tryz.sizeOf4
 v4:=Tryz.zeroValue4
 t5:=underlying5
 a5:=Tryz.isAgg5
 z5:=Tryz.sizeOf5
 v5:=Tryz.zeroValue5
 t9:=underlying9
 a9:=Tryz.isAgg9
 z9:=Tryz.sizeOf9
 v9:=Tryz.zeroValue9
 t28:=underlying49
 a28:=Tryz.isAgg49
 z28:=Tryz.sizeOf49
 v28:=Tryz.zeroValue49
 t46:=underlying324
 a46:=Tryz.isAgg324
 z46:=Tryz.sizeOf324
 v46:=Tryz.zeroValue324
 t51:=underlying475
 a51:=Tryz.isAgg475
 z51:=Tryz.sizeOf475
 v51:=Tryz.zeroValue475
 t53:=underlying39
 a53:=Tryz.isAgg39
 z53:=Tryz.sizeOf39
 v53:=Tryz.zeroValue39
 t131:=underlying104
 a131:=Tryz.isAgg104
 z131:=Tryz.sizeOf104
 v131:=Tryz.zeroValue104
 t182:=underlying468
 a182:=Tryz.isAgg468
 z182:=Tryz.sizeOf468
 v182:=Tryz.zeroValue468
 t183:=underlying469
 a183:=Tryz.isAgg469
 z183:=Tryz.sizeOf469
 v183:=Tryz.zeroValue469
 t218:=underlying493
 a218:=Tryz.isAgg493
 z218:=Tryz.sizeOf493
 v218:=Tryz.zeroValue493
 t222:=underlying497
 a222:=Tryz.isAgg497
 z222:=Tryz.sizeOf497
 v222:=Tryz.zeroValue497
 t228:=underlying510
 a228:=Tryz.isAgg510
 z228:=Tryz.sizeOf510
 v228:=Tryz.zeroValue510
 t229:=underlying157
 a229:=Tryz.isAgg157
 z229:=Tryz.sizeOf157
 v229:=Tryz.zeroValue157}
open Go.Sort Go.RowKit in
theorem Tryz.slices_Sort_int (blk off cap:Nat) (zs:List Int) (w:World) (hH:Holds (Value.int .i64) w blk off zs.toArray) (hblk:blk<w.heap.size) (hsz:zs.length<4611686018427387904):
 Calls prog 273 #[.slice (some ⟨blk,off,none⟩) zs.length cap] w fun e w'=>
  e=.returned (.tuple #[])∧∃n os,w'=grow (putRow (Value.int .i64) (Sort.ahead w n) blk off (zs.mergeSort fun x y=>decide (x≤y)).toArray) os:=Any.slices_Sort_int Tryz.lays189 blk off cap zs w hH hblk hsz
def Tryz.lays274_ren:Go.Shelf.Ren:=⟨fun|274=>437|n=>n,fun|21=>21|162=>503|160=>516|3=>3|4=>4|46=>324|0=>0|208=>522|51=>475|206=>520|n=>n,fun|n=>n⟩
theorem Tryz.lays274:Go.Proofs.Lays.n274 prog Tryz.lays274_ren:={
 mixed:=by kernel_rfl
 f274:=func437.trans (congrArg some kQ)
 t0:=underlying0
 a0:=Tryz.isAgg0
 z0:=Tryz.sizeOf0
 v0:=Tryz.zeroValue0
 t3:=underlying3
 a3:=Tryz.isAgg3
 z3:=Tryz.sizeOf3
 v3:=Tryz.zeroValue3
 t4:=underlying4
 a4:=Tryz.isAgg4
 z4:=Tryz.sizeOf4
 v4:=Tryz.zeroValue4
 t21:=underlying21
 a21:=Tryz.isAgg21
 z21:=Tryz.sizeOf21
 v21:=Tryz.zeroValue21
 t46:=underlying324
 a46:=Tryz.isAgg324
 z46:=Tryz.sizeOf324
 v46:=Tryz.zeroValue324
 t51:=underlying475
 a51:=Tryz.isAgg475
 z51:=Tryz.sizeOf475
 v51:=Tryz.zeroValue475
 t160:=underlying516
 a160:=Tryz.isAgg516
 z160:=Tryz.sizeOf516
 v160:=Tryz.zeroValue516
 t162:=underlying503
 a162:=Tryz.isAgg503
 z162:=Tryz.sizeOf503
 v162:=Tryz.zeroValue503
 t208:=underlying522
 a208:=Tryz.isAgg522
 z208:=Tryz.sizeOf522
 v208:=Tryz.zeroValue522}
def Tryz.laysNm220_ren:Go.Shelf.Ren:=⟨fun|20=>274|n=>n,fun|22=>49|3=>3|4=>4|0=>0|n=>n,fun|n=>n⟩
theorem Tryz.laysNm220:Go.Proofs.Lays2.n20 prog Tryz.laysNm220_ren:={
 mixed:=by kernel_rfl
 f20:=func274.trans (congrArg some kQ)
 t0:=underlying0
 a0:=Tryz.isAgg0
 z0:=Tryz.sizeOf0
 v0:=Tryz.zeroValue0
 t3:=underlying3
 a3:=Tryz.isAgg3
 z3:=Tryz.sizeOf3
 v3:=Tryz.zeroValue3
 t4:=underlying4
 a4:=Tryz.isAgg4
 z4:=Tryz.sizeOf4
 v4:=Tryz.zeroValue4
 t22:=underlying49
 a22:=Tryz.isAgg49
 z22:=Tryz.sizeOf49
 v22:=Tryz.zeroValue49
 i3:=by kernel_rfl}
open Go.RowKit Go.Lib Go.Sort in
theorem Tryz.slices_Compact_int (blk off cap:Nat) (zs:List Int) (w:World) (hH:Holds (Value.int .i64) w blk off zs.toArray) (hsz:zs.length≤9223372036854775807) (hcap:zs.length≤cap):
 Calls prog 274 #[.slice (some ⟨blk,off,none⟩) zs.length cap] w fun e w'=>e=.returned (.slice (some ⟨blk,off,none⟩) (Lib.compact zs).length cap)∧∃q,w'=putRow (Value.int .i64) (Sort.ahead w q) blk off (Lib.compact zs++List.replicate (zs.length - (Lib.compact zs).length) 0).toArray:=Any.slices_Compact_int Tryz.laysNm220 blk off cap zs w hH hsz hcap
open Go.RowKit Go.Lib Go.Sort in
theorem Tryz.slices_Compact_int_empty (a:Option Addr) (cap:Nat) (w:World):
 Calls prog 274 #[.slice a 0 cap] w fun e w'=>e=.returned (.slice a 0 cap)∧w'=w:=Any.slices_Compact_int_empty Tryz.laysNm220 a cap w
open Go.RowKit Go.Sort in
theorem Tryz.slices_Sort_int_none (p:Option Addr) (cap:Nat) (w:World):
 Calls prog 273 #[.slice p 0 cap] w fun e w'=>e=.returned (.tuple #[])∧w'=w:=Any.slices_Sort_int_none Tryz.lays189 p cap w
end Go.Proofs
