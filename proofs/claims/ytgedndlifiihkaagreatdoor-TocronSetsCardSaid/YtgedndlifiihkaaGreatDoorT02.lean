/- A part of the proof: WRef12 WLine WCron Shelf WValues Open WRefVal -/
import Derived.Test.YtgedndlifiihkaaGreatDoorT00
import Derived.Shelf.Strings.Builder1
import Derived.Shelf.Strings.Builder2
import Derived.Shelf.Strings.OnBuilder
import Derived.Shelf.Small.Utf8
import Derived.Shelf.Small.Bits
import Derived.Shelf.Small.Wraps
import Derived.Shelf.Strings.BuilderF
import Derived.Shelf.Strings.BuilderK
import Derived.Shelf.Strings.BuilderRune
import Derived.Shelf.Utf8.AppendRune
import Derived.Shelf.Utf8.AppendRunePlain
import Derived.Shelf.Strings.Builder2Cap
import Derived.Shelf.Strconv.Itoa0
import Derived.Shelf.Strconv.Itoa1
import Derived.Shelf.LaysM
import Derived.Shelf.Strconv.Itoa2
import Derived.Shelf.Strconv.Itoa3
import Derived.Shelf.Sort.Plain
import Derived.Shelf.Unicode.Latin
import Derived.Shelf.Unicode.Decode
import Derived.Shelf.Unicode.DecodeSlow
import Derived.Shelf.Unicode.DecodeAny
import Derived.Shelf.Unicode.CaseLookup
import Derived.Shelf.Unicode.CaseConvert
import Derived.Shelf.Unicode.CaseTo
import Derived.Shelf.Unicode.CaseLaid
import Derived.Shelf.Strings.MapAny
import Derived.Shelf.Strings.CaseAny
import Derived.Shelf.Strings.BuilderCap
import Derived.Shelf.Strings.MapGrows
import Derived.Shelf.Slices.Turned
import Derived.Ground.Names2Prog
import Derived.Shelf.Slices.CompactI
import Derived.Shelf.Slices.SearchI
import Derived.Shelf.Slices.Cells
import Derived.Shelf.Slices.In.SortNone
import Derived.Test.YtgedndlifiihkaaGreatDoorProg
import Derived.ProofKit
import Derived.OpenShut
import Derived.ShutString
import Derived.ChangeOld
import Derived.Below
import Derived.Deep.Slices
import Derived.Deep.Fields
import Derived.Test.YtgedndlifiihkaaGreatDoorT01
set_option maxHeartbeats 80000000
set_option maxRecDepth 100000
set_option linter.unusedSimpArgs false
set_option linter.unusedVariables false
namespace Go.Proofs.YtgedndlifiihkaaGreatDoor
open Go.Proofs.Tryz
open Go.RowKit
def zbb (w:World) (b o:Nat) (A:Nat→Option Addr) (n c:Nat→Nat):Prop:=
 w.cell? ⟨b,o,none⟩=some (.slice (A 0) (n 0) (c 0))∧w.cell? ⟨b,o+1,none⟩=some (.slice (A 1) (n 1) (c 1))∧w.cell? ⟨b,o+2,none⟩=some (.slice (A 2) (n 2) (c 2))∧
 w.cell? ⟨b,o+3,none⟩=some (.slice (A 3) (n 3) (c 3))∧w.cell? ⟨b,o+4,none⟩=some (.slice (A 4) (n 4) (c 4))
abbrev crV (A:Nat→Option Addr) (n c:Nat→Nat):Value:=.agg #[.slice (A 0) (n 0) (c 0),.slice (A 1) (n 1) (c 1),.slice (A 2) (n 2) (c 2),.slice (A 3) (n 3) (c 3),.slice (A 4) (n 4) (c 4)]
def zcm (w:World) (A:Nat→Option Addr) (n:Nat→Nat) (l:Nat→List It):Prop:=∀k,k<5→zcK w (A k) (n k) (l k)
theorem zcm.below {w w':World} {A:Nat→Option Addr} {n:Nat→Nat} {l:Nat→List It} {B:Nat} (h:zcm w A n l) (hb:Below B w w') (hB:w.heap.size≤B):zcm w' A n l:=fun k hk=>(h k hk).below hb hB
theorem zbb.below {w w':World} {b o:Nat} {A:Nat→Option Addr} {n c:Nat→Nat} (h:zbb w b o A n c) (hb:∀o,w'.cell? ⟨b,o,none⟩=w.cell? ⟨b,o,none⟩):zbb w' b o A n c:=
 ⟨(hb _).trans h.1,(hb _).trans h.2.1,(hb _).trans h.2.2.1,(hb _).trans h.2.2.2.1,(hb _).trans h.2.2.2.2⟩
theorem zoZ {n:Int} (h:1≤n):zgM n=decide (n≤999):=by simp[zgM,h]
theorem zjQ {n:Int} (h:n<1):zgM n=false:=by simp[zgM];omega
theorem zrs (n:Int) (w:World):Calls prog 198 #[.int .i64 n] w (zbO (.bool (zgM n)) w):=by
 go_enter func198,ntmps198;go_wp2
 all_goals go_ret
 ·exact⟨zaf (zoZ (by assumption)).symm,rfl⟩
 ·exact⟨zaf (zjQ (by assumption)).symm,rfl⟩
theorem ztp (lo hi:Int) (A:Option Addr) (n c:Nat) (l:List Int) (w:World) (h:zaU w A n l) (hn:n≤9223372036854775807):
 Calls prog 199 #[.int .i64 lo,.int .i64 hi,.slice A n c] w (zbO (.bool (ofB lo hi l)) w):=by
 have HL:Hid (l.length=n):=h.1;go_enter func199,ntmps199;go_wp2
 go_loop [11] (fun i=>∃k:Nat,k≤n∧i=.int .i64 k∧Hid (OfP lo hi l k)) (fun i=>n - (intOf i).toNat)
 case atStart=>exact⟨0,waK _,rfl,OfP.zero _ _ _⟩
 case round=>
  obtain⟨k,hk,rfl,H⟩:=hrel
  by_cases hlt:k<n
  ·obtain⟨b,o,x,rfl,_,hx,c0⟩:=zaU.at_ h hlt
   have hlt':(k:Int)<(n:Int):=by omega
   have Hx:=waV hx;clear hx;rcases Nat.eq_zero_or_pos k with rfl|hpos
   ·rw[Nat.add_zero] at c0;go_wp2
    all_goals first
     |(go_ret;exact⟨zaf (zk7 Hx.out oQ).symm,rfl⟩)
     |(go_round
       case rel=>exact⟨0+1,by omega,by go_num,OfP.one Hx.out oQ⟩
       case measure=>simp [intOf];omega)
   ·obtain⟨k,rfl⟩:∃j,k=j+1:=⟨k - 1,by omega⟩
    obtain⟨b',o',y,e,_,hy,c1⟩:=zaU.at_ h (i:=k) oQ
    cases e;have Hy:=waV hy;clear hy;go_wp2
    all_goals first
     |(go_ret;exact⟨zaf (zvs Hx.out Hy.out oQ).symm,rfl⟩)
     |(go_round
       case rel=>exact⟨k+1+1,by omega,by go_num,OfP.succ H.out Hx.out Hy.out oQ⟩
       case measure=>simp [intOf];omega)
  ·obtain rfl:k=n:=by omega
   go_wp2;go_ret;exact⟨zaf (OfP.all (HL.out▸H.out)).symm,rfl⟩
theorem zfU (w:World) (b:Nat) (x:Int) (hb:b<w.heap.size) (h:w.cell? ⟨b,0,none⟩=some (.int .i64 x)):zaU w (some ⟨b,0,none⟩) 1 [x]:=
 ⟨rfl,fun _=>⟨b,0,rfl,hb,fun i y hi j v hj=>by
  rcases i with _|i
  ·obtain rfl:x=y:=by simpa using hi
   rcases j with _|j
   ·obtain rfl:Value.int .i64 x=v:=by simpa[zd5] using hj
    simpa using h
   ·simp[zd5] at hj
  ·simp at hi⟩⟩
theorem znq (w:World) (b:Nat) (x y:Int) (hb:b<w.heap.size) (h:w.cell? ⟨b,0,none⟩=some (.int .i64 x)) (h1:w.cell? ⟨b,1,none⟩=some (.int .i64 y)):zaU w (some ⟨b,0,none⟩) 2 [x,y]:=
 ⟨rfl,fun _=>⟨b,0,rfl,hb,fun i z hi j v hj=>by
  rcases j with _|j
  ·obtain rfl:Value.int .i64 z=v:=by simpa[zd5] using hj
   rcases i with _|_|i
   ·obtain rfl:x=z:=by simpa using hi
    simpa using h
   ·obtain rfl:y=z:=by simpa using hi
    simpa using h1
   ·simp at hi
  ·simp[zd5] at hj⟩⟩
theorem zvx (lo hi x:Int) (b:Nat) (w:World) (hb:b<w.heap.size) (h:w.cell? ⟨b,0,none⟩=some (.int .i64 x)):
 Calls prog 199 #[.int .i64 lo,.int .i64 hi,.slice (some ⟨b,0,none⟩) 1 1] w (zbO (.bool (ofB lo hi [x])) w):=
 ztp lo hi _ 1 1 [x] w (zfU w b x hb h) dQ
theorem zvy (lo hi x y:Int) (b:Nat) (w:World) (hb:b<w.heap.size) (h:w.cell? ⟨b,0,none⟩=some (.int .i64 x)) (h1:w.cell? ⟨b,1,none⟩=some (.int .i64 y)):
 Calls prog 199 #[.int .i64 lo,.int .i64 hi,.slice (some ⟨b,0,none⟩) 2 2] w (zbO (.bool (ofB lo hi [x,y])) w):=
 ztp lo hi _ 2 2 [x,y] w (znq w b x y hb h h1) dQ
theorem zld (i:It) (lo hi:Int) (w:World):Calls prog 139 #[.agg #[.int .i64 i.k,.int .i64 i.f,.int .i64 i.t,.int .i64 i.s],.int .i64 lo,.int .i64 hi] w (Ret (.bool (zbJ i lo hi)) w):=by
 go_enter func139,ntmps139
 go_wp2_with (first
  |(go_at_call 198;refine(zrs _ _).mono ?_;rintro e w' ⟨rfl,rfl⟩)
  |(go_at_call 199;(with_reducible refine(zvx _ _ i.f _ _ ?_ ?_).mono ?_);(focus simp);(focus simp[go_sem]);rintro e w' ⟨rfl,rfl⟩)
  |(go_at_call 199;(with_reducible refine(zvy _ _ i.f i.t _ _ ?_ ?_ ?_).mono ?_);(focus simp);(focus simp[go_sem]);(focus simp[go_sem]);rintro e w' ⟨rfl,rfl⟩))
 all_goals go_ret
 all_goals (refine⟨zaf ?_,by exact zaI⟩
            ((try simp only[beq_iff_eq,wbE,bne_iff_ne,ne_eq,zbJ,zvk,zgM,ofB,waM,decide_eq_false_iff_not,waN,wbF,Bool.not_eq_true',Bool.not_eq_false',Bool.and_eq_false_iff,Bool.or_eq_false_iff] at *)
             rw[waQ]
             (try simp only[zbJ,zvk,zgM,ofB,waM,beq_iff_eq,bne_iff_ne,ne_eq,waN,wbF,Bool.not_eq_true',Bool.not_eq_false',wbE,decide_eq_false_iff_not,iff_true,true_iff,Bool.false_eq_true,false_iff,iff_false,reduceCtorEq])
             omega))
theorem zo0 (k:Nat) (hk:k<5) (w:World):(Instr.index 138 (.agg #[.int .i64 0,.int .i64 59,.int .i64 0,.int .i64 23,.int .i64 1,.int .i64 31,.int .i64 1,.int .i64 12,.int .i64 0,.int .i64 7]) (.int .i64 k)).run prog w=.ok (.agg #[.int .i64 (cLo k),.int .i64 (cHi k)]) w:=by
 obtain rfl|rfl|rfl|rfl|rfl:k=0∨k=1∨k=2∨k=3∨k=4:=by omega
 ·exact(show _=Result.ok (Value.agg #[.int .i64 0,.int .i64 59]) w by kernel_rfl)
 ·exact(show _=Result.ok (Value.agg #[.int .i64 0,.int .i64 23]) w by kernel_rfl)
 ·exact(show _=Result.ok (Value.agg #[.int .i64 1,.int .i64 31]) w by kernel_rfl)
 ·exact(show _=Result.ok (Value.agg #[.int .i64 1,.int .i64 12]) w by kernel_rfl)
 ·exact(show _=Result.ok (Value.agg #[.int .i64 0,.int .i64 7]) w by kernel_rfl)
theorem zfh (k:Nat) (hk:k<5) (w:World):Calls prog 32 #[.int .i64 k] w (Ret (.tuple #[.int .i64 (cLo k),.int .i64 (cHi k)]) w):=by
 have hix:=zo0 k hk;have h1:¬(k:Int)<0:=by omega
 have h2:¬(5:Int)≤k:=by omega
 generalize cLo k=lo at hix ⊢;generalize cHi k=hi at hix ⊢;go_enter func32,ntmps32;go_wp2
 go_quiet (fail)
 go_wp2
 go_ret2
 exact⟨rfl,by exact zaI⟩
theorem ztZ (k:Nat) (hk:k<5) (A:Nat→Option Addr) (n c:Nat→Nat) (w:World):(Instr.index 146 (.agg #[.slice (A 0) (n 0) (c 0),.slice (A 1) (n 1) (c 1),.slice (A 2) (n 2) (c 2),.slice (A 3) (n 3) (c 3),.slice (A 4) (n 4) (c 4)]) (.int .i64 k)).run prog w=.ok (.slice (A k) (n k) (c k)) w:=by
 obtain rfl|rfl|rfl|rfl|rfl:k=0∨k=1∨k=2∨k=3∨k=4:=by omega
 all_goals kernel_rfl
theorem zgP (k:Nat) (hk:k<5) (b:Nat) (A:Nat→Option Addr) (n c:Nat→Nat) (w:World) (h:zbb w b 0 A n c):
 Calls prog 45 #[.pointer (some ⟨b,0,none⟩),.int .i64 k] w (zoI (.slice (A k) (n k) (c k)) w):=by
 obtain⟨h0,h1,h2,h3,h4⟩:=h;simp only[waH] at h1 h2 h3 h4;have hix:=ztZ k hk A n c;have q1:¬(k:Int)<0:=by omega
 have q2:¬(5:Int)≤k:=by omega
 go_enter func45,ntmps45;go_wp2
 go_quiet (fail)
 go_wp2;go_ret;exact⟨rfl,_,rfl⟩
theorem znr (b b':Nat) (lo hi:Int) (w:World) (h0:w.cell? ⟨b,0,none⟩=some (.int .i64 lo)) (h1:w.cell? ⟨b',0,none⟩=some (.int .i64 hi)) (hb:b<w.heap.size) (hb':b'<w.heap.size):
 zme 144 #[.pointer (some ⟨b,0,none⟩),.pointer (some ⟨b',0,none⟩)] (fun i=>!zbJ i lo hi) w:=by
 intro W x hB;have g0:W.cell? ⟨b,0,none⟩=some (.int .i64 lo):=(hB.cell (p:=⟨b,0,none⟩) hb).trans h0;have g1:W.cell? ⟨b',0,none⟩=some (.int .i64 hi):=(hB.cell (p:=⟨b',0,none⟩) hb').trans h1;have hb2:b<W.heap.size:=waD hb hB.size;have hb3:b'<W.heap.size:=waD hb' hB.size;clear h0 h1 hB;go_enter func144,ntmps144
 go_wp2_with (go_at_call 139;refine(zld _ _ _ _).mono ?_;rintro e w1 ⟨rfl,hb1⟩)
 go_ret;exact⟨rfl,((waC _ W).alloc (waJ _) _).trans (hb1.mono (by simp))⟩
theorem zo1 (A:Option Addr) (n c:Nat) (l:List It) (lo hi most:Int) (w:World) (hA:zcK w A n l) (hn:n≤9223372036854775807):
 Calls prog 84 #[.int .i64 lo,.int .i64 hi,.int .i64 most,.slice A n c] w (Ret (.bool (zd6 lo hi most l)) w):=by
 have HL:Hid (l.length=n):=hA.1
 by_cases hcase:0<n∧(n:Int)≤most
 ·have e:zd6 lo hi most l=!(l.any fun i=>!zbJ i lo hi):=by
   rw[zd6,waP (by have:=HL.out;omega),Bool.true_and,List.all_eq_not_any_not]
  have h1:(0:Int)<n:=by omega
  have h2:(n:Int)≤most:=hcase.2;rw[e];generalize hq:(l.any fun i=>!zbJ i lo hi)=q
  have HQ:=waV hq;clear hq e hcase;have HA:=waV hA;clear hA;have eg:∀args w,(callFunc 144 args).run prog w=.ok (.enter 144 args) w:=enters_of func144 kQ rfl;go_enter func84,ntmps84;go_wp2_with fail;refine(zdV A n c l _ _ (fun i=>!zbJ i lo hi) _ ?_ oQ eg (znr _ _ lo hi _ ?_ ?_ ?_ ?_)).mono ?_
  ·exact Rd.below HA.out (by exact zaI) (waJ _)
  ·simp[go_sem]
  ·simp[go_sem]
  ·(first|(simp;done)|(simp;omega))
  ·(first|(simp;done)|(simp;omega))
  rintro e w1 ⟨rfl,hb1⟩;rw[HQ.out];go_wp2;go_ret;exact⟨rfl,(((waC _ w).alloc (waJ _) _).alloc (by simp) _).trans (hb1.mono (by simp;omega))⟩
 ·have HR:Hid (zd6 lo hi most l=false):=zoJ (by have:=HL.out;omega)
  by_cases h1:0<n
  ·have h1':(0:Int)<n:=by omega
   have h2:¬(n:Int)≤most:=by omega
   have h2':most<(n:Int):=by omega
   go_enter func84,ntmps84;go_wp2;go_ret;exact⟨zaf HR.out.symm,by exact zaI⟩
  ·have h0:n=0:=by omega
   subst h0;go_enter func84,ntmps84;go_wp2;go_ret;exact⟨zaf HR.out.symm,by exact zaI⟩
theorem zns (w:World):zme 86 #[] (fun i=>decide (i.k=3)) w:=by
 intro W x hB;go_enter func86,ntmps86;go_wp2;go_ret;exact⟨zaf (by rw[waQ];simp),by exact zaI⟩
theorem zo2 (k:Nat) (hk:k<5) (A:Option Addr) (n c:Nat) (l:List It) (w:World) (hA:zcK w A n l) (hn:n≤9223372036854775807):
 Calls prog 44 #[.int .i64 k,.slice A n c] w (Ret (.int .i64 (zaM k l)) w):=by
 have HL:Hid (l.length=n):=hA.1;have HA:=waV hA;clear hA;have HB:=waV (zfh k hk w)
 by_cases h0:n=0
 ·subst h0;have HR:Hid (zaM k l=11):=znl HL.out;go_enter func44,ntmps44;go_wp2_with fail;refine HB.out.mono ?_;rintro e w1 ⟨rfl,hb1⟩;go_wp2;go_ret;exact⟨zaR HR.out.symm,hb1⟩
 have h0':((n:Int)==0)=false:=by simp;omega
 by_cases h64:64<n
 ·have HR:Hid (zaM k l=5):=zk8 (by have:=HL.out;omega)
  have h64':(64:Int)<(n:Int):=by omega
  go_enter func44,ntmps44;go_wp2_with fail;refine HB.out.mono ?_;rintro e w1 ⟨rfl,hb1⟩;go_wp2;go_ret;exact⟨zaR HR.out.symm,hb1⟩
 have h64':¬(64:Int)<(n:Int):=by omega
 have HF:=waV (fun w1 (hb1:Below w.heap.size w w1)=>zo1 A n c l (cLo k) (cHi k) 64 w1 (HA.out.below hb1 (waJ _)) hn)
 cases hr:zd6 (cLo k) (cHi k) 64 l with
 |false=>
  have HR:Hid (zaM k l=1):=zjN (by have:=HL.out;omega) (by have:=HL.out;omega) hr
  rw[hr] at HF;clear hr;go_enter func44,ntmps44;go_wp2_with fail;refine HB.out.mono ?_;rintro e w1 ⟨rfl,hb1⟩;go_wp2_with fail;refine(HF.out _ hb1).mono ?_;rintro e w2 ⟨rfl,hb2⟩;go_wp2;go_ret;exact⟨zaR HR.out.symm,zak hb1 hb2 hb1.size⟩
 |true=>
  have HR:Hid (zaM k l=if l.any (fun i=>decide (i.k=3)) then 1 else 0):=zk9 (by have:=HL.out;omega) (by have:=HL.out;omega) hr
  rw[hr] at HF;clear hr;have eg:∀args w,(callFunc 86 args).run prog w=.ok (.enter 86 args) w:=enters_of func86 kQ rfl;have HG:=waV (fun w1 (hb1:Below w.heap.size w w1)=>zdV A n c l 86 #[] _ w1 (HA.out.below hb1 (waJ _)) hn eg (zns w1))
  clear eg;cases hq:l.any (fun i=>decide (i.k=3)) with
  |true=>
   rw[hq] at HG HR;clear hq;go_enter func44,ntmps44;go_wp2_with fail;refine HB.out.mono ?_;rintro e w1 ⟨rfl,hb1⟩;go_wp2_with fail;refine(HF.out _ hb1).mono ?_;rintro e w2 ⟨rfl,hb2⟩;go_wp2_with fail;refine(HG.out _ (zak hb1 hb2 hb1.size)).mono ?_;rintro e w3 ⟨rfl,hb3⟩;go_wp2;go_ret;exact⟨zaR HR.out.symm,zak (zak hb1 hb2 hb1.size) hb3 (zak hb1 hb2 hb1.size).size⟩
  |false=>
   rw[hq] at HG HR;clear hq;go_enter func44,ntmps44;go_wp2_with fail;refine HB.out.mono ?_;rintro e w1 ⟨rfl,hb1⟩;go_wp2_with fail;refine(HF.out _ hb1).mono ?_;rintro e w2 ⟨rfl,hb2⟩;go_wp2_with fail;refine(HG.out _ (zak hb1 hb2 hb1.size)).mono ?_;rintro e w3 ⟨rfl,hb3⟩;go_wp2;go_ret;exact⟨zaR HR.out.symm,zak (zak hb1 hb2 hb1.size) hb3 (zak hb1 hb2 hb1.size).size⟩
theorem zgQ (A:Nat→Option Addr) (n c:Nat→Nat) (l:Nat→List It) (w:World) (hA:zcm w A n l) (hn:∀k,n k≤9223372036854775807):
 Calls prog 17 #[crV A n c] w (Ret (.tuple #[.int .i64 (chk l).1,.int .i64 (chk l).2]) w):=by
 have HA:=waV hA;have HN:=waV hn;clear hA hn;go_enter func17,ntmps17;go_wp2
 go_loopw [6] (fun i wr=>∃k:Nat,k≤5∧i=.int .i64 k∧Hid (∀j,j<k→zaM j (l j)=0)∧Hid (zbb wr w.heap.size 0 A n c)∧w.heap.size<wr.heap.size∧Below w.heap.size w wr) (fun i _=>5 - (intOf i).toNat)
 case atStart=>exact⟨0,by omega,rfl,fun j h=>absurd h (Nat.not_lt_zero _),⟨by simp[go_sem],by simp[go_sem],by simp[go_sem],by simp[go_sem],by simp[go_sem]⟩,by(first|(simp;done)|(simp;omega)),by exact zaI⟩
 case round=>
  obtain⟨k,hk,rfl,H,HC,hlt,hb⟩:=hrel;have hsz:=hb.size
  by_cases h5:k<5
  ·have h5':(k:Int)<5:=by omega
   have HL:=waV (zgP k h5 w.heap.size A n c wr HC.out);have HF:=waV (fun w1 (hb1:Below wr.heap.size wr w1)=>zo2 k h5 (A k) (n k) (c k) (l k) w1 (((HA.out k h5).below hb (waJ _)).below hb1 (waJ _)) (HN.out k))
   by_cases hf:zaM k (l k)=0
   ·have Hf:=waV hf;rw[hf] at HF;clear hf;go_wp2_with fail;refine HL.out.mono ?_;rintro e w1 ⟨rfl,q,rfl⟩;go_wp2_with fail;refine(HF.out _ (zax (waC _ _) q)).mono ?_;rintro e w1 ⟨rfl,hb1⟩;go_wp2;go_roundw
    case rel=>
     have hb2:Below wr.heap.size wr w1:=(zax (waC _ wr) q).trans hb1;exact⟨k+1,by omega,by go_num,zjO H.out Hf.out,zbb.below HC.out (fun o=>hb2.cell (p:=⟨_,o,none⟩) hlt),waD hlt hb2.size,zak hb hb2 hsz⟩
    case measure=>simp [intOf];omega
   ·have HK:Hid (chk l=((k:Int),zaM k (l k))):=zvt h5 H.out hf;have hf':(zaM k (l k) !=0)=true:=by simpa using hf
    clear hf;generalize zaM k (l k)=q at HF HK hf';go_wp2_with fail;refine HL.out.mono ?_;rintro e w1 ⟨rfl,q,rfl⟩;go_wp2_with fail;refine(HF.out _ (zax (waC _ _) _)).mono ?_;rintro e w1 ⟨rfl,hb1⟩;go_wp2
    go_ret2
    have hb2:Below wr.heap.size wr w1:=(zax (waC _ wr) _).trans hb1;exact⟨by rw[HK.out];rfl,zak hb hb2 hsz⟩
  ·obtain rfl:k=5:=by omega
   have HK:Hid (chk l=(5,0)):=ziI H.out;go_wp2
   go_ret2
   exact⟨by rw[HK.out];rfl,hb⟩
end Go.Proofs.YtgedndlifiihkaaGreatDoor
namespace Go.Proofs
open Go.Proofs.Tryz Go.Proofs.YtgedndlifiihkaaGreatDoor
open Go.Shelf
def Tryz.lays156_ren:Go.Shelf.Ren:=⟨fun|156=>111|165=>168|166=>169|169=>170|240=>212|241=>213|276=>244|277=>245|n=>n,fun|31=>112|9=>9|3=>3|4=>4|0=>0|20=>20|72=>251|76=>255|70=>249|37=>242|75=>254|127=>300|164=>330|5=>5|80=>248|n=>n,fun|n=>n⟩
theorem Tryz.lays156:Go.Proofs.Lays.n156 prog Tryz.lays156_ren:={
 mixed:=by kernel_rfl
 f156:=func111.trans (congrArg some kQ)
 f165:=func168.trans (congrArg some kQ)
 f166:=func169.trans (congrArg some kQ)
 f169:=func170.trans (congrArg some kQ)
 f240:=func212.trans (congrArg some kQ)
 f241:=func213.trans (congrArg some kQ)
 f276:=func244.trans (congrArg some kQ)
 f277:=func245.trans (congrArg some kQ)
 t0:=underlying0
 a0:=Tryz.isAgg0
 z0:=Tryz.sizeOf0
 v0:=Tryz.zeroValue0
 t3:=underlying3
 a3:=Tryz.isAgg3
 z3:=Tryz.sizeOf3
 v3:=Tryz.zeroValue3
 t4:=underlying4
 a4:=Tryz.isAgg4
 z4:=Tryz.sizeOf4
 v4:=Tryz.zeroValue4
 t9:=underlying9
 a9:=Tryz.isAgg9
 z9:=Tryz.sizeOf9
 v9:=Tryz.zeroValue9
 t20:=underlying20
 a20:=Tryz.isAgg20
 z20:=Tryz.sizeOf20
 v20:=Tryz.zeroValue20
 t31:=underlying112
 a31:=Tryz.isAgg112
 z31:=Tryz.sizeOf112
 v31:=Tryz.zeroValue112
 t37:=underlying242
 a37:=Tryz.isAgg242
 z37:=Tryz.sizeOf242
 v37:=Tryz.zeroValue242
 t70:=underlying249
 a70:=Tryz.isAgg249
 z70:=Tryz.sizeOf249
 v70:=Tryz.zeroValue249
 t72:=underlying251
 a72:=Tryz.isAgg251
 z72:=Tryz.sizeOf251
 v72:=Tryz.zeroValue251
 t75:=underlying254
 a75:=Tryz.isAgg254
 z75:=Tryz.sizeOf254
 v75:=Tryz.zeroValue254
 t76:=underlying255
 a76:=Tryz.isAgg255
 z76:=Tryz.sizeOf255
 v76:=Tryz.zeroValue255
 t127:=underlying300
 a127:=Tryz.isAgg300
 z127:=Tryz.sizeOf300
 v127:=Tryz.zeroValue300
 t164:=underlying330
 a164:=Tryz.isAgg330
 z164:=Tryz.sizeOf330
 v164:=Tryz.zeroValue330}
theorem Tryz.Builder_Extra_156:Builder.Extra prog Tryz.lays156_ren:={
 sizeBuilder:=by kernel_rfl
 liesBuilder:=by kernel_rfl
 t5:=underlying5
 a5:=Tryz.isAgg5
 z5:=Tryz.sizeOf5
 v5:=Tryz.zeroValue5
 infoByte:=by kernel_rfl
 cellsByte:=by kernel_rfl
 sizeByte:=by kernel_rfl
 neB5:=by decide}
open Go.RowKit in
theorem Tryz.strings_Join_none (a:Option Addr) (c:Nat) (sep:ByteArray) (w:World):
 Calls prog 111 #[.slice a 0 c,.string sep] w fun e w'=>e=.returned (.string ⟨#[]⟩)∧w'=w:=Any.strings_Join_none Tryz.lays156 Tryz.Builder_Extra_156 a c sep w
open Go.RowKit in
theorem Tryz.strings_Join (bk o c:Nat) (xs:List ByteArray) (sep:ByteArray) (w:World) (hcells:∀(j:Nat) x,xs[j]?=some x→w.cell? ⟨bk,o+j,none⟩=some (.string x)) (hbk:bk<w.heap.size) (hN:xs.length≤140737488355328) (hcap:xs.length≤c) (hlen:(Lib.join (xs.map (·.data.toList)) sep.data.toList).length≤140737488355328):
 Calls prog 111 #[.slice (some ⟨bk,o,none⟩) xs.length c,.string sep] w fun e w'=>e=.returned (.string ⟨(Lib.join (xs.map (·.data.toList)) sep.data.toList).toArray⟩)∧Below w.heap.size w w':=Any.strings_Join Tryz.lays156 Tryz.Builder_Extra_156 bk o c xs sep w hcells hbk hN hcap hlen
def Tryz.lays129_ren:Go.Shelf.Ren:=⟨fun|129=>127|n=>n,fun|53=>33|3=>3|4=>4|46=>271|5=>5|9=>9|n=>n,fun|n=>n⟩
theorem Tryz.lays129:Go.Proofs.Lays.n129 prog Tryz.lays129_ren:={
 mixed:=by kernel_rfl
 f129:=func127.trans (congrArg some kQ)
 t3:=underlying3
 a3:=Tryz.isAgg3
 z3:=Tryz.sizeOf3
 v3:=Tryz.zeroValue3
 t4:=underlying4
 a4:=Tryz.isAgg4
 z4:=Tryz.sizeOf4
 v4:=Tryz.zeroValue4
 t5:=underlying5
 a5:=Tryz.isAgg5
 z5:=Tryz.sizeOf5
 v5:=Tryz.zeroValue5
 t9:=underlying9
 a9:=Tryz.isAgg9
 z9:=Tryz.sizeOf9
 v9:=Tryz.zeroValue9
 t46:=underlying271
 a46:=Tryz.isAgg271
 z46:=Tryz.sizeOf271
 v46:=Tryz.zeroValue271
 t53:=underlying33
 a53:=Tryz.isAgg33
 z53:=Tryz.sizeOf33
 v53:=Tryz.zeroValue33}
theorem Tryz.bits_Len64 (x:Int) (w:World) (h0:0≤x) (h1:x≤18446744073709551615):
 Calls prog 127 #[.int .u64 x] w fun e w'=>e=.returned (.int .i64 (Lib.bitLen x.toNat))∧w'=w:=Any.bits_Len64 Tryz.lays129 x w h0 h1
def Tryz.laysM171_ren:Go.Shelf.Ren:=⟨fun|171=>167|243=>211|246=>243|283=>262|284=>263|285=>264|286=>265|129=>127|317=>272|318=>273|319=>274|320=>275|337=>277|338=>183|n=>n,fun|3=>3|9=>9|2=>2|4=>4|171=>346|0=>0|53=>33|37=>242|5=>5|173=>348|212=>363|51=>323|20=>20|213=>364|46=>271|232=>369|233=>310|n=>n,fun|17=>5|18=>6|19=>0|n=>n⟩
theorem Tryz.laysM171:Go.Proofs.LaysM.n171 prog Tryz.laysM171_ren:={
 mixed:=by kernel_rfl
 f129:=func127.trans (congrArg some kQ)
 f171:=func167.trans (congrArg some kQ)
 f243:=func211.trans (congrArg some kQ)
 f246:=func243.trans (congrArg some kQ)
 f283:=func262.trans (congrArg some kQ)
 f284:=func263.trans (congrArg some kQ)
 f285:=func264.trans (congrArg some kQ)
 f286:=func265.trans (congrArg some kQ)
 f317:=func272.trans (congrArg some kQ)
 f318:=func273.trans (congrArg some kQ)
 f319:=func274.trans (congrArg some kQ)
 f320:=func275.trans (congrArg some kQ)
 f337:=func277.trans (congrArg some kQ)
 f338:=func183.trans (congrArg some kQ)
 t0:=underlying0
 a0:=Tryz.isAgg0
 z0:=Tryz.sizeOf0
 v0:=Tryz.zeroValue0
 t2:=underlying2
 a2:=Tryz.isAgg2
 z2:=Tryz.sizeOf2
 v2:=Tryz.zeroValue2
 t3:=underlying3
 a3:=Tryz.isAgg3
 z3:=Tryz.sizeOf3
 v3:=Tryz.zeroValue3
 t4:=underlying4
 a4:=Tryz.isAgg4
 z4:=Tryz.sizeOf4
 v4:=Tryz.zeroValue4
 t5:=underlying5
 a5:=Tryz.isAgg5
 z5:=Tryz.sizeOf5
 v5:=Tryz.zeroValue5
 t9:=underlying9
 a9:=Tryz.isAgg9
 z9:=Tryz.sizeOf9
 v9:=Tryz.zeroValue9
 t20:=underlying20
 a20:=Tryz.isAgg20
 z20:=Tryz.sizeOf20
 v20:=Tryz.zeroValue20
 t37:=underlying242
 a37:=Tryz.isAgg242
 z37:=Tryz.sizeOf242
 v37:=Tryz.zeroValue242
 t46:=underlying271
 a46:=Tryz.isAgg271
 z46:=Tryz.sizeOf271
 v46:=Tryz.zeroValue271
 t51:=underlying323
 a51:=Tryz.isAgg323
 z51:=Tryz.sizeOf323
 v51:=Tryz.zeroValue323
 t53:=underlying33
 a53:=Tryz.isAgg33
 z53:=Tryz.sizeOf33
 v53:=Tryz.zeroValue33
 t171:=underlying346
 a171:=Tryz.isAgg346
 z171:=Tryz.sizeOf346
 v171:=Tryz.zeroValue346
 t173:=underlying348
 a173:=Tryz.isAgg348
 z173:=Tryz.sizeOf348
 v173:=Tryz.zeroValue348
 t212:=underlying363
 a212:=Tryz.isAgg363
 z212:=Tryz.sizeOf363
 v212:=Tryz.zeroValue363
 t213:=underlying364
 a213:=Tryz.isAgg364
 z213:=Tryz.sizeOf364
 t232:=underlying369
 a232:=Tryz.isAgg369
 z232:=Tryz.sizeOf369
 v232:=Tryz.zeroValue369
 t233:=underlying310
 a233:=Tryz.isAgg310
 z233:=Tryz.sizeOf310
 v233:=Tryz.zeroValue310
 g17:=by kernel_rfl
 g18:=by kernel_rfl
 g19:=by kernel_rfl
 i0:=by kernel_rfl
 i2:=by kernel_rfl
 i3:=by kernel_rfl
 i4:=by kernel_rfl
 i5:=by kernel_rfl
 i9:=by kernel_rfl
 i20:=by kernel_rfl
 i37:=by kernel_rfl
 i46:=by kernel_rfl
 i51:=by kernel_rfl
 i53:=by kernel_rfl
 i171:=by kernel_rfl
 i173:=by kernel_rfl
 i212:=by kernel_rfl
 i232:=by kernel_rfl
 i233:=by kernel_rfl
 m17:=by kernel_rfl
 m18:=by kernel_rfl
 m19:=by kernel_rfl}
open Go.RowKit Go.Sort Go.Lib in
theorem Tryz.strconv_Itoa (n:Int) (h0:-9223372036854775808≤n) (h1:n≤9223372036854775807) (w:World) (htab:Lib.TabIs prog w "internal/strconv.uint64pow10" .u64 Lib.pow10Tab):
 Calls prog 167 #[.int .i64 n] w fun e w'=>e=.returned (.string ⟨(Lib.itoa n).toArray⟩)∧∃k os,w'=grow (w.drewN k) os:=Any.strconv_Itoa Tryz.laysM171 n h0 h1 w htab
def Tryz.lays189_ren:Go.Shelf.Ren:=⟨fun|189=>141|125=>201|257=>200|128=>237|129=>127|294=>228|295=>229|296=>230|297=>231|298=>232|299=>233|216=>234|300=>235|301=>236|328=>253|329=>254|330=>255|331=>256|332=>257|215=>258|343=>268|n=>n,fun|28=>35|3=>3|46=>271|0=>0|51=>323|53=>33|4=>4|183=>316|182=>315|131=>127|5=>5|9=>9|218=>336|222=>340|228=>352|229=>74|n=>n,fun|n=>n⟩
theorem Tryz.lays189:Go.Proofs.Lays.n189 prog Tryz.lays189_ren:={
 mixed:=by kernel_rfl
 f125:=func201.trans (congrArg some kQ)
 f128:=func237.trans (congrArg some kQ)
 f129:=func127.trans (congrArg some kQ)
 f189:=func141.trans (congrArg some kQ)
 f215:=func258.trans (congrArg some kQ)
 f216:=func234.trans (congrArg some kQ)
 f257:=func200.trans (congrArg some kQ)
 f294:=func228.trans (congrArg some kQ)
 f295:=func229.trans (congrArg some kQ)
 f296:=func230.trans (congrArg some kQ)
 f297:=func231.trans (congrArg some kQ)
 f298:=func232.trans (congrArg some kQ)
 f299:=func233.trans (congrArg some kQ)
 f300:=func235.trans (congrArg some kQ)
 f301:=func236.trans (congrArg some kQ)
 f328:=func253.trans (congrArg some kQ)
 f329:=func254.trans (congrArg some kQ)
 f330:=func255.trans (congrArg some kQ)
 f331:=func256.trans (congrArg some kQ)
 f332:=func257.trans (congrArg some kQ)
 f343:=func268.trans (congrArg some kQ)
 t0:=underlying0
 a0:=Tryz.isAgg0
 z0:=Tryz.sizeOf0
 v0:=Tryz.zeroValue0
 t3:=underlying3
 a3:=Tryz.isAgg3
 z3:=Tryz.sizeOf3
 v3:=Tryz.zeroValue3
 t4:=underlying4
 a4:=Tryz.isAgg4
 z4:=Tryz.sizeOf4
 v4:=Tryz.zeroValue4
 t5:=underlying5
 a5:=Tryz.isAgg5
 z5:=Tryz.sizeOf5
 v5:=Tryz.zeroValue5
 t9:=underlying9
 a9:=Tryz.isAgg9
 z9:=Tryz.sizeOf9
 v9:=Tryz.zeroValue9
 t28:=underlying35
 a28:=Tryz.isAgg35
 z28:=Tryz.sizeOf35
 v28:=Tryz.zeroValue35
 t46:=underlying271
 a46:=Tryz.isAgg271
 z46:=Tryz.sizeOf271
 v46:=Tryz.zeroValue271
 t51:=underlying323
 a51:=Tryz.isAgg323
 z51:=Tryz.sizeOf323
 v51:=Tryz.zeroValue323
 t53:=underlying33
 a53:=Tryz.isAgg33
 z53:=Tryz.sizeOf33
 v53:=Tryz.zeroValue33
 t131:=underlying127
 a131:=Tryz.isAgg127
 z131:=Tryz.sizeOf127
 v131:=Tryz.zeroValue127
 t182:=underlying315
 a182:=Tryz.isAgg315
 z182:=Tryz.sizeOf315
 v182:=Tryz.zeroValue315
 t183:=underlying316
 a183:=Tryz.isAgg316
 z183:=Tryz.sizeOf316
 v183:=Tryz.zeroValue316
 t218:=underlying336
 a218:=Tryz.isAgg336
 z218:=Tryz.sizeOf336
 v218:=Tryz.zeroValue336
 t222:=underlying340
 a222:=Tryz.isAgg340
 z222:=Tryz.sizeOf340
 v222:=Tryz.zeroValue340
 t228:=underlying352
 a228:=Tryz.isAgg352
 z228:=Tryz.sizeOf352
 v228:=Tryz.zeroValue352
 t229:=underlying74
 a229:=Tryz.isAgg74
 z229:=Tryz.sizeOf74
 v229:=Tryz.zeroValue74}
open Go.Sort Go.RowKit in
theorem Tryz.slices_Sort_int (blk off cap:Nat) (zs:List Int) (w:World) (hH:Holds (Value.int .i64) w blk off zs.toArray) (hblk:blk<w.heap.size) (hsz:zs.length<4611686018427387904):
 Calls prog 141 #[.slice (some ⟨blk,off,none⟩) zs.length cap] w fun e w'=>
  e=.returned (.tuple #[])∧∃n os,w'=grow (putRow (Value.int .i64) (Sort.ahead w n) blk off (zs.mergeSort fun x y=>decide (x≤y)).toArray) os:=Any.slices_Sort_int Tryz.lays189 blk off cap zs w hH hblk hsz
def Tryz.lays274_ren:Go.Shelf.Ren:=⟨fun|274=>270|n=>n,fun|21=>21|162=>345|160=>358|3=>3|4=>4|46=>271|0=>0|208=>368|51=>323|206=>366|n=>n,fun|n=>n⟩
theorem Tryz.lays274:Go.Proofs.Lays.n274 prog Tryz.lays274_ren:={
 mixed:=by kernel_rfl
 f274:=func270.trans (congrArg some kQ)
 t0:=underlying0
 a0:=Tryz.isAgg0
 z0:=Tryz.sizeOf0
 v0:=Tryz.zeroValue0
 t3:=underlying3
 a3:=Tryz.isAgg3
 z3:=Tryz.sizeOf3
 v3:=Tryz.zeroValue3
 t4:=underlying4
 a4:=Tryz.isAgg4
 z4:=Tryz.sizeOf4
 v4:=Tryz.zeroValue4
 t21:=underlying21
 a21:=Tryz.isAgg21
 z21:=Tryz.sizeOf21
 v21:=Tryz.zeroValue21
 t46:=underlying271
 a46:=Tryz.isAgg271
 z46:=Tryz.sizeOf271
 v46:=Tryz.zeroValue271
 t51:=underlying323
 a51:=Tryz.isAgg323
 z51:=Tryz.sizeOf323
 v51:=Tryz.zeroValue323
 t160:=underlying358
 a160:=Tryz.isAgg358
 z160:=Tryz.sizeOf358
 v160:=Tryz.zeroValue358
 t162:=underlying345
 a162:=Tryz.isAgg345
 z162:=Tryz.sizeOf345
 v162:=Tryz.zeroValue345
 t208:=underlying368
 a208:=Tryz.isAgg368
 z208:=Tryz.sizeOf368
 v208:=Tryz.zeroValue368}
def Tryz.laysNm220_ren:Go.Shelf.Ren:=⟨fun|20=>142|n=>n,fun|22=>35|3=>3|4=>4|0=>0|n=>n,fun|n=>n⟩
theorem Tryz.laysNm220:Go.Proofs.Lays2.n20 prog Tryz.laysNm220_ren:={
 mixed:=by kernel_rfl
 f20:=func142.trans (congrArg some kQ)
 t0:=underlying0
 a0:=Tryz.isAgg0
 z0:=Tryz.sizeOf0
 v0:=Tryz.zeroValue0
 t3:=underlying3
 a3:=Tryz.isAgg3
 z3:=Tryz.sizeOf3
 v3:=Tryz.zeroValue3
 t4:=underlying4
 a4:=Tryz.isAgg4
 z4:=Tryz.sizeOf4
 v4:=Tryz.zeroValue4
 t22:=underlying35
 a22:=Tryz.isAgg35
 z22:=Tryz.sizeOf35
 v22:=Tryz.zeroValue35
 i3:=by kernel_rfl}
open Go.RowKit Go.Lib Go.Sort in
theorem Tryz.slices_Compact_int (blk off cap:Nat) (zs:List Int) (w:World) (hH:Holds (Value.int .i64) w blk off zs.toArray) (hsz:zs.length≤9223372036854775807) (hcap:zs.length≤cap):
 Calls prog 142 #[.slice (some ⟨blk,off,none⟩) zs.length cap] w fun e w'=>e=.returned (.slice (some ⟨blk,off,none⟩) (Lib.compact zs).length cap)∧∃q,w'=putRow (Value.int .i64) (Sort.ahead w q) blk off (Lib.compact zs++List.replicate (zs.length - (Lib.compact zs).length) 0).toArray:=Any.slices_Compact_int Tryz.laysNm220 blk off cap zs w hH hsz hcap
open Go.RowKit Go.Lib Go.Sort in
theorem Tryz.slices_Compact_int_empty (a:Option Addr) (cap:Nat) (w:World):
 Calls prog 142 #[.slice a 0 cap] w fun e w'=>e=.returned (.slice a 0 cap)∧w'=w:=Any.slices_Compact_int_empty Tryz.laysNm220 a cap w
open Go.RowKit Go.Sort in
theorem Tryz.slices_Sort_int_none (p:Option Addr) (cap:Nat) (w:World):
 Calls prog 141 #[.slice p 0 cap] w fun e w'=>e=.returned (.tuple #[])∧w'=w:=Any.slices_Sort_int_none Tryz.lays189 p cap w
end Go.Proofs
namespace Go.Proofs.YtgedndlifiihkaaGreatDoor
open Go.Proofs.Tryz
open Go.RowKit
def bF (i:It) (lo:Int):Int:=if i.k=0 then lo else i.f
def bT (i:It) (hi:Int):Int:=if i.k=1 then i.f else if i.k=2 then i.t else hi
def bS (i:It):Int:=if i.k=1 then 1 else i.s
theorem zle (i:It) (lo hi:Int) (w:World):Calls prog 140 #[.agg #[.int .i64 i.k,.int .i64 i.f,.int .i64 i.t,.int .i64 i.s],.int .i64 lo,.int .i64 hi] w (Ret (.tuple #[.int .i64 (bF i lo),.int .i64 (bT i hi),.int .i64 (bS i)]) w):=by
 by_cases h0:i.k=0
 ·have h0':(i.k==0)=true:=by simpa using h0
  have e1:bF i lo=lo:=if_pos h0;have e2:bT i hi=hi:=by simp[bT,h0]
  have e3:bS i=i.s:=by simp[bS,h0]
  rw[e1,e2,e3];clear h0 e1 e2 e3;go_enter func140,ntmps140;go_wp2
  go_quiet (fail)
  go_wp2
  go_ret3
  exact⟨rfl,by exact zaI⟩
 have h0':(i.k==0)=false:=by simpa using h0
 have e1:bF i lo=i.f:=if_neg h0
 by_cases h1:i.k=1
 ·have h1':(i.k==1)=true:=by simpa using h1
  have e2:bT i hi=i.f:=if_pos h1;have e3:bS i=1:=if_pos h1;rw[e1,e2,e3];clear h0 h1 e1 e2 e3;go_enter func140,ntmps140;go_wp2
  go_quiet (fail)
  go_wp2
  go_ret3
  exact⟨rfl,by exact zaI⟩
 have h1':(i.k==1)=false:=by simpa using h1
 have e3:bS i=i.s:=if_neg h1
 by_cases h2:i.k=2
 ·have h2':(i.k==2)=true:=by simpa using h2
  have e2:bT i hi=i.t:=by simp[bT,h2]
  rw[e1,e2,e3];clear h0 h1 h2 e1 e2 e3;go_enter func140,ntmps140;go_wp2
  go_quiet (fail)
  go_wp2
  go_ret3
  exact⟨rfl,by exact zaI⟩
 ·have h2':(i.k==2)=false:=by simpa using h2
  have e2:bT i hi=hi:=by simp[bT,h1,h2]
  rw[e1,e2,e3];clear h0 h1 h2 e1 e2 e3;go_enter func140,ntmps140;go_wp2
  go_quiet (fail)
  go_wp2
  go_ret3
  exact⟨rfl,by exact zaI⟩
theorem zo3 {i:It} {lo hi:Int} (h:zbJ i lo hi=true):0≤bF i lo∧bF i lo≤bT i hi∧bT i hi≤9999∧1≤bS i∧bS i≤999:=by
 simp only[zbJ,zvk,waM] at h;unfold bF bT bS;split<;>split<;>(try split)<;>omega
def itL (i:It) (lo hi:Int):List Int:=(List.range ((bT i hi - bF i lo) / bS i+1).toNat).map fun(k:Nat)=>bF i lo+(k:Int) * bS i
def zeS (lo hi:Int) (l:List It):List Int:=l.flatMap fun i=>if zbJ i lo hi then itL i lo hi else []
theorem zo4 {i:It} {lo hi:Int} (h:zbJ i lo hi=true):(itL i lo hi).length≤10000:=by
 have hb:=zo3 h;simp only[itL,List.length_map,List.length_range];have:(bT i hi - bF i lo) / bS i≤bT i hi - bF i lo:=Int.ediv_le_self _ oQ;omega
theorem ziR (lo hi:Int) (l:List It):(zeS lo hi l).length≤l.length * 10000:=by
 induction l with
 |nil=>simp [zeS]
 |cons i l ih=>
  simp only[zeS,List.flatMap_cons,waF,waG] at ih ⊢;have:(if zbJ i lo hi=true then itL i lo hi else []).length≤10000:=by
   split
   ·exact zo4 (by assumption)
   ·simp
  omega
theorem zjR (lo hi:Int) (l:List It) (i:It):zeS lo hi (l++[i])=zeS lo hi l++(if zbJ i lo hi then itL i lo hi else []):=by simp[zeS]
def ztq (lo hi:Int) (l:List It):List Int:=Lib.compact ((zeS lo hi l).mergeSort fun x y=>decide (x≤y))
theorem zeX {B n:Nat} {w0 w w':World} {v:Value} {t:TypeId} {k:Nat} {xs:List Value} (h:w.ownsRow B t k v n xs) (hb:Below B w0 w) (hB:B≤w.heap.size) (hg:w.grownBy w' v.ownBlock):Below B w0 w':=by
 refine hb.grown hg hB ?_;intro b hb';rcases zbq h with ⟨h1,_⟩|⟨g,cap,h1,h2,h3⟩
 ·rw[h1] at hb';simp[Value.ownBlock] at hb'
 ·rw[h1] at hb';simp[Value.ownBlock] at hb';subst hb';exact h2
theorem zeY (l:List Int):(Lib.compact l).length≤l.length:=Lib.compact_length_le l
theorem zfi (l:List Int):(l.mergeSort fun x y=>decide (x≤y)).length=l.length:=List.length_mergeSort ..
theorem ziS {w:World} {B g cap q:Nat} {l:List Int} (h:zbl w B (.slice (some ⟨g,0,none⟩) l.length cap) l):
 zbl (Go.Sort.putRow (Value.int .i64) (Sort.ahead w q) g 0 (Lib.compact l++List.replicate (l.length - (Lib.compact l).length) 0).toArray) B (.slice (some ⟨g,0,none⟩) (Lib.compact l).length cap) (Lib.compact l):=by
 have h1:=Lib.ownsRow_putRow (enc:=Value.int .i64) (q:=q) (k:=(Lib.compact l).length) (ys:=Lib.compact l++List.replicate (l.length - (Lib.compact l).length) 0) h (by have:=zeY l;simp;omega) (zeY l)
 rw[List.take_left' rfl] at h1;exact h1
theorem znt {w:World} {B g cap q:Nat} {os:Array Obj} {l:List Int} (h:zbl w B (.slice (some ⟨g,0,none⟩) l.length cap) l):
 zbl (Go.Sort.grow (Go.Sort.putRow (Value.int .i64) (Sort.ahead w q) g 0 (l.mergeSort fun x y=>decide (x≤y)).toArray) os) B (.slice (some ⟨g,0,none⟩) (l.mergeSort fun x y=>decide (x≤y)).length cap) (l.mergeSort fun x y=>decide (x≤y)):=by
 rcases h.2 with ⟨h0,_⟩|⟨g',cap',cur,hv,hg,hb,hn,hcap,hs,ht⟩
 ·cases h0
 cases hv;have h2:=ownsRow_sortedI (n:=q) (os:=os) (zfi l) hg hb hn hcap hs;rw[←zfi] at h2;exact h2
theorem znu (lo hi:Int) (A:Option Addr) (n c:Nat) (l:List It) (w:World) (hA:zcK w A n l) (hn:n≤100000):
 Calls prog 79 #[.int .i64 lo,.int .i64 hi,.slice A n c] w (ztl (ztq lo hi l) w):=by
 have HL:Hid (l.length=n):=hA.1;obtain⟨i0,hi0,hz0,hz1,hz2⟩:=info_parts ziJ;have HA:=waV hA;clear hA;go_enter func79,ntmps79;go_wp2
 go_loopw [7,16] (fun v i wr=>∃(vo:Value) (k:Nat),vo=v∧k≤n∧i=.int .i64 k∧Hid (zbl wr w.heap.size vo (zeS lo hi (l.take k)))∧Below w.heap.size w wr) (fun _ i _=>n - (intOf i).toNat)
 case atStart=>exact⟨_,0,rfl,waK _,rfl,World.ownsRow_nil _ _ _ _,waC _ _⟩
 case round=>
  obtain⟨vo,k,rfl,hk,rfl,HO,hb⟩:=hrel;have hsz:=hb.size
  by_cases hlt:k<n
  ·obtain⟨b,o,it,rfl,hbl,hx,c0,c1,c2,c3⟩:=zcK.at_ (HA.out.below hb (waJ _)) hlt
   have hlt':(k:Int)<(n:Int):=by omega
   have Hx:=waV hx;have hts:l.take (k+1)=l.take k++[it]:=by rw[List.take_add_one,hx];rfl
   have hlk:(l.take k).length=k:=List.length_take_of_le (by have:=HL.out;omega)
   have hrl:=ziR lo hi (l.take k);rw[hlk] at hrl;clear hx;cases hm:zbJ it lo hi with
   |false=>
    have HE:Hid (zeS lo hi (l.take (k+1))=zeS lo hi (l.take k)):=by
     show _=_;rw[hts,zjR,hm];simp
    clear hts hrl hlk;have HM:=waV (fun W=>zld it lo hi W)
    rw[hm] at HM;clear hm;go_wp2_with fail;refine(HM.out _).mono ?_;rintro e w1 ⟨rfl,hb1⟩;have hb2:Below wr.heap.size wr w1:=((waC _ wr).alloc (waJ _) _).trans (hb1.mono (by simp))
    go_wp2;go_roundw
    case rel=>exact⟨_,k+1,rfl,by omega,by go_num,by rw[HE.out];exact zae HO.out hb2,zak hb hb2 hsz⟩
    case measure=>simp [intOf];omega
   |true=>
    have hbd:=zo3 hm;have hil:=zo4 hm;have HE:Hid (zeS lo hi (l.take (k+1))=zeS lo hi (l.take k)++itL it lo hi):=by
     show _=_;rw[hts,zjR,hm];simp
    have HM:=waV (fun W=>zld it lo hi W)
    rw[hm] at HM;have HBd:=waV (fun W=>zle it lo hi W)
    unfold itL at HE hil;generalize bF it lo=F at *;generalize bT it hi=T at *;generalize bS it=S at *;obtain⟨hF,hFT,hT,hS,hS9⟩:=hbd;have hq0:0≤(T - F) / S:=Int.ediv_nonneg oQ oQ;obtain⟨m,hmm⟩:∃m:Nat,(m:Int)=(T - F) / S+1:=⟨((T - F) / S+1).toNat,by omega⟩
    rw[←hmm,Int.toNat_natCast] at HE hil;have hmul:((m:Int) - 1) * S≤T - F:=by
     rw[hmm,Int.add_sub_cancel];have:=Int.ediv_mul_le (T - F) (show S≠0 by omega)
     exact this
    simp only[List.length_map,List.length_range] at hil;have hmq:(T - F) / S+1=(m:Int):=hmm.symm;have HMM:=waV hmm;have hq1:(T - F) / S≤9999:=by omega
    clear hts hlk hm hmm;go_wp2_with fail;refine(HM.out _).mono ?_;rintro e w1 ⟨rfl,hb1⟩;obtain⟨hc1,hf1⟩:=zad hb1;have hb2:Below wr.heap.size wr w1:=((waC _ wr).alloc (waJ _) _).trans (hb1.mono (by simp))
    have hsz1:wr.heap.size<w1.heap.size:=by have:=hb1.size;simp at this;omega
    go_wp2_with fail;refine(HBd.out _).mono ?_;rintro e w2 ⟨rfl,hb3⟩;have hb4:=zak hb2 hb3 hb2.size;have hb5:=zak hb hb4 hsz;clear hc1 hf1;obtain⟨wo,rfl⟩:∃wo:World,wo=wr:=⟨_,rfl⟩;go_wp2
    go_loopw [7,39] (fun v i wq=>∃(vo:Value) (j:Nat),vo=v∧j≤m∧i=.int .i64 j∧Hid (zbl wq w.heap.size vo (zeS lo hi (l.take k)++((List.range j).map fun(k:Nat)=>F+(k:Int) * S)))∧Below w.heap.size w wq) (fun _ i _=>m - (intOf i).toNat)
    case atStart=>
     refine⟨_,0,rfl,waK _,rfl,?_,hb5⟩;show zbl _ _ _ _;rw[List.range_zero,List.map_nil,List.append_nil];exact zae HO.out hb4
    case round=>
     obtain⟨vq,j,rfl,hj,rfl,HQ,hbq⟩:=hrel;have hszq:=hbq.size;clear hb1 hb3 hb4 hb5 hb2 hb hsz1
     by_cases hlj:j<m
     ·have hlj':(j:Int)<(m:Int):=by omega
      have hm1:0≤(j:Int) * S:=Int.mul_nonneg oQ oQ;have hm2:(j:Int) * S≤((m:Int) - 1) * S:=Int.mul_le_mul_of_nonneg_right oQ oQ;have hm3:(j:Int) * S≤9999:=by omega
      clear hm2 hmul;have hnl:(zeS lo hi (l.take k)++((List.range j).map fun(k:Nat)=>F+(k:Int) * S)).length=(zeS lo hi (l.take k)).length+j:=by simp
      have HSN:Hid ((zeS lo hi (l.take k)++((List.range j).map fun(k:Nat)=>F+(k:Int) * S)).map (Value.int .i64)++[.int .i64 (F+(j:Int) * S)]=(zeS lo hi (l.take k)++((List.range (j+1)).map fun(k:Nat)=>F+(k:Int) * S)).map (Value.int .i64)):=by
       simp[Hid,List.range_succ]
      have HQ':Hid (wr.ownsRow w.heap.size 3 1 vq ((zeS lo hi (l.take k)).length+j) ((zeS lo hi (l.take k)++((List.range j).map fun(k:Nat)=>F+(k:Int) * S)).map (Value.int .i64))):=by
       show World.ownsRow _ _ _ _ _ _ _;rw[←hnl];exact HQ.out
      have HNL:Hid ((zeS lo hi (l.take k)++((List.range (j+1)).map fun(k:Nat)=>F+(k:Int) * S)).length=(zeS lo hi (l.take k)).length+j+1):=by simp[Hid];omega
      clear hnl HQ;generalize (zeS lo hi (l.take k)++((List.range j).map fun(k:Nat)=>F+(k:Int) * S)).map (Value.int .i64)=xs at *
      generalize hL2:(zeS lo hi (l.take k)++((List.range (j+1)).map fun(k:Nat)=>F+(k:Int) * S))=L2 at *
      have HL2:=waV hL2;clear hL2;generalize (zeS lo hi (l.take k)).length=q at *
      go_wp2_with (at_builtin;refine wpList_append_own _ rfl _ _ 35 rfl w.heap.size 3 i0 (.int .i64 0) 1 8 underlying35 hi0 hz0 hz1 hz2 rfl dQ _ (q+j) xs rfl (HQ'.out.alloc _) ⟨wr.heap.size,0,none⟩ 1 1 [.int .i64 (F+(j:Int) * S)] rfl rfl ?c1 ?c2 ?c3 ?c4 ?c5 ?c6)
      case c1=>
       intro j' u hu;rcases j' with _|j'
       ·simp at hu;subst hu;exact zaa rfl rfl
       ·simp at hu
      case c2=>intro u hu;simp at hu;subst hu;rfl
      case c3=>simp only[maxLen];omega
      case c4=>omega
      case c5=>simp;omega
      case c6=>
       intro v' w' hown hg _;have HV:Hid (zbl w' w.heap.size v' L2):=by
        show World.ownsRow _ _ _ _ _ _ _;rw[HNL.out,←HSN.out];exact hown
       have hbn:Below w.heap.size w w':=zeX (HQ'.out.alloc _) (hbq.alloc oQ _) (by simp;omega) hg
       clear hown hg;go_wp2;go_roundw
       case rel=>exact⟨_,j+1,rfl,by omega,by go_num,by rw[HL2.out];exact HV.out,hbn⟩
       case measure=>simp [intOf];omega
     ·obtain rfl:j=m:=by omega
      go_wp2;go_roundw
      case rel=>exact⟨_,k+1,rfl,by omega,by go_num,by rw[HE.out];exact HQ.out,hbq⟩
      case measure=>simp [intOf];omega
  ·obtain rfl:k=n:=by omega
   have HE:Hid (zeS lo hi (l.take k)=zeS lo hi l):=by
    show _=_;rw[List.take_of_length_le (by have:=HL.out;omega)]
   have hrl:=ziR lo hi l;have HO2:zbl wr w.heap.size vo (zeS lo hi l):=by rw[←HE.out];exact HO.out
   rw[HL.out] at hrl;clear HO;have hRL:∃R,R=zeS lo hi l:=⟨_,rfl⟩;obtain⟨R,hR⟩:=hRL;have HV:Hid (ztq lo hi l=Lib.compact (R.mergeSort fun x y=>decide (x≤y))):=by rw[hR];rfl
   rw[←hR] at HO2 hrl;clear hR HE;obtain⟨B,hB⟩:∃B,B=w.heap.size:=⟨_,rfl⟩
   by_cases h0:R.length=0
   ·obtain rfl:=List.length_eq_zero_iff.1 h0;obtain⟨A',c',rfl,-,-,-⟩:=zbl.rd HO2;have HO:=waV HO2;clear HO2 h0;have e0:Lib.compact (([]:List Int).mergeSort fun x y=>decide (x≤y))=[]:=by simp[List.mergeSort];rfl
    rw[e0] at HV;clear e0;have H1:=waV (fun W=>Tryz.slices_Sort_int_none A' c' W)
    have H2:=waV (fun W=>Tryz.slices_Compact_int_empty A' c' W)
    go_wp2_with fail;refine(H1.out _).mono ?_;rintro e w1 ⟨rfl,rfl⟩;go_wp2_with fail;refine(H2.out _).mono ?_;rintro e w1 ⟨rfl,rfl⟩;go_wp2;go_ret;exact⟨_,rfl,by rw[HV.out];exact HO.out,hb⟩
   ·obtain⟨g,cap,rfl,hg,hgs,hc1,hc2,-,HH⟩:=Lib.holds_of_ownsRow HO2 (by
     rintro rfl;rcases zbq HO2 with ⟨_,h2⟩|⟨g,cap,h1,_⟩
     ·exact h0 h2
     ·cases h1)
    have HO:=waV HO2;have H1:=Tryz.slices_Sort_int g 0 cap R wr HH hgs oQ;have hsl:=zfi R;have HS1:Hid (∀q os,zbl (Go.Sort.grow (Go.Sort.putRow (Value.int .i64) (Sort.ahead wr q) g 0 (R.mergeSort fun x y=>decide (x≤y)).toArray) os) w.heap.size (.slice (some ⟨g,0,none⟩) (R.mergeSort fun x y=>decide (x≤y)).length cap) (R.mergeSort fun x y=>decide (x≤y))):=fun q os=>znt HO2
    have HB1:Hid (∀q os,Below w.heap.size w (Go.Sort.grow (Go.Sort.putRow (Value.int .i64) (Sort.ahead wr q) g 0 (R.mergeSort fun x y=>decide (x≤y)).toArray) os)):=fun q os=>hb.grown (grownBy_sortedI _) hsz (fun b hb'=>by simp at hb';omega)
    clear HO2 HH HO;generalize (R.mergeSort fun x y=>decide (x≤y))=T at *
    have H1':=waV H1;clear H1;go_wp2_with fail;refine H1'.out.mono ?_;intro e w1 hp;have hp1:=hp.1;obtain⟨q,os,hw⟩:=hp.2;clear hp;subst hp1;have HT:=HS1.out q os;have HBT:=HB1.out q os;rw[←hw] at HT HBT;clear HS1 HB1 H1' hw;obtain⟨g',cap',hv,_,_,_,_,_,HH⟩:=Lib.holds_of_ownsRow HT (by simp)
    cases hv;have H2:=waV (Tryz.slices_Compact_int g 0 cap T w1 HH oQ oQ);have HF:Hid (∀q,zbl _ _ _ _):=fun q=>ziS (q:=q) HT
    have HFB:Hid (∀q,Below w.heap.size w _):=fun q=>Lib.below_putRow (q:=q) (d:=(Lib.compact T++List.replicate (T.length - (Lib.compact T).length) 0).toArray) (enc:=Value.int .i64) HBT hg
    clear HH HT HBT;rw[hsl] at H2 HF HFB;go_wp2_with fail;refine H2.out.mono ?_;rintro e w2 ⟨rfl,q2,rfl⟩;go_wp2;go_ret;exact⟨_,rfl,by rw[HV.out];exact HF.out q2,HFB.out q2⟩
end Go.Proofs.YtgedndlifiihkaaGreatDoor
namespace Go.Proofs.YtgedndlifiihkaaGreatDoor
open Go.Proofs.Tryz
open Go.ChangeShapes Go.WideShapes Go.ChangeAt Go.RowKit Go.Deep
def zrt (x:Int):Prop:=-9223372036854775808≤x∧x≤9223372036854775807
def It.wf (i:It):Prop:=zrt i.k∧zrt i.f∧zrt i.t∧zrt i.s
theorem zt0 {x:Int} (h:(Lit.int .i64 x).wf=true):zrt x:=by simpa[Lit.wf,IntKind.min,IntKind.max,IntKind.signed,IntKind.bits,zrt] using h
section
variable {H : Type} {enc : TypeId × Value → H} {w : World} {base : Nat} {spare : Nat → Bool} {held : Bool}
theorem zru (b o j:Nat):(⟨b,o,none⟩:Addr).add j=⟨b,o+j,none⟩:=by
 unfold Addr.add;split
 ·subst_vars;rfl
 ·rfl
end
end Go.Proofs.YtgedndlifiihkaaGreatDoor
namespace Go.Proofs.YtgedndlifiihkaaGreatDoor
open Go.Proofs.Tryz
open Go.RowKit
def zrv (i:It) (lo hi n:Int):Bool:=decide (bF i lo≤n∧n≤bT i hi∧(n - bF i lo)%bS i=0)
theorem zo5 {i:It} {lo hi n:Int} (h:zbJ i lo hi=true):n∈itL i lo hi↔zrv i lo hi n=true:=by
 obtain⟨h1,h2,h3,h4,h5⟩:=zo3 h;simp only[itL,zrv,waM,List.mem_map,wbG];generalize bF i lo=F at *;generalize bT i hi=T at *;generalize bS i=S at *;have hd:0≤(T - F) / S:=Int.ediv_nonneg oQ oQ;constructor
 ·rintro ⟨k,hk,rfl⟩;have hk':(k:Int)≤(T - F) / S:=by omega
  have:=Int.ediv_mul_le (T - F) (show S≠0 by omega)
  have h6:(k:Int) * S≤(T - F) / S * S:=Int.mul_le_mul_of_nonneg_right hk' oQ;have h7:0≤(k:Int) * S:=Int.mul_nonneg oQ oQ;refine⟨by omega,by omega,?_⟩
  rw[show F+(k:Int) * S - F=(k:Int) * S by omega]
  exact Int.mul_emod_left _ _
 ·rintro ⟨h6,h7,h8⟩;have h9:(n - F) / S * S=n - F:=by
   have:=Int.mul_ediv_add_emod (n - F) S;rw[h8,Int.mul_comm] at this;omega
  have h10:0≤(n - F) / S:=Int.ediv_nonneg oQ oQ;have h11:(n - F) / S≤(T - F) / S:=Int.ediv_le_ediv oQ oQ;refine⟨((n - F) / S).toNat,by omega,?_⟩
  rw[show ((((n - F) / S).toNat:Nat):Int)=(n - F) / S by omega,h9]
  omega
def zfj (lo hi n:Int) (i:It):Bool:=zbJ i lo hi&&zrv i lo hi n
def inB (l:List It) (lo hi n:Int):Bool:=l.any (zfj lo hi n)
def zaD (l:List It) (lo hi:Int):List Int:=((List.range (min hi 9999 - max 0 lo+1).toNat).map fun(k:Nat)=>max 0 lo+(k:Int)).filter (inB l lo hi)
end Go.Proofs.YtgedndlifiihkaaGreatDoor
