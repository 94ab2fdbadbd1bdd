/- A part of the proof: WCst3 -/
import Derived.Test.YtllcdbgjeidlkaaGreatDoorT27
import Derived.Test.YtllcdbgjeidlkaaGreatDoorT00
import Derived.Shelf.Strings.Builder1
import Derived.Shelf.Strings.Builder2
import Derived.Shelf.Strings.OnBuilder
import Derived.Shelf.Small.Utf8
import Derived.Shelf.Small.Strs
import Derived.Shelf.Strings.BuilderF
import Derived.Shelf.Strconv.Itoa0
import Derived.Shelf.Strconv.Itoa1
import Derived.Shelf.LaysM
import Derived.Shelf.Strconv.Itoa2
import Derived.Shelf.Strconv.Itoa3
import Derived.Shelf.Strings.Search1
import Derived.Shelf.Strings.Search2
import Derived.Shelf.Strings.Search3
import Derived.Shelf.Strings.Cut
import Derived.Shelf.Strings.Count
import Derived.Shelf.Strings.Shaped
import Derived.Shelf.Strings.Prefix
import Derived.Shelf.Strings.Runes
import Derived.Shelf.Strings.IndexAny
import Derived.Shelf.Strings.AsciiSet
import Derived.Shelf.Strings.IndexAnyAll
import Derived.Shelf.Bits.Mul64
import Derived.Shelf.Strings.Repeat
import Derived.Ground.Names2Prog
import Derived.Shelf.Slices.CompactI
import Derived.Test.YtllcdbgjeidlkaaGreatDoorProg
import Derived.Shelf.Small.Bits
import Derived.Shelf.Sort.Plain
import Derived.Shelf.Slices.SearchI
import Derived.Shelf.Slices.Cells
import Derived.Shelf.Slices.In.SortNone
set_option maxHeartbeats 80000000
set_option maxRecDepth 100000
set_option linter.unusedSimpArgs false
set_option linter.unusedVariables false
namespace Go.Proofs.YtllcdbgjeidlkaaGreatDoor
open Go.Proofs.Tryz
open Go.RowKit
open Go.Maps
structure TimeAt (W:World) (fb b1 b2 b3 kb m:Nat) (P:Nat->Prop) (v:Value):Prop where
 x1:Boxed W b1 145 (.pointer (some ⟨fb,0,none⟩))
 x2:Boxed W b2 146 (.func (.func 139) #[] #[.pointer (some ⟨kb,0,none⟩)])
 x3:Boxed W b3 82 v
 fr:FreshAt W kb m P
def zvY (fb:Nat) (W:World) (e:Ending) (W':World):Prop:=
 ∃b1 b2 b3 kb m,e=.returned (.func (.func 74) #[] #[.pointer (some ⟨b1,0,none⟩),.pointer (some ⟨b2,0,none⟩),.pointer (some ⟨b3,0,none⟩)])/\W.heap.size<=b1/\W.heap.size<=b2/\W.heap.size<=b3/\W.heap.size<=kb/\W.heap.size<=m/\b1≠b2/\b1≠b3/\b2≠b3/\kb≠b1/\kb≠b2/\kb≠b3/\
  TimeAt W' fb b1 b2 b3 kb m (fun _=>False) (.pointer none)/\Below W.heap.size W W'
theorem zti (fb:Nat) (W:World):Calls prog 29 #[.pointer (some ⟨fb,0,none⟩)] W (zvY fb W):=by
 have HF:=waV (fun V=>zkA V)
 go_enter func29,ntmps29;go_wp2_with fail;have hb0:Below W.heap.size W ((W.alloc (.cells #[.pointer (some ⟨fb,0,none⟩)] 145)).alloc (.cells #[.pointer none] 82)):=((waC _ W).alloc (waJ _) _).alloc (by simp) _
 have hz0:((W.alloc (.cells #[.pointer (some ⟨fb,0,none⟩)] 145)).alloc (.cells #[.pointer none] 82)).heap.size=W.heap.size+2:=by simp
 have x1:Boxed ((W.alloc (.cells #[.pointer (some ⟨fb,0,none⟩)] 145)).alloc (.cells #[.pointer none] 82)) W.heap.size 145 (.pointer (some ⟨fb,0,none⟩)):=(Boxed.new _ _ _).alloc _;have x3:Boxed ((W.alloc (.cells #[.pointer (some ⟨fb,0,none⟩)] 145)).alloc (.cells #[.pointer none] 82)) (W.heap.size+1) 82 (.pointer none):=by
  have h:W.heap.size+1=(W.alloc (.cells #[.pointer (some ⟨fb,0,none⟩)] 145)).heap.size:=by simp
  rw[h];exact Boxed.new _ _ _
 generalize ((W.alloc (.cells #[.pointer (some ⟨fb,0,none⟩)] 145)).alloc (.cells #[.pointer none] 82))=W0 at *;refine(HF.out _).mono ?_;rintro e w1 ⟨kb,m,rfl,hk,hm,hfr,hfz,hb1⟩;have x1:=zaG hb1 x1;have x3:=zaG hb1 x3;have hz1:=hb1.size;have HFr:=waV hfr;have lk:=waR w1 _ hfr.c;clear hfr;go_wp2_with fail;go_ret;have hbA:Below w1.heap.size w1 (w1.alloc (.cells #[.func (.func 139) #[] #[.pointer (some ⟨kb,0,none⟩)]] 146)):=(waC _ w1).alloc (waJ _) _;have lk:kb<w1.heap.size:=lk;exact⟨W.heap.size,w1.heap.size,W.heap.size+1,kb,m,rfl,waJ _,by omega,by omega,by omega,by omega,by omega,by omega,by omega,by omega,by omega,by omega,
  ⟨zaG hbA x1,Boxed.new _ _ _,zaG hbA x3,HFr.out.imp ((RlS.refl (fun _=>False) w1).below hbA (waJ _)) (fun g=>g) (fun g=>g) (fun e p g=>g.below hbA)⟩,(hb0.trans (hb1.mono oQ)).alloc oQ _⟩
end Go.Proofs.YtllcdbgjeidlkaaGreatDoor
namespace Go.Proofs.YtllcdbgjeidlkaaGreatDoor
open Go.Proofs.Tryz
open Go.RowKit
theorem zqL {n:Int} (h:1<=n):zgx n=decide (n<=999):=by simp[zgx,h]
theorem zkB {n:Int} (h:n<1):zgx n=false:=by simp[zgx];omega
theorem ztj (n:Int) (w:World):Calls prog 229 #[.int .i64 n] w (zbE (.bool (zgx n)) w):=by
 go_enter func229,ntmps229;go_wp2
 all_goals go_ret
 ·exact⟨zab (zqL (by assumption)).symm,rfl⟩
 ·exact⟨zab (zkB (by assumption)).symm,rfl⟩
theorem zuS (lo hi:Int) (A:Option Addr) (n c:Nat) (l:List Int) (w:World) (h:zaI w A n l) (hn:n<=9223372036854775807):
 Calls prog 230 #[.int .i64 lo,.int .i64 hi,.slice A n c] w (zbE (.bool (ofB lo hi l)) w):=by
 have HL:Hid (l.length=n):=h.1;go_enter func230,ntmps230;go_wp2
 go_loop [11] (fun i=>∃k:Nat,k<=n/\i=.int .i64 k/\Hid (OfP lo hi l k)) (fun i=>n - (intOf i).toNat)
 case atStart=>exact⟨0,waK _,rfl,OfP.zero _ _ _⟩
 case round=>
  obtain⟨k,hk,rfl,H⟩:=hrel
  by_cases hlt:k<n
  ·obtain⟨b,o,x,rfl,_,hx,c0⟩:=zaI.at_ h hlt
   have hlt':(k:Int)<(n:Int):=by omega
   have Hx:=waV hx;clear hx;rcases Nat.eq_zero_or_pos k with rfl|hpos
   ·rw[Nat.add_zero] at c0;go_wp2
    all_goals first
     |(go_ret;exact⟨zab (zk8 Hx.out oQ).symm,rfl⟩)
     |(go_round
       case rel=>exact⟨0+1,by omega,by go_num,OfP.one Hx.out oQ⟩
       case measure=>simp [intOf];omega)
   ·obtain⟨k,rfl⟩:∃j,k=j+1:=⟨k - 1,by omega⟩
    obtain⟨b',o',y,e,_,hy,c1⟩:=zaI.at_ h (i:=k) oQ
    cases e;have Hy:=waV hy;clear hy;go_wp2
    all_goals first
     |(go_ret;exact⟨zab (zwU Hx.out Hy.out oQ).symm,rfl⟩)
     |(go_round
       case rel=>exact⟨k+1+1,by omega,by go_num,OfP.succ H.out Hx.out Hy.out oQ⟩
       case measure=>simp [intOf];omega)
  ·obtain rfl:k=n:=by omega
   go_wp2;go_ret;exact⟨zab (OfP.all (HL.out▸H.out)).symm,rfl⟩
theorem zoh (w:World) (b:Nat) (x:Int) (hb:b<w.heap.size) (h:w.cell? ⟨b,0,none⟩=some (.int .i64 x)):zaI w (some ⟨b,0,none⟩) 1 [x]:=
 ⟨rfl,fun _=>⟨b,0,rfl,hb,fun i y hi j v hj=>by
  rcases i with _|i
  ·obtain rfl:x=y:=by simpa using hi
   rcases j with _|j
   ·obtain rfl:Value.int .i64 x=v:=by simpa[zcY] using hj
    simpa using h
   ·simp[zcY] at hj
  ·simp at hi⟩⟩
theorem zoi (w:World) (b:Nat) (x y:Int) (hb:b<w.heap.size) (h:w.cell? ⟨b,0,none⟩=some (.int .i64 x)) (h1:w.cell? ⟨b,1,none⟩=some (.int .i64 y)):zaI w (some ⟨b,0,none⟩) 2 [x,y]:=
 ⟨rfl,fun _=>⟨b,0,rfl,hb,fun i z hi j v hj=>by
  rcases j with _|j
  ·obtain rfl:Value.int .i64 z=v:=by simpa[zcY] using hj
   rcases i with _|_|i
   ·obtain rfl:x=z:=by simpa using hi
    simpa using h
   ·obtain rfl:y=z:=by simpa using hi
    simpa using h1
   ·simp at hi
  ·simp[zcY] at hj⟩⟩
theorem zxy (lo hi x:Int) (b:Nat) (w:World) (hb:b<w.heap.size) (h:w.cell? ⟨b,0,none⟩=some (.int .i64 x)):
 Calls prog 230 #[.int .i64 lo,.int .i64 hi,.slice (some ⟨b,0,none⟩) 1 1] w (zbE (.bool (ofB lo hi [x])) w):=
 zuS lo hi _ 1 1 [x] w (zoh w b x hb h) dQ
theorem zxz (lo hi x y:Int) (b:Nat) (w:World) (hb:b<w.heap.size) (h:w.cell? ⟨b,0,none⟩=some (.int .i64 x)) (h1:w.cell? ⟨b,1,none⟩=some (.int .i64 y)):
 Calls prog 230 #[.int .i64 lo,.int .i64 hi,.slice (some ⟨b,0,none⟩) 2 2] w (zbE (.bool (ofB lo hi [x,y])) w):=
 zuS lo hi _ 2 2 [x,y] w (zoi w b x y hb h h1) dQ
theorem zlG (i:It) (lo hi:Int) (w:World):Calls prog 181 #[.agg #[.int .i64 i.k,.int .i64 i.f,.int .i64 i.t,.int .i64 i.s],.int .i64 lo,.int .i64 hi] w (Ret (.bool (zbK i lo hi)) w):=by
 go_enter func181,ntmps181
 go_wp2_with (first
  |(go_at_call 229;refine(ztj _ _).mono ?_;rintro e w' ⟨rfl,rfl⟩)
  |(go_at_call 230;(with_reducible refine(zxy _ _ i.f _ _ ?_ ?_).mono ?_);(focus simp);(focus simp[go_sem]);rintro e w' ⟨rfl,rfl⟩)
  |(go_at_call 230;(with_reducible refine(zxz _ _ i.f i.t _ _ ?_ ?_ ?_).mono ?_);(focus simp);(focus simp[go_sem]);(focus simp[go_sem]);rintro e w' ⟨rfl,rfl⟩))
 all_goals go_ret
 all_goals (refine⟨zab ?_,by exact zaE⟩
            ((try simp only[beq_iff_eq,wbE,bne_iff_ne,ne_eq,zbK,zwT,zgx,ofB,waM,decide_eq_false_iff_not,waN,wbF,Bool.not_eq_true',Bool.not_eq_false',Bool.and_eq_false_iff,Bool.or_eq_false_iff] at *)
             rw[waQ]
             (try simp only[zbK,zwT,zgx,ofB,waM,beq_iff_eq,bne_iff_ne,ne_eq,waN,wbF,Bool.not_eq_true',Bool.not_eq_false',wbE,decide_eq_false_iff_not,iff_true,true_iff,Bool.false_eq_true,false_iff,iff_false,reduceCtorEq])
             omega))
theorem zoj (b b':Nat) (lo hi:Int) (w:World) (h0:w.cell? ⟨b,0,none⟩=some (.int .i64 lo)) (h1:w.cell? ⟨b',0,none⟩=some (.int .i64 hi)) (hb:b<w.heap.size) (hb':b'<w.heap.size):
 zmn 222 #[.pointer (some ⟨b,0,none⟩),.pointer (some ⟨b',0,none⟩)] (fun i=>!zbK i lo hi) w:=by
 intro W x hB;have g0:W.cell? ⟨b,0,none⟩=some (.int .i64 lo):=(hB.cell (p:=⟨b,0,none⟩) hb).trans h0;have g1:W.cell? ⟨b',0,none⟩=some (.int .i64 hi):=(hB.cell (p:=⟨b',0,none⟩) hb').trans h1;have hb2:b<W.heap.size:=waD hb hB.size;have hb3:b'<W.heap.size:=waD hb' hB.size;clear h0 h1 hB;go_enter func222,ntmps222
 go_wp2_with (go_at_call 181;refine(zlG _ _ _ _).mono ?_;rintro e w1 ⟨rfl,hb1⟩)
 go_ret;exact⟨rfl,((waC _ W).alloc (waJ _) _).trans (hb1.mono (by simp))⟩
theorem zkC (A:Option Addr) (n c:Nat) (l:List It) (lo hi most:Int) (w:World) (hA:zcV w A n l) (hn:n<=9223372036854775807):
 Calls prog 170 #[.int .i64 lo,.int .i64 hi,.int .i64 most,.slice A n c] w (Ret (.bool (zdS lo hi most l)) w):=by
 have HL:Hid (l.length=n):=hA.1
 by_cases hcase:0<n/\(n:Int)<=most
 ·have e:zdS lo hi most l=!(l.any fun i=>!zbK i lo hi):=by
   rw[zdS,waP (by have:=HL.out;omega),Bool.true_and,List.all_eq_not_any_not]
  have h1:(0:Int)<n:=by omega
  have h2:(n:Int)<=most:=hcase.2;rw[e];generalize hq:(l.any fun i=>!zbK i lo hi)=q
  have HQ:=waV hq;clear hq e hcase;have HA:=waV hA;clear hA;have eg:∀args w,(callFunc 222 args).run prog w=.ok (.enter 222 args) w:=enters_of func222 kQ rfl;go_enter func170,ntmps170;go_wp2_with fail;refine(zdH A n c l _ _ (fun i=>!zbK i lo hi) _ ?_ oQ eg (zoj _ _ lo hi _ ?_ ?_ ?_ ?_)).mono ?_
  ·exact Rd.below HA.out (by exact zaE) (waJ _)
  ·simp[go_sem]
  ·simp[go_sem]
  ·(first|(simp;done)|(simp;omega))
  ·(first|(simp;done)|(simp;omega))
  rintro e w1 ⟨rfl,hb1⟩;rw[HQ.out];go_wp2;go_ret;exact⟨rfl,(((waC _ w).alloc (waJ _) _).alloc (by simp) _).trans (hb1.mono (by simp;omega))⟩
 ·have HR:Hid (zdS lo hi most l=false):=zo1 (by have:=HL.out;omega)
  by_cases h1:0<n
  ·have h1':(0:Int)<n:=by omega
   have h2:¬(n:Int)<=most:=by omega
   have h2':most<(n:Int):=by omega
   go_enter func170,ntmps170;go_wp2;go_ret;exact⟨zab HR.out.symm,by exact zaE⟩
  ·have h0:n=0:=by omega
   subst h0;go_enter func170,ntmps170;go_wp2;go_ret;exact⟨zab HR.out.symm,by exact zaE⟩
end Go.Proofs.YtllcdbgjeidlkaaGreatDoor
namespace Go.Proofs
open Go.Proofs.Tryz Go.Proofs.YtllcdbgjeidlkaaGreatDoor
open Go.Shelf
def Tryz.lays156_ren:Go.Shelf.Ren:=⟨fun|156=>110|165=>177|166=>178|169=>179|240=>227|241=>228|276=>256|277=>257|n=>n,fun|31=>105|9=>9|3=>3|4=>4|0=>0|20=>20|72=>270|76=>274|70=>268|37=>254|75=>273|127=>316|164=>333|5=>5|80=>189|n=>n,fun|n=>n⟩
theorem Tryz.lays156:Go.Proofs.Lays.n156 prog Tryz.lays156_ren:={
 mixed:=by kernel_rfl
 f156:=func110.trans (congrArg some kQ)
 f165:=func177.trans (congrArg some kQ)
 f166:=func178.trans (congrArg some kQ)
 f169:=func179.trans (congrArg some kQ)
 f240:=func227.trans (congrArg some kQ)
 f241:=func228.trans (congrArg some kQ)
 f276:=func256.trans (congrArg some kQ)
 f277:=func257.trans (congrArg some kQ)
 t0:=underlying0
 a0:=Tryz.isAgg0
 z0:=Tryz.sizeOf0
 v0:=Tryz.zeroValue0
 t3:=underlying3
 a3:=Tryz.isAgg3
 z3:=Tryz.sizeOf3
 v3:=Tryz.zeroValue3
 t4:=underlying4
 a4:=Tryz.isAgg4
 z4:=Tryz.sizeOf4
 v4:=Tryz.zeroValue4
 t9:=underlying9
 a9:=Tryz.isAgg9
 z9:=Tryz.sizeOf9
 v9:=Tryz.zeroValue9
 t20:=underlying20
 a20:=Tryz.isAgg20
 z20:=Tryz.sizeOf20
 v20:=Tryz.zeroValue20
 t31:=underlying105
 a31:=Tryz.isAgg105
 z31:=Tryz.sizeOf105
 v31:=Tryz.zeroValue105
 t37:=underlying254
 a37:=Tryz.isAgg254
 z37:=Tryz.sizeOf254
 v37:=Tryz.zeroValue254
 t70:=underlying268
 a70:=Tryz.isAgg268
 z70:=Tryz.sizeOf268
 v70:=Tryz.zeroValue268
 t72:=underlying270
 a72:=Tryz.isAgg270
 z72:=Tryz.sizeOf270
 v72:=Tryz.zeroValue270
 t75:=underlying273
 a75:=Tryz.isAgg273
 z75:=Tryz.sizeOf273
 v75:=Tryz.zeroValue273
 t76:=underlying274
 a76:=Tryz.isAgg274
 z76:=Tryz.sizeOf274
 v76:=Tryz.zeroValue274
 t127:=underlying316
 a127:=Tryz.isAgg316
 z127:=Tryz.sizeOf316
 v127:=Tryz.zeroValue316
 t164:=underlying333
 a164:=Tryz.isAgg333
 z164:=Tryz.sizeOf333
 v164:=Tryz.zeroValue333}
theorem Tryz.Builder_Extra_156:Builder.Extra prog Tryz.lays156_ren:={
 sizeBuilder:=by kernel_rfl
 liesBuilder:=by kernel_rfl
 t5:=underlying5
 a5:=Tryz.isAgg5
 z5:=Tryz.sizeOf5
 v5:=Tryz.zeroValue5
 infoByte:=by kernel_rfl
 cellsByte:=by kernel_rfl
 sizeByte:=by kernel_rfl
 neB5:=by decide}
open Go.RowKit in
theorem Tryz.strings_Join_none (a:Option Addr) (c:Nat) (sep:ByteArray) (w:World):
 Calls prog 110 #[.slice a 0 c,.string sep] w fun e w'=>e=.returned (.string ⟨#[]⟩)/\w'=w:=Any.strings_Join_none Tryz.lays156 Tryz.Builder_Extra_156 a c sep w
open Go.RowKit in
theorem Tryz.strings_Join (bk o c:Nat) (xs:List ByteArray) (sep:ByteArray) (w:World) (hcells:∀(j:Nat) x,xs[j]?=some x->w.cell? ⟨bk,o+j,none⟩=some (.string x)) (hbk:bk<w.heap.size) (hN:xs.length<=140737488355328) (hcap:xs.length<=c) (hlen:(Lib.join (xs.map (·.data.toList)) sep.data.toList).length<=140737488355328):
 Calls prog 110 #[.slice (some ⟨bk,o,none⟩) xs.length c,.string sep] w fun e w'=>e=.returned (.string ⟨(Lib.join (xs.map (·.data.toList)) sep.data.toList).toArray⟩)/\Below w.heap.size w w':=Any.strings_Join Tryz.lays156 Tryz.Builder_Extra_156 bk o c xs sep w hcells hbk hN hcap hlen
def Tryz.lays119_ren:Go.Shelf.Ren:=⟨fun|119=>246|n=>n,fun|21=>21|4=>4|n=>n,fun|n=>n⟩
theorem Tryz.lays119:Go.Proofs.Lays.n119 prog Tryz.lays119_ren:={
 mixed:=by kernel_rfl
 f119:=func246.trans (congrArg some kQ)
 t4:=underlying4
 a4:=Tryz.isAgg4
 z4:=Tryz.sizeOf4
 v4:=Tryz.zeroValue4
 t21:=underlying21
 a21:=Tryz.isAgg21
 z21:=Tryz.sizeOf21
 v21:=Tryz.zeroValue21}
theorem Tryz.utf8_ValidRune (r:Int) (w:World):
 Calls prog 246 #[.int .i32 r] w fun e w'=>e=.returned (.bool (Lib.validRune r))/\w'=w:=Any.utf8_ValidRune Tryz.lays119 r w
def Tryz.lays137_ren:Go.Shelf.Ren:=⟨fun|137=>245|217=>271|266=>287|n=>n,fun|9=>9|5=>5|3=>3|n=>n,fun|n=>n⟩
theorem Tryz.lays137:Go.Proofs.Lays.n137 prog Tryz.lays137_ren:={
 mixed:=by kernel_rfl
 f137:=func245.trans (congrArg some kQ)
 f217:=func271.trans (congrArg some kQ)
 f266:=func287.trans (congrArg some kQ)
 t3:=underlying3
 a3:=Tryz.isAgg3
 z3:=Tryz.sizeOf3
 v3:=Tryz.zeroValue3
 t5:=underlying5
 a5:=Tryz.isAgg5
 z5:=Tryz.sizeOf5
 v5:=Tryz.zeroValue5
 t9:=underlying9
 a9:=Tryz.isAgg9
 z9:=Tryz.sizeOf9
 v9:=Tryz.zeroValue9}
open Go.RowKit in
theorem Tryz.strings_IndexByte (s:ByteArray) (c:Int) (w:World):
 Calls prog 245 #[.string s,.int .u8 c] w fun e w'=>e=.returned (.int .i64 (Lib.indexByte s.data.toList c.toNat.toUInt8))/\w'=w:=Any.strings_IndexByte Tryz.lays137 s c w
def Tryz.lays129_ren:Go.Shelf.Ren:=⟨fun|129=>85|n=>n,fun|53=>39|3=>3|4=>4|46=>245|5=>5|9=>9|n=>n,fun|n=>n⟩
theorem Tryz.lays129:Go.Proofs.Lays.n129 prog Tryz.lays129_ren:={
 mixed:=by kernel_rfl
 f129:=func85.trans (congrArg some kQ)
 t3:=underlying3
 a3:=Tryz.isAgg3
 z3:=Tryz.sizeOf3
 v3:=Tryz.zeroValue3
 t4:=underlying4
 a4:=Tryz.isAgg4
 z4:=Tryz.sizeOf4
 v4:=Tryz.zeroValue4
 t5:=underlying5
 a5:=Tryz.isAgg5
 z5:=Tryz.sizeOf5
 v5:=Tryz.zeroValue5
 t9:=underlying9
 a9:=Tryz.isAgg9
 z9:=Tryz.sizeOf9
 v9:=Tryz.zeroValue9
 t46:=underlying245
 a46:=Tryz.isAgg245
 z46:=Tryz.sizeOf245
 v46:=Tryz.zeroValue245
 t53:=underlying39
 a53:=Tryz.isAgg39
 z53:=Tryz.sizeOf39
 v53:=Tryz.zeroValue39}
theorem Tryz.bits_Len64 (x:Int) (w:World) (h0:0<=x) (h1:x<=18446744073709551615):
 Calls prog 85 #[.int .u64 x] w fun e w'=>e=.returned (.int .i64 (Lib.bitLen x.toNat))/\w'=w:=Any.bits_Len64 Tryz.lays129 x w h0 h1
def Tryz.laysM171_ren:Go.Shelf.Ren:=⟨fun|171=>176|243=>226|246=>255|283=>276|284=>277|285=>278|286=>279|129=>85|317=>289|318=>290|319=>291|320=>292|337=>295|338=>150|n=>n,fun|3=>3|9=>9|2=>2|4=>4|171=>352|0=>0|53=>39|37=>254|5=>5|173=>354|212=>365|51=>345|20=>20|213=>366|46=>245|232=>369|233=>303|n=>n,fun|17=>2|18=>3|19=>0|n=>n⟩
theorem Tryz.laysM171:Go.Proofs.LaysM.n171 prog Tryz.laysM171_ren:={
 mixed:=by kernel_rfl
 f129:=func85.trans (congrArg some kQ)
 f171:=func176.trans (congrArg some kQ)
 f243:=func226.trans (congrArg some kQ)
 f246:=func255.trans (congrArg some kQ)
 f283:=func276.trans (congrArg some kQ)
 f284:=func277.trans (congrArg some kQ)
 f285:=func278.trans (congrArg some kQ)
 f286:=func279.trans (congrArg some kQ)
 f317:=func289.trans (congrArg some kQ)
 f318:=func290.trans (congrArg some kQ)
 f319:=func291.trans (congrArg some kQ)
 f320:=func292.trans (congrArg some kQ)
 f337:=func295.trans (congrArg some kQ)
 f338:=func150.trans (congrArg some kQ)
 t0:=underlying0
 a0:=Tryz.isAgg0
 z0:=Tryz.sizeOf0
 v0:=Tryz.zeroValue0
 t2:=underlying2
 a2:=Tryz.isAgg2
 z2:=Tryz.sizeOf2
 v2:=Tryz.zeroValue2
 t3:=underlying3
 a3:=Tryz.isAgg3
 z3:=Tryz.sizeOf3
 v3:=Tryz.zeroValue3
 t4:=underlying4
 a4:=Tryz.isAgg4
 z4:=Tryz.sizeOf4
 v4:=Tryz.zeroValue4
 t5:=underlying5
 a5:=Tryz.isAgg5
 z5:=Tryz.sizeOf5
 v5:=Tryz.zeroValue5
 t9:=underlying9
 a9:=Tryz.isAgg9
 z9:=Tryz.sizeOf9
 v9:=Tryz.zeroValue9
 t20:=underlying20
 a20:=Tryz.isAgg20
 z20:=Tryz.sizeOf20
 v20:=Tryz.zeroValue20
 t37:=underlying254
 a37:=Tryz.isAgg254
 z37:=Tryz.sizeOf254
 v37:=Tryz.zeroValue254
 t46:=underlying245
 a46:=Tryz.isAgg245
 z46:=Tryz.sizeOf245
 v46:=Tryz.zeroValue245
 t51:=underlying345
 a51:=Tryz.isAgg345
 z51:=Tryz.sizeOf345
 v51:=Tryz.zeroValue345
 t53:=underlying39
 a53:=Tryz.isAgg39
 z53:=Tryz.sizeOf39
 v53:=Tryz.zeroValue39
 t171:=underlying352
 a171:=Tryz.isAgg352
 z171:=Tryz.sizeOf352
 v171:=Tryz.zeroValue352
 t173:=underlying354
 a173:=Tryz.isAgg354
 z173:=Tryz.sizeOf354
 v173:=Tryz.zeroValue354
 t212:=underlying365
 a212:=Tryz.isAgg365
 z212:=Tryz.sizeOf365
 v212:=Tryz.zeroValue365
 t213:=underlying366
 a213:=Tryz.isAgg366
 z213:=Tryz.sizeOf366
 t232:=underlying369
 a232:=Tryz.isAgg369
 z232:=Tryz.sizeOf369
 v232:=Tryz.zeroValue369
 t233:=underlying303
 a233:=Tryz.isAgg303
 z233:=Tryz.sizeOf303
 v233:=Tryz.zeroValue303
 g17:=by kernel_rfl
 g18:=by kernel_rfl
 g19:=by kernel_rfl
 i0:=by kernel_rfl
 i2:=by kernel_rfl
 i3:=by kernel_rfl
 i4:=by kernel_rfl
 i5:=by kernel_rfl
 i9:=by kernel_rfl
 i20:=by kernel_rfl
 i37:=by kernel_rfl
 i46:=by kernel_rfl
 i51:=by kernel_rfl
 i53:=by kernel_rfl
 i171:=by kernel_rfl
 i173:=by kernel_rfl
 i212:=by kernel_rfl
 i232:=by kernel_rfl
 i233:=by kernel_rfl
 m17:=by kernel_rfl
 m18:=by kernel_rfl
 m19:=by kernel_rfl}
open Go.RowKit Go.Sort Go.Lib in
theorem Tryz.strconv_Itoa (n:Int) (h0:-9223372036854775808<=n) (h1:n<=9223372036854775807) (w:World) (htab:Lib.TabIs prog w "internal/strconv.uint64pow10" .u64 Lib.pow10Tab):
 Calls prog 176 #[.int .i64 n] w fun e w'=>e=.returned (.string ⟨(Lib.itoa n).toArray⟩)/\∃k os,w'=grow (w.drewN k) os:=Any.strconv_Itoa Tryz.laysM171 n h0 h1 w htab
def Tryz.lays145_ren:Go.Shelf.Ren:=⟨fun|145=>166|220=>216|219=>249|217=>271|225=>248|224=>247|267=>272|266=>287|314=>288|n=>n,fun|9=>9|4=>4|59=>259|3=>3|5=>5|46=>245|146=>348|51=>345|n=>n,fun|1=>1|n=>n⟩
theorem Tryz.lays145:Go.Proofs.Lays.n145 prog Tryz.lays145_ren:={
 mixed:=by kernel_rfl
 f145:=func166.trans (congrArg some kQ)
 f217:=func271.trans (congrArg some kQ)
 f219:=func249.trans (congrArg some kQ)
 f220:=func216.trans (congrArg some kQ)
 f224:=func247.trans (congrArg some kQ)
 f225:=func248.trans (congrArg some kQ)
 f266:=func287.trans (congrArg some kQ)
 f267:=func272.trans (congrArg some kQ)
 f314:=func288.trans (congrArg some kQ)
 t3:=underlying3
 a3:=Tryz.isAgg3
 z3:=Tryz.sizeOf3
 v3:=Tryz.zeroValue3
 t4:=underlying4
 a4:=Tryz.isAgg4
 z4:=Tryz.sizeOf4
 v4:=Tryz.zeroValue4
 t5:=underlying5
 a5:=Tryz.isAgg5
 z5:=Tryz.sizeOf5
 v5:=Tryz.zeroValue5
 t9:=underlying9
 a9:=Tryz.isAgg9
 z9:=Tryz.sizeOf9
 v9:=Tryz.zeroValue9
 t46:=underlying245
 a46:=Tryz.isAgg245
 z46:=Tryz.sizeOf245
 v46:=Tryz.zeroValue245
 t51:=underlying345
 a51:=Tryz.isAgg345
 z51:=Tryz.sizeOf345
 v51:=Tryz.zeroValue345
 t59:=underlying259
 a59:=Tryz.isAgg259
 z59:=Tryz.sizeOf259
 v59:=Tryz.zeroValue259
 t146:=underlying348
 a146:=Tryz.isAgg348
 z146:=Tryz.sizeOf348
 v146:=Tryz.zeroValue348
 g1:=by kernel_rfl}
open Go.RowKit Go.Lib in
theorem Tryz.strings_Cut (s sep:ByteArray) (m:Int) (w:World) (hs:s.size<4294967281) (hm:w.cell? ⟨1,0,none⟩=some (.int .i64 m)):
 Calls prog 166 #[.string s,.string sep] w fun e w'=>e=.returned (.tuple #[.string ⟨(Lib.cut s.data.toList sep.data.toList).1.toArray⟩,.string ⟨(Lib.cut s.data.toList sep.data.toList).2.1.toArray⟩,.bool (Lib.cut s.data.toList sep.data.toList).2.2])/\∃n,w'=w.drewN n:=Any.strings_Cut Tryz.lays145 s sep m w hs hm
def Tryz.lays138_ren:Go.Shelf.Ren:=⟨fun|138=>167|195=>217|218=>218|143=>219|219=>249|217=>271|225=>248|224=>247|267=>272|266=>287|314=>288|n=>n,fun|9=>9|3=>3|4=>4|5=>5|0=>0|46=>245|146=>348|51=>345|n=>n,fun|1=>1|n=>n⟩
theorem Tryz.lays138:Go.Proofs.Lays.n138 prog Tryz.lays138_ren:={
 mixed:=by kernel_rfl
 f138:=func167.trans (congrArg some kQ)
 f143:=func219.trans (congrArg some kQ)
 f195:=func217.trans (congrArg some kQ)
 f217:=func271.trans (congrArg some kQ)
 f218:=func218.trans (congrArg some kQ)
 f219:=func249.trans (congrArg some kQ)
 f224:=func247.trans (congrArg some kQ)
 f225:=func248.trans (congrArg some kQ)
 f266:=func287.trans (congrArg some kQ)
 f267:=func272.trans (congrArg some kQ)
 f314:=func288.trans (congrArg some kQ)
 t0:=underlying0
 a0:=Tryz.isAgg0
 z0:=Tryz.sizeOf0
 v0:=Tryz.zeroValue0
 t3:=underlying3
 a3:=Tryz.isAgg3
 z3:=Tryz.sizeOf3
 v3:=Tryz.zeroValue3
 t4:=underlying4
 a4:=Tryz.isAgg4
 z4:=Tryz.sizeOf4
 v4:=Tryz.zeroValue4
 t5:=underlying5
 a5:=Tryz.isAgg5
 z5:=Tryz.sizeOf5
 v5:=Tryz.zeroValue5
 t9:=underlying9
 a9:=Tryz.isAgg9
 z9:=Tryz.sizeOf9
 v9:=Tryz.zeroValue9
 t46:=underlying245
 a46:=Tryz.isAgg245
 z46:=Tryz.sizeOf245
 v46:=Tryz.zeroValue245
 t51:=underlying345
 a51:=Tryz.isAgg345
 z51:=Tryz.sizeOf345
 v51:=Tryz.zeroValue345
 t146:=underlying348
 a146:=Tryz.isAgg348
 z146:=Tryz.sizeOf348
 v146:=Tryz.zeroValue348
 g1:=by kernel_rfl}
open Go.RowKit Go.Lib in
theorem Tryz.strings_Count_one (s:ByteArray) (c:UInt8) (w:World):
 Calls prog 167 #[.string s,.string ⟨#[c]⟩] w fun e w'=>e=.returned (.int .i64 (Lib.countByte s.data.toList c))/\w'=w:=Any.strings_Count_one Tryz.lays138 s c w
def Tryz.lays152_ren:Go.Shelf.Ren:=⟨fun|152=>212|137=>245|119=>246|224=>247|225=>248|217=>271|266=>287|n=>n,fun|9=>9|21=>21|3=>3|4=>4|5=>5|0=>0|46=>245|n=>n,fun|n=>n⟩
theorem Tryz.lays152:Go.Proofs.Lays.n152 prog Tryz.lays152_ren:={
 mixed:=by kernel_rfl
 f119:=func246.trans (congrArg some kQ)
 f137:=func245.trans (congrArg some kQ)
 f152:=func212.trans (congrArg some kQ)
 f217:=func271.trans (congrArg some kQ)
 f224:=func247.trans (congrArg some kQ)
 f225:=func248.trans (congrArg some kQ)
 f266:=func287.trans (congrArg some kQ)
 t0:=underlying0
 a0:=Tryz.isAgg0
 z0:=Tryz.sizeOf0
 v0:=Tryz.zeroValue0
 t3:=underlying3
 a3:=Tryz.isAgg3
 z3:=Tryz.sizeOf3
 v3:=Tryz.zeroValue3
 t4:=underlying4
 a4:=Tryz.isAgg4
 z4:=Tryz.sizeOf4
 v4:=Tryz.zeroValue4
 t5:=underlying5
 a5:=Tryz.isAgg5
 z5:=Tryz.sizeOf5
 v5:=Tryz.zeroValue5
 t9:=underlying9
 a9:=Tryz.isAgg9
 z9:=Tryz.sizeOf9
 v9:=Tryz.zeroValue9
 t21:=underlying21
 a21:=Tryz.isAgg21
 z21:=Tryz.sizeOf21
 v21:=Tryz.zeroValue21
 t46:=underlying245
 a46:=Tryz.isAgg245
 z46:=Tryz.sizeOf245
 v46:=Tryz.zeroValue245}
open Go.RowKit Go.Lib in
theorem Tryz.strings_IndexRune_ascii (s:ByteArray) (r:Int) (w:World) (h0:0<=r) (h1:r<128):
 Calls prog 212 #[.string s,.int .i32 r] w fun e w'=>e=.returned (.int .i64 (Lib.indexByte s.data.toList r.toNat.toUInt8))/\w'=w:=Any.strings_IndexRune_ascii Tryz.lays152 s r w h0 h1
def Tryz.lays226_ren:Go.Shelf.Ren:=⟨fun|226=>213|n=>n,fun|3=>3|4=>4|n=>n,fun|n=>n⟩
theorem Tryz.lays226:Go.Proofs.Lays.n226 prog Tryz.lays226_ren:={
 mixed:=by kernel_rfl
 f226:=func213.trans (congrArg some kQ)
 t3:=underlying3
 a3:=Tryz.isAgg3
 z3:=Tryz.sizeOf3
 v3:=Tryz.zeroValue3
 t4:=underlying4
 a4:=Tryz.isAgg4
 z4:=Tryz.sizeOf4
 v4:=Tryz.zeroValue4}
open Go.RowKit Go.Lib in
theorem Tryz.strings_shouldUseASCIISet (n:Int) (w:World):
 Calls prog 213 #[.int .i64 n] w fun e w'=>e=.returned (.bool (decide (8<n)))/\w'=w:=Any.strings_shouldUseASCIISet Tryz.lays226 n w
def Tryz.lays153_ren:Go.Shelf.Ren:=⟨fun|153=>165|152=>212|226=>213|227=>214|228=>215|137=>245|119=>246|224=>247|225=>248|217=>271|266=>287|n=>n,fun|9=>9|3=>3|4=>4|5=>5|21=>21|117=>309|116=>308|0=>0|46=>245|124=>328|n=>n,fun|n=>n⟩
theorem Tryz.lays153:Go.Proofs.Lays.n153 prog Tryz.lays153_ren:={
 mixed:=by kernel_rfl
 f119:=func246.trans (congrArg some kQ)
 f137:=func245.trans (congrArg some kQ)
 f152:=func212.trans (congrArg some kQ)
 f153:=func165.trans (congrArg some kQ)
 f217:=func271.trans (congrArg some kQ)
 f224:=func247.trans (congrArg some kQ)
 f225:=func248.trans (congrArg some kQ)
 f226:=func213.trans (congrArg some kQ)
 f227:=func214.trans (congrArg some kQ)
 f228:=func215.trans (congrArg some kQ)
 f266:=func287.trans (congrArg some kQ)
 t0:=underlying0
 a0:=Tryz.isAgg0
 z0:=Tryz.sizeOf0
 v0:=Tryz.zeroValue0
 t3:=underlying3
 a3:=Tryz.isAgg3
 z3:=Tryz.sizeOf3
 v3:=Tryz.zeroValue3
 t4:=underlying4
 a4:=Tryz.isAgg4
 z4:=Tryz.sizeOf4
 v4:=Tryz.zeroValue4
 t5:=underlying5
 a5:=Tryz.isAgg5
 z5:=Tryz.sizeOf5
 v5:=Tryz.zeroValue5
 t9:=underlying9
 a9:=Tryz.isAgg9
 z9:=Tryz.sizeOf9
 v9:=Tryz.zeroValue9
 t21:=underlying21
 a21:=Tryz.isAgg21
 z21:=Tryz.sizeOf21
 v21:=Tryz.zeroValue21
 t46:=underlying245
 a46:=Tryz.isAgg245
 z46:=Tryz.sizeOf245
 v46:=Tryz.zeroValue245
 t116:=underlying308
 a116:=Tryz.isAgg308
 z116:=Tryz.sizeOf308
 t117:=underlying309
 a117:=Tryz.isAgg309
 z117:=Tryz.sizeOf309
 v117:=Tryz.zeroValue309
 t124:=underlying328
 a124:=Tryz.isAgg328
 z124:=Tryz.sizeOf328
 v124:=Tryz.zeroValue328}
open Go.RowKit Go.Lib in
theorem Tryz.strings_IndexAny_long (hv116:∀w,(zeroValue 308).run prog w=.ok (.agg (Array.replicate 256 (.bool false))) w) (s chars:ByteArray) (w:World) (h2:2<=chars.size) (h8:8<s.size) (hs:s.size<4294967281) (hcs:chars.size<4294967281) (hascii:∀(j:Nat) b,chars.data.toList[j]?=some b->b.toNat<128):
 Calls prog 165 #[.string s,.string chars] w fun e w'=>e=.returned (.int .i64 (Lib.indexAny s.data.toList chars.data.toList))/\w'=((w.alloc (.cells (Lib.setCells chars.data.toList) 308)).alloc (.cells (Lib.setCells chars.data.toList) 308)):=Any.strings_IndexAny_long Tryz.lays153 hv116 kQ s chars w h2 h8 hs hcs hascii
def Tryz.lays105_ren:Go.Shelf.Ren:=⟨fun|105=>225|212=>253|99=>210|165=>177|166=>178|170=>254|169=>179|263=>274|264=>275|206=>244|240=>227|241=>228|276=>256|277=>257|n=>n,fun|9=>9|3=>3|4=>4|20=>20|0=>0|46=>245|109=>330|5=>5|72=>270|76=>274|51=>345|146=>348|53=>39|148=>350|70=>268|37=>254|75=>273|127=>316|164=>333|80=>189|n=>n,fun|n=>n⟩
theorem Tryz.lays105:Go.Proofs.Lays.n105 prog Tryz.lays105_ren:={
 mixed:=by kernel_rfl
 f99:=func210.trans (congrArg some kQ)
 f105:=func225.trans (congrArg some kQ)
 f165:=func177.trans (congrArg some kQ)
 f166:=func178.trans (congrArg some kQ)
 f169:=func179.trans (congrArg some kQ)
 f170:=func254.trans (congrArg some kQ)
 f206:=func244.trans (congrArg some kQ)
 f212:=func253.trans (congrArg some kQ)
 f240:=func227.trans (congrArg some kQ)
 f241:=func228.trans (congrArg some kQ)
 f263:=func274.trans (congrArg some kQ)
 f264:=func275.trans (congrArg some kQ)
 f276:=func256.trans (congrArg some kQ)
 f277:=func257.trans (congrArg some kQ)
 t0:=underlying0
 a0:=Tryz.isAgg0
 z0:=Tryz.sizeOf0
 v0:=Tryz.zeroValue0
 t3:=underlying3
 a3:=Tryz.isAgg3
 z3:=Tryz.sizeOf3
 v3:=Tryz.zeroValue3
 t4:=underlying4
 a4:=Tryz.isAgg4
 z4:=Tryz.sizeOf4
 v4:=Tryz.zeroValue4
 t5:=underlying5
 a5:=Tryz.isAgg5
 z5:=Tryz.sizeOf5
 v5:=Tryz.zeroValue5
 t9:=underlying9
 a9:=Tryz.isAgg9
 z9:=Tryz.sizeOf9
 v9:=Tryz.zeroValue9
 t20:=underlying20
 a20:=Tryz.isAgg20
 z20:=Tryz.sizeOf20
 v20:=Tryz.zeroValue20
 t37:=underlying254
 a37:=Tryz.isAgg254
 z37:=Tryz.sizeOf254
 v37:=Tryz.zeroValue254
 t46:=underlying245
 a46:=Tryz.isAgg245
 z46:=Tryz.sizeOf245
 v46:=Tryz.zeroValue245
 t51:=underlying345
 a51:=Tryz.isAgg345
 z51:=Tryz.sizeOf345
 v51:=Tryz.zeroValue345
 t53:=underlying39
 a53:=Tryz.isAgg39
 z53:=Tryz.sizeOf39
 v53:=Tryz.zeroValue39
 t70:=underlying268
 a70:=Tryz.isAgg268
 z70:=Tryz.sizeOf268
 v70:=Tryz.zeroValue268
 t72:=underlying270
 a72:=Tryz.isAgg270
 z72:=Tryz.sizeOf270
 v72:=Tryz.zeroValue270
 t75:=underlying273
 a75:=Tryz.isAgg273
 z75:=Tryz.sizeOf273
 v75:=Tryz.zeroValue273
 t76:=underlying274
 a76:=Tryz.isAgg274
 z76:=Tryz.sizeOf274
 v76:=Tryz.zeroValue274
 t109:=underlying330
 a109:=Tryz.isAgg330
 z109:=Tryz.sizeOf330
 v109:=Tryz.zeroValue330
 t127:=underlying316
 a127:=Tryz.isAgg316
 z127:=Tryz.sizeOf316
 v127:=Tryz.zeroValue316
 t146:=underlying348
 a146:=Tryz.isAgg348
 z146:=Tryz.sizeOf348
 v146:=Tryz.zeroValue348
 t148:=underlying350
 a148:=Tryz.isAgg350
 z148:=Tryz.sizeOf350
 v148:=Tryz.zeroValue350
 t164:=underlying333
 a164:=Tryz.isAgg333
 z164:=Tryz.sizeOf333
 v164:=Tryz.zeroValue333}
theorem Tryz.Builder_Extra_105:Builder.Extra prog Tryz.lays105_ren:={
 sizeBuilder:=by kernel_rfl
 liesBuilder:=by kernel_rfl
 t5:=underlying5
 a5:=Tryz.isAgg5
 z5:=Tryz.sizeOf5
 v5:=Tryz.zeroValue5
 infoByte:=by kernel_rfl
 cellsByte:=by kernel_rfl
 sizeByte:=by kernel_rfl
 neB5:=by decide}
open Go.RowKit Go.Lib in
theorem Tryz.strings_Repeat (s:ByteArray) (c:Nat) (w:World) (hc:c<=9223372036854775807) (hlen:s.size * c<=140737488355328):
 Calls prog 225 #[.string s,.int .i64 c] w fun e w'=>e=.returned (.string ⟨(Lib.repeatL s.data.toList c).toArray⟩)/\Below w.heap.size w w':=Any.strings_Repeat Tryz.lays105 Tryz.Builder_Extra_105 s c w hc hlen
def Tryz.laysNm220_ren:Go.Shelf.Ren:=⟨fun|20=>184|n=>n,fun|22=>87|3=>3|4=>4|0=>0|n=>n,fun|n=>n⟩
theorem Tryz.laysNm220:Go.Proofs.Lays2.n20 prog Tryz.laysNm220_ren:={
 mixed:=by kernel_rfl
 f20:=func184.trans (congrArg some kQ)
 t0:=underlying0
 a0:=Tryz.isAgg0
 z0:=Tryz.sizeOf0
 v0:=Tryz.zeroValue0
 t3:=underlying3
 a3:=Tryz.isAgg3
 z3:=Tryz.sizeOf3
 v3:=Tryz.zeroValue3
 t4:=underlying4
 a4:=Tryz.isAgg4
 z4:=Tryz.sizeOf4
 v4:=Tryz.zeroValue4
 t22:=underlying87
 a22:=Tryz.isAgg87
 z22:=Tryz.sizeOf87
 v22:=Tryz.zeroValue87
 i3:=by kernel_rfl}
open Go.RowKit Go.Lib Go.Sort in
theorem Tryz.slices_Compact_int (blk off cap:Nat) (zs:List Int) (w:World) (hH:Holds (Value.int .i64) w blk off zs.toArray) (hsz:zs.length<=9223372036854775807) (hcap:zs.length<=cap):
 Calls prog 184 #[.slice (some ⟨blk,off,none⟩) zs.length cap] w fun e w'=>e=.returned (.slice (some ⟨blk,off,none⟩) (Lib.compact zs).length cap)/\∃q,w'=putRow (Value.int .i64) (Sort.ahead w q) blk off (Lib.compact zs++List.replicate (zs.length - (Lib.compact zs).length) 0).toArray:=Any.slices_Compact_int Tryz.laysNm220 blk off cap zs w hH hsz hcap
open Go.RowKit Go.Lib Go.Sort in
theorem Tryz.slices_Compact_int_empty (a:Option Addr) (cap:Nat) (w:World):
 Calls prog 184 #[.slice a 0 cap] w fun e w'=>e=.returned (.slice a 0 cap)/\w'=w:=Any.slices_Compact_int_empty Tryz.laysNm220 a cap w
def Tryz.lays189_ren:Go.Shelf.Ren:=⟨fun|189=>183|125=>232|257=>231|128=>267|129=>85|294=>258|295=>259|296=>260|297=>261|298=>262|299=>263|216=>264|300=>265|301=>266|328=>280|329=>281|330=>282|331=>283|332=>284|215=>285|343=>293|n=>n,fun|28=>87|3=>3|46=>245|0=>0|51=>345|53=>39|4=>4|183=>338|182=>337|131=>83|5=>5|9=>9|218=>356|222=>360|228=>367|229=>115|n=>n,fun|n=>n⟩
theorem Tryz.lays189:Go.Proofs.Lays.n189 prog Tryz.lays189_ren:={
 mixed:=by kernel_rfl
 f125:=func232.trans (congrArg some kQ)
 f128:=func267.trans (congrArg some kQ)
 f129:=func85.trans (congrArg some kQ)
 f189:=func183.trans (congrArg some kQ)
 f215:=func285.trans (congrArg some kQ)
 f216:=func264.trans (congrArg some kQ)
 f257:=func231.trans (congrArg some kQ)
 f294:=func258.trans (congrArg some kQ)
 f295:=func259.trans (congrArg some kQ)
 f296:=func260.trans (congrArg some kQ)
 f297:=func261.trans (congrArg some kQ)
 f298:=func262.trans (congrArg some kQ)
 f299:=func263.trans (congrArg some kQ)
 f300:=func265.trans (congrArg some kQ)
 f301:=func266.trans (congrArg some kQ)
 f328:=func280.trans (congrArg some kQ)
 f329:=func281.trans (congrArg some kQ)
 f330:=func282.trans (congrArg some kQ)
 f331:=func283.trans (congrArg some kQ)
 f332:=func284.trans (congrArg some kQ)
 f343:=func293.trans (congrArg some kQ)
 t0:=underlying0
 a0:=Tryz.isAgg0
 z0:=Tryz.sizeOf0
 v0:=Tryz.zeroValue0
 t3:=underlying3
 a3:=Tryz.isAgg3
 z3:=Tryz.sizeOf3
 v3:=Tryz.zeroValue3
 t4:=underlying4
 a4:=Tryz.isAgg4
 z4:=Tryz.sizeOf4
 v4:=Tryz.zeroValue4
 t5:=underlying5
 a5:=Tryz.isAgg5
 z5:=Tryz.sizeOf5
 v5:=Tryz.zeroValue5
 t9:=underlying9
 a9:=Tryz.isAgg9
 z9:=Tryz.sizeOf9
 v9:=Tryz.zeroValue9
 t28:=underlying87
 a28:=Tryz.isAgg87
 z28:=Tryz.sizeOf87
 v28:=Tryz.zeroValue87
 t46:=underlying245
 a46:=Tryz.isAgg245
 z46:=Tryz.sizeOf245
 v46:=Tryz.zeroValue245
 t51:=underlying345
 a51:=Tryz.isAgg345
 z51:=Tryz.sizeOf345
 v51:=Tryz.zeroValue345
 t53:=underlying39
 a53:=Tryz.isAgg39
 z53:=Tryz.sizeOf39
 v53:=Tryz.zeroValue39
 t131:=underlying83
 a131:=Tryz.isAgg83
 z131:=Tryz.sizeOf83
 v131:=Tryz.zeroValue83
 t182:=underlying337
 a182:=Tryz.isAgg337
 z182:=Tryz.sizeOf337
 v182:=Tryz.zeroValue337
 t183:=underlying338
 a183:=Tryz.isAgg338
 z183:=Tryz.sizeOf338
 v183:=Tryz.zeroValue338
 t218:=underlying356
 a218:=Tryz.isAgg356
 z218:=Tryz.sizeOf356
 v218:=Tryz.zeroValue356
 t222:=underlying360
 a222:=Tryz.isAgg360
 z222:=Tryz.sizeOf360
 v222:=Tryz.zeroValue360
 t228:=underlying367
 a228:=Tryz.isAgg367
 z228:=Tryz.sizeOf367
 v228:=Tryz.zeroValue367
 t229:=underlying115
 a229:=Tryz.isAgg115
 z229:=Tryz.sizeOf115
 v229:=Tryz.zeroValue115}
open Go.Sort Go.RowKit in
theorem Tryz.slices_Sort_int (blk off cap:Nat) (zs:List Int) (w:World) (hH:Holds (Value.int .i64) w blk off zs.toArray) (hblk:blk<w.heap.size) (hsz:zs.length<4611686018427387904):
 Calls prog 183 #[.slice (some ⟨blk,off,none⟩) zs.length cap] w fun e w'=>
  e=.returned (.tuple #[])/\∃n os,w'=grow (putRow (Value.int .i64) (Sort.ahead w n) blk off (zs.mergeSort fun x y=>decide (x<=y)).toArray) os:=Any.slices_Sort_int Tryz.lays189 blk off cap zs w hH hblk hsz
open Go.RowKit Go.Sort in
theorem Tryz.slices_Sort_int_none (p:Option Addr) (cap:Nat) (w:World):
 Calls prog 183 #[.slice p 0 cap] w fun e w'=>e=.returned (.tuple #[])/\w'=w:=Any.slices_Sort_int_none Tryz.lays189 p cap w
end Go.Proofs
