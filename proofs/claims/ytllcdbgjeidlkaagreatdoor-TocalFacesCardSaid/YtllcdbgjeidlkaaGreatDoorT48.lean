/- A part of the proof: WMeet7 -/
import Derived.Test.YtllcdbgjeidlkaaGreatDoorT27
import Derived.Test.YtllcdbgjeidlkaaGreatDoorT37
import Derived.Test.YtllcdbgjeidlkaaGreatDoorT47
import Derived.Test.YtllcdbgjeidlkaaGreatDoorT32
import Derived.Test.YtllcdbgjeidlkaaGreatDoorT11
import Derived.ChangeArms
import Derived.Test.YtllcdbgjeidlkaaGreatDoorCards
import Derived.Test.YtllcdbgjeidlkaaGreatDoorTie
import Derived.Deep.DeepHandedRow
import Derived.Lib.LaidTab
import Derived.LaidSub
import Derived.MakeChecks
import Derived.Test.YtllcdbgjeidlkaaGreatDoorT29
import Derived.Test.YtllcdbgjeidlkaaGreatDoorT08
set_option maxHeartbeats 80000000
set_option maxRecDepth 100000
set_option linter.unusedSimpArgs false
set_option linter.unusedVariables false
namespace Go.Proofs.YtllcdbgjeidlkaaGreatDoor
open Go.Proofs.Tryz
open Go.RowKit
open Go.Maps
def zrW (x y:Nat):Nat:=x^^^(x&&&y)
theorem zer:zi8 zrW zqJ:=fun x y hx hy=>⟨Nat.xor_lt_two_pow (n:=64) hx (Nat.lt_of_le_of_lt Nat.and_le_left hx),fun j=>by
 unfold zrW;rw[Nat.testBit_xor,Nat.testBit_and];cases x.testBit j<;>cases y.testBit j<;>rfl⟩
theorem zoW (x y:Nat) (hx:x<18446744073709551616) (hy:y<18446744073709551616):bits .andNot .u64 (x:Int) (y:Int)=(zrW x y:Nat):=zkT hx hy (zer x y hx hy).1 fun k hk=>by
 rw[(zer x y hx hy).2 k];cases x.testBit k<;>cases y.testBit k<;>simp
theorem zoX (x y:Nat) (hx:x<18446744073709551616) (hy:y<18446744073709551616) (w:World):Calls prog 95 #[.int .u64 x,.int .u64 y] w (zbE (.int .u64 (zrW x y:Nat)) w):=by
 have HE:=waV (zoW x y hx hy);go_enter func95,ntmps95;go_wp2;go_ret;exact⟨zaR HE.out,rfl⟩
theorem zrX (va vb:Value) (p q:Nat->Bool) (w:World) (hw:Tz w) (ha:zdN w va p) (hb:zdN w vb q):Calls prog 41 #[va,vb] w (zgQ (fun x=>p x&&!q x) 0 w):=by
 have H:=waV (zmQ va vb p q 95 zrW zqJ zer w hw ha hb (enters_of func95 kQ rfl) (fun x y hx hy=>zoX x y hx hy w))
 clear ha hb hw;go_enter func41,ntmps41;go_wp2_with fail;refine H.out.mono ?_;rintro e w1 ⟨rfl,⟨x,rfl,hx⟩|⟨rfl,hx⟩⟩
 ·have HX:=waV hx;clear hx;go_wp2
  go_ret2
  exact⟨rfl,.inl ⟨x,rfl,HX.out⟩⟩
 ·have HX:=waV hx;clear hx;go_wp2
  go_ret2
  exact⟨rfl,.inr ⟨rfl,HX.out⟩⟩
theorem zmi:zqs 41 zqJ:=⟨enters_of func41 kQ rfl,fun va vb p q w hw ha hb=>zrX va vb p q w hw ha hb⟩
def zyb (n1 n2:Nat) (L1 L2:List Cl) (W:World) (e:Ending) (W':World):Prop:=
 Below W.heap.size W W'/\∃(y f:Bool) (t:Int),e=.returned (.tuple #[.agg #[.bool y,.int .i64 t,.bool f],.int .i64 (erE (zbI n1 L1) (zbI n2 L2))])/\(erE (zbI n1 L1) (zbI n2 L2)=0->(y=true↔zjg L1 L2))
theorem zmj (A1 A2:Option Addr) (n1 n2 k1 k2:Nat) (L1 L2:List Cl) (W:World) (hA1:zbh W A1 n1 L1) (hn1:n1<=4294967296) (hl1:A1=none->n1=0) (hbit1:∀c,c∈L1->zbC c/\c.s<=9223372036854775807)
 (hA2:zbh W A2 n2 L2) (hn2:n2<=4294967296) (hl2:A2=none->n2=0) (hbit2:∀c,c∈L2->zbC c/\c.s<=9223372036854775807) (hw:Tz W):
 Calls prog 14 #[.slice A1 n1 k1,.slice A2 n2 k2] W (zyb n1 n2 L1 L2 W):=by
 have HV:=waV (fun V (hV:Below W.heap.size W V)=>zha zqJ rfl A1 A2 n1 n2 k1 k2 41 L1 L2 V (hA1.below hV (waJ _)) hn1 hl1 hbit1 (hA2.below hV (waJ _)) hn2 hl2 hbit2 (hw.below hV) zmi)
 clear hA1 hA2 hn1 hn2 hl1 hl2 hbit1 hbit2 hw;go_enter func14,ntmps14;go_wp2_with fail;have hb0:Below W.heap.size W (W.alloc (.cells #[.bool false,.int .i64 0,.bool false] 36)):=(waC _ W).alloc (waJ _) _;have hz0:(W.alloc (.cells #[.bool false,.int .i64 0,.bool false] 36)).heap.size=W.heap.size+1:=by simp
 have bx0:(W.alloc (.cells #[.bool false,.int .i64 0,.bool false] 36)).heap[W.heap.size]?=some (.cells #[.bool false,.int .i64 0,.bool false] 36):=World.alloc_heap_new W _;generalize (W.alloc (.cells #[.bool false,.int .i64 0,.bool false] 36))=W0 at *;refine(HV.out _ hb0).mono ?_;rintro e w1 ⟨hb1,y,f,t,rfl,hy⟩;have bx1:=(hb1.block _ (waL.1 bx0).1).trans bx0;have hb01:=hb0.trans (hb1.mono oQ);have lb1:=(waL.1 bx1).1;have c0:w1.cell? ⟨W.heap.size,0,none⟩=some (.bool false):=by simp[World.cell?,bx1]
 have c1:w1.cell? ⟨W.heap.size,1,none⟩=some (.int .i64 0):=by simp[World.cell?,bx1]
 have c2:w1.cell? ⟨W.heap.size,2,none⟩=some (.bool false):=by simp[World.cell?,bx1]
 have hf0:w1.frozen? ⟨W.heap.size,0,none⟩=false:=by simp[World.frozen?,bx1]
 have hf1:w1.frozen? ⟨W.heap.size,1,none⟩=false:=by simp[World.frozen?,bx1]
 have hf2:w1.frozen? ⟨W.heap.size,2,none⟩=false:=by simp[World.frozen?,bx1]
 have HY:=waV hy;clear bx1 bx0 hb1 hb0 hy HV;generalize hE:erE (zbI n1 L1) (zbI n2 L2)=E at *;go_wp2_with fail
 (try simp only[Exit.inBlock,Exit.then])
 refine waY (v:=.tuple #[.agg #[.bool y,.int .i64 t,.bool f],.int .i64 E]) (by rw[zaD rfl];go_simp) rfl ?_
 have hbE:=Below.setCell (p:=⟨W.heap.size,2,none⟩) (Below.setCell (p:=⟨W.heap.size,1,none⟩) (Below.setCell (p:=⟨W.heap.size,0,none⟩) (by assumption:Below W.heap.size W _) (waJ _) (.bool y)) (waJ _) (.int .i64 t)) (waJ _) (.bool f)
 subst hE;exact⟨hbE,y,f,t,rfl,fun h=>(HY.out h).trans zlE⟩
theorem zmk {L:List Cl} (bk:Bool):zjg L [evC (evP (zay L) bk)]:=fun n h0 h1 s hs h=>(zrV (P:=zay L) ⟨h0,h1,hs,h⟩ bk).2
theorem zuq {P:Int->Nat->Bool} (h:zk6 P) (bk:Bool):zfB (evP P bk)=(7,0):=by
 obtain⟨n,s,hl⟩:=h;exact(zrV hl bk).1
theorem zrY {P:Int->Nat->Bool}:(evP P false).back=false:=by
 unfold evP evL;simp
theorem zhM (A:Option Addr) (n c:Nat) (L:List Cl) (bk:Bool) (w:World) (hA:zbh w A n L) (hnil:A=none->n=0) (hbit:∀k,k∈L->zbC k/\k.s<=9223372036854775807) (hx:zcv w) (hp:Pow w) (ht:Tz w):
 Calls prog 4 #[.slice A n c,.bool bk] w (Ret (.bool true) w):=by
 have HV:=waV (fun W (hb:Below w.heap.size w W)=>zmh W (hx.below hb) (zdn hp hb) (ht.below hb))
 have hl:L.length=n:=hA.1
 by_cases h8:8<n
 ·have hn8:(n:Int)>8:=by omega
  clear hA hnil hbit hl h8 ht hp hx;go_enter func4,ntmps4;go_wp2_with fail;refine(HV.out _ (waC _ _)).mono ?_;rintro e w1 ⟨rfl,hb1⟩;go_wp2;go_ret;exact⟨rfl,hb1⟩
 ·have hn8:¬(n:Int)>8:=by omega
  have HM:=waV (fun W (hb:Below w.heap.size w W)=>zrM A n c L W (hA.below hb (waJ _)) oQ (fun k hk=>(hbit k hk).1))
  cases hs:zeJ L with
  |false=>
   rw[hs] at HM;clear hA hnil hbit hl h8 ht hp hx hs;go_enter func4,ntmps4;go_wp2_with fail;refine(HM.out _ (waC _ _)).mono ?_;rintro e w1 ⟨rfl,hb1⟩;go_wp2_with fail;refine(HV.out _ hb1).mono ?_;rintro e w2 ⟨rfl,hq⟩;go_wp2;go_ret;exact⟨rfl,zaf hb1 hq hb1.size⟩
  |true=>
   have HE:Hid (zbI n L=0):=by show _=_;unfold zbI;rw[if_neg h8,if_pos hs]
   have HOf:=waV (fun V (hV:Below w.heap.size w V)=>zih A n c L V (hA.below hV (waJ _)) oQ hnil hbit (ht.below hV))
   have HWi:=waV (fun V b x (hV:Below w.heap.size w V) (hr2:zbh V (some ⟨b,0,none⟩) 1 [evC x])=>zmj A (some ⟨b,0,none⟩) n 1 c 1 L [evC x] V (hA.below hV (waJ _)) oQ hnil hbit hr2 dQ (fun h=>(by cases h)) (zrw x) (ht.below hV))
   have HT:=waV ht;rw[hs] at HM;clear hA hnil hbit hl h8 ht hp hx hs;go_enter func4,ntmps4;go_wp2_with fail;refine(HM.out _ (waC _ _)).mono ?_;rintro e w1 ⟨rfl,hb1⟩;go_wp2_with fail;refine(HOf.out _ hb1).mono ?_;rintro e w2 ⟨hb2,(⟨h,_⟩|⟨_,g,rfl,hg⟩)⟩
   ·exact absurd HE.out h
   have hb02:=zaf hb1 hb2 hb1.size;have HFn:Hid (FaceAt (w2.alloc (.cells (zaU (gZ false)) 43)) w2.heap.size (gZ false)):=FaceAt.new _ _ (zek false);have HMk:Hid (∀V,RlS (·=w2.heap.size) (w2.alloc (.cells (zaU (gZ false)) 43)) V->Below w.heap.size w V):=fun V hr=>hr.to_below' (hb02.alloc hb02.size _) hb02.size
   have HLd0:=waV (fun V (h:FaceAt V w2.heap.size g)=>zdM h.lies)
   have HFi:=waV (zdo g);have HG:=waV hg.f;obtain⟨z,hz,hza⟩:=hg.d;have HZ:=waV hz;clear hb1 hb2 hb02 HOf HM
   by_cases e0:z=0
   ·subst e0;have HEn:=waV (fun V=>zoO g hg.f hz bk V)
    have HSn:=waV (fun W=>zx9 W)
    obtain⟨cs,hcs⟩:∃cs,zaU g=cs:=⟨_,rfl⟩;rw[hcs] at HFi HLd0 HEn;clear hcs hz hza hg HT HWi HE
    go_wp2_with (first|(refine zaV rfl _ _ rfl g HFn.out HG.out rfl rfl ?_;intro V hf hr;have HFv:=waV hf;have HLf:=waV (HLd0.out V hf);have hbV:=HMk.out V hr;clear hf hr)|(refine zag (by rfl) 43 _ rfl cs w2.heap.size 0 rfl underlying43 rfl HFi.out HLf.out ?_)|fail)
    refine(HEn.out _).mono ?_;rintro e w3 ⟨hb3,rfl⟩;have hF3:=HFv.out.below hb3;have f48:=hF3.cell (show 48<51 by decide)
    rw[HZ.out] at f48;have lf:=waR _ _ f48;have hb03:=zaf hbV hb3 hbV.size;clear hF3 HLf HFv hbV hb3;go_wp2_with fail;refine(HSn.out _).mono ?_;rintro e w5 ⟨rfl,hq⟩;have hb5:=zaf (hb03.alloc hb03.size _) hq (hb03.alloc hb03.size _).size;clear f48 lf hq;go_wp2_with fail;refine(HV.out _ hb5).mono ?_;rintro e w6 ⟨rfl,hq⟩;go_wp2;go_ret;exact⟨rfl,zaf hb5 hq hb5.size⟩
   ·have hzp:0<z:=by omega
    have han:zk6 (zay L):=Classical.not_not.1 fun h=>e0 (hza.2 h)
    have HEv:=waV (fun V (hV:Below w.heap.size w V)=>ziu (zay L) g hg han bk V (HT.out.below hV))
    have HKc:Hid (zfB (evP (zay L) bk)=(7,0)):=zuq han bk;have HBk:Hid (bk=false->(evP (zay L) bk).back=false):=fun h=>by rw[h];exact zrY
    have HSl:Hid (zjg L [evC (evP (zay L) bk)]):=zmk bk;have HLn:=waV (zhq (zay L) bk);obtain⟨cs,hcs⟩:∃cs,zaU g=cs:=⟨_,rfl⟩;rw[hcs] at HFi HLd0 HEv;generalize evP (zay L) bk=x at *;clear hcs hz hza hg han e0
    go_wp2_with (first|(refine zaV rfl _ _ rfl g HFn.out HG.out rfl rfl ?_;intro V hf hr;have HFv:=waV hf;have HLf:=waV (HLd0.out V hf);have hbV:=HMk.out V hr;clear hf hr)|(refine zag (by rfl) 43 _ rfl cs w2.heap.size 0 rfl underlying43 rfl HFi.out HLf.out ?_)|fail)
    refine(HEv.out _ hbV).mono ?_;rintro e w3 ⟨hb3,v,rfl,ho⟩;have hF3:=HFv.out.below hb3;have f48:=hF3.cell (show 48<51 by decide)
    rw[HZ.out] at f48;have lf:=waR _ _ f48;have hb03:=zaf hbV hb3 hbV.size;obtain⟨A',n',m',e,hr',hz',hn'⟩:=ho.rd;obtain⟨S0,n0,d0,S1,n1,d1,S2,n2,d2,S3,n3,d3,S5,n5,d5,S6,n6,d6,S7,n7,d7,hv⟩:=ho.eight;have HLw:=waV (fun W (hb:Below w3.heap.size w3 W)=>(show Calls prog 10 #[v] W (zjo (evC x) W) by
     rw[e];exact zhn A' n' m' x W (hr'.below hb) (fun j hj h4=>by rw[hn' j,if_pos ⟨hj,h4⟩];exact HLn.out j hj h4) HKc.out))
    generalize x.back=kb at hv HBk;subst hv;clear ho hr' hz' hn' e hF3 HLf HFv hbV hb3 HEv HLd0 HMk HFn;go_wp2_with fail;have hbY:Below w3.heap.size w3 (w3.alloc (.cells #[.slice S0 n0 d0,.slice S1 n1 d1,.slice S2 n2 d2,.slice S3 n3 d3,.bool kb,.slice S5 n5 d5,.slice S6 n6 d6,.slice S7 n7 d7] 26)):=(waC _ _).alloc (waJ _) _;have hC:zb9 (w3.alloc (.cells #[.slice S0 n0 d0,.slice S1 n1 d1,.slice S2 n2 d2,.slice S3 n3 d3,.bool kb,.slice S5 n5 d5,.slice S6 n6 d6,.slice S7 n7 d7] 26)) w3.heap.size #[.slice S0 n0 d0,.slice S1 n1 d1,.slice S2 n2 d2,.slice S3 n3 d3,.bool kb,.slice S5 n5 d5,.slice S6 n6 d6,.slice S7 n7 d7]:=zb9.new _ _;clear f48 lf;generalize w3.alloc (.cells #[.slice S0 n0 d0,.slice S1 n1 d1,.slice S2 n2 d2,.slice S3 n3 d3,.bool kb,.slice S5 n5 d5,.slice S6 n6 d6,.slice S7 n7 d7] 26)=V1 at *;generalize hxb:w3.heap.size=xb at hC ⊢;clear hxb;refine(HLw.out _ hbY).mono ?_;rintro e w4 ⟨b2,rfl,hr2,hq⟩;replace hC:=hC.below hq;replace hbY:=zaf hbY hq hbY.size;have hb4:=hb03.trans (hbY.mono hb03.size);have HQ:=waV (HWi.out w4 b2 x hb4 hr2);have HE2:Hid (erE (zbI n L) (zbI 1 [evC x])=0):=by
     show _=_;rw[HE.out,zrx];rfl
    have HC:=waV hC;clear hq HLw hr2 hC hbY hb03;go_wp2_with fail;refine HQ.out.mono ?_;rintro e w7 ⟨hb7,y,f,t,rfl,hy⟩;obtain rfl:y=true:=(hy HE2.out).2 HSl.out;rw[HE2.out];have c4:=(HC.out.below hb7).lies 4 _ rfl;have lc:=waR _ _ c4;have hb47:=zaf hb4 hb7 hb4.size;have hb8:Below w.heap.size w (w7.alloc (.cells #[.bool true,.int .i64 t,.bool f] 36)):=hb47.alloc hb47.size _;clear HQ hy HE2 HC hb7;cases bk with
    |true=>
     go_wp2_with fail;refine(HV.out _ hb8).mono ?_;rintro e w9 ⟨rfl,hq⟩;go_wp2;go_ret;exact⟨rfl,zaf hb8 hq hb8.size⟩
    |false=>
     obtain rfl:=HBk.out rfl;go_wp2_with fail;refine(HV.out _ hb8).mono ?_;rintro e w9 ⟨rfl,hq⟩;go_wp2;go_ret;exact⟨rfl,zaf hb8 hq hb8.size⟩
end Go.Proofs.YtllcdbgjeidlkaaGreatDoor
namespace Go.Proofs.YtllcdbgjeidlkaaGreatDoor
open Go.Proofs.Tryz
open Go.ChangeShapes Go.WideShapes Go.ChangeAt Go.RowKit
def zyc:DataW Unit->Array Value
 | .agg xs=>(xs.map fun| .lit (.int k z)=>Value.int k z|_=>undef).toArray
 |_=> #[]
def zwB (d:DataW Unit):Obj->Obj
 | .cells _ t fr=>.cells (zyc d) t fr
 |o=>o
theorem zur:(Rows.laid_internal_strconv_uint64pow10:DataW Unit)=Lib.tabData .u64 Lib.pow10Tab:=by kernel_rfl
theorem zyd {l:List (String×DataW Unit)} {W:World} (h:laidMetH prog l W) (hl:l.filter (fun x=>x.1== "internal/strconv.uint64pow10")=[("internal/strconv.uint64pow10",Rows.laid_internal_strconv_uint64pow10)]):Pow W:=by
 have h1:=h.filter (fun x=>x.1== "internal/strconv.uint64pow10")
 rw[hl,MakeChecks.laidMetH_plain _ _ _ (by kernel_rfl),zur] at h1
 exact Lib.tabIs_of_head (rest:=[]) (show prog.globalNamed "internal/strconv.uint64pow10" =some 2 by kernel_rfl) (show(prog.globals[2]?).map (·.type)=some 365 by kernel_rfl) underlying365 underlying39 kQ kQ h1
theorem zwC:(Rows.laid_math_bits_deBruijn64tab:DataW Unit)=Lib.tabData .u8 (Go.Lib.deBruijn64tab.map fun(k:Nat)=>(k:Int)):=by kernel_rfl
theorem tz_of {l:List (String×DataW Unit)} {W:World} (h:laidMetH prog l W) (hl:l.filter (fun x=>x.1== "math/bits.deBruijn64tab")=[("math/bits.deBruijn64tab",Rows.laid_math_bits_deBruijn64tab)]):Tz W:=by
 have h1:=h.filter (fun x=>x.1== "math/bits.deBruijn64tab")
 rw[hl,MakeChecks.laidMetH_plain _ _ _ (by kernel_rfl),zwC] at h1
 have hg:=(show prog.globalNamed "math/bits.deBruijn64tab" =some 0 by kernel_rfl)
 have h2:=Lib.tabIs_of_head (rest:=[]) hg (show(prog.globals[0]?).map (·.type)=some 303 by kernel_rfl) underlying303 underlying5 kQ kQ h1
 intro j hj;have h3:=h2.cell hg j (by rw[List.length_map];exact hj)
 rw[h3,List.getD_eq_getElem?_getD,List.getD_eq_getElem?_getD,List.getElem?_map,waE hj];rfl
noncomputable def znv (os:Os):World:=
 {World.holding prog os ⟨#[],#[],[]⟩ with heap:=(((World.holding prog os ⟨#[],#[],[]⟩).heap.modify 2 (zwB Rows.laid_internal_strconv_uint64pow10)).modify 3 (zwB Rows.laid_math_bits_deBruijn32tab)).modify 0 (zwB Rows.laid_math_bits_deBruijn64tab)}
theorem zwD (os:Os) (args:Array Value):laidMet prog [("math/bits.deBruijn32tab",Rows.laid_math_bits_deBruijn32tab),("math/bits.deBruijn64tab",Rows.laid_math_bits_deBruijn64tab),("internal/strconv.uint64pow10",Rows.laid_internal_strconv_uint64pow10)] ((znv os).forCall (fun _ _=>0) ⟨#[],args,[]⟩).memory:=
 laidMet_of_run' 8 kQ kQ
end Go.Proofs.YtllcdbgjeidlkaaGreatDoor
namespace Go.Proofs.YtllcdbgjeidlkaaGreatDoor
open Go.Proofs.Tryz
open Go.ChangeShapes Go.WideShapes Go.ChangeAt Go.RowKit Go.Deep
section
variable {H : Type} {enc : TypeId × Value -> H} {w : World} {base : Nat} {spare : Nat -> Bool} {held : Bool}
theorem zbH {x:Int} (h:(Lit.int .u64 x).wf=true):M64 x:=by
 have:0<=x/\x<=18446744073709551615:=by simpa[Lit.wf,IntKind.min,IntKind.max,IntKind.signed,IntKind.bits] using h
 exact⟨this.1,by omega⟩
theorem zb7:prog.cellsOf 39=1:=by kernel_rfl
theorem znw:prog.cellsOf 41=8:=by kernel_rfl
theorem zwE {fuel:Nat} {cs:List Value} {x:DataW H×List MemPlace} (h:DataW.trod enc prog w base spare held fuel 41 cs=some x):∃g:Nat->Int,cs=[.int .u64 (g 0),.int .u64 (g 1),.int .u64 (g 2),.int .u64 (g 3),.int .u64 (g 4),.int .u64 (g 5),.int .u64 (g 6),.int .u64 (g 7)]/\∀k,k<8->M64 (g k):=by
 obtain⟨xs,n,_,hx,hlen,hxl,hf⟩:=DataW.trod_array underlying41 h;rw[znw] at hlen
 match cs,hlen with
 |[c0,c1,c2,c3,c4,c5,c6,c7],_=>
  have i0:=hf 0 dQ;have i1:=hf 1 dQ;have i2:=hf 2 dQ;have i3:=hf 3 dQ;have i4:=hf 4 dQ;have i5:=hf 5 dQ;have i6:=hf 6 dQ;have i7:=hf 7 dQ
  match xs,hxl with
  |[y0,y1,y2,y3,y4,y5,y6,y7],_=>
   rw[zb7] at i0 i1 i2 i3 i4 i5 i6 i7;obtain⟨z0,e0,_,w0⟩:=DataW.trod_int underlying39 i0;obtain⟨z1,e1,_,w1⟩:=DataW.trod_int underlying39 i1;obtain⟨z2,e2,_,w2⟩:=DataW.trod_int underlying39 i2;obtain⟨z3,e3,_,w3⟩:=DataW.trod_int underlying39 i3;obtain⟨z4,e4,_,w4⟩:=DataW.trod_int underlying39 i4;obtain⟨z5,e5,_,w5⟩:=DataW.trod_int underlying39 i5;obtain⟨z6,e6,_,w6⟩:=DataW.trod_int underlying39 i6;obtain⟨z7,e7,_,w7⟩:=DataW.trod_int underlying39 i7;simp at e0 e1 e2 e3 e4 e5 e6 e7;subst e0 e1 e2 e3 e4 e5 e6 e7;refine⟨fun k=>match k with|0=>z0|1=>z1|2=>z2|3=>z3|4=>z4|5=>z5|6=>z6|_=>z7,rfl,fun k hk=>?_⟩
   obtain rfl|rfl|rfl|rfl|rfl|rfl|rfl|rfl:k=0\/k=1\/k=2\/k=3\/k=4\/k=5\/k=6\/k=7:=by omega
   ·exact zbH w0
   ·exact zbH w1
   ·exact zbH w2
   ·exact zbH w3
   ·exact zbH w4
   ·exact zbH w5
   ·exact zbH w6
   ·exact zbH w7
theorem znx:prog.cellsOf 40=7:=by kernel_rfl
theorem zwF {fuel:Nat} {cs:List Value} {x:DataW H×List MemPlace} (h:DataW.trod enc prog w base spare held fuel 40 cs=some x):∃g:Nat->Int,cs=[.int .u64 (g 0),.int .u64 (g 1),.int .u64 (g 2),.int .u64 (g 3),.int .u64 (g 4),.int .u64 (g 5),.int .u64 (g 6)]/\∀k,k<7->M64 (g k):=by
 obtain⟨xs,n,_,hx,hlen,hxl,hf⟩:=DataW.trod_array underlying40 h;rw[znx] at hlen
 match cs,hlen with
 |[c0,c1,c2,c3,c4,c5,c6],_=>
  have i0:=hf 0 dQ;have i1:=hf 1 dQ;have i2:=hf 2 dQ;have i3:=hf 3 dQ;have i4:=hf 4 dQ;have i5:=hf 5 dQ;have i6:=hf 6 dQ
  match xs,hxl with
  |[y0,y1,y2,y3,y4,y5,y6],_=>
   rw[zb7] at i0 i1 i2 i3 i4 i5 i6;obtain⟨z0,e0,_,w0⟩:=DataW.trod_int underlying39 i0;obtain⟨z1,e1,_,w1⟩:=DataW.trod_int underlying39 i1;obtain⟨z2,e2,_,w2⟩:=DataW.trod_int underlying39 i2;obtain⟨z3,e3,_,w3⟩:=DataW.trod_int underlying39 i3;obtain⟨z4,e4,_,w4⟩:=DataW.trod_int underlying39 i4;obtain⟨z5,e5,_,w5⟩:=DataW.trod_int underlying39 i5;obtain⟨z6,e6,_,w6⟩:=DataW.trod_int underlying39 i6;simp at e0 e1 e2 e3 e4 e5 e6;subst e0 e1 e2 e3 e4 e5 e6;refine⟨fun k=>match k with|0=>z0|1=>z1|2=>z2|3=>z3|4=>z4|5=>z5|_=>z6,rfl,fun k hk=>?_⟩
   obtain rfl|rfl|rfl|rfl|rfl|rfl|rfl:k=0\/k=1\/k=2\/k=3\/k=4\/k=5\/k=6:=by omega
   ·exact zbH w0
   ·exact zbH w1
   ·exact zbH w2
   ·exact zbH w3
   ·exact zbH w4
   ·exact zbH w5
   ·exact zbH w6
theorem zk4:prog.cellsOf 58=10:=by kernel_rfl
theorem ziy:prog.cellsOf 3=1:=by kernel_rfl
theorem zfA:prog.cellsOf 2=1:=by kernel_rfl
theorem zht:prog.cellsOf 4=1:=by kernel_rfl
theorem zus {fuel:Nat} {cs:List Value} {x:DataW H×List MemPlace} (h:DataW.trod enc prog w base spare held fuel 58 cs=some x):∃(i:Int) (b:Bool) (g:Nat->Int),cs=[.int .i64 i,.bool b,.int .u64 (g 0),.int .u64 (g 1),.int .u64 (g 2),.int .u64 (g 3),.int .u64 (g 4),.int .u64 (g 5),.int .u64 (g 6),.int .u64 (g 7)]/\∀k,k<8->M64 (g k):=by
 obtain⟨xs,q,_,hx,hlen,hxl,hf⟩:=DataW.trod_struct underlying58 h;rw[zk4] at hlen
 match cs,hlen with
 |[c0,c1,c2,c3,c4,c5,c6,c7,c8,c9],_=>
  have i0:=hf 0 _ rfl;have i1:=hf 1 _ rfl;have i2:=hf 2 _ rfl;have hl:xs.length=3:=hxl
  match xs,hl with
  |[y0,y1,y2],_=>
   change DataW.trod enc prog w base spare held q 3 (([c0,c1,c2,c3,c4,c5,c6,c7,c8,c9].drop 0).take (prog.cellsOf 3))=_ at i0
   change DataW.trod enc prog w base spare held q 4 (([c0,c1,c2,c3,c4,c5,c6,c7,c8,c9].drop 1).take (prog.cellsOf 4))=_ at i1
   change DataW.trod enc prog w base spare held q 41 (([c0,c1,c2,c3,c4,c5,c6,c7,c8,c9].drop 2).take (prog.cellsOf 41))=_ at i2
   rw[ziy] at i0;rw[zht] at i1;rw[znw] at i2;obtain⟨a,e0,_,_⟩:=DataW.trod_int underlying3 i0;obtain⟨b,e1,_⟩:=DataW.trod_bool underlying4 i1;obtain⟨g,e2,hg⟩:=zwE i2;simp at e0 e1 e2;obtain⟨f0,f1,f2,f3,f4,f5,f6,f7⟩:=e2;subst e0 e1 f0 f1 f2 f3 f4 f5 f6 f7;exact⟨a,b,g,rfl,hg⟩
theorem ziz:prog.cellsOf 60=30:=by kernel_rfl
theorem zwG {fuel:Nat} {cs:List Value} {x:DataW H×List MemPlace} (h:DataW.trod enc prog w base spare held fuel 60 cs=some x):∃c:Cl,cs=zeN c/\zbC c/\c.s<=9223372036854775807:=by
 obtain⟨xs,q,_,hx,hlen,hxl,hf⟩:=DataW.trod_struct underlying60 h;rw[ziz] at hlen
 match cs,hlen with
 |[c0,c1,c2,c3,c4,c5,c6,c7,c8,c9,c10,c11,c12,c13,c14,c15,c16,c17,c18,c19,c20,c21,c22,c23,c24,c25,c26,c27,c28,c29],_=>
  have i0:=hf 0 _ rfl;have i1:=hf 1 _ rfl;have i2:=hf 2 _ rfl;have i3:=hf 3 _ rfl;have i4:=hf 4 _ rfl;have i5:=hf 5 _ rfl;have i6:=hf 6 _ rfl;have i7:=hf 7 _ rfl;have i8:=hf 8 _ rfl;have i9:=hf 9 _ rfl;have i10:=hf 10 _ rfl;have i11:=hf 11 _ rfl;have i12:=hf 12 _ rfl;have i13:=hf 13 _ rfl;have i14:=hf 14 _ rfl;have hl:xs.length=15:=hxl
  match xs,hl with
  |[y0,y1,y2,y3,y4,y5,y6,y7,y8,y9,y10,y11,y12,y13,y14],_=>
   change DataW.trod enc prog w base spare held q 39 (([c0,c1,c2,c3,c4,c5,c6,c7,c8,c9,c10,c11,c12,c13,c14,c15,c16,c17,c18,c19,c20,c21,c22,c23,c24,c25,c26,c27,c28,c29].drop 0).take (prog.cellsOf 39))=_ at i0
   rw[zb7] at i0
   change DataW.trod enc prog w base spare held q 39 (([c0,c1,c2,c3,c4,c5,c6,c7,c8,c9,c10,c11,c12,c13,c14,c15,c16,c17,c18,c19,c20,c21,c22,c23,c24,c25,c26,c27,c28,c29].drop 1).take (prog.cellsOf 39))=_ at i1
   rw[zb7] at i1
   change DataW.trod enc prog w base spare held q 39 (([c0,c1,c2,c3,c4,c5,c6,c7,c8,c9,c10,c11,c12,c13,c14,c15,c16,c17,c18,c19,c20,c21,c22,c23,c24,c25,c26,c27,c28,c29].drop 2).take (prog.cellsOf 39))=_ at i2
   rw[zb7] at i2
   change DataW.trod enc prog w base spare held q 39 (([c0,c1,c2,c3,c4,c5,c6,c7,c8,c9,c10,c11,c12,c13,c14,c15,c16,c17,c18,c19,c20,c21,c22,c23,c24,c25,c26,c27,c28,c29].drop 3).take (prog.cellsOf 39))=_ at i3
   rw[zb7] at i3
   change DataW.trod enc prog w base spare held q 39 (([c0,c1,c2,c3,c4,c5,c6,c7,c8,c9,c10,c11,c12,c13,c14,c15,c16,c17,c18,c19,c20,c21,c22,c23,c24,c25,c26,c27,c28,c29].drop 4).take (prog.cellsOf 39))=_ at i4
   rw[zb7] at i4
   change DataW.trod enc prog w base spare held q 39 (([c0,c1,c2,c3,c4,c5,c6,c7,c8,c9,c10,c11,c12,c13,c14,c15,c16,c17,c18,c19,c20,c21,c22,c23,c24,c25,c26,c27,c28,c29].drop 5).take (prog.cellsOf 39))=_ at i5
   rw[zb7] at i5
   change DataW.trod enc prog w base spare held q 39 (([c0,c1,c2,c3,c4,c5,c6,c7,c8,c9,c10,c11,c12,c13,c14,c15,c16,c17,c18,c19,c20,c21,c22,c23,c24,c25,c26,c27,c28,c29].drop 6).take (prog.cellsOf 39))=_ at i6
   rw[zb7] at i6
   change DataW.trod enc prog w base spare held q 4 (([c0,c1,c2,c3,c4,c5,c6,c7,c8,c9,c10,c11,c12,c13,c14,c15,c16,c17,c18,c19,c20,c21,c22,c23,c24,c25,c26,c27,c28,c29].drop 7).take (prog.cellsOf 4))=_ at i7
   rw[zht] at i7
   change DataW.trod enc prog w base spare held q 58 (([c0,c1,c2,c3,c4,c5,c6,c7,c8,c9,c10,c11,c12,c13,c14,c15,c16,c17,c18,c19,c20,c21,c22,c23,c24,c25,c26,c27,c28,c29].drop 8).take (prog.cellsOf 58))=_ at i8
   rw[zk4] at i8
   change DataW.trod enc prog w base spare held q 40 (([c0,c1,c2,c3,c4,c5,c6,c7,c8,c9,c10,c11,c12,c13,c14,c15,c16,c17,c18,c19,c20,c21,c22,c23,c24,c25,c26,c27,c28,c29].drop 18).take (prog.cellsOf 40))=_ at i9
   rw[znx] at i9
   change DataW.trod enc prog w base spare held q 3 (([c0,c1,c2,c3,c4,c5,c6,c7,c8,c9,c10,c11,c12,c13,c14,c15,c16,c17,c18,c19,c20,c21,c22,c23,c24,c25,c26,c27,c28,c29].drop 25).take (prog.cellsOf 3))=_ at i10
   rw[ziy] at i10
   change DataW.trod enc prog w base spare held q 2 (([c0,c1,c2,c3,c4,c5,c6,c7,c8,c9,c10,c11,c12,c13,c14,c15,c16,c17,c18,c19,c20,c21,c22,c23,c24,c25,c26,c27,c28,c29].drop 26).take (prog.cellsOf 2))=_ at i11
   rw[zfA] at i11
   change DataW.trod enc prog w base spare held q 2 (([c0,c1,c2,c3,c4,c5,c6,c7,c8,c9,c10,c11,c12,c13,c14,c15,c16,c17,c18,c19,c20,c21,c22,c23,c24,c25,c26,c27,c28,c29].drop 27).take (prog.cellsOf 2))=_ at i12
   rw[zfA] at i12
   change DataW.trod enc prog w base spare held q 2 (([c0,c1,c2,c3,c4,c5,c6,c7,c8,c9,c10,c11,c12,c13,c14,c15,c16,c17,c18,c19,c20,c21,c22,c23,c24,c25,c26,c27,c28,c29].drop 28).take (prog.cellsOf 2))=_ at i13
   rw[zfA] at i13
   change DataW.trod enc prog w base spare held q 2 (([c0,c1,c2,c3,c4,c5,c6,c7,c8,c9,c10,c11,c12,c13,c14,c15,c16,c17,c18,c19,c20,c21,c22,c23,c24,c25,c26,c27,c28,c29].drop 29).take (prog.cellsOf 2))=_ at i14
   rw[zfA] at i14;obtain⟨z0,e0,_,w0⟩:=DataW.trod_int underlying39 i0;obtain⟨z1,e1,_,w1⟩:=DataW.trod_int underlying39 i1;obtain⟨z2,e2,_,w2⟩:=DataW.trod_int underlying39 i2;obtain⟨z3,e3,_,w3⟩:=DataW.trod_int underlying39 i3;obtain⟨z4,e4,_,w4⟩:=DataW.trod_int underlying39 i4;obtain⟨z5,e5,_,w5⟩:=DataW.trod_int underlying39 i5;obtain⟨z6,e6,_,w6⟩:=DataW.trod_int underlying39 i6;obtain⟨z7,e7,_⟩:=DataW.trod_bool underlying4 i7;obtain⟨oi,ob,od,e8,hod⟩:=zus i8;obtain⟨yy,e9,hyy⟩:=zwF i9;obtain⟨z10,e10,_,w10⟩:=DataW.trod_int underlying3 i10;obtain⟨z11,e11,_,w11⟩:=DataW.trod_int underlying2 i11;obtain⟨z12,e12,_,w12⟩:=DataW.trod_int underlying2 i12;obtain⟨z13,e13,_,w13⟩:=DataW.trod_int underlying2 i13;obtain⟨z14,e14,_,w14⟩:=DataW.trod_int underlying2 i14;simp at e0 e1 e2 e3 e4 e5 e6 e7 e8 e9 e10 e11 e12 e13 e14;obtain⟨f0,f1,f2,f3,f4,f5,f6,f7,f8,f9⟩:=e8;obtain⟨g0,g1,g2,g3,g4,g5,g6⟩:=e9;subst e0 e1 e2 e3 e4 e5 e6 e7 e10 e11 e12 e13 e14 f0 f1 f2 f3 f4 f5 f6 f7 f8 f9 g0 g1 g2 g3 g4 g5 g6;refine⟨⟨fun k=>match k with|0=>z0|1=>z1|2=>z2|3=>z3|4=>z4|5=>z5|_=>z6,z7,oi,ob,od,yy,z10,z11,z12,z13,z14⟩,rfl,⟨fun k hk=>?_,hod,hyy⟩,(zvZ w11).2⟩
   obtain rfl|rfl|rfl|rfl|rfl|rfl|rfl:k=0\/k=1\/k=2\/k=3\/k=4\/k=5\/k=6:=by omega
   ·exact zbH w0
   ·exact zbH w1
   ·exact zbH w2
   ·exact zbH w3
   ·exact zbH w4
   ·exact zbH w5
   ·exact zbH w6
theorem zk5 {fuel:Nat} {v:Value} {x:DataW H×List MemPlace} (h:DataW.trod enc prog w base spare held fuel 22 [v]=some x):
 ∃A n c l,v=.slice A n c/\zbh w A n l/\n<=c/\c<=maxLen/\(A=none->n=0)/\∀k∈l,zbC k/\k.s<=9223372036854775807:=by
 rcases open_slice underlying22 h with ⟨h0,_⟩|⟨a,len,cap,m,q,D,Pl,hcs,hb,hl,hm,hmm,_,hi⟩
 ·simp at h0;subst h0;exact⟨none,0,0,[],rfl,Rd.nil,waJ _,waK _,fun _=>rfl,fun it hit=>by simp at hit⟩
 ·simp at hcs;subst hcs;have hlm:len<=m:=by rw[hmm];split<;>omega
  have hall:∀i,i<len->∃it:Cl,(zbC it/\it.s<=9223372036854775807)/\(∀(j:Nat) v,(zeN it)[j]?=some v->w.cell? (a.add (i * 30+j))=some v)/\a.block<w.heap.size:=by
   intro i hil;obtain⟨cs',hc,ht⟩:=hi i oQ;obtain⟨it,rfl,hwf⟩:=zwG ht;rw[ziz] at hc;obtain⟨_,_,hat⟩:=World.cells?_some hc;refine⟨it,hwf,fun j v hj=>?_,?_⟩
   ·have hj4:j<30:=by have:=(waI.1 hj).1;simpa[zeN,clA] using this
    have:=hat j hj4;rw[<-Go.Deep.add_add,this,hj]
   ·have:=hat 0 dQ;have h2:=waR w _ this;rw[Go.Deep.add_add] at h2;unfold Addr.add at h2;split at h2<;>exact h2
  let F:Nat->Cl:=fun i=>if hh:i<len then Classical.choose (hall i hh) else zbn
  have hF:∀i,i<len->(zbC (F i)/\(F i).s<=9223372036854775807)/\(∀(j:Nat) v,(zeN (F i))[j]?=some v->w.cell? (a.add (i * 30+j))=some v)/\a.block<w.heap.size:=by
   intro i hil;have:=Classical.choose_spec (hall i hil);simpa[F,hil] using this
  refine⟨some a,len,cap,(List.range len).map F,rfl,⟨by simp,fun hn=>?_⟩,hl,hm,(fun h=>by cases h),?_⟩
  ·obtain⟨b,o,s⟩:=a;have h00:=(hF 0 hn).2.1 0 _ rfl;have hs:s=none:=by
    have:=World.cell?_spot h00;simpa[Addr.add] using this
   subst hs;refine⟨b,o,rfl,(hF 0 hn).2.2,fun i x hx j v hj=>?_⟩
   have hil:i<len:=by have:=(waI.1 hx).1;simpa using this
   obtain rfl:F i=x:=by simpa[List.getElem?_map,List.getElem?_range hil] using hx
   have:=(hF i hil).2.1 j v hj;rw[ztk] at this;rw[show o+i * 30+j=o+(i * 30+j) from by omega];exact this
  ·intro it hit;simp only[List.mem_map,wbG] at hit;obtain⟨i,hil,rfl⟩:=hit;exact(hF i hil).1
end
end Go.Proofs.YtllcdbgjeidlkaaGreatDoor
