/- A part of the proof: PTabZ -/
import Derived.Test.YtgedndlifiihkaaGreatDoorQ40
import Derived.Test.YtgedndlifiihkaaGreatDoorQ12
import Derived.Test.YtgedndlifiihkaaGreatDoorQ15
set_option maxHeartbeats 80000000
set_option maxRecDepth 100000
set_option linter.unusedSimpArgs false
set_option linter.unusedVariables false
namespace Go.Proofs.YtgedndlifiihkaaGreatDoor
open Go.Proofs.Tryz
open Go.ChangeShapes Go.WideShapes Go.ChangeAt Go.RowKit
def zvB:DataW Unit→Array Value
 | .agg xs=>(xs.map fun| .lit (.int k z)=>Value.int k z|_=>undef).toArray
 |_=> #[]
def zus (d:DataW Unit):Obj→Obj
 | .cells _ t fr=>.cells (zvB d) t fr
 |o=>o
theorem zsH:(Rows.laid_internal_strconv_uint64pow10:DataW Unit)=Lib.tabData .u64 Lib.pow10Tab:=by kernel_rfl
theorem zvC {l:List (String×DataW Unit)} {W:World} (h:laidMetH prog l W) (hl:l.filter (fun x=>x.1== "internal/strconv.uint64pow10")=[("internal/strconv.uint64pow10",Rows.laid_internal_strconv_uint64pow10)]):Pow W:=by
 have h1:=h.filter (fun x=>x.1== "internal/strconv.uint64pow10")
 rw[hl,MakeChecks.laidMetH_plain _ _ _ (by kernel_rfl),zsH] at h1
 exact Lib.tabIs_of_head (rest:=[]) (show prog.globalNamed "internal/strconv.uint64pow10" =some 5 by kernel_rfl) (show(prog.globals[5]?).map (·.type)=some 363 by kernel_rfl) underlying363 underlying33 kQ kQ h1
theorem zut:(Rows.laid_math_bits_deBruijn64tab:DataW Unit)=Lib.tabData .u8 (Go.Lib.deBruijn64tab.map fun(k:Nat)=>(k:Int)):=by kernel_rfl
theorem tz_of {l:List (String×DataW Unit)} {W:World} (h:laidMetH prog l W) (hl:l.filter (fun x=>x.1== "math/bits.deBruijn64tab")=[("math/bits.deBruijn64tab",Rows.laid_math_bits_deBruijn64tab)]):Tz W:=by
 have h1:=h.filter (fun x=>x.1== "math/bits.deBruijn64tab")
 rw[hl,MakeChecks.laidMetH_plain _ _ _ (by kernel_rfl),zut] at h1
 have hg:=(show prog.globalNamed "math/bits.deBruijn64tab" =some 0 by kernel_rfl)
 have h2:=Lib.tabIs_of_head (rest:=[]) hg (show(prog.globals[0]?).map (·.type)=some 310 by kernel_rfl) underlying310 underlying5 kQ kQ h1
 intro j hj;have h3:=h2.cell hg j (by rw[List.length_map];exact hj)
 rw[h3,List.getD_eq_getElem?_getD,List.getD_eq_getElem?_getD,List.getElem?_map,waE hj];rfl
theorem zjw {P:Program} {w:World} {a b d e f c:String×DataW Unit} (h:laidMet P [a,b,d,e,f,c] w):laidMet P [a,b,d,e,c,f] w:=by
 obtain⟨ps,hv,hnd,hrows⟩:=h;obtain⟨na,da⟩:=a;obtain⟨nb,db⟩:=b;obtain⟨nd,dd⟩:=d;obtain⟨ne,de⟩:=e;obtain⟨nf,df⟩:=f;obtain⟨nc,dc⟩:=c;obtain⟨ga,ta,csa,fua,pa,qa,a1,a2,a3,a4,hv,rfl⟩:=hv;obtain⟨gb,tb,csb,fub,pb,qb,b1,b2,b3,b4,hv,rfl⟩:=hv;obtain⟨gd,td,csd,fud,pd,qd,d1,d2,d3,d4,hv,rfl⟩:=hv;obtain⟨ge,te,cse,fue,pe,qe,e1,e2,e3,e4,hf,rfl⟩:=hv;obtain⟨gf,tf,csf,fuf,pf,qf,f1,f2,f3,f4,hc,rfl⟩:=hf;obtain⟨gc,tc,csc,fuc,pc,qc,c1,c2,c3,c4,hn,rfl⟩:=hc;cases hn;have hperm:∀(X1 X2 X3 X Y Z:List MemPlace),List.Perm (X1++(X2++(X3++(X++(Y++(Z++[])))))) (X1++(X2++(X3++(X++(Z++(Y++[])))))):=fun X1 X2 X3 X Y Z=>by
  rw[List.append_nil,List.append_nil];exact List.Perm.append_left _ (List.Perm.append_left _ (List.Perm.append_left _ (List.Perm.append_left _ List.perm_append_comm)))
 refine⟨_,⟨ga,ta,csa,fua,pa,_,a1,a2,a3,a4,⟨gb,tb,csb,fub,pb,_,b1,b2,b3,b4,⟨gd,td,csd,fud,pd,_,d1,d2,d3,d4,⟨ge,te,cse,fue,pe,_,e1,e2,e3,e4,⟨gc,tc,csc,fuc,pc,_,c1,c2,c3,c4,⟨gf,tf,csf,fuf,pf,_,f1,f2,f3,f4,rfl,rfl⟩,rfl⟩,rfl⟩,rfl⟩,rfl⟩,rfl⟩,?_,?_⟩
 ·exact(hperm _ _ _ _ _ _).nodup_iff.1 hnd
 ·intro b off hp;exact hrows b off ((hperm _ _ _ _ _ _).mem_iff.2 hp)
noncomputable def zhE (os:Os):World:=
 {zfM os with heap:=(((zfM os).heap.modify 5 (zus Rows.laid_internal_strconv_uint64pow10)).modify 6 (zus Rows.laid_math_bits_deBruijn32tab)).modify 0 (zus Rows.laid_math_bits_deBruijn64tab)}
theorem zqW (os:Os) (args:Array Value):laidMet prog ([("math/bits.deBruijn32tab",Rows.laid_math_bits_deBruijn32tab),("math/bits.deBruijn64tab",Rows.laid_math_bits_deBruijn64tab),("internal/strconv.uint64pow10",Rows.laid_internal_strconv_uint64pow10),("unicode/utf8.acceptRanges",Rows.laid_unicode_utf8_acceptRanges),("unicode/utf8.first",Rows.laid_unicode_utf8_first)]++[("unicode.CaseRanges",Lib.caseData)]) ((zhE os).forCall (fun _ _=>0) ⟨#[],args,[]⟩).memory:=
 laidMet_with_case (ρ:=ze7) zqU kQ ⟨by kernel_rfl,by kernel_rfl,by kernel_rfl,by kernel_rfl,by kernel_rfl,by kernel_rfl⟩
  (l:=[("math/bits.deBruijn32tab",Rows.laid_math_bits_deBruijn32tab),("math/bits.deBruijn64tab",Rows.laid_math_bits_deBruijn64tab),("internal/strconv.uint64pow10",Rows.laid_internal_strconv_uint64pow10),("unicode/utf8.acceptRanges",Rows.laid_unicode_utf8_acceptRanges),("unicode/utf8.first",Rows.laid_unicode_utf8_first)])
  10 kQ kQ kQ ((World.settled prog default).heap.size) (ze7.t 208) (waA kQ) kQ kQ kQ
theorem zsI (os:Os) (args:Array Value):laidMet prog [("math/bits.deBruijn32tab",Rows.laid_math_bits_deBruijn32tab),("math/bits.deBruijn64tab",Rows.laid_math_bits_deBruijn64tab),("internal/strconv.uint64pow10",Rows.laid_internal_strconv_uint64pow10),("unicode/utf8.acceptRanges",Rows.laid_unicode_utf8_acceptRanges),("unicode.CaseRanges",Rows.laid_unicode_CaseRanges),("unicode/utf8.first",Rows.laid_unicode_utf8_first)] ((zhE os).forCall (fun _ _=>0) ⟨#[],args,[]⟩).memory:=by
 have h:=zqW os args;have e:Rows.laid_unicode_CaseRanges=Lib.caseData:=Pinned.caseRanges_eq;rw[e];exact zjw h
end Go.Proofs.YtgedndlifiihkaaGreatDoor
