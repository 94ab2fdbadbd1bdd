/- The claim's theorem, with all that the other parts prove: no condition. -/
import Derived.Test.YtadefhkaejjfmaaGreatDoorQ45
import Derived.Test.YtadefhkaejjfmaaGreatDoorQ29
set_option maxHeartbeats 80000000
set_option maxRecDepth 100000
set_option linter.unusedSimpArgs false
set_option linter.unusedVariables false
namespace Go.Proofs.YtadefhkaejjfmaaGreatDoor.canonCrons
open Go.Proofs.Tryz
open Go.ChangeShapes Go.WideShapes Go.ChangeAt Go.RowKit
open Go.ChangeMaps (open_string shut_string)
theorem own:ownKnob prog.godebug=none:=by kernel_rfl
theorem laidOut:laidOutB prog=true:=by kernel_rfl
theorem stands (t:TypeId) (ht:t=60):Tryz.pinned.checked.prog.wantsStandIn t=false:=by
 subst ht;exact(show prog.wantsStandIn 60=false by kernel_rfl)
theorem zva {W:World} (h:laidMetH prog Rows.canonCronsRow.laid W):Pow W:=zwk h (by simp[Rows.canonCronsRow])
theorem zwl {W:World} (h:laidMetH prog Rows.canonCronsRow.laid W):Tz W:=tz_of h (by simp[Rows.canonCronsRow])
noncomputable def laidWorld (os:Os):World:=zhQ os
theorem rune_met (os:Os) (args:Array Value):laidMet prog Rows.canonCronsRow.laid ((laidWorld os).forCall (fun _ _=>0) ⟨#[],args,[]⟩).memory:=ztl os args
theorem ziK {A:Nat→Option Addr} {n c:Nat→Nat} {cs:Array Value} (h:(Value.agg cs).cells.toList=[.slice (A 0) (n 0) (c 0),.slice (A 1) (n 1) (c 1),.slice (A 2) (n 2) (c 2),.slice (A 3) (n 3) (c 3),.slice (A 4) (n 4) (c 4)]):
 cs=#[.slice (A 0) (n 0) (c 0),.slice (A 1) (n 1) (c 1),.slice (A 2) (n 2) (c 2),.slice (A 3) (n 3) (c 3),.slice (A 4) (n 4) (c 4)]:=by
 obtain⟨cs⟩:=cs;simpa[Value.cells] using h
theorem contract (H:Type) (enc:TypeId×Value→H) (W:World) (base:Nat) (args:Array Value) (ds gs:List (DataW H)) (before:List MemPlace)
 (hval0:∀(j:Nat) t v,Tryz.f6.params[j]?=some t→args[j]?=some v→Value.okWide prog W .any base t v)
 (hW:DataW.Whole enc prog Tryz.f6.params.toList Rows.canonCronsSpec.vars false W args.toList ds gs before) (hL:laidMetH prog Rows.canonCronsRow.laid W):
 Calls prog 6 args W fun e W'=>∃v,e=.returned v∧Rows.canonCronsSpec.post enc prog Tryz.f6 false true false false W args v W':=by
 have hval:∀(j:Nat) t v,Tryz.f6.params[j]?=some t→args[j]?=some v→Value.okWide prog W .any base t v:=hval0;have hW':=hW;obtain⟨p,q,hA0,hV,rfl,hfz,hnd⟩:=hW;have hA:DataW.TrodAll enc prog W 0 (fun _=>true) true Tryz.f6.params.toList args.toList ds p:=hA0
 rw[params6] at hA hval;obtain⟨v0,vs0,d0,ds0,p0,q0,hargs,rfl,rfl,h0,r0⟩:=trodAll_cons hA;obtain⟨v1,vs1,d1,ds1,p1,q1,rfl,rfl,rfl,h1,r1⟩:=trodAll_cons r0;obtain⟨rfl,rfl,rfl⟩:=trodAll_nil r1;obtain rfl:args=#[v0,v1]:=by cases args;simp_all
 obtain⟨rfl,rfl⟩:=trodVars_none hV;have k0:=h0;have lt0:∀x∈p0,x.block<W.heap.size:=by obtain⟨m,hm⟩:=k0;exact DataW.trod_lt m _ _ _ hm
 have k1:=h1;have lt1:∀x∈p1,x.block<W.heap.size:=by obtain⟨m,hm⟩:=k1;exact DataW.trod_lt m _ _ _ hm
 obtain⟨cs,rfl,_⟩:=okWide_struct underlying60 (hval 0 60 v0 rfl rfl);obtain⟨ds,rfl,_⟩:=okWide_struct underlying60 (hval 1 60 v1 rfl rfl);obtain⟨fuel,hf⟩:=h0;obtain⟨fuel1,hf1⟩:=h1;obtain⟨A,n,c,l,hcs,hrd,hnc,hcm,hz,_⟩:=zkP hf;obtain⟨D,m,d,r,hds,hrd2,hmc,hdm,hz2,_⟩:=zkP hf1;obtain rfl:=ziK hcs;obtain rfl:=ziK hds;clear hA0 hval0;have walk:=zh7 (fun k=>if k<5 then A k else none) (fun k=>if k<5 then D k else none) (fun k=>if k<5 then n k else 0) (fun k=>if k<5 then c k else 0) (fun k=>if k<5 then m k else 0) (fun k=>if k<5 then d k else 0) l r W (fun k hk=>by dsimp only;rw[if_pos hk,if_pos hk];exact hrd k hk)
  (fun k=>by have:=hnc k;have:=hcm k;simp only[maxLen] at this;split<;>omega) (fun k=>by have:=hz k;split<;>simp_all) (fun k hk=>by exact if_neg oQ)
  (fun k hk=>by dsimp only;rw[if_pos hk,if_pos hk];exact hrd2 k hk)
  (fun k=>by have:=hmc k;have:=hdm k;simp only[maxLen] at this;split<;>omega) (fun k=>by have:=hz2 k;split<;>simp_all) (fun k hk=>by exact if_neg oQ) (zva hL) (zwl hL)
 refine walk.mono fun e W' ⟨he,bel⟩=>?_
 subst he;exact⟨_,rfl,_,_,_,[],_,[],hW',trodAll_mk1 (shut_bool underlying4 _),(trodAll_cons_mk (Below.trod laidOut kQ (waA kQ) k0 bel lt0) (trodAll_cons_mk (Below.trod laidOut kQ (waA kQ) k1 bel lt1) trodAll_mk0)),rfl,bel.frame _,fun h=>by cases h⟩
theorem laid_met (os:Os):laidMet prog Rows.canonCronsRow.laid ((laidWorld os).forCall (fun _ _=>0) ⟨#[],#[crV (fun _=>none) (fun _=>0) (fun _=>0),crV (fun _=>none) (fun _=>0) (fun _=>0)],[]⟩).memory:=
 rune_met os #[crV (fun _=>none) (fun _=>0) (fun _=>0),crV (fun _=>none) (fun _=>0) (fun _=>0)]
theorem reads (os:Os) {H:Type} (enc:TypeId×Value→H):∃places,DataW.whole enc prog ((laidWorld os).forCall (fun _ _=>0) ⟨#[],#[crV (fun _=>none) (fun _=>0) (fun _=>0),crV (fun _=>none) (fun _=>0) (fun _=>0)],[]⟩).memory Tryz.f6.params.toList Rows.canonCronsSpec.vars false #[crV (fun _=>none) (fun _=>0) (fun _=>0),crV (fun _=>none) (fun _=>0) (fun _=>0)].toList 8=some ([DataW.agg [DataW.nil,DataW.nil,DataW.nil,DataW.nil,DataW.nil],DataW.agg [DataW.nil,DataW.nil,DataW.nil,DataW.nil,DataW.nil]],[],places):=
 ⟨[],by kernel_rfl⟩
theorem lifted (os:Os) (started:os.Started) (H:Type) (enc:TypeId×Value→H) (F:Stop.Interp):
 ReturnsInHanded {} Tryz.checked os 6 .any ((OpenSpec.ofChange Rows.canonCronsSpec).preRow enc prog Tryz.f6 Rows.canonCronsRow.domain false Rows.canonCronsRow.laid) (((OpenSpec.ofChange Rows.canonCronsSpec).at F).post enc prog Tryz.f6 false true false false):=by
 obtain⟨places,hx⟩:=reads os enc;refine returnsInHanded_of_row (C:=Tryz.checked) (s:=OpenSpec.ofChange Rows.canonCronsSpec) own started kQ func6
  (witness_row_atRef (enc:=enc) (C:=Tryz.checked) false (laidWorld os) #[crV (fun _=>none) (fun _=>0) (fun _=>0),crV (fun _=>none) (fun _=>0) (fun _=>0)] rfl kQ kQ kQ
    (OpenSpec.preRow_of_cond 8 hx kQ (fun k hk=>by cases hk) kQ (laid_met os))) ?_
 intro W base args ds gs before hval hW _ _ _ hL _ _;exact contract H enc W base args ds gs before hval hW hL
theorem zwm:joinedFacts Tryz.pinned.checked.prog 6 Tryz.f6 (OpenSpec.ofChange Rows.canonCronsSpec).bare Rows.canonCronsRow=true:=by
 unfold joinedFacts;simp only[waN]
 repeat' (refine And.intro ?_ ?_)
 all_goals decide+kernel
theorem said:Rows.CanonCronsSaid:=
 OpenClaim.holds_of_cond 6 Tryz.f6 rfl rfl rfl rfl rfl rfl rfl ⟨rfl,rfl,rfl,rfl,rfl⟩ rfl rfl rfl rfl rfl kQ func6 zwm
  (waA (by kernel_rfl)) (by unfold Func.isWrapper;first|(rw[if_pos (by decide+kernel)];kernel_rfl)|(rw[if_neg (by decide+kernel)];exact⟨rfl,rfl⟩))
  (fun os started H enc _ F=>by rw[OpenClaim.pre_eq_preRow];exact lifted os started H enc F)
theorem noGo:prog.funcs.any Func.goes=false:=by kernel_rfl
theorem zrw {P:Program} (h:P.funcs.any Func.goes=false) {c:OpenClaim} (hs:c.start=.entering):false=c.goesBy P:=by
 have h1:∀f,P.goes f=false:=fun f=>by
  unfold Program.goes;rw[h,Bool.and_false,Bool.or_false,Bool.eq_false_iff];intro hc;rw[Array.any_eq_false] at h;have key:∀g:FuncId,(P.funcs[g]?).any Func.goes=false:=fun g=>by
   cases hg:P.funcs[g]? with
   |none=>rfl
   |some fn=>
    obtain⟨hlt,hk⟩:=waL.1 hg;have:=h g hlt;rw[hk] at this;simpa using this
  rw[List.any_eq_true] at hc;obtain⟨g,_,hg⟩:=hc;rw[key g] at hg;cases hg
 unfold OpenClaim.goesBy Program.goesAt Program.goesFrom;rw[hs];cases P.funcNamed c.func with
 |none=>rfl
 |some f=>simp [h1]
theorem plain (f:FuncId) (fn:Func) (hf:Tryz.pinned.checked.prog.funcNamed "feria/ferialaw39.CanonCrons" =some f) (hfn:Tryz.pinned.checked.prog.funcs[f]?=some fn):
 false=Tryz.pinned.checked.prog.looks []∧∀(j:Nat) t,fn.params[j]?=some t→Tryz.pinned.checked.prog.wantsStandIn t=false:=by
 obtain rfl:f=6:=waB ((show prog.funcNamed "feria/ferialaw39.CanonCrons" =some 6 by kernel_rfl).symm.trans hf)|>.symm
 obtain rfl:fn=Tryz.f6:=(waB (func6.symm.trans hfn)).symm;refine⟨by kernel_rfl,fun j t ht=>?_⟩
 rw[params6] at ht;exact stands t (by simpa using Array.mem_of_getElem? ht)
theorem proved:Rows.CanonCronsCardSaid:=
 Claim7.holds_tied_plain_at .later [] _ _ _ _ said (fun _ h=>by cases h) kQ (fun _ h=>by cases h) canonCrons_row_tie rfl ⟨rfl,rfl⟩ kQ rfl plain (zrw noGo rfl)
#print axioms proved
end Go.Proofs.YtadefhkaejjfmaaGreatDoor.canonCrons
