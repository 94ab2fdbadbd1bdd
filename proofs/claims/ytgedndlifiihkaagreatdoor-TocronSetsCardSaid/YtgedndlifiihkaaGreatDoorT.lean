/- The claim's theorem, with all that the other parts prove: no condition. -/
import Derived.Test.YtgedndlifiihkaaGreatDoorT37
set_option maxHeartbeats 80000000
set_option maxRecDepth 100000
set_option linter.unusedSimpArgs false
set_option linter.unusedVariables false
namespace Go.Proofs.YtgedndlifiihkaaGreatDoor.tocronSets
open Go.Proofs.Tryz
open Go.ChangeShapes Go.WideShapes Go.ChangeAt Go.RowKit
open Go.ChangeMaps (open_string shut_string)
theorem own:ownKnob prog.godebug=none:=by kernel_rfl
theorem laidOut:laidOutB prog=true:=by kernel_rfl
theorem stands (t:TypeId) (ht:t=27):Tryz.pinned.checked.prog.wantsStandIn t=false:=by
 subst ht;exact(show prog.wantsStandIn 27=false by kernel_rfl)
theorem zvj {W:World} (h:laidMetH prog Rows.tocronSetsRow.laid W):Pow W:=zwv h (by simp[Rows.tocronSetsRow])
theorem zww {W:World} (h:laidMetH prog Rows.tocronSetsRow.laid W):Tz W:=tz_of h (by simp[Rows.tocronSetsRow])
noncomputable def laidWorld (os:Os):World:=zhM os
theorem rune_met (os:Os) (args:Array Value):laidMet prog Rows.tocronSetsRow.laid ((laidWorld os).forCall (fun _ _=>0) ⟨#[],args,[]⟩).memory:=zti os args
theorem contract (H:Type) (enc:TypeId×Value→H) (W:World) (base:Nat) (args:Array Value) (ds gs:List (DataW H)) (before:List MemPlace)
 (hval0:∀(j:Nat) t v,Tryz.f5.params[j]?=some t→args[j]?=some v→Value.okWide prog W .any base t v)
 (hW:DataW.Whole enc prog Tryz.f5.params.toList Rows.tocronSetsSpec.vars false W args.toList ds gs before) (hL:laidMetH prog Rows.tocronSetsRow.laid W):
 Calls prog 5 args W fun e W'=>∃v,e=.returned v∧Rows.tocronSetsSpec.post enc prog Tryz.f5 false true false false W args v W':=by
 have hval:∀(j:Nat) t v,Tryz.f5.params[j]?=some t→args[j]?=some v→Value.okWide prog W .any base t v:=hval0;have hW':=hW;obtain⟨p,q,hA0,hV,rfl,hfz,hnd⟩:=hW;have hA:DataW.TrodAll enc prog W 0 (fun _=>true) true Tryz.f5.params.toList args.toList ds p:=hA0
 rw[params5] at hA hval;obtain⟨v0,vs0,d0,ds0,p0,q0,hargs,rfl,rfl,h0,r0⟩:=trodAll_cons hA;obtain⟨rfl,rfl,rfl⟩:=trodAll_nil r0;obtain rfl:args=#[v0]:=by cases args;simp_all
 obtain⟨rfl,rfl⟩:=trodVars_none hV;have k0:=h0;have lt0:∀x∈p0,x.block<W.heap.size:=by obtain⟨m,hm⟩:=k0;exact DataW.trod_lt m _ _ _ hm
 obtain⟨A,n,c,rfl⟩:=okWide_slice underlying27 (hval 0 27 v0 rfl rfl);obtain⟨fuel,hf⟩:=h0;obtain⟨A',n',c',l,e,hrd,hnc,hcm,hz,hwf⟩:=zk5 hf;cases e;clear hA0 hval0;refine(zh4 A n c l W hrd hz hwf (zvj hL) (zww hL)).mono fun e W' ⟨he,bel⟩=>?_
 subst he;exact⟨_,rfl,_,_,_,[],_,[],hW',trodAll_mk1 (shut_bool underlying4 _),(trodAll_cons_mk (Below.trod laidOut kQ (waA kQ) k0 bel lt0) trodAll_mk0),rfl,bel.frame _,fun h=>by cases h⟩
theorem laid_met (os:Os):laidMet prog Rows.tocronSetsRow.laid ((laidWorld os).forCall (fun _ _=>0) ⟨#[],#[Value.slice none 0 0],[]⟩).memory:=
 rune_met os #[Value.slice none 0 0]
theorem reads (os:Os) {H:Type} (enc:TypeId×Value→H):∃places,DataW.whole enc prog ((laidWorld os).forCall (fun _ _=>0) ⟨#[],#[Value.slice none 0 0],[]⟩).memory Tryz.f5.params.toList Rows.tocronSetsSpec.vars false #[Value.slice none 0 0].toList 8=some ([DataW.nil],[],places):=
 ⟨[],by kernel_rfl⟩
theorem lifted (os:Os) (started:os.Started) (H:Type) (enc:TypeId×Value→H) (F:Stop.Interp):
 ReturnsInHanded {} Tryz.checked os 5 .any ((OpenSpec.ofChange Rows.tocronSetsSpec).preRow enc prog Tryz.f5 Rows.tocronSetsRow.domain false Rows.tocronSetsRow.laid) (((OpenSpec.ofChange Rows.tocronSetsSpec).at F).post enc prog Tryz.f5 false true false false):=by
 obtain⟨places,hx⟩:=reads os enc;refine returnsInHanded_of_row (C:=Tryz.checked) (s:=OpenSpec.ofChange Rows.tocronSetsSpec) own started kQ func5
  (witness_row_atRef (enc:=enc) (C:=Tryz.checked) false (laidWorld os) #[Value.slice none 0 0] rfl kQ kQ kQ
    (OpenSpec.preRow_of_cond 8 hx kQ (fun k hk=>by cases hk) kQ (laid_met os))) ?_
 intro W base args ds gs before hval hW _ _ _ hL _ _;exact contract H enc W base args ds gs before hval hW hL
theorem said:Rows.TocronSetsSaid:=
 OpenClaim.holds_of_cond 5 Tryz.f5 rfl rfl rfl rfl rfl rfl rfl ⟨rfl,rfl,rfl,rfl,rfl⟩ rfl rfl rfl rfl rfl kQ func5 kQ
  (waA (by kernel_rfl)) (by unfold Func.isWrapper;first|(rw[if_pos (by decide+kernel)];kernel_rfl)|(rw[if_neg (by decide+kernel)];exact⟨rfl,rfl⟩))
  (fun os started H enc _ F=>by rw[OpenClaim.pre_eq_preRow];exact lifted os started H enc F)
theorem plain (f:FuncId) (fn:Func) (hf:Tryz.pinned.checked.prog.funcNamed "feria/ferialaw36.TocronSets" =some f) (hfn:Tryz.pinned.checked.prog.funcs[f]?=some fn):
 false=Tryz.pinned.checked.prog.looks []∧∀(j:Nat) t,fn.params[j]?=some t→Tryz.pinned.checked.prog.wantsStandIn t=false:=by
 obtain rfl:f=5:=waB ((show prog.funcNamed "feria/ferialaw36.TocronSets" =some 5 by kernel_rfl).symm.trans hf)|>.symm
 obtain rfl:fn=Tryz.f5:=(waB (func5.symm.trans hfn)).symm;refine⟨by kernel_rfl,fun j t ht=>?_⟩
 rw[params5] at ht;exact stands t (by simpa using Array.mem_of_getElem? ht)
theorem proved:Rows.TocronSetsCardSaid:=
 Claim7.holds_tied_plain_at .later [] _ _ _ _ said (fun _ h=>by cases h) kQ (fun _ h=>by cases h) tocronSets_row_tie rfl ⟨rfl,rfl⟩ kQ rfl plain kQ
#print axioms proved
end Go.Proofs.YtgedndlifiihkaaGreatDoor.tocronSets
