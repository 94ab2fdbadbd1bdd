/- The claim's theorem, with all that the other parts prove: no condition. -/
import Derived.Test.YtllcdbgjeidlkaaGreatDoorT48
import Derived.Shelf.Vars
set_option maxHeartbeats 80000000
set_option maxRecDepth 100000
set_option linter.unusedSimpArgs false
set_option linter.unusedVariables false
namespace Go.Proofs.YtllcdbgjeidlkaaGreatDoor.tocalFaces
open Go.Proofs.Tryz
open Go.ChangeShapes Go.WideShapes Go.ChangeAt Go.RowKit
open Go.ChangeMaps (open_string shut_string)
theorem own:ownKnob prog.godebug=none:=by kernel_rfl
theorem laidOut:laidOutB prog=true:=by kernel_rfl
theorem stands (t:TypeId) (ht:t=22\/t=4):Tryz.pinned.checked.prog.wantsStandIn t=false:=by
 rcases ht with rfl|rfl
 ·exact(show prog.wantsStandIn 22=false by kernel_rfl)
 ·exact(show prog.wantsStandIn 4=false by kernel_rfl)
theorem zwH {W:World} (h:laidMetH prog Rows.tocalFacesRow.laid W):Pow W:=zyd h (by simp[Rows.tocalFacesRow])
theorem zye {W:World} (h:laidMetH prog Rows.tocalFacesRow.laid W):Tz W:=tz_of h (by simp[Rows.tocalFacesRow])
noncomputable def laidWorld (os:Os):World:=znv os
theorem zut (os:Os) (args:Array Value):laidMet prog Rows.tocalFacesRow.laid ((laidWorld os).forCall (fun _ _=>0) ⟨#[],args,[]⟩).memory:=zwD os args
theorem contract (H:Type) (enc:TypeId×Value->H) (W:World) (base:Nat) (args:Array Value) (ds gs:List (DataW H)) (before:List MemPlace)
 (hval0:∀(j:Nat) t v,Tryz.f4.params[j]?=some t->args[j]?=some v->Value.okWide prog W .any base t v)
 (hW:DataW.Whole enc prog Tryz.f4.params.toList Rows.tocalFacesSpec.vars false W args.toList ds gs before) (hL:laidMetH prog Rows.tocalFacesRow.laid W) (hsh:W.ShapedOpen prog):
 Calls prog 4 args W fun e W'=>∃v,e=.returned v/\Rows.tocalFacesSpec.post enc prog Tryz.f4 false true false false W args v W':=by
 have hval:∀(j:Nat) t v,Tryz.f4.params[j]?=some t->args[j]?=some v->Value.okWide prog W .any base t v:=hval0;have hW':=hW;obtain⟨p,q,hA0,hV,rfl,hfz,hnd⟩:=hW;have hA:DataW.TrodAll enc prog W 0 (fun _=>true) true Tryz.f4.params.toList args.toList ds p:=hA0
 rw[params4] at hA hval;obtain⟨v0,vs0,d0,ds0,p0,q0,hargs,rfl,rfl,h0,r0⟩:=trodAll_cons hA;obtain⟨v1,vs1,d1,ds1,p1,q1,rfl,rfl,rfl,h1,r1⟩:=trodAll_cons r0;obtain⟨rfl,rfl,rfl⟩:=trodAll_nil r1;obtain rfl:args=#[v0,v1]:=by cases args;simp_all
 obtain⟨rfl,rfl⟩:=trodVars_none hV;have k0:=h0;have lt0:∀x∈p0,x.block<W.heap.size:=by obtain⟨m,hm⟩:=k0;exact DataW.trod_lt m _ _ _ hm
 obtain⟨A,n,c,rfl⟩:=okWide_slice underlying22 (hval 0 22 v0 rfl rfl);obtain⟨bk,rfl⟩:=okWide_bool underlying4 (hval 1 4 v1 rfl rfl);obtain⟨fuel,hf⟩:=h0;obtain⟨fuel1,hf1⟩:=h1;obtain⟨b',e1,hx1⟩:=DataW.trod_bool underlying4 hf1;obtain rfl:bk=b':=by simpa[Value.cells] using e1
 obtain⟨rfl,rfl⟩:d1=.lit (.bool bk)/\p1=[]:=by injection hx1 with a b;exact⟨a,b⟩
 obtain⟨A',n',c',l,e,hrd,hnc,hcm,hz,hwf⟩:=zk5 hf;cases e;clear hA0 hval0;refine(zhM A n c l bk W hrd hz hwf (Go.Proofs.cell_of_shapedOpen_int (zero:=#[.int .i64 0]) (t:=3) hsh (waA kQ) kQ rfl kQ kQ underlying3) (zwH hL) (zye hL)).mono fun e W' ⟨he,bel⟩=>?_
 subst he;exact⟨_,rfl,_,_,_,[],_,[],hW',trodAll_mk1 (shut_bool underlying4 _),(trodAll_cons_mk (Below.trod laidOut kQ (waA kQ) k0 bel lt0) (trodAll_cons_mk (shut_bool underlying4 bk) trodAll_mk0)),rfl,bel.frame _,fun h=>by cases h⟩
theorem laid_met (os:Os):laidMet prog Rows.tocalFacesRow.laid ((laidWorld os).forCall (fun _ _=>0) ⟨#[],#[Value.slice none 0 0,Value.bool false],[]⟩).memory:=
 zut os #[Value.slice none 0 0,Value.bool false]
theorem reads (os:Os) {H:Type} (enc:TypeId×Value->H):∃places,DataW.whole enc prog ((laidWorld os).forCall (fun _ _=>0) ⟨#[],#[Value.slice none 0 0,Value.bool false],[]⟩).memory Tryz.f4.params.toList Rows.tocalFacesSpec.vars false #[Value.slice none 0 0,Value.bool false].toList 8=some ([DataW.nil,DataW.lit (.bool false)],[],places):=
 ⟨[],by kernel_rfl⟩
theorem lifted (os:Os) (started:os.Started) (H:Type) (enc:TypeId×Value->H) (F:Stop.Interp):
 ReturnsInHanded {} Tryz.checked os 4 .any ((OpenSpec.ofChange Rows.tocalFacesSpec).preRow enc prog Tryz.f4 Rows.tocalFacesRow.domain false Rows.tocalFacesRow.laid) (((OpenSpec.ofChange Rows.tocalFacesSpec).at F).post enc prog Tryz.f4 false true false false):=by
 obtain⟨places,hx⟩:=reads os enc;refine returnsInHanded_of_row (C:=Tryz.checked) (s:=OpenSpec.ofChange Rows.tocalFacesSpec) own started kQ func4
  (witness_row_at (enc:=enc) (C:=Tryz.checked) false (laidWorld os) #[Value.slice none 0 0,Value.bool false] rfl kQ kQ kQ
    (OpenSpec.preRow_of_cond 8 hx kQ (fun k hk=>by cases hk) kQ (laid_met os))) ?_
 intro W base args ds gs before hval hW _ _ _ hL hsh _;exact contract H enc W base args ds gs before hval hW hL hsh
theorem zyf:joinedFacts Tryz.pinned.checked.prog 4 Tryz.f4 (OpenSpec.ofChange Rows.tocalFacesSpec).bare Rows.tocalFacesRow=true:=by
 unfold joinedFacts;simp only[waN]
 repeat' (refine And.intro ?_ ?_)
 all_goals decide+kernel
theorem said:Rows.TocalFacesSaid:=
 OpenClaim.holds_of_cond 4 Tryz.f4 rfl rfl rfl rfl rfl rfl rfl ⟨rfl,rfl,rfl,rfl,rfl⟩ rfl rfl rfl rfl rfl kQ func4 zyf
  (waA (by kernel_rfl)) (by unfold Func.isWrapper;first|(rw[if_pos (by decide+kernel)];kernel_rfl)|(rw[if_neg (by decide+kernel)];exact⟨rfl,rfl⟩))
  (fun os started H enc _ F=>by rw[OpenClaim.pre_eq_preRow];exact lifted os started H enc F)
theorem noGo:prog.funcs.any Func.goes=false:=by kernel_rfl
theorem zrZ {P:Program} (h:P.funcs.any Func.goes=false) {c:OpenClaim} (hs:c.start=.entering):false=c.goesBy P:=by
 have h1:∀f,P.goes f=false:=fun f=>by
  unfold Program.goes;rw[h,Bool.and_false,Bool.or_false,Bool.eq_false_iff];intro hc;rw[Array.any_eq_false] at h;have key:∀g:FuncId,(P.funcs[g]?).any Func.goes=false:=fun g=>by
   cases hg:P.funcs[g]? with
   |none=>rfl
   |some fn=>
    obtain⟨hlt,hk⟩:=waL.1 hg;have:=h g hlt;rw[hk] at this;simpa using this
  rw[List.any_eq_true] at hc;obtain⟨g,_,hg⟩:=hc;rw[key g] at hg;cases hg
 unfold OpenClaim.goesBy Program.goesAt Program.goesFrom;rw[hs];cases P.funcNamed c.func with
 |none=>rfl
 |some f=>simp [h1]
theorem plain (f:FuncId) (fn:Func) (hf:Tryz.pinned.checked.prog.funcNamed "feria/ferialaw37.TocalFaces" =some f) (hfn:Tryz.pinned.checked.prog.funcs[f]?=some fn):
 false=Tryz.pinned.checked.prog.looks []/\∀(j:Nat) t,fn.params[j]?=some t->Tryz.pinned.checked.prog.wantsStandIn t=false:=by
 obtain rfl:f=4:=waB ((show prog.funcNamed "feria/ferialaw37.TocalFaces" =some 4 by kernel_rfl).symm.trans hf)|>.symm
 obtain rfl:fn=Tryz.f4:=(waB (func4.symm.trans hfn)).symm;refine⟨by kernel_rfl,fun j t ht=>?_⟩
 rw[params4] at ht;exact stands t (by simpa using Array.mem_of_getElem? ht)
theorem proved:Rows.TocalFacesCardSaid:=
 Claim7.holds_tied_plain_at .later [] _ _ _ _ said (fun _ h=>by cases h) kQ (fun _ h=>by cases h) tocalFaces_row_tie rfl ⟨rfl,rfl⟩ kQ rfl plain (zrZ noGo rfl)
#print axioms proved
end Go.Proofs.YtllcdbgjeidlkaaGreatDoor.tocalFaces
