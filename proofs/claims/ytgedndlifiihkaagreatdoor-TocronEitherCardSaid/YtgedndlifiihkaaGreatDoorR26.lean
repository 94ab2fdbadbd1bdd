/- A part of the proof: WRoll10 WCst2 WCst3 WTc1 WTc2 WColl -/
import Derived.Test.YtgedndlifiihkaaGreatDoorR25
import Derived.Test.YtgedndlifiihkaaGreatDoorR00
import Derived.Test.YtgedndlifiihkaaGreatDoorR09
import Derived.Test.YtgedndlifiihkaaGreatDoorR13
set_option maxHeartbeats 80000000
set_option maxRecDepth 100000
set_option linter.unusedSimpArgs false
set_option linter.unusedVariables false
namespace Go.Proofs.YtgedndlifiihkaaGreatDoor
open Go.Proofs.Tryz
open Go.RowKit
open Go.Maps
attribute [local go_sem] Oper.semAt_some
theorem zqB {S:Nat→Prop} {lo hi B:Nat} {W V:World} (h:RlS S W V) (hS:∀k,S k→lo≤k∧k<hi):Rl lo hi B W V:=
 ⟨h.os,h.tape,h.output,h.size,fun k o hk h1 _=>(h.block k (waL.1 hk).1 (fun g=>by have:=hS k g;omega)).trans hk⟩
theorem Rl.of00 {lo hi B B':Nat} {X Y:World} (h:Rl 0 0 B X Y) (hB:B'≤B):Rl lo hi B' X Y:=⟨h.os,h.tape,h.output,h.size,fun k o hk _ h2=>h.block k o hk (.inr (waK _)) (h2.imp (fun g=>by omega) id)⟩
theorem zlM {β:Type} {R:β→Prop} (q:β→Bool) (pre:List {x // R x}) (x:{x // R x}):((pre++[x]).map Subtype.val).filter q=(pre.map Subtype.val).filter q++(if q x.1=true then [x.1] else []):=by
 rw[List.map_append,List.filter_append,List.map_singleton];cases h:q x.1<;>simp [h]
theorem zn1 {β:Type} {R:β→Prop} (q:β→Bool) (pre:List {x // R x}):((pre.map Subtype.val).filter q).length≤pre.length:=by
 have:=List.length_filter_le q (pre.map Subtype.val);rw[List.length_map] at this;exact this
theorem zsw {L:List Cl} {a z:Int}:(((zcy a z).attach).map Subtype.val).filter (zhv L)=zhT L a z:=by
 rw[List.attach_map_subtype_val];rfl
theorem zsx {p:Nat→Bool} (h:zsi p=true):¬∀s,s<86400→p s=false:=fun k=>by
 rw[zf6 k] at h;cases h
theorem zkM (M:Nat→Prop) (n:Nat) (d:RollD) (L:List Cl) (lo hi D b1 b2 b3:Nat) (a z:Int) (hMb:M d.b) (n3:¬M b3) (ha:a≤9223372036854775807) (hz:-9223372036854775808≤z) (hbe:b3<lo∨hi≤b3):
 SeqR Fence.wide n prog 123 #[.pointer (some ⟨b1,0,none⟩),.pointer (some ⟨b2,0,none⟩),.pointer (some ⟨b3,0,none⟩)] (fun x:Int×Nat=> #[shV x.1,.pointer (some ⟨x.2,0,none⟩)])
  (fun x W=>0≤x.1∧x.1<146097∧RollAt W d L lo hi D∧D≤x.2∧DiscAt W x.2 (zap L x.1)) (KpR M d L lo hi D) (fun xs=>xs.map Prod.fst=zhT L (mxI a 0) (mnI z 146096)) (fun _=>True) 146098 lo hi
  (fun W=>(∀k,M k→k<W.heap.size)∧RollAt W d L lo hi D∧W.cell? ⟨b1,0,none⟩=some (.int .i64 a)∧W.cell? ⟨b2,0,none⟩=some (.int .i64 z)∧W.cell? ⟨b3,0,none⟩=some (.pointer (some ⟨d.b,0,none⟩))):=by
 intro l J Jx W ⟨hM,hR,hc1,hc2,hc3⟩ hJ hJx hY h0;have HG:=waV (fun f u V=>wbP (n:=19).2 (zhu f u V))
 have HAt:=waV (fun l' V (hV:RollAt V d L lo hi D) n h0 h1=>zal (m:=17) (l':=l') (zkF d L lo hi D V hV n h0 h1))
 have HSm:=waV (fun l' v p V (hd:zeO V v p) (hw:Tz V)=>zal (m:=17) (l':=l') (zql v p V hd hw))
 have HY:=waV hY;clear hY;have nM:∀k,W.heap.size≤k→¬M k:=fun k h1 h2=>by have:=hM k h2;omega
 have hDW:=hR.dw;have HR:=waV hR;have HJ:=waV h0;clear hR h0
 suffices hs20:CallsIn Fence.wide 20 prog 123 (#[.func (.yield l) #[] #[]]++ #[.pointer (some ⟨b1,0,none⟩),.pointer (some ⟨b2,0,none⟩),.pointer (some ⟨b3,0,none⟩)]) W fun e W'=>(∃v,e=.returned v)∧((∃xs,xs.map Prod.fst=zhT L (mxI a 0) (mnI z 146096)∧J xs W')∨(∃pre,True∧Jx pre W')) from wbP.2 (wbP.1 hs20)
 refine callsIn_of_wp_marks func123 rfl trivial ?_ rfl;simp only[ntmps123,wbQ,waG,List.length_nil,Nat.reduceAdd,Nat.reduceSub,wbR,wbS,List.push_toArray,List.append_toArray,wbN,wbT]
 gi_wp2_with fail
 apply zds;apply wpIn_seq;apply wpIn_label;simp only[Exit.then]
 have hb0:Below W.heap.size W (W.alloc (.cells #[.func (.yield l) #[] #[]] 197)):=(waC _ W).alloc (waJ _) _;have y0:Boxed (W.alloc (.cells #[.func (.yield l) #[] #[]] 197)) W.heap.size 197 (.func (.yield l) #[] #[]):=Boxed.new _ _ _;have hz0:(W.alloc (.cells #[.func (.yield l) #[] #[]] 197)).heap.size=W.heap.size+1:=by simp
 generalize (W.alloc (.cells #[.func (.yield l) #[] #[]] 197))=W0 at *;have e1:=((zad hb0).1 _ _ (waR W _ hc1)).trans hc1;have e2:=((zad hb0).1 _ _ (waR W _ hc2)).trans hc2;have e3:=((zad hb0).1 _ _ (waR W _ hc3)).trans hc3
 gi_wp2_with fail
 refine⟨trivial,?_⟩;refine(HG.out _ _ _).mono ?_;rintro e w2 ⟨q1,q2,rfl,hl1,hl2,hne,hd1,hd2,hb2⟩;have hbW2:Below W.heap.size W w2:=hb0.trans (hb2.mono hb0.size);have hz2:=hb2.size;have y2:=zaB hb2 y0;have cy2:=y2.cell;have c32:=((zad hb2).1 _ _ (waR W0 _ e3)).trans e3;have lq1:W.heap.size+1≤q1:=by omega
 have lq2:W.heap.size+1≤q2:=by omega
 have hR2:=waV (HR.out.below hbW2);have hJ2:=waV (hJ _ _ _ HJ.out ((Rl.refl lo hi W.heap.size W).below hbW2));have eg:∀args w,(callFunc 128 args).run prog w=.ok (.enter 128 args) w:=enters_of func128 kQ rfl;clear HJ HR e1 e2 e3 y0 hb0 hc1 hc2 hc3
 gi_wp2_with fail
 refine wpIn_rangeFunc_ownH rfl oQ (gf:=128) (lb:=#[.pointer (some ⟨q1,0,none⟩),.pointer (some ⟨q2,0,none⟩)]) rfl trivial eg
  (ze2 (KpM M) 19 q1 q2 (mxI a 0) (mnI z 146096) dQ mx0 (by unfold mxI;split<;>omega) (by unfold mnI;split<;>omega) mn1 (fun _ _ hk hc=>hk.cell hc (nM _ oQ)) w2 hd1 hd2)
  (fun h k=>h.trans k) (fun V l o o' _ hl ho _=>KpM.putObj o' hl ho) (waC _ _) (fun _=>rfl)
  (fun pre V=>((∃xs:List (Int×Nat),xs.map Prod.fst=(pre.map Subtype.val).filter (zhv L)∧J xs V)∧RollAt V d L lo hi D)∧KpM M w2 V)
  (fun c pre V=>c=.exit 0∧∃xs:List (Int×Nat),Jx xs V)
  (OwnFrom.and (zbf (lo:=0) (hi:=0) (fun _ X Y hs hr=>⟨hs.1.imp fun xs h=>⟨h.1,hJ _ X Y h.2 (hr.of00 oQ)⟩,hs.2.rl00 hr oQ⟩)) zcS)
  (fun c=>zbf (lo:=0) (hi:=0) (fun _ X Y hs hr=>⟨hs.1,hs.2.imp fun xs h=>hJx _ X Y h (hr.of00 oQ)⟩))
  ⟨⟨⟨[],rfl,hJ2.out⟩,hR2.out⟩,KpM.refl _ _⟩
  (fun x a' V=>∃Bs,w2.heap.size≤Bs∧V.heap[Bs]?=some (.cells (shA x.1) 125)∧a'={tmps:=#[.func (.yield l) #[] #[],.pointer (some ⟨b1,0,none⟩),.pointer (some ⟨b2,0,none⟩),.pointer (some ⟨b3,0,none⟩),.pointer (some ⟨W.heap.size,0,none⟩),.pointer (some ⟨Bs,0,none⟩),undef,.int .i64 a,.int .i64 z,.func (.func 128) #[] #[.pointer (some ⟨q1,0,none⟩),.pointer (some ⟨q2,0,none⟩)],shV x.1,undef,undef,undef,undef,undef,undef,undef,undef,undef,undef,undef],defers:=[]})
  (fun x a' _ X Y row hs hg hr=>by
    obtain⟨Bs,e1,e2,e3⟩:=hs;refine⟨Bs,e1,(hg.block Bs (waL.1 e2).1 (fun e=>?_)).trans e2,e3⟩
    obtain⟨_,o,ho,hc⟩:=hr Bs e.symm;rw[e2] at ho;cases ho;cases hc)
  ?assign ?body ?done ?stop
 case assign=>
  rintro l1 pre x V K ⟨⟨⟨xs,hxs,hjx⟩,hrx⟩,hkx⟩ hK;obtain⟨v0,v1,v2,v3,v4,v5,v6,v7,v8,v9,hv⟩:=zeq x.1;have hA:shA x.1=#[.int .i64 v0,.int .i64 v1,.int .i64 v2,.int .i64 v3,.int .i64 v4,.int .i64 v5,.int .i64 v6,.int .i64 v7,.int .i64 v8,.int .i64 v9]:=by have:=(zep x.1).symm.trans hv;injection this
  have HK:=waV hK;have HJx:=waV hjx;have HRx:=waV hrx;clear hK hjx hrx;rw[hv] at HK ⊢;rw[hA] at HK;have hsz:=hkx.size
  gi_wp2
  have hb:=(waC _ V).alloc (waJ _) (.cells #[.int .i64 v0,.int .i64 v1,.int .i64 v2,.int .i64 v3,.int .i64 v4,.int .i64 v5,.int .i64 v6,.int .i64 v7,.int .i64 v8,.int .i64 v9] 125);exact HK.out _ _ ((KeepsOthers.alloc _ _).from _) ((KpM.refl _ V).alloc _) ⟨⟨⟨xs,hxs,hJ _ _ _ HJx.out ((Rl.refl lo hi W.heap.size V).below hb)⟩,HRx.out.below hb⟩,hkx.alloc _⟩ ⟨V.heap.size,hsz,World.alloc_heap_new V _,rfl⟩
 case body=>
  rintro l1 pre x a' V hl1 ⟨r1,hr1⟩ ⟨⟨⟨xs,hxs,hjx⟩,hrx⟩,hkx⟩ ⟨Bs,hBs,hbs,rfl⟩ hlt;obtain⟨v0,v1,v2,v3,v4,v5,v6,v7,v8,v9,hv⟩:=zeq x.1;have hA:shA x.1=#[.int .i64 v0,.int .i64 v1,.int .i64 v2,.int .i64 v3,.int .i64 v4,.int .i64 v5,.int .i64 v6,.int .i64 v7,.int .i64 v8,.int .i64 v9]:=by have:=(zep x.1).symm.trans hv;injection this
  have hn0:0≤x.1:=by have:=zaS.1 x.2;have:=@mx0 a;omega
  have hn1:x.1<146097:=by have:=zaS.1 x.2;have:=@mn1 z;omega
  have hlive:=zlM (zhv L) pre x;have hlen:=zn1 (zhv L) pre;rw[←hxs,List.length_map] at hlen;have HAx:=waV (HAt.out l1 V hrx x.1 hn0 hn1);have HYx:=waV (fun q W1 (hj:J xs W1) h=>HY.out xs (x.1,q) W1 hj ⟨hn0,hn1,h⟩ oQ)
  have HLive:=waV hlive;have HXs:=waV hxs;clear hlive hxs;dsimp only at HYx;rw[hv] at HAx HYx ⊢;rw[hA] at hbs;have hsz:=hkx.size;have c3V:=hkx.cell c32 n3;have cyV:=hkx.cell cy2 (nM _ (waJ _));have nBs:∀j,d.mv L.length j→j<W.heap.size:=fun j g=>by have:=hrx.f.mb j g;have:=hrx.hiD;omega
  have nlo:∀j,d.mv L.length j→lo≤j∧j<hi:=fun j g=>hrx.f.mb j g
  have hmb:=hrx.f.lb0;have hhD:=hrx.hiD;have e0:V.cell? ⟨Bs,0,none⟩=some (.int .i64 v0):=by simp[World.cell?,hbs]
  have e1:V.cell? ⟨Bs,1,none⟩=some (.int .i64 v1):=by simp[World.cell?,hbs]
  have e2:V.cell? ⟨Bs,2,none⟩=some (.int .i64 v2):=by simp[World.cell?,hbs]
  have e3:V.cell? ⟨Bs,3,none⟩=some (.int .i64 v3):=by simp[World.cell?,hbs]
  have e4:V.cell? ⟨Bs,4,none⟩=some (.int .i64 v4):=by simp[World.cell?,hbs]
  have e5:V.cell? ⟨Bs,5,none⟩=some (.int .i64 v5):=by simp[World.cell?,hbs]
  have e6:V.cell? ⟨Bs,6,none⟩=some (.int .i64 v6):=by simp[World.cell?,hbs]
  have e7:V.cell? ⟨Bs,7,none⟩=some (.int .i64 v7):=by simp[World.cell?,hbs]
  have e8:V.cell? ⟨Bs,8,none⟩=some (.int .i64 v8):=by simp[World.cell?,hbs]
  have e9:V.cell? ⟨Bs,9,none⟩=some (.int .i64 v9):=by simp[World.cell?,hbs]
  have HJV:=waV hjx;have HRV:=waV hrx;clear hjx hrx
  gi_wp2_with fail
  refine⟨trivial,?_⟩;refine HAx.out.mono ?_;rintro e w3 ⟨v,rfl,hd,hR3,hr3⟩;have hk3:KpM M V w3:=KpM.of_roll HRV.out hr3 hMb;have hj3:J xs w3:=hJ _ _ _ HJV.out (zqB hr3 nlo);have hf3:KeepsFrom W.heap.size V w3:=⟨hr3.size,fun i o h1 h2 _=>(hr3.block i (waL.1 h2).1 (fun g=>by have:=nBs i g;omega)).trans h2⟩
  have hbs3:=(hr3.block Bs (waL.1 hbs).1 (fun g=>by have:=nBs Bs g;omega)).trans hbs
  have cy3:=hk3.cell cyV (nM _ (waJ _));have hdv:zeO w3 v (zap L x.1):=Or.imp id (fun⟨b,h1,_,h3⟩=>⟨b,h1,h3⟩) hd
  have HS3:=waV (HSm.out l1 v (zap L x.1) w3 hdv hR3.tz);have HR3:=waV hR3;have HJ3:=waV hj3;clear e0 e1 e2 e3 e4 e5 e6 e7 e8 e9 hdv hR3 hj3 hr3 hbs c3V HAx HJV HRV;cases hany:zsi (zap L x.1) with
  |false=>
   rw[hany] at HS3;have HP:Hid (xs.map Prod.fst=((pre++[x]).map Subtype.val).filter (zhv L)):=by
    have h:zhv L x.1=false:=hany;show _=_;rw[HLive.out,h,HXs.out];simp
   clear hd hbs3
   gi_wp2_with fail
   refine⟨trivial,?_⟩;refine HS3.out.mono ?_;rintro e w4 ⟨rfl,rfl⟩
   gi_wp2_with fail
   exact⟨zaA hf3 oQ,hk3,⟨⟨xs,HP.out,HJ3.out⟩,HR3.out⟩,hkx.trans hk3⟩
  |true=>
   rw[hany] at HS3;rcases hd with ⟨_,hno⟩|⟨q,rfl,hq,hdq⟩
   ·exact absurd hno (zsx hany)
   have HP:Hid ((xs++[(x.1,q)]).map Prod.fst=((pre++[x]).map Subtype.val).filter (zhv L)):=by
    have h:zhv L x.1=true:=hany;show _=_;rw[HLive.out,h,←HXs.out];simp
   obtain⟨fn,tmps,assign,body,hy,hRd⟩:=HYx.out q w3 HJ3.out ⟨HR3.out,hq,hdq⟩;have HRd:=waV hRd;have f0:w3.cell? ⟨Bs,0,none⟩=some (.int .i64 v0):=by simp[World.cell?,hbs3]
   have f1:w3.cell? ⟨Bs,1,none⟩=some (.int .i64 v1):=by simp[World.cell?,hbs3]
   have f2:w3.cell? ⟨Bs,2,none⟩=some (.int .i64 v2):=by simp[World.cell?,hbs3]
   have f3:w3.cell? ⟨Bs,3,none⟩=some (.int .i64 v3):=by simp[World.cell?,hbs3]
   have f4:w3.cell? ⟨Bs,4,none⟩=some (.int .i64 v4):=by simp[World.cell?,hbs3]
   have f5:w3.cell? ⟨Bs,5,none⟩=some (.int .i64 v5):=by simp[World.cell?,hbs3]
   have f6:w3.cell? ⟨Bs,6,none⟩=some (.int .i64 v6):=by simp[World.cell?,hbs3]
   have f7:w3.cell? ⟨Bs,7,none⟩=some (.int .i64 v7):=by simp[World.cell?,hbs3]
   have f8:w3.cell? ⟨Bs,8,none⟩=some (.int .i64 v8):=by simp[World.cell?,hbs3]
   have f9:w3.cell? ⟨Bs,9,none⟩=some (.int .i64 v9):=by simp[World.cell?,hbs3]
   clear hRd hbs3 HYx hdq
   gi_wp2_with fail
   refine⟨trivial,?_⟩;refine HS3.out.mono ?_;rintro e w4 ⟨rfl,rfl⟩
   gi_wp2_with fail
   refine(zej (l':=l1) HRd.out).mono ?_;rintro e W4 (⟨rfl,hj4,hk4,hf4⟩|⟨rfl,hj4,hf4⟩)
   ·have HJ4:=waV hj4;have HR4:=waV (hk4.r HR3.out);clear hj4 hy
    gi_wp2_with fail
    exact⟨zaA (hf3.trans hf4) oQ,hk3.trans hk4.k,⟨⟨_,HP.out,HJ4.out⟩,HR4.out⟩,(hkx.trans hk3).trans hk4.k⟩
   ·have HJ4:=waV hj4;clear hj4 hy
    gi_wp2_with fail
    exact⟨zaA (hf3.trans hf4) oQ,rfl,_,HJ4.out⟩
 case done=>
  rintro D' ys V hD rfl ⟨⟨⟨xs,hxs,hjx⟩,hrx⟩,hkx⟩ hKd;rw[zsw] at hxs;have HJV:=waV (hJ _ _ _ hjx ((Rl.refl lo hi W.heap.size V).put (.deferred none) hKd rfl oQ));clear hjx hrx
  gi_wp2_with fail
  refine⟨by simp,.inl ⟨_,_,rfl,run_takeDeferred hKd,?_⟩⟩
  exact⟨_,results_none rfl _ _ _,⟨_,rfl⟩,.inl ⟨xs,hxs,HJV.out⟩⟩
 case stop=>
  rintro D' c pre V hD _ ⟨rfl,xs,hjx⟩ hKd;have HJV:=waV (hJx _ _ _ hjx ((Rl.refl lo hi W.heap.size V).put (.deferred none) hKd rfl oQ));clear hjx
  gi_wp2_with fail
  refine⟨by simp,.inl ⟨_,_,rfl,run_takeDeferred hKd,?_⟩⟩
  exact⟨_,results_none rfl _ _ _,⟨_,rfl⟩,.inr ⟨xs,trivial,HJV.out⟩⟩
end Go.Proofs.YtgedndlifiihkaaGreatDoor
namespace Go.Proofs.YtgedndlifiihkaaGreatDoor
open Go.Proofs.Tryz
open Go.RowKit
open Go.Maps
structure SeenE (W:World) (P:Nat→Prop) (es:List MapEntry):Prop where
 one:zfC es
 all:∀q∈es,∃b,q.key=.pointer (some ⟨b,0,none⟩)∧q.val=.bool true∧P b∧∃p,DiscAt W b p
theorem SeenE.nil (W:World) (P:Nat→Prop):SeenE W P []:=⟨(fun q hq=>by cases hq),fun q hq=>by cases hq⟩
theorem SeenE.imp {W V:World} {P Q:Nat→Prop} {es:List MapEntry} (h:SeenE W P es) (hP:∀b,P b→Q b) (hd:∀e p,DiscAt W e p→DiscAt V e p):SeenE V Q es:=⟨h.one,fun q hq=>by
 obtain⟨b,h1,h2,h3,p,h4⟩:=h.all q hq;exact⟨b,h1,h2,hP b h3,p,hd b p h4⟩⟩
theorem SeenE.keys {W:World} {P:Nat→Prop} {es:List MapEntry} (h:SeenE W P es):∀q∈es,zgk W q.key:=fun q hq=>by
 obtain⟨b,h1,_,_,p,h4⟩:=h.all q hq;obtain⟨cs,hc⟩:=h4.obj;exact⟨b,cs,_,h1,hc⟩
theorem SeenE.push {W:World} {P:Nat→Prop} {es:Array MapEntry} (h:SeenE W P es.toList) {b n:Nat} {p:Nat→Bool} (hno:∀q∈es.toList,q.key≠.pointer (some ⟨b,0,none⟩)) (hP:P b) (hd:DiscAt W b p):SeenE W P (es.push {key:=.pointer (some ⟨b,0,none⟩),val:=.bool true,born:=n}).toList:=⟨h.one.push hno,fun q hq=>by
 rw[Array.toList_push,wbB,wbC] at hq;rcases hq with hq|rfl
 ·exact h.all q hq
 ·exact⟨b,rfl,rfl,hP,p,hd⟩⟩
structure FreshAt (W:World) (kb m:Nat) (P:Nat→Prop):Prop where
 c:W.cell? ⟨kb,0,none⟩=some (.map (some m))
 f:∃es k,W.heap[m]?=some (.map es k)∧SeenE W P es.toList
theorem FreshAt.ne {W:World} {kb m:Nat} {P:Nat→Prop} (h:FreshAt W kb m P):kb≠m:=by
 rintro rfl;obtain⟨es,k,hm,_⟩:=h.f;have:=h.c;simp[World.cell?,hm] at this
theorem FreshAt.imp {W V:World} {kb m:Nat} {P:Nat→Prop} {S:Nat→Prop} (h:FreshAt W kb m P) (hr:RlS S W V) (h1:¬S kb) (h2:¬S m) (hd:∀e p,DiscAt W e p→DiscAt V e p):FreshAt V kb m P:=⟨hr.cell h.c h1,by
 obtain⟨es,k,hm,hs⟩:=h.f;exact⟨es,k,(hr.block _ (waL.1 hm).1 h2).trans hm,hs.imp (fun _ h=>h) hd⟩⟩
theorem FreshAt.put {W:World} {kb m:Nat} {P Q:Nat→Prop} (h:FreshAt W kb m P) (es:Array MapEntry) (k:Nat) (hs:SeenE W Q es.toList):FreshAt (W.putObj m (.map es k)) kb m Q:=by
 have hr:RlS (·=m) W (W.putObj m (.map es k)):=(RlS.refl _ W).put _ _ rfl;obtain⟨es0,k0,hm,_⟩:=h.f;refine⟨hr.cell h.c h.ne,es,k,World.putObj_heap_same (waL.1 hm).1,hs.imp (fun _ h=>h) fun e p g=>?_⟩
 refine g.rls hr ?_;rintro rfl;obtain⟨cs,hc⟩:=g.obj;rw[hm] at hc;cases hc
def RetIs (kb m q:Nat) (P:Nat→Prop) (W:World) (e:Ending) (W':World):Prop:=
 RlS (·=m) W W'∧((e=.returned (.bool false)∧P q∧FreshAt W' kb m P)∨(e=.returned (.bool true)∧FreshAt W' kb m (fun x=>P x∨x=q)))
theorem zeH (kb m q:Nat) (P:Nat→Prop) (p:Nat→Bool) (W:World) (h:FreshAt W kb m P) (hd:DiscAt W q p):
 Calls prog 178 #[.pointer (some ⟨q,0,none⟩),.pointer (some ⟨kb,0,none⟩)] W (RetIs kb m q P W):=by
 have HT:Hid (prog.underlying 265=some (.map 126 4)):=underlying265;have HK:Hid (∀V,KeyRun prog 126 V (zgk V)):=fun V=>by
  obtain⟨j,hte⟩:=info_of_underlying underlying200;refine KeyRun.ptr underlying126 hte ?_ V;have h:(prog.info? 200).map (·.size)=some 1350:=by kernel_rfl
  rw[hte] at h;have h:j.size=1350:=waB h;omega
 have hx:zgk W (.pointer (some ⟨q,0,none⟩)):=by
  obtain⟨cs,hc⟩:=hd.obj;exact⟨q,cs,_,rfl,hc⟩
 have HX:=waV hx;obtain⟨es,ck,hE,hes⟩:=h.f;have c0:=h.c;have HFr:=waV h;have HD:=waV hd;have lk:=waR W _ c0;have lm:=(waL.1 hE).1;rcases zbs (z:=.bool false) HT.out rfl hE (HK.out W) hx hes.keys with ⟨y,hy,hk,hl0⟩|⟨hno,hl0⟩
 ·have HN:Hid (P q∧y.val=.bool true):=by
   obtain⟨b,h1,h2,h3,_⟩:=hes.all y hy;rw[hk] at h1;cases h1;exact⟨h3,h2⟩
  have hl:=hl0 false;rw[if_neg (by decide),HN.out.2] at hl
  clear hx hes hk hy h hd HT HK hl0;go_enter func178,ntmps178;go_wp2_with fail;go_ret;exact⟨RlS.refl _ _,.inl ⟨rfl,HN.out.1,HFr.out⟩⟩
 ·have hl:=hl0 false;rw[if_neg (by decide)] at hl
  have HNo:=waV hno;have HEs:=waV hes;clear hno hes h hd hl0;have hln:(Builtin.len_ #[265] 3 #[.map (some m)]).run prog W=.ok (.int .i64 (es.size:Int)) W:=zeF HT.out hE;have hcr:(Builtin.clear_ #[265] 0 #[.map (some m)]).run prog W=.ok (.tuple #[]) (W.putObj m (.map #[] ck)):=zdb HT.out hE
  by_cases h6:es.size=512
  ·rw[h6] at hln;have hu:(Instr.mapUpdate 265 (.map (some m)) (.pointer (some ⟨q,0,none⟩)) (.bool true)).run prog (W.putObj m (.map #[] ck))=.ok () ((W.putObj m (.map #[] ck)).putObj m (.map ((#[]:Array MapEntry).push {key:=.pointer (some ⟨q,0,none⟩),val:=.bool true,born:=ck}) (ck+1))):=by
    have hK0:SeenE W P (#[]:Array MapEntry).toList:=SeenE.nil _ _;have hF:=HFr.out.put (Q:=P) #[] ck hK0;have hE5:(W.putObj m (.map #[] ck)).heap[m]?=some (.map #[] ck):=World.putObj_heap_same lm;refine zcd HT.out hE5 (HK.out _) ?_ (fun q hq=>by cases hq) (fun q hq=>by cases hq)
    obtain⟨cs,hc⟩:=HD.out.obj;exact⟨q,cs,_,rfl,(World.putObj_heap_other (by rintro rfl;rw[hE] at hc;cases hc)).trans hc⟩
   have c1:(W.putObj m (.map #[] ck)).cell? ⟨kb,0,none⟩=some (.map (some m)):=(HFr.out.put (Q:=P) #[] ck (SeenE.nil _ _)).c;have HE1:Hid (FreshAt ((W.putObj m (.map #[] ck)).putObj m (.map ((#[]:Array MapEntry).push {key:=.pointer (some ⟨q,0,none⟩),val:=.bool true,born:=ck}) (ck+1))) kb m (fun x=>P x∨x=q)):=by
    have hF:=HFr.out.put (Q:=fun x=>P x∨x=q) #[] ck (SeenE.nil _ _)
    refine hF.put _ _ ((SeenE.nil _ _).push (es:=#[]) (fun q hq=>by cases hq) (.inr rfl) (p:=p) ?_)
    refine HD.out.rls ((RlS.refl (·=m) W).put m _ rfl) ?_;rintro rfl;obtain⟨cs,hc⟩:=HD.out.obj;rw[hE] at hc;cases hc
   clear HT HK HX hx hE HEs HNo;go_enter func178,ntmps178;go_wp2_with fail;go_ret;exact⟨((RlS.refl (·=m) W).put m _ rfl).put m _ rfl,.inr ⟨rfl,HE1.out⟩⟩
  ·have h6':¬(es.size:Int)=512:=by omega
   have hu:=zcd (v:=.bool true) HT.out hE (HK.out W) hx HEs.out.keys HNo.out;have HE1:Hid (FreshAt (W.putObj m (.map (es.push {key:=.pointer (some ⟨q,0,none⟩),val:=.bool true,born:=ck}) (ck+1))) kb m (fun x=>P x∨x=q)):=
    HFr.out.put _ _ ((HEs.out.imp (Q:=fun x=>P x∨x=q) (fun _ h=>.inl h) (fun _ _ h=>h)).push HNo.out (.inr rfl) HD.out)
   clear HT HK HX hx hE HEs HNo hcr;go_enter func178,ntmps178;go_wp2_with fail;go_ret;exact⟨(RlS.refl (·=m) W).put m _ rfl,.inr ⟨rfl,HE1.out⟩⟩
def zsy (W:World) (e:Ending) (W':World):Prop:=
 ∃kb m,e=.returned (.func (.func 178) #[] #[.pointer (some ⟨kb,0,none⟩)])∧W.heap.size≤kb∧W.heap.size≤m∧FreshAt W' kb m (fun _=>False)∧W'.frozen? ⟨kb,0,none⟩=false∧Below W.heap.size W W'
theorem zkN (W:World):Calls prog 116 #[] W (zsy W):=by
 have hmm:=@run_makeMap prog;go_enter func116,ntmps116;go_wp2_with fail;go_ret;have h1:(W.alloc (.map #[] 0)).heap.size=W.heap.size+1:=by simp
 refine⟨W.heap.size+1,W.heap.size,by rw[←h1];rfl,by omega,waJ _,⟨?_,#[],0,(Below.heap_alloc _ _ _ (by simp)).trans (World.alloc_heap_new W _),SeenE.nil _ _⟩,?_,((waC _ W).alloc (waJ _) _).alloc (by simp) _⟩
 ·rw[←h1];exact zaa rfl rfl
 ·unfold World.frozen?;rw[←h1,World.alloc_heap_new];simp
structure TimeAt (W:World) (fb b1 b2 b3 kb m:Nat) (P:Nat→Prop) (v:Value):Prop where
 x1:Boxed W b1 188 (.pointer (some ⟨fb,0,none⟩))
 x2:Boxed W b2 189 (.func (.func 178) #[] #[.pointer (some ⟨kb,0,none⟩)])
 x3:Boxed W b3 126 v
 fr:FreshAt W kb m P
def zuq (fb:Nat) (W:World) (e:Ending) (W':World):Prop:=
 ∃b1 b2 b3 kb m,e=.returned (.func (.func 118) #[] #[.pointer (some ⟨b1,0,none⟩),.pointer (some ⟨b2,0,none⟩),.pointer (some ⟨b3,0,none⟩)])∧W.heap.size≤b1∧W.heap.size≤b2∧W.heap.size≤b3∧W.heap.size≤kb∧W.heap.size≤m∧b1≠b2∧b1≠b3∧b2≠b3∧kb≠b1∧kb≠b2∧kb≠b3∧
  TimeAt W' fb b1 b2 b3 kb m (fun _=>False) (.pointer none)∧Below W.heap.size W W'
theorem zsz (fb:Nat) (W:World):Calls prog 69 #[.pointer (some ⟨fb,0,none⟩)] W (zuq fb W):=by
 have HF:=waV (fun V=>zkN V)
 go_enter func69,ntmps69;go_wp2_with fail;have hb0:Below W.heap.size W ((W.alloc (.cells #[.pointer (some ⟨fb,0,none⟩)] 188)).alloc (.cells #[.pointer none] 126)):=((waC _ W).alloc (waJ _) _).alloc (by simp) _
 have hz0:((W.alloc (.cells #[.pointer (some ⟨fb,0,none⟩)] 188)).alloc (.cells #[.pointer none] 126)).heap.size=W.heap.size+2:=by simp
 have x1:Boxed ((W.alloc (.cells #[.pointer (some ⟨fb,0,none⟩)] 188)).alloc (.cells #[.pointer none] 126)) W.heap.size 188 (.pointer (some ⟨fb,0,none⟩)):=(Boxed.new _ _ _).alloc _;have x3:Boxed ((W.alloc (.cells #[.pointer (some ⟨fb,0,none⟩)] 188)).alloc (.cells #[.pointer none] 126)) (W.heap.size+1) 126 (.pointer none):=by
  have h:W.heap.size+1=(W.alloc (.cells #[.pointer (some ⟨fb,0,none⟩)] 188)).heap.size:=by simp
  rw[h];exact Boxed.new _ _ _
 generalize ((W.alloc (.cells #[.pointer (some ⟨fb,0,none⟩)] 188)).alloc (.cells #[.pointer none] 126))=W0 at *;refine(HF.out _).mono ?_;rintro e w1 ⟨kb,m,rfl,hk,hm,hfr,hfz,hb1⟩;have x1:=zaB hb1 x1;have x3:=zaB hb1 x3;have hz1:=hb1.size;have HFr:=waV hfr;have lk:=waR w1 _ hfr.c;clear hfr;go_wp2_with fail;go_ret;have hbA:Below w1.heap.size w1 (w1.alloc (.cells #[.func (.func 178) #[] #[.pointer (some ⟨kb,0,none⟩)]] 189)):=(waC _ w1).alloc (waJ _) _;have lk:kb<w1.heap.size:=lk;exact⟨W.heap.size,w1.heap.size,W.heap.size+1,kb,m,rfl,waJ _,by omega,by omega,by omega,by omega,by omega,by omega,by omega,by omega,by omega,by omega,
  ⟨zaB hbA x1,Boxed.new _ _ _,zaB hbA x3,HFr.out.imp ((RlS.refl (fun _=>False) w1).below hbA (waJ _)) (fun g=>g) (fun g=>g) (fun e p g=>g.below hbA)⟩,(hb0.trans (hb1.mono oQ)).alloc oQ _⟩
end Go.Proofs.YtgedndlifiihkaaGreatDoor
namespace Go.Proofs.YtgedndlifiihkaaGreatDoor
open Go.Proofs.Tryz
open Go.RowKit
theorem zkO (s:Int) (w:World):Calls prog 81 #[.int .i64 s] w (Ret (itV ⟨0,0,0,s⟩) w):=by
 go_enter func81,ntmps81;go_wp2_with fail;refine waY (v:=itV ⟨0,0,0,s⟩) (by rw[zag rfl];go_simp) rfl ?_
 exact⟨rfl,(waC _ w).alloc (waJ _) _⟩
theorem zsA (m:Nat) (hm:m<18446744073709551616):(if m.testBit 7 then m|||1 else m)&&&(18446744073709551615 - 128)=zca m:=by
 have hlt:∀k,64≤k→m.testBit k=false:=fun k hk=>waX (waD (show m<2^64 from hm) (Nat.pow_le_pow_right dQ hk))
 refine Nat.eq_of_testBit_eq fun k=>?_
 have e7:(18446744073709551615 - 128:Nat)=2^64 - (2^7+1):=by decide
 by_cases hk:k<64
 ·rw[zc6 m k hk,Nat.testBit_and,e7,Nat.testBit_two_pow_sub_succ (by decide),waP hk,Bool.true_and,Nat.testBit_two_pow]
  by_cases h7:m.testBit 7=true
  ·rw[if_pos h7,show m|||1=m|||2^0 from rfl,Nat.testBit_or,Nat.testBit_two_pow,h7]
   by_cases h0:k=0
   ·subst h0;simp
   ·rw[if_neg h0]
    by_cases hk7:k=7
    ·subst hk7;simp
    ·have h1:¬7=k:=fun h=>hk7 h.symm
     have h2:¬0=k:=fun h=>h0 h.symm
     simp[hk7,h1,h0,h2]
  ·rw[if_neg h7];have h7':m.testBit 7=false:=by simpa using h7
   by_cases h0:k=0
   ·subst h0;simp[h7']
   ·rw[if_neg h0]
    by_cases hk7:k=7
    ·subst hk7;simp
    ·have h1:¬7=k:=fun h=>hk7 h.symm
     simp[hk7,h1]
 ·have h1:(zca m).testBit k=false:=waX (waD (show zca m<2^64 from zfW m) (Nat.pow_le_pow_right dQ oQ))
  rw[h1,Nat.testBit_and,e7,Nat.testBit_two_pow_sub_succ (by decide),waO hk,Bool.false_and,Bool.and_false]
theorem zhz (m:Nat) (hm:m<18446744073709551616) (w:World):Calls prog 31 #[.int .u64 m] w (zbU (.int .u64 (zca m:Nat)) w):=by
 have HH:=waV (fun V=>zby (m:Int) 7 oQ oQ V)
 rw[show (7:Int)=((7:Nat):Int) from rfl,zbc m 7 (by decide)] at HH
 have HB:=waV (zsA m hm);have HR:Hid (bits .andNot .u64 (if m.testBit 7 then bits .or .u64 (m:Int) 1 else(m:Int)) 128=((zca m:Nat):Int)):=by
  show _=_;rw[←HB.out]
  by_cases h:m.testBit 7=true
  ·rw[if_pos h,if_pos h];have h1:bits .or .u64 (m:Int) ((1:Nat):Int)=((m|||1:Nat):Int):=u64_or_nat m 1 hm dQ
   rw[show (1:Int)=((1:Nat):Int) from rfl,h1,show(128:Int)=((128:Nat):Int) from rfl]
   exact u64_andNot_nat (m|||1) 128 (Nat.or_lt_two_pow (n:=64) hm dQ) dQ
  ·rw[if_neg h,if_neg h,show(128:Int)=((128:Nat):Int) from rfl]
   exact u64_andNot_nat m 128 hm dQ
 cases h7:m.testBit 7 with
 |true=>
  rw[h7] at HR HH;rw[if_pos rfl] at HR;rw[←HR.out];go_enter func31,ntmps31;go_wp2_with fail;refine(HH.out _).mono ?_;rintro e w1 ⟨rfl,rfl⟩;go_wp2_with fail;go_ret;exact⟨rfl,rfl⟩
 |false=>
  rw[h7] at HR HH;rw[if_neg (by decide)] at HR
  rw[←HR.out];go_enter func31,ntmps31;go_wp2_with fail;refine(HH.out _).mono ?_;rintro e w1 ⟨rfl,rfl⟩;go_wp2_with fail;go_ret;exact⟨rfl,rfl⟩
theorem zqC (n:Int) (w:World):Calls prog 80 #[.int .i64 n] w (zfa [⟨1,n,0,0⟩] w):=by
 go_enter func80,ntmps80;go_wp2_with fail;go_ret;exact⟨_,rfl,zdC w _ _ 4 1 dQ rfl,(waC _ w).alloc (waJ _) _⟩
end Go.Proofs.YtgedndlifiihkaaGreatDoor
namespace Go.Proofs.YtgedndlifiihkaaGreatDoor
open Go.Proofs.Tryz
open Go.RowKit
attribute [local go_sem] Oper.semAt_some
theorem zn2 {F:Fence} {n:Nat} {P:Program} {α:Type} {c:Code} {Q:Exit→Act→World→Prop} {a:Act} {w:World} (ds:α→List (Nat×Value)) (R:α→World→Prop) (h2:c.wpIn F n P (zvt ds R a) a w) (h1:∀x w',R x w'→Q .normal (zcD (ds x) a) w'):c.wpIn F n P Q a w:=
 Go.wpIn_mono h2 (by rintro e a' w' ⟨rfl,x,rfl,hr⟩;exact h1 x w' hr)
def zlN (l:List Nat):Int:=l.foldl (fun(a:Int) (m:Nat)=>max a (zbe 2000 (m:Int))) 0
theorem zn3 (l:List Nat) (x:Nat):zlN (l++[x])=max (zlN l) (zbe 2000 (x:Int)):=by
 unfold zlN;rw[List.foldl_append];rfl
theorem zlO (m:Nat) (hm:m<18446744073709551616) (w:World) (hw:Tz w):Calls prog 82 #[.int .u64 m] w (Ret (.int .i64 (zcY m)) w):=by
 have HA:=waV (fun V B (hc:V.cell? ⟨B,0,none⟩=some (.int .u64 (m:Nat)))=>wbP (n:=4).2 (zeD m hm B 0 1 V hc))
 have HL:=waV (fun l' x V=>zal (m:=2) (l':=l') (zdm 2000 x dQ dQ V))
 have HW:=waV hw;have eg:∀args w,(callFunc 196 args).run prog w=.ok (.enter 196 args) w:=enters_of func196 kQ rfl;have htz:0<w.heap.size:=waR w _ (hw 0 dQ);clear hw;refine(wbP (n:=5)).1 ?_;refine callsIn_of_wp_marks func82 rfl trivial ?_ rfl;simp only[ntmps82,wbQ,waG,List.length_nil,Nat.reduceAdd,Nat.reduceSub,wbR,wbS,List.push_toArray,List.append_toArray,wbN,wbT]
 gi_wp2_with fail
 refine⟨trivial,?_⟩;have hb0:Below w.heap.size w ((w.alloc (.cells #[.int .i64 0] 3)).alloc (.cells #[.int .u64 (m:Nat)] 33)):=((waC _ w).alloc (waJ _) _).alloc (by simp) _
 have hz0:((w.alloc (.cells #[.int .i64 0] 3)).alloc (.cells #[.int .u64 (m:Nat)] 33)).heap.size=w.heap.size+2:=by simp
 have x0:Boxed ((w.alloc (.cells #[.int .i64 0] 3)).alloc (.cells #[.int .u64 (m:Nat)] 33)) w.heap.size 3 (.int .i64 0):=(Boxed.new _ _ _).alloc _;have a0:((w.alloc (.cells #[.int .i64 0] 3)).alloc (.cells #[.int .u64 (m:Nat)] 33)).cell? ⟨w.heap.size+1,0,none⟩=some (.int .u64 (m:Nat)):=by
  have h:w.heap.size+1=(w.alloc (.cells #[.int .i64 0] 3)).heap.size:=by simp
  rw[h];exact zaa rfl rfl
 generalize ((w.alloc (.cells #[.int .i64 0] 3)).alloc (.cells #[.int .u64 (m:Nat)] 33))=W0 at *;refine(HA.out _ _ a0).mono ?_;rintro e w1 ⟨bA,rfl,cA,hlA,hq1⟩;have x1:=zaB hq1 x0;have hb1:Below w.heap.size w w1:=hb0.trans (hq1.mono oQ);have hT1:=HW.out.below hb1;have hz1:=hq1.size;clear x0 a0 hb0
 gi_wp2_with fail
 refine wpIn_rangeFunc_ownH rfl oQ (gf:=196) (lb:=#[.pointer (some ⟨bA,0,none⟩)]) rfl trivial eg
  (zcr (fun k:Nat=>k) (zas m) (KpM (·=w.heap.size)) 4 bA m dQ (List.map_id _) hm (fun _ _ hk hc=>hk.cell hc (fun g=>by have:bA=w.heap.size:=g;omega)) (fun _ _ hk ht=>ht.kpM hk (fun g=>by have:0=w.heap.size:=g;omega)) w1 cA hT1)
  (fun h k=>h.trans k) (fun V l o o' _ hl ho _=>KpM.putObj o' hl ho) (waC _ _) (fun _=>rfl)
  (fun pre V=>Boxed V w.heap.size 3 (.int .i64 (zlN pre))∧Below w.heap.size w V)
  (fun c pre V=>False)
  (OwnFrom.and (Own.from (boxed_own _ _ (fun pre:List Nat=>Value.int .i64 (zlN pre))) _) (ownFrom_below (waJ _) oQ))
  (fun c _ _ _ _ hs _ _=>hs)
  ⟨x1,hb1⟩
  (fun x a' V=>a'={tmps:=#[.int .u64 (m:Nat),undef,.int .i64 0,.pointer (some ⟨w.heap.size,0,none⟩),.int .i64 (x:Int),.int .u64 (m:Nat),.slice (some ⟨w.heap.size+1,0,none⟩) 1 1,.func (.func 196) #[] #[.pointer (some ⟨bA,0,none⟩)],.int .i64 (x:Int),undef,undef,undef,undef,undef],defers:=[]})
  (fun _ _ _ _ _ _ hs _ _=>hs)
  ?assign ?body ?done ?stop
 case assign=>
  rintro l1 pre x V K hi hK
  gi_wp2_with fail
  exact hK _ _ (KeepsFrom.refl _ _) (KpM.refl _ _) hi rfl
 case body=>
  rintro l1 pre x a' V hl1 _ ⟨hx,hb⟩ rfl hlt;have hLx:=waV (fun V=>HL.out l1 (x:Int) V)
  have HS:=waV (zn3 pre x);have c0:=hx.cell;have f0:=hx.frozen;have lV:=hx.lt;generalize zlN pre=F at *;generalize zbe 2000 (x:Int)=G at *
  gi_wp2_with fail
  refine zn2 (α:=Unit) (fun _=>[(9,.int .i64 F),(10,.int .i64 (x:Int)),(11,.int .i64 G),(12,.int .i64 (max F G))]) (fun _ w'=>Boxed w' w.heap.size 3 (.int .i64 (max F G))∧RlS (·=w.heap.size) V w') ?ways ?on
  case ways=>
   rcases Int.lt_or_le F G with hFG|hFG
   ·have hM:max F G=G:=by omega
    have hM1:¬G<F:=by omega
    have hM2:¬G≤F:=by omega
    rw[hM]
    gi_region_with (refine⟨trivial,?_⟩;gi_at_call 132;refine(hLx.out _).mono ?_;rintro e w4 ⟨rfl,hq4⟩;have x4:=zaB hq4 hx;have c4:=x4.cell;have f4:=x4.frozen;have l4:=x4.lt)
    all_goals first|exact⟨rfl,(),rfl,Boxed.set _ x4,((RlS.refl (·=w.heap.size) V).below hq4 (waJ _)).set ⟨w.heap.size,0,none⟩ _ rfl⟩|exact⟨rfl,(),rfl,Boxed.set _ x4,((RlS.refl (·=w.heap.size) V).below (((waC V.heap.size V).drew).trans hq4) (waJ _)).set ⟨w.heap.size,0,none⟩ _ rfl⟩
   ·have hM:max F G=F:=by omega
    have hM1:¬F<G:=by omega
    rw[hM]
    gi_region_with (refine⟨trivial,?_⟩;gi_at_call 132;refine(hLx.out _).mono ?_;rintro e w4 ⟨rfl,hq4⟩;have x4:=zaB hq4 hx;have c4:=x4.cell;have f4:=x4.frozen;have l4:=x4.lt)
    all_goals first|exact⟨rfl,(),rfl,Boxed.set _ x4,((RlS.refl (·=w.heap.size) V).below hq4 (waJ _)).set ⟨w.heap.size,0,none⟩ _ rfl⟩|exact⟨rfl,(),rfl,Boxed.set _ x4,((RlS.refl (·=w.heap.size) V).below (((waC V.heap.size V).drew).trans hq4) (waJ _)).set ⟨w.heap.size,0,none⟩ _ rfl⟩
  case on=>
   rintro _ w5 ⟨hx5,hr5⟩;simp only[zcD,List.foldl,Act.put,wbU,wbW,wbV];have hk5:KpM (·=w.heap.size) V w5:=⟨hr5.size,fun k o hk _ hn=>(hr5.block k (waL.1 hk).1 hn).trans hk⟩
   have hf5:KeepsFrom w1.heap.size V w5:=⟨hr5.size,fun i o h1 h2 _=>(hr5.block i (waL.1 h2).1 (fun g=>by have:i=w.heap.size:=g;omega)).trans h2⟩
   have hb5:Below w.heap.size w w5:=hb.trans ⟨hr5.os,hr5.tape,hr5.output,hr5.size,fun k hk=>hr5.block k (by have:=hb.size;omega) (fun g=>by have:k=w.heap.size:=g;omega)⟩
   clear hr5
   gi_wp2_with fail
   exact⟨hf5,hk5,by rw[HS.out];exact hx5,hb5⟩
 case done=>
  rintro D xs V hD rfl ⟨hx,hb⟩ hKd;have c0:=hx.cell;have HL2:Hid (zlN (zas m)=zcY m):=rfl
  gi_wp2_with fail
  refine⟨by simp,.inl ⟨_,_,rfl,run_takeDeferred hKd,?_⟩⟩
  exact⟨_,results_tmp rfl _ _ _,by rw[←HL2.out];rfl,hb.trans (belowK_b (w:=w) (waJ _) V D _ _ (by have:=hb1.size;omega) hKd rfl rfl)⟩
 case stop=>
  rintro D c pre V _ _ h _;exact h.elim
end Go.Proofs.YtgedndlifiihkaaGreatDoor
namespace Go.Proofs.YtgedndlifiihkaaGreatDoor
open Go.Proofs.Tryz
open Go.RowKit Go.Shelf
attribute [local go_sem] Oper.semAt_some
abbrev zvw (l:List Nat):List Value:=l.map fun(k:Nat)=>Value.int .i64 (k:Int)
def zlP (l:List Nat) (w:World) (e:Ending) (w':World):Prop:=∃v,e=.returned v∧w'.ownsRow w.heap.size 3 1 v l.length (zvw l)∧Below w.heap.size w w'
theorem KpT.of_below {p q B:Nat} {W W':World} (h:Below B W W') (hq:q≤B) (hg:0<B):KpT p q W W':=
 ⟨⟨h.size,fun k _ h2=>h.block k oQ⟩,fun t j hj=>by
   have:=t j hj;exact(wbK (h.block _ hg)).trans this⟩
theorem zjk (gf:Nat) (lb:Array Value) (L:List Nat) (p q N:Nat) (w:World) (hN:N≤1000000) (hq:q≤w.heap.size) (hg:0<w.heap.size)
 (eg:∀args w,(callFunc gf args).run prog w=.ok (.enter gf args) w) (hseq:∀W,Below w.heap.size w W→SeqStopsK Fence.wide 2 prog gf lb (fun k:Nat=> #[.int .i64 (k:Int)]) (KpT p q) (fun xs=>xs=L) (fun pre=>pre<+:L) N W):
 Calls prog 195 #[.slice none 0 0,.func (.func gf) #[] lb] w (zlP L w):=by
 obtain⟨i0,hi,hz0,hz1,hz2⟩:=info_parts ziu;refine(wbP (n:=3)).1 ?_;refine callsIn_of_wp_marks func195 rfl trivial ?_ rfl;simp only[ntmps195,wbQ,waG,List.length_nil,Nat.reduceAdd,Nat.reduceSub,wbR,wbS,List.push_toArray,List.append_toArray,wbN,wbT]
 gi_wp2
 have bO:=Boxed.new w 35 (.slice none 0 0);have hB0:Below w.heap.size w (w.alloc (.cells #[.slice none 0 0] 35)):=(waC _ w).alloc (waJ _) _;refine wpIn_rangeFunc_ownF rfl dQ (gf:=gf) (lb:=lb) rfl trivial eg (hseq _ hB0) (fun h k=>h.trans k) (fun W l o o' hl ho hc _=>KpT.putObj o' (by simp at hl;omega) ho hc) (waC _ _) (fun _=>rfl)
  (fun pre W=>(∃v,Boxed W w.heap.size 35 v∧W.ownsRow w.heap.size 3 1 v pre.length (zvw pre)∧True)∧Below w.heap.size w W)
  (fun _ _ _=>False)
  (OwnFrom.and (Own.from (holdsRow_own w.heap.size w.heap.size 35 3 1 (fun pre:List Nat=>pre.length) (fun pre=>zvw pre) (fun pre v=>True)) _) (ownFrom_below (waJ _) (by simp)))
  (fun _ _ _ _ _ hs _ _=>hs)
  ⟨⟨_,bO,World.ownsRow_nil _ _ _ _,trivial⟩,hB0⟩
  (fun x=>{tmps:=#[.slice none 0 0,.func (.func gf) #[] lb,.pointer (some ⟨w.heap.size,0,none⟩),undef,.slice none 0 0,.int .i64 (x:Int),.func (.func gf) #[] lb,.int .i64 (x:Int),undef,undef,undef,undef,undef],defers:=[]}) ?assign ?body ?done ?stop
 case assign=>
  intro l x W K hK
  gi_wp2
  exact hK
 case body=>
  rintro l pre x W ⟨⟨v,hv,hrow,_⟩,hB⟩ hlt;have hc:=hv.cell
  gi_wp2_with (gi_at_builtin;refine wpListIn_append_own _ rfl _ _ 35 rfl w.heap.size 3 i0 (.int .i64 0) 1 8 underlying35 hi hz0 hz1 hz2 rfl dQ _ _ _ rfl (hrow.alloc _) ⟨W.heap.size,0,none⟩ 1 1 [.int .i64 (x:Int)] rfl rfl (cell_one_new _ _ _) (by simp[Value.oneCell']) (by unfold maxLen;omega) oQ (by have:=hB.size;simp;omega) ?_;intro v' w1 hown' hgrow _;obtain⟨g',cap',rfl⟩:=ownsRow_succ hown';obtain⟨hv1,hv2,hr2,hk2,hb2⟩:=hv.appended dQ hrow hB.size (waJ _) hown' hgrow;have hc1:=hv1.cell;have hf1:=hv1.frozen)
  exact⟨hk2,KpT.of_below hb2 hq hg,⟨_,hv2,by simpa[zvw] using hr2,trivial⟩,hB.trans hb2⟩
 case done=>
  rintro D ys W hD rfl ⟨⟨v,hv,hrow,_⟩,hB⟩ hK;have hc:=hv.cell
  gi_wp2
  refine⟨by simp,.inl ⟨_,_,rfl,run_takeDeferred hK,?_⟩⟩
  exact⟨_,results_tmp rfl _ _ _,v,rfl,ownsRow_putObj hrow _ hK rfl,hB.trans (belowK_b (w:=w) (waJ _) W D _ _ (by simp at hD;omega) hK rfl rfl)⟩
 case stop=>
  rintro D c pre W _ _ h _;exact h.elim
theorem zlQ (gf:Nat) (lb:Array Value) (L:List Nat) (p q N:Nat) (w:World) (hN:N≤1000000) (hq:q≤w.heap.size) (hg:0<w.heap.size)
 (eg:∀args w,(callFunc gf args).run prog w=.ok (.enter gf args) w) (hseq:∀W,Below w.heap.size w W→SeqStopsK Fence.wide 2 prog gf lb (fun k:Nat=> #[.int .i64 (k:Int)]) (KpT p q) (fun xs=>xs=L) (fun pre=>pre<+:L) N W):
 Calls prog 137 #[.func (.func gf) #[] lb] w (zlP L w):=by
 have H:=waV (zjk gf lb L p q N w hN hq hg eg hseq);clear hseq eg;go_enter func137,ntmps137;go_wp2_with fail;refine H.out.mono ?_;rintro e w1 ⟨v,rfl,hv,hb⟩;have HV:=waV hv;clear hv;go_wp2;go_ret;exact⟨_,rfl,HV.out,hb⟩
theorem zqD {w:World} {A B n k:Nat} {v:Value} {t:TypeId} {xs:List Value} (h:w.ownsRow B t k v n xs) (hA:A≤B):w.ownsRow A t k v n xs:=by
 refine⟨h.1,?_⟩;rcases h.2 with h|⟨g,cap,cur,h1,h2,h3⟩
 ·exact .inl h
 ·exact .inr ⟨g,cap,cur,h1,waW hA h2,h3⟩
theorem Tz.lt {w:World} (h:Tz w):0<w.heap.size:=waR w _ (h 0 dQ)
theorem zqE (m:Nat) (hm:m<18446744073709551616) (w:World) (hw:Tz w):Calls prog 78 #[.int .u64 m] w (zlP (zas m) w):=by
 have HA:=waV (fun B W h=>zeD m hm B 0 1 W h)
 have HW:=waV hw;have eg:∀args w,(callFunc 196 args).run prog w=.ok (.enter 196 args) w:=enters_of func196 kQ rfl;have HC:=waV (fun b W (hT:Tz W) (hc:W.cell? ⟨b,0,none⟩=some (.int .u64 m))=>
  zlQ 196 #[.pointer (some ⟨b,0,none⟩)] (zas m) b (b+1) 65 W dQ (waR W _ hc) hT.lt eg
   (fun V hV=>znL 2 b m b (b+1) dQ hm (waJ _) (Nat.lt_succ_self _) V ((hV.cell (p:=⟨b,0,none⟩) (waR W _ hc)).trans hc) (hT.below hV)))
 clear hw eg;go_enter func78,ntmps78;go_wp2_with fail;have hc:=@zaa w #[.int .u64 m] 33 w.heap.size 0 (.int .u64 m) rfl rfl;have hb0:Below w.heap.size w (w.alloc (.cells #[.int .u64 m] 33)):=(waC _ _).alloc (waJ _) _;refine(HA.out w.heap.size _ hc).mono ?_;rintro e w1 ⟨b,rfl,hcb,hlb,hb1⟩;have hb2:Below w.heap.size w w1:=hb0.trans (hb1.mono (by simp))
 have HC2:=waV (HC.out b w1 (HW.out.below hb2) hcb);clear hc hcb hb1 hb0;go_wp2_with fail;refine HC2.out.mono ?_;rintro e w2 ⟨v,rfl,hv,hb3⟩;have HV:=waV hv;clear hv;go_wp2;go_ret;refine⟨_,rfl,?_,zai hb2 hb3 hb2.size⟩;exact zqD HV.out hb2.size
end Go.Proofs.YtgedndlifiihkaaGreatDoor
