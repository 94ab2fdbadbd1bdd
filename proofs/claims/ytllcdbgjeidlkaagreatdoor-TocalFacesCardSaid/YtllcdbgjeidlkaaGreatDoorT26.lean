/- A part of the proof: WMeet5 -/
import Derived.Test.YtllcdbgjeidlkaaGreatDoorT25
set_option maxHeartbeats 80000000
set_option maxRecDepth 100000
set_option linter.unusedSimpArgs false
set_option linter.unusedVariables false
namespace Go.Proofs.YtllcdbgjeidlkaaGreatDoor
open Go.Proofs.Tryz
open Go.RowKit
open Go.Maps
attribute [local go_sem] Oper.semAt_some
theorem FineE.imp {W V:World} {D:Nat} {h:Bool->Bool->Bool} {es:List MapEntry} (k:FineE W D h es) (hd:∀e p,DiscAt W e p->DiscAt V e p):FineE V D h es:=⟨k.one,fun q hq=>by
 obtain⟨v1,v2,p1,p2,h1,h2,h3,h4,h5⟩:=k.all q hq;exact⟨v1,v2,p1,p2,h1,h2,h3.imp hd,h4.imp hd,h5⟩⟩
theorem MeetAt.rl00 {B:Nat} {V W:World} {x:AskD} {L1 L2:List Cl} {h:Bool->Bool->Bool} {f1 u1 f2 u2:Int} (k:MeetAt W x L1 L2 h f1 u1 f2 u2) (hr:Rl 0 0 B W V) (hB:x.D<=B):MeetAt V x L1 L2 h f1 u1 f2 u2:=by
 have hdw:=k.r1.dw;have hm:=(k.mb x.fm (.inr (.inl rfl))).1;have hb:=(k.mb x.b (.inl rfl)).1;have hblk:∀j,j<x.D->V.heap[j]?=W.heap[j]? :=fun j hj=>by
  rw[hr.block j _ (wbI (show j<W.heap.size by omega)) (.inr (waK _)) (.inl (by omega)),wbI (show j<W.heap.size by omega)]
 have hrs:RlS (fun j=>x.D<=j) W V:=⟨hr.os,hr.tape,hr.output,hr.size,fun i hi hs=>hblk i oQ⟩
 have nb:¬x.D<=x.b:=by omega
 refine⟨hrs.cell k.c0 nb,hrs.cell k.c1 nb,hrs.cell k.c2 nb,hrs.cell k.c3 nb,?_,hrs.cell k.c5 nb,hrs.cell k.c6 nb,hrs.cell k.c7 nb,hrs.cell k.c8 nb,fun j=>(zaX hrs oQ nb).trans (k.fz j),k.r1.rl00 hr hB,k.r2.rl00 hr hB,k.ap,k.bf,?_,k.fnd⟩
 ·obtain⟨z,hz⟩:=k.c4;exact⟨z,hrs.cell hz nb⟩
 ·obtain⟨es,n,h1,h2⟩:=k.fine;exact⟨es,n,(hblk _ hm).trans h1,h2.imp fun e p g=>g.rl00 hr⟩
theorem KpM.of_meet {W V:World} {x:AskD} {L1 L2:List Cl} (hr:RlS (x.mv L1.length L2.length) W V):KpM (x.mv L1.length L2.length) W V:=⟨hr.size,fun k o hk _ hn=>(hr.block k (waL.1 hk).1 hn).trans hk⟩
theorem zdA {β:Type} {S:Nat->Prop} {w:World} {B:Nat} (hB:w.heap.size<=B):OwnFrom B (fun(_:β) W=>RlS S w W):=fun s X Y row hs hg hr=>
 ⟨hg.os.trans hs.os,hg.tape.trans hs.tape,hg.output.trans hs.output,waW hs.size hg.size,fun i hi hS=>(hg.block i (waD hi hs.size) (fun e=>by have:=(hr i e.symm).1;omega)).trans (hs.block i hi hS)⟩
theorem zg9 {fn:Func} {p t:Tmp} {ty ty':TypeId} (h:fn.results=#[.cell p ty,.cell t ty']) (tmps:Array Value) (P:Program) (w:World):
 (results fn tmps).run P w=((asAddr (tmps.getD p undef)).run P w).andThen fun a w₁=>((loadVar ty a).run P w₁).andThen fun v w₂=>((asAddr (tmps.getD t undef)).run P w₂).andThen fun b w₃=>((loadVar ty' b).run P w₃).andThen fun v2 w₄=>.ok (.tuple #[v,v2]) w₄:=by
 simp only[results,h];simp[Sem.run_bind,Result.andThen]
def inW (f1 u1 f2 u2 n:Int):Bool:=zqD f1 u1 n||zqD f2 u2 n
def zwO (op:Bool->Bool->Bool) (L1 L2:List Cl) (n:Int):Prop:=zcO (fun s=>op (zay L1 n s) (zay L2 n s)) 0
theorem zaO {S:Nat->Prop} {W V:World} {B:Nat} {t:TypeId} {v:Value} (k:Boxed W B t v) (h:RlS S W V) (hB:¬S B):Boxed V B t v:=(h.block B k.lt hB).trans k
theorem zfR (n:Int):shV n=.agg (shA n):=rfl
theorem zfS (n:Int):∃v0 v1 v2 v3 v4 v5 v6 v7 v8 v9,shV n=.agg #[.int .i64 v0,.int .i64 v1,.int .i64 v2,.int .i64 v3,.int .i64 v4,.int .i64 v5,.int .i64 v6,.int .i64 v7,.int .i64 v8,.int .i64 v9]:=⟨_,_,_,_,_,_,_,_,_,_,rfl⟩
theorem zaG {W V:World} {B:Nat} {t:TypeId} {v:Value} (h:Below W.heap.size W V) (k:Boxed W B t v):Boxed V B t v:=(h.block B k.lt).trans k
theorem mx0 {a:Int}:0<=mxI a 0:=by unfold mxI;split<;>omega
theorem zna (a f u:Int):zeR a f u<=a:=by unfold zeR;split<;>omega
theorem znb (a f u:Int):a<=zeS a f u:=by unfold zeS;split<;>omega
theorem mx1 {f1 u1 f2 u2:Int}:mxI (zhu f1 u1 f2 u2 2) 0<=9223372036854775807:=by
 have h1:=zna 146097 f1 u1;have h2:=zna (zeR 146097 f1 u1) f2 u2;have h3:zhu f1 u1 f2 u2 2=zeR (zeR 146097 f1 u1) f2 u2:=rfl;unfold mxI;split<;>omega
theorem mn0 {f1 u1 f2 u2:Int}:-9223372036854775808<=mnI (zhv f1 u1 f2 u2 2) 146096:=by
 have h1:=znb (-1) f1 u1;have h2:=znb (zeS (-1) f1 u1) f2 u2;have h3:zhv f1 u1 f2 u2 2=zeS (zeS (-1) f1 u1) f2 u2:=rfl;unfold mnI;split<;>omega
theorem mn1 {a:Int}:mnI a 146096<=146096:=by unfold mnI;split<;>omega
def ztc (op:Bool->Bool->Bool) (x:AskD) (L1 L2:List Cl) (f1 u1 f2 u2:Int) (W:World) (e:Ending) (W':World):Prop:=
 ((∃(n:Int) (s:Nat),e=.returned (.tuple #[.int .i64 (n * 86400+s),.bool true])/\0<=n/\n<146097/\zea (fun s=>op (zay L1 n s) (zay L2 n s)) 0 s)\/
   (e=.returned (.tuple #[.int .i64 0,.bool false])/\∀n,n∈zcX (mxI (zhu f1 u1 f2 u2 2) 0) (mnI (zhv f1 u1 f2 u2 2) 146096)->inW f1 u1 f2 u2 n=true->zwO op L1 L2 n))/\
   MeetAt W' x L1 L2 op f1 u1 f2 u2/\RlS (x.mv L1.length L2.length) W W'
theorem zod (op:Bool->Bool->Bool) (x:AskD) (L1 L2:List Cl) (f1 u1 f2 u2:Int) (W:World) (hM:MeetAt W x L1 L2 op f1 u1 f2 u2):
 Calls prog 66 #[.pointer (some ⟨x.b,0,none⟩)] W (ztc op x L1 L2 f1 u1 f2 u2 W):=by
 have HD:=waV (fun l' V (hV:MeetAt V x L1 L2 op f1 u1 f2 u2) n h0 h1=>zat (m:=2) (l':=l') (ztb op x L1 L2 f1 u1 f2 u2 V hV n h0 h1))
 have HW:=waV (fun l' f u n V=>zat (m:=2) (l':=l') (zoc f u n V))
 have HG:=waV (fun f u V=>wbP (n:=4).2 (zkr f u V))
 have HM:=waV hM;have HBd:=waV (fun V (hV:MeetAt V x L1 L2 op f1 u1 f2 u2)=>wbP (n:=4).2 (zlD x.b f1 u1 f2 u2 V hV.c5 hV.c6 hV.c7 hV.c8))
 have hDW:=hM.r1.dw;clear hM;refine(wbP (n:=5)).1 ?_;refine callsIn_of_wp_marks func66 rfl trivial ?_ rfl;simp only[ntmps66,wbQ,waG,List.length_nil,Nat.reduceAdd,Nat.reduceSub,wbR,wbS,List.push_toArray,List.append_toArray,wbN,wbT]
 gi_wp2
 have hb0:Below W.heap.size W (((W.alloc (.cells #[.pointer (some ⟨x.b,0,none⟩)] 122)).alloc (.cells #[.int .i64 0] 2)).alloc (.cells #[.bool false] 4)):=(((waC _ W).alloc (waJ _) _).alloc (by simp) _).alloc (by simp;omega) _
 have bx0:Boxed (((W.alloc (.cells #[.pointer (some ⟨x.b,0,none⟩)] 122)).alloc (.cells #[.int .i64 0] 2)).alloc (.cells #[.bool false] 4)) W.heap.size 122 (.pointer (some ⟨x.b,0,none⟩)):=((Boxed.new _ _ _).alloc _).alloc _;have ba0:Boxed (((W.alloc (.cells #[.pointer (some ⟨x.b,0,none⟩)] 122)).alloc (.cells #[.int .i64 0] 2)).alloc (.cells #[.bool false] 4)) (W.heap.size+1) 2 (.int .i64 0):=by
  have h:W.heap.size+1=(W.alloc (.cells #[.pointer (some ⟨x.b,0,none⟩)] 122)).heap.size:=by simp
  rw[h];exact(Boxed.new _ _ _).alloc _
 have bf0:Boxed (((W.alloc (.cells #[.pointer (some ⟨x.b,0,none⟩)] 122)).alloc (.cells #[.int .i64 0] 2)).alloc (.cells #[.bool false] 4)) (W.heap.size+2) 4 (.bool false):=by
  have h:W.heap.size+2=((W.alloc (.cells #[.pointer (some ⟨x.b,0,none⟩)] 122)).alloc (.cells #[.int .i64 0] 2)).heap.size:=by simp
  rw[h];exact Boxed.new _ _ _
 have hz0:(((W.alloc (.cells #[.pointer (some ⟨x.b,0,none⟩)] 122)).alloc (.cells #[.int .i64 0] 2)).alloc (.cells #[.bool false] 4)).heap.size=W.heap.size+3:=by simp
 generalize (((W.alloc (.cells #[.pointer (some ⟨x.b,0,none⟩)] 122)).alloc (.cells #[.int .i64 0] 2)).alloc (.cells #[.bool false] 4))=W0 at *;have hM0:=HM.out.below hb0;have hc0:=bx0.cell;apply zcg
 gi_wp2_with (refine⟨trivial,?_⟩;gi_at_call 126;refine(HBd.out _ hM0).mono ?_;rintro e w1 ⟨rfl,hb1⟩)
 apply wpIn_label;simp only[Exit.then]
 gi_wp2_with (refine⟨trivial,?_⟩;gi_at_call 80;refine(HG.out _ _ _).mono ?_;rintro e w2 ⟨b1,b2,rfl,hl1,hl2,hne,hd1,hd2,hb2⟩)
 have hb02:Below W0.heap.size W0 w2:=hb1.trans (hb2.mono hb1.size);have hbW2:Below W.heap.size W w2:=hb0.trans (hb02.mono hb0.size);have hM2:=hM0.below hb02;have bx2:=zaG hb02 bx0;have ba2:=zaG hb02 ba0;have bf2:=zaG hb02 bf0;have hz2:=hb02.size;have hl1':W.heap.size+3<=b1:=by have:=hb1.size;omega
 have hl2':W.heap.size+3<=b2:=by have:=hb1.size;omega
 have nM:∀k,W.heap.size<=k->¬x.mv L1.length L2.length k:=fun k h1 h2=>by have:=(HM.out.mb k h2).1;omega
 have eg:∀args w,(callFunc 144 args).run prog w=.ok (.enter 144 args) w:=enters_of func144 kQ rfl;refine wpIn_rangeFunc_ownH rfl oQ (gf:=144) (lb:=#[.pointer (some ⟨b1,0,none⟩),.pointer (some ⟨b2,0,none⟩)]) rfl trivial eg
  (zg6 (KpM (x.mv L1.length L2.length)) 4 b1 b2 (mxI (zhu f1 u1 f2 u2 2) 0) (mnI (zhv f1 u1 f2 u2 2) 146096) dQ mx0 mx1 mn0 mn1 (fun _ _ hk hc=>hk.cell hc (nM _ oQ)) w2 hd1 hd2)
  (fun h k=>h.trans k) (fun V l o o' _ hl ho _=>KpM.putObj o' hl ho) (waC _ _) (fun _=>rfl)
  (fun pre V=>((MeetAt V x L1 L2 op f1 u1 f2 u2/\∀d,d∈pre->inW f1 u1 f2 u2 d.1=true->zwO op L1 L2 d.1)/\RlS (x.mv L1.length L2.length) w2 V)/\(Boxed V W.heap.size 122 (.pointer (some ⟨x.b,0,none⟩))/\Boxed V (W.heap.size+1) 2 (.int .i64 0))/\Boxed V (W.heap.size+2) 4 (.bool false))
  (fun c pre V=>∃(n:Int) (s:Nat),((MeetAt V x L1 L2 op f1 u1 f2 u2/\c=.ret/\0<=n/\n<146097/\zea (fun s=>op (zay L1 n s) (zay L2 n s)) 0 s)/\RlS (x.mv L1.length L2.length) W V)/\Boxed V (W.heap.size+1) 2 (.int .i64 (n * 86400+s))/\Boxed V (W.heap.size+2) 4 (.bool true))
  (OwnFrom.and (OwnFrom.and (zaM (lo:=0) (hi:=0) (fun _ X Y hs hr=>⟨hs.1.rl00 hr oQ,hs.2⟩)) (zdA (waJ _))) (OwnFrom.and (OwnFrom.and (Own.from (boxed_own _ _ (fun _=>_)) _) (Own.from (boxed_own _ _ (fun _=>_)) _)) (Own.from (boxed_own _ _ (fun _=>_)) _)))
  (fun c s X Y row hs hg hr=>by
    obtain⟨n,z,⟨⟨h1,h2⟩,h3⟩,h4,h5⟩:=hs;exact⟨n,z,⟨⟨zaM (lo:=0) (hi:=0) (B:=w2.heap.size) (J:=fun(_:Unit) V=>MeetAt V x L1 L2 op f1 u1 f2 u2) (fun _ X Y hs hr=>hs.rl00 hr oQ) () X Y row h1 hg hr,h2⟩,zdA hbW2.size () X Y row h3 hg hr⟩,Own.from (boxed_own _ _ (fun(_:Unit)=>_)) w2.heap.size () X Y row h4 hg hr,Own.from (boxed_own _ _ (fun(_:Unit)=>_)) w2.heap.size () X Y row h5 hg hr⟩)
  ⟨⟨⟨hM2,fun d hd=>by cases hd⟩,RlS.refl _ w2⟩,⟨bx2,ba2⟩,bf2⟩
  (fun d a' V=>∃Bs,w2.heap.size<=Bs/\V.heap[Bs]?=some (.cells (shA d.1) 81)/\a'={tmps:=#[.pointer (some ⟨x.b,0,none⟩),.pointer (some ⟨W.heap.size,0,none⟩),.pointer (some ⟨W.heap.size+1,0,none⟩),.pointer (some ⟨W.heap.size+1+1,0,none⟩),.int .i64 (zhu f1 u1 f2 u2 2),.int .i64 (zhv f1 u1 f2 u2 2),.pointer (some ⟨Bs,0,none⟩),undef,undef,undef,.tuple #[.int .i64 (zhu f1 u1 f2 u2 2),.int .i64 (zhv f1 u1 f2 u2 2)],.pointer (some ⟨x.b,0,none⟩),.tuple #[.int .i64 (zhu f1 u1 f2 u2 2),.int .i64 (zhv f1 u1 f2 u2 2)],.int .i64 (zhu f1 u1 f2 u2 2),.int .i64 (zhv f1 u1 f2 u2 2),.int .i64 (zhu f1 u1 f2 u2 2),.int .i64 (zhv f1 u1 f2 u2 2),.func (.func 144) #[] #[.pointer (some ⟨b1,0,none⟩),.pointer (some ⟨b2,0,none⟩)],shV d.1,undef,undef,undef,undef,undef,undef,undef,undef,undef,undef,undef,undef,undef,undef,undef,undef,undef,undef,undef,undef,undef,undef,undef,undef,undef,undef,undef,undef,undef,undef,undef,undef,undef,undef,undef,undef,undef,undef],defers:=[]})
  (fun d a' _ X Y row hs hg hr=>by
    obtain⟨Bs,e1,e2,e3⟩:=hs;refine⟨Bs,e1,(hg.block Bs (waL.1 e2).1 (fun e=>?_)).trans e2,e3⟩
    obtain⟨_,o,ho,hc⟩:=hr Bs e.symm;rw[e2] at ho;cases ho;cases hc)
  ?assign ?body ?done ?stop
 case assign=>
  rintro l1 pre d V K ⟨⟨⟨hm,hall⟩,hrl⟩,⟨hx,ha⟩,hf⟩ hK;obtain⟨v0,v1,v2,v3,v4,v5,v6,v7,v8,v9,hv⟩:=zfS d.1;have hA:shA d.1=#[.int .i64 v0,.int .i64 v1,.int .i64 v2,.int .i64 v3,.int .i64 v4,.int .i64 v5,.int .i64 v6,.int .i64 v7,.int .i64 v8,.int .i64 v9]:=by have:=(zfR d.1).symm.trans hv;injection this
  have HK:=waV hK;clear hK;rw[hv] at HK ⊢;rw[hA] at HK;have hsz:=hrl.size
  gi_wp2
  have hb:=(waC _ V).alloc (waJ _) (.cells #[.int .i64 v0,.int .i64 v1,.int .i64 v2,.int .i64 v3,.int .i64 v4,.int .i64 v5,.int .i64 v6,.int .i64 v7,.int .i64 v8,.int .i64 v9] 81);refine HK.out _ _ ((KeepsOthers.alloc _ _).from _) ((KpM.refl _ V).alloc _) ⟨⟨⟨hm.below hb,hall⟩,hrl.below hb hsz⟩,⟨zaG hb hx,zaG hb ha⟩,zaG hb hf⟩ ⟨V.heap.size,hsz,World.alloc_heap_new V _,rfl⟩
 case body=>
  rintro l1 pre d a' V hl1 ⟨r1,hr1⟩ ⟨⟨⟨hm,hall⟩,hrl⟩,⟨hx,ha⟩,hf⟩ ⟨Bs,hBs,hbs,rfl⟩ hlt;obtain⟨v0,v1,v2,v3,v4,v5,v6,v7,v8,v9,hv⟩:=zfS d.1;have hA:shA d.1=#[.int .i64 v0,.int .i64 v1,.int .i64 v2,.int .i64 v3,.int .i64 v4,.int .i64 v5,.int .i64 v6,.int .i64 v7,.int .i64 v8,.int .i64 v9]:=by have:=(zfR d.1).symm.trans hv;injection this
  have hv0:v0=d.1:=by have h:Value.int .i64 (shN d.1 (yD d.1) (mD d.1) (dD d.1) 0)=.int .i64 v0:=congrArg (fun a=>a.getD 0 undef) hA;injection h with _ h;exact h.symm
  subst hv0;have hn0:0<=d.1:=by have:=zcu.1 d.2;have:=@mx0 (zhu f1 u1 f2 u2 2);omega
  have hn1:d.1<146097:=by have:=zcu.1 d.2;have:=@mn1 (zhv f1 u1 f2 u2 2);omega
  have HDd:=waV (fun V hV=>HD.out l1 V hV d.1 hn0 hn1)
  have HAll:=waV hall;rw[hv] at HDd ⊢;rw[hA] at hbs;generalize hdn:d.1=n at *;have hsz:=hrl.size;have hcx:=hx.cell;have c5:=hm.c5;have c6:=hm.c6;have c7:=hm.c7;have c8:=hm.c8;obtain⟨z,c4⟩:=hm.c4;have hfz:=hm.fz;have cs0:V.cell? ⟨Bs,0,none⟩=some (.int .i64 n):=by simp[World.cell?,hbs]
  have HB:=waV (fun V' (hb:Below V.heap.size V V')=>(⟨⟨⟨hm.below hb,hall⟩,hrl.below hb hsz⟩,⟨zaG hb hx,zaG hb ha⟩,zaG hb hf⟩:((MeetAt V' x L1 L2 op f1 u1 f2 u2/\∀d,d∈pre->inW f1 u1 f2 u2 d.1=true->zwO op L1 L2 d.1)/\RlS (x.mv L1.length L2.length) w2 V')/\(Boxed V' W.heap.size 122 (.pointer (some ⟨x.b,0,none⟩))/\Boxed V' (W.heap.size+1) 2 (.int .i64 0))/\Boxed V' (W.heap.size+2) 4 (.bool false)))
  have hxW:=hx.lt;have hmb:=(hm.mb x.b (.inl rfl)).1;have HC:=waV (fun V' (hb:Below V.heap.size V V')=>(⟨((zad hb).1 _ _ hxW).trans hcx,(hm.below hb).c4,(hm.below hb).fz,(hm.below hb).c7,(hm.below hb).c8,(hb.block Bs (waL.1 hbs).1).trans hbs⟩:V'.cell? ⟨W.heap.size,0,none⟩=some (.pointer (some ⟨x.b,0,none⟩))/\(∃z,V'.cell? ⟨x.b,4,none⟩=some (.int .i64 z))/\(∀j,V'.frozen? ⟨x.b,j,none⟩=false)/\V'.cell? ⟨x.b,7,none⟩=some (.int .i64 f2)/\V'.cell? ⟨x.b,8,none⟩=some (.int .i64 u2)/\
   V'.heap[Bs]?=some (.cells #[.int .i64 n,.int .i64 v1,.int .i64 v2,.int .i64 v3,.int .i64 v4,.int .i64 v5,.int .i64 v6,.int .i64 v7,.int .i64 v8,.int .i64 v9] 81)))
  cases hw1:zqD f1 u1 n with
  |false=>
   cases hw2:zqD f2 u2 n with
   |false=>
    have h1:=waV (fun V=>HW.out l1 f1 u1 n V)
    have h2:=waV (fun V=>HW.out l1 f2 u2 n V)
    rw[hw1] at h1;rw[hw2] at h2;have hin:inW f1 u1 f2 u2 n=false:=by unfold inW;rw[hw1,hw2];rfl
    clear hm hall hrl hx ha hf
    gi_wp2_with fail
    refine⟨trivial,?_⟩;refine(h1.out _).mono ?_;rintro e w3 ⟨rfl,hq3⟩;obtain⟨hcx3,_,_,c7,c8,_⟩:=HC.out w3 hq3
    gi_wp2_with fail
    refine⟨trivial,?_⟩;refine(h2.out _).mono ?_;rintro e w4 ⟨rfl,hq4⟩;have hb4:=hq3.trans (hq4.mono hq3.size)
    gi_wp2_with fail
    obtain⟨⟨⟨g1,g2⟩,g3⟩,g4,g5⟩:=HB.out w4 hb4;exact⟨⟨hb4.size,fun i o _ h2 _=>(hb4.block i (waL.1 h2).1).trans h2⟩,KpM.of_below hb4,⟨⟨g1,fun d' hd' hi'=>(wbB.1 hd').elim (fun h=>g2 d' h hi') (fun h=>by
     have e:=wbC.1 h;rw[e,hdn,hin] at hi';cases hi')⟩,g3⟩,g4,g5⟩
   |true=>
    have h1:=waV (fun V=>HW.out l1 f1 u1 n V)
    have h2:=waV (fun V=>HW.out l1 f2 u2 n V)
    rw[hw1] at h1;rw[hw2] at h2;clear hm hall hrl hx ha hf
    gi_wp2_with fail
    refine⟨trivial,?_⟩;refine(h1.out _).mono ?_;rintro e w3 ⟨rfl,hq3⟩;obtain⟨hcx3,_,_,c7,c8,_⟩:=HC.out w3 hq3
    gi_wp2_with fail
    refine⟨trivial,?_⟩;refine(h2.out _).mono ?_;rintro e w4 ⟨rfl,hq4⟩;have hb4:=hq3.trans (hq4.mono hq3.size);clear hcx3 c5 c6 c7 c8 hcx c4 hfz cs0 h1 h2;obtain⟨hcx,⟨z',c4⟩,hfz,_,_,hbs4⟩:=HC.out w4 hb4;have hl4:=waR w4 _ c4;have e0:(w4).cell? ⟨Bs,0,none⟩=some (.int .i64 n):=by simp[World.cell?,hbs4]
    have e1:(w4).cell? ⟨Bs,1,none⟩=some (.int .i64 v1):=by simp[World.cell?,hbs4]
    have e2:(w4).cell? ⟨Bs,2,none⟩=some (.int .i64 v2):=by simp[World.cell?,hbs4]
    have e3:(w4).cell? ⟨Bs,3,none⟩=some (.int .i64 v3):=by simp[World.cell?,hbs4]
    have e4:(w4).cell? ⟨Bs,4,none⟩=some (.int .i64 v4):=by simp[World.cell?,hbs4]
    have e5:(w4).cell? ⟨Bs,5,none⟩=some (.int .i64 v5):=by simp[World.cell?,hbs4]
    have e6:(w4).cell? ⟨Bs,6,none⟩=some (.int .i64 v6):=by simp[World.cell?,hbs4]
    have e7:(w4).cell? ⟨Bs,7,none⟩=some (.int .i64 v7):=by simp[World.cell?,hbs4]
    have e8:(w4).cell? ⟨Bs,8,none⟩=some (.int .i64 v8):=by simp[World.cell?,hbs4]
    have e9:(w4).cell? ⟨Bs,9,none⟩=some (.int .i64 v9):=by simp[World.cell?,hbs4]
    have hne1:¬x.b=Bs:=by omega
    have hne2:¬Bs=x.b:=by omega
    clear hbs4
    gi_wp2_with fail
    refine⟨trivial,?_⟩;refine(HDd.out _ ((HB.out w4 hb4).1.1.1.count _)).mono ?_;rintro e w5 ⟨hres,hm5,hr5⟩;have hrV:RlS (x.mv L1.length L2.length) V w5:=(((RlS.refl _ V).below hb4 (waJ _)).set ⟨x.b,4,none⟩ _ (.inl rfl)).trans hr5;have hkp:KpM (x.mv L1.length L2.length) V w5:=KpM.of_meet hrV;have hkf:KeepsFrom w2.heap.size V w5:=⟨hrV.size,fun i o h1 h2 _=>(hrV.block i (waL.1 h2).1 (nM _ (by have:=hbW2.size;omega))).trans h2⟩
    obtain⟨⟨⟨g1,g2⟩,g3⟩,⟨g4,g5⟩,g6⟩:=HB.out V (waC _ V);have g3':=g3.trans hrV;have g4':=zaO g4 hrV (nM _ oQ);have g5':=zaO g5 hrV (nM _ oQ);have g6':=zaO g6 hrV (nM _ oQ);clear g1 g3 g4 g5 g6 hrV HB HC HDd c4 e0 e1 e2 e3 e4 e5 e6 e7 e8 e9 hr5 hcx hfz;obtain(⟨s,rfl,hs⟩|⟨rfl,hs⟩):=hres
    ·have hs8:=hs.1;have ca:=g5'.cell;have cf:=g6'.cell;have fa:=g5'.frozen;have ff:=g6'.frozen;have lta:=g5'.lt;have ltf:=g6'.lt;have g3w:=((RlS.refl _ W).below hbW2 (waJ _)).trans g3'
     gi_wp2_with fail
     have hz2:=hbW2.size;have r1:RlS (·=W.heap.size+1) w5 (w5.setCell ⟨W.heap.size+1,0,none⟩ (.int .i64 (n * 86400+s))):=(RlS.refl (·=W.heap.size+1) w5).set _ _ rfl;have r2:RlS (·=W.heap.size+1+1) (w5.setCell ⟨W.heap.size+1,0,none⟩ (.int .i64 (n * 86400+s))) ((w5.setCell ⟨W.heap.size+1,0,none⟩ (.int .i64 (n * 86400+s))).setCell ⟨W.heap.size+1+1,0,none⟩ (.bool true)):=(RlS.refl (·=W.heap.size+1+1) _).set _ _ rfl;refine⟨⟨by simpa using hkf.size,fun k o h1 h2 h3=>?_⟩,n,s,⟨⟨(hm5.own r1 oQ ⟨_,_,_,g5',by decide⟩).own r2 oQ ⟨_,_,_,g6'.other oQ _,by decide⟩,rfl,by omega,by omega,hs⟩,?_⟩,(g5'.set _).other oQ _,(g6'.other oQ _).set _⟩
     ·rw[wbJ _ _ _ _ (by show k≠W.heap.size+1+1;omega),wbJ _ _ _ _ (by show k≠W.heap.size+1;omega)]
      exact hkf.same k o h1 h2 h3
     ·exact⟨g3w.os,g3w.tape,g3w.output,by simpa using g3w.size,fun i hi hS=>by
       rw[wbJ _ _ _ _ (by show i≠W.heap.size+1+1;omega),wbJ _ _ _ _ (by show i≠W.heap.size+1;omega)]
       exact g3w.block i hi hS⟩
    ·gi_wp2_with fail
     refine⟨hkf,hkp,⟨⟨hm5,fun d' hd' hi'=>(wbB.1 hd').elim (fun h=>g2 d' h hi') (fun h=>by
      have e:=wbC.1 h;rw[e,hdn];exact hs)⟩,g3'⟩,⟨g4',g5'⟩,g6'⟩
  |true=>
   have h1:=waV (fun V=>HW.out l1 f1 u1 n V)
   rw[hw1] at h1;clear hm hall hrl hx ha hf
   gi_wp2_with fail
   refine⟨trivial,?_⟩;refine(h1.out _).mono ?_;rintro e w3 ⟨rfl,hq3⟩;clear c5 c6 c7 c8 hcx c4 hfz cs0 h1
   gi_wp2_with fail
   refine⟨trivial,?_⟩;obtain⟨hcx,⟨z',c4⟩,hfz,_,_,hbs4⟩:=HC.out w3 hq3;have hl4:=waR w3 _ c4;have e0:(w3).cell? ⟨Bs,0,none⟩=some (.int .i64 n):=by simp[World.cell?,hbs4]
   have e1:(w3).cell? ⟨Bs,1,none⟩=some (.int .i64 v1):=by simp[World.cell?,hbs4]
   have e2:(w3).cell? ⟨Bs,2,none⟩=some (.int .i64 v2):=by simp[World.cell?,hbs4]
   have e3:(w3).cell? ⟨Bs,3,none⟩=some (.int .i64 v3):=by simp[World.cell?,hbs4]
   have e4:(w3).cell? ⟨Bs,4,none⟩=some (.int .i64 v4):=by simp[World.cell?,hbs4]
   have e5:(w3).cell? ⟨Bs,5,none⟩=some (.int .i64 v5):=by simp[World.cell?,hbs4]
   have e6:(w3).cell? ⟨Bs,6,none⟩=some (.int .i64 v6):=by simp[World.cell?,hbs4]
   have e7:(w3).cell? ⟨Bs,7,none⟩=some (.int .i64 v7):=by simp[World.cell?,hbs4]
   have e8:(w3).cell? ⟨Bs,8,none⟩=some (.int .i64 v8):=by simp[World.cell?,hbs4]
   have e9:(w3).cell? ⟨Bs,9,none⟩=some (.int .i64 v9):=by simp[World.cell?,hbs4]
   have hne1:¬x.b=Bs:=by omega
   have hne2:¬Bs=x.b:=by omega
   clear hbs4
   gi_wp2_with fail
   refine⟨trivial,?_⟩;refine(HDd.out _ ((HB.out w3 hq3).1.1.1.count _)).mono ?_;rintro e w5 ⟨hres,hm5,hr5⟩;have hrV:RlS (x.mv L1.length L2.length) V w5:=(((RlS.refl _ V).below hq3 (waJ _)).set ⟨x.b,4,none⟩ _ (.inl rfl)).trans hr5;have hkp:KpM (x.mv L1.length L2.length) V w5:=KpM.of_meet hrV;have hkf:KeepsFrom w2.heap.size V w5:=⟨hrV.size,fun i o h1 h2 _=>(hrV.block i (waL.1 h2).1 (nM _ (by have:=hbW2.size;omega))).trans h2⟩
   obtain⟨⟨⟨g1,g2⟩,g3⟩,⟨g4,g5⟩,g6⟩:=HB.out V (waC _ V);have g3':=g3.trans hrV;have g4':=zaO g4 hrV (nM _ oQ);have g5':=zaO g5 hrV (nM _ oQ);have g6':=zaO g6 hrV (nM _ oQ);clear g1 g3 g4 g5 g6 hrV HB HC HDd c4 e0 e1 e2 e3 e4 e5 e6 e7 e8 e9 hr5 hcx hfz;obtain(⟨s,rfl,hs⟩|⟨rfl,hs⟩):=hres
   ·have hs8:=hs.1;have ca:=g5'.cell;have cf:=g6'.cell;have fa:=g5'.frozen;have ff:=g6'.frozen;have lta:=g5'.lt;have ltf:=g6'.lt;have g3w:=((RlS.refl _ W).below hbW2 (waJ _)).trans g3'
    gi_wp2_with fail
    have hz2:=hbW2.size;have r1:RlS (·=W.heap.size+1) w5 (w5.setCell ⟨W.heap.size+1,0,none⟩ (.int .i64 (n * 86400+s))):=(RlS.refl (·=W.heap.size+1) w5).set _ _ rfl;have r2:RlS (·=W.heap.size+1+1) (w5.setCell ⟨W.heap.size+1,0,none⟩ (.int .i64 (n * 86400+s))) ((w5.setCell ⟨W.heap.size+1,0,none⟩ (.int .i64 (n * 86400+s))).setCell ⟨W.heap.size+1+1,0,none⟩ (.bool true)):=(RlS.refl (·=W.heap.size+1+1) _).set _ _ rfl;refine⟨⟨by simpa using hkf.size,fun k o h1 h2 h3=>?_⟩,n,s,⟨⟨(hm5.own r1 oQ ⟨_,_,_,g5',by decide⟩).own r2 oQ ⟨_,_,_,g6'.other oQ _,by decide⟩,rfl,by omega,by omega,hs⟩,?_⟩,(g5'.set _).other oQ _,(g6'.other oQ _).set _⟩
    ·rw[wbJ _ _ _ _ (by show k≠W.heap.size+1+1;omega),wbJ _ _ _ _ (by show k≠W.heap.size+1;omega)]
     exact hkf.same k o h1 h2 h3
    ·exact⟨g3w.os,g3w.tape,g3w.output,by simpa using g3w.size,fun i hi hS=>by
      rw[wbJ _ _ _ _ (by show i≠W.heap.size+1+1;omega),wbJ _ _ _ _ (by show i≠W.heap.size+1;omega)]
      exact g3w.block i hi hS⟩
   ·gi_wp2_with fail
    refine⟨hkf,hkp,⟨⟨hm5,fun d' hd' hi'=>(wbB.1 hd').elim (fun h=>g2 d' h hi') (fun h=>by
     have e:=wbC.1 h;rw[e,hdn];exact hs)⟩,g3'⟩,⟨g4',g5'⟩,g6'⟩
 case done=>
  rintro D xs V hD rfl ⟨⟨⟨hm,hall⟩,hrl⟩,⟨hx,ha⟩,hf⟩ hKd;have ca:=ha.cell;have cf:=hf.cell;have fa:=ha.frozen;have ff:=hf.frozen;have lta:=ha.lt;have ltf:=hf.lt;have hz2:=hbW2.size;have g3w:=((RlS.refl _ W).below hbW2 (waJ _)).trans hrl
  gi_wp2_with fail
  have r1:RlS (·=W.heap.size+1) V (V.setCell ⟨W.heap.size+1,0,none⟩ (.int .i64 0)):=(RlS.refl (·=W.heap.size+1) V).set _ _ rfl;have r2:RlS (·=W.heap.size+1+1) (V.setCell ⟨W.heap.size+1,0,none⟩ (.int .i64 0)) ((V.setCell ⟨W.heap.size+1,0,none⟩ (.int .i64 0)).setCell ⟨W.heap.size+1+1,0,none⟩ (.bool false)):=(RlS.refl (·=W.heap.size+1+1) _).set _ _ rfl;have hm':=(hm.own r1 oQ ⟨_,_,_,ha,by decide⟩).own r2 oQ ⟨_,_,_,hf.other oQ _,by decide⟩
  have ha':=(ha.set (.int .i64 0)).other (show W.heap.size+1≠W.heap.size+1+1 by omega) (.bool false)
  have hf':Boxed ((V.setCell ⟨W.heap.size+1,0,none⟩ (.int .i64 0)).setCell ⟨W.heap.size+1+1,0,none⟩ (.bool false)) (W.heap.size+2) 4 (.bool false):=(hf.other oQ (.int .i64 0)).set (.bool false);have hKd':((V.setCell ⟨W.heap.size+1,0,none⟩ (.int .i64 0)).setCell ⟨W.heap.size+1+1,0,none⟩ (.bool false)).heap[D]?=some (.deferred (some [])):=by
   rw[wbJ _ _ _ _ (by show D≠W.heap.size+1+1;omega),wbJ _ _ _ _ (by show D≠W.heap.size+1;omega)];exact hKd
  have g3v:RlS (x.mv L1.length L2.length) W ((V.setCell ⟨W.heap.size+1,0,none⟩ (.int .i64 0)).setCell ⟨W.heap.size+1+1,0,none⟩ (.bool false)):=⟨g3w.os,g3w.tape,g3w.output,by simpa using g3w.size,fun i hi hS=>by
   rw[wbJ _ _ _ _ (by show i≠W.heap.size+1+1;omega),wbJ _ _ _ _ (by show i≠W.heap.size+1;omega)]
   exact g3w.block i hi hS⟩
  clear hm ha hf hKd g3w r1 r2 ca cf fa ff hrl;generalize ((V.setCell ⟨W.heap.size+1,0,none⟩ (.int .i64 0)).setCell ⟨W.heap.size+1+1,0,none⟩ (.bool false))=V6 at *;have hall':∀n,n∈zcX (mxI (zhu f1 u1 f2 u2 2) 0) (mnI (zhv f1 u1 f2 u2 2) 146096)->inW f1 u1 f2 u2 n=true->zwO op L1 L2 n:=fun n hn h=>hall ⟨n,hn⟩ (List.mem_attach _ _) h
  have HRes:Hid ((Ending.returned (.tuple #[.int .i64 0,.bool false])=.returned (.tuple #[.int .i64 0,.bool false]))/\∀n,n∈zcX (mxI (zhu f1 u1 f2 u2 2) 0) (mnI (zhv f1 u1 f2 u2 2) 146096)->inW f1 u1 f2 u2 n=true->zwO op L1 L2 n):=⟨rfl,hall'⟩;clear hall hall';have hr:Rl 0 0 x.D V6 (V6.putObj D (.deferred none)):=(Rl.refl _ _ _ _).put _ hKd' rfl oQ;have HMf:=waV (hm'.rl00 hr (waJ _));have HRf:=waV (show RlS (x.mv L1.length L2.length) W (V6.putObj D (.deferred none)) from zdA hbW2.size () V6 _ (some D) g3v (grownBy_putObj' V6 D _) (fun r e=>by cases e;exact⟨hD,_,hKd',rfl⟩))
  have q1:=(show Boxed (V6.putObj D (.deferred none)) _ _ _ from hr.block _ _ ha' (.inr (waK _)) (.inr rfl)).cell
  have q2:=(show Boxed (V6.putObj D (.deferred none)) _ _ _ from hr.block _ _ hf' (.inr (waK _)) (.inr rfl)).cell
  refine⟨by simp,.inl ⟨_,_,rfl,run_takeDeferred hKd',?_⟩⟩
  refine⟨.tuple #[.int .i64 0,.bool false],?_,?_⟩
  ·rw[zg9 rfl]
   go_simp
  exact⟨.inr HRes.out,HMf.out,HRf.out⟩
 case stop=>
  rintro D c pre V6 hD _ ⟨n,s,⟨⟨hm',rfl,hn0,hn1,hs⟩,g3v⟩,ha',hf'⟩ hKd';have hz2:=hbW2.size
  gi_wp2_with fail
  have HRes:Hid (∃(n':Int) (s':Nat),(Ending.returned (.tuple #[.int .i64 (n * 86400+s),.bool true])=.returned (.tuple #[.int .i64 (n' * 86400+s'),.bool true]))/\0<=n'/\n'<146097/\zea (fun s=>op (zay L1 n' s) (zay L2 n' s)) 0 s'):=⟨n,s,rfl,hn0,hn1,hs⟩
  have hr:Rl 0 0 x.D V6 (V6.putObj D (.deferred none)):=(Rl.refl _ _ _ _).put _ hKd' rfl oQ;have HMf:=waV (hm'.rl00 hr (waJ _));have HRf:=waV (show RlS (x.mv L1.length L2.length) W (V6.putObj D (.deferred none)) from zdA hbW2.size () V6 _ (some D) g3v (grownBy_putObj' V6 D _) (fun r e=>by cases e;exact⟨hD,_,hKd',rfl⟩))
  have q1:=(show Boxed (V6.putObj D (.deferred none)) _ _ _ from hr.block _ _ ha' (.inr (waK _)) (.inr rfl)).cell
  have q2:=(show Boxed (V6.putObj D (.deferred none)) _ _ _ from hr.block _ _ hf' (.inr (waK _)) (.inr rfl)).cell
  refine⟨by simp,.inl ⟨_,_,rfl,run_takeDeferred hKd',?_⟩⟩
  refine⟨.tuple #[.int .i64 (n * 86400+s),.bool true],?_,?_⟩
  ·rw[zg9 rfl]
   go_simp
  exact⟨.inl HRes.out,HMf.out,HRf.out⟩
end Go.Proofs.YtllcdbgjeidlkaaGreatDoor
