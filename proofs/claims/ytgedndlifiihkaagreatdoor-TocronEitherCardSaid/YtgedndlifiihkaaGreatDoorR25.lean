/- A part of the proof: WMeet5 WMeet6 WRoll9 -/
import Derived.Test.YtgedndlifiihkaaGreatDoorR24
set_option maxHeartbeats 80000000
set_option maxRecDepth 100000
set_option linter.unusedSimpArgs false
set_option linter.unusedVariables false
namespace Go.Proofs.YtgedndlifiihkaaGreatDoor
open Go.Proofs.Tryz
open Go.RowKit
open Go.Maps
attribute [local go_sem] Oper.semAt_some
theorem FineE.imp {W V:World} {D:Nat} {h:Bool→Bool→Bool} {es:List MapEntry} (k:FineE W D h es) (hd:∀e p,DiscAt W e p→DiscAt V e p):FineE V D h es:=⟨k.one,fun q hq=>by
 obtain⟨v1,v2,p1,p2,h1,h2,h3,h4,h5⟩:=k.all q hq;exact⟨v1,v2,p1,p2,h1,h2,h3.imp hd,h4.imp hd,h5⟩⟩
theorem MeetAt.rl00 {B:Nat} {V W:World} {x:AskD} {L1 L2:List Cl} {h:Bool→Bool→Bool} {f1 u1 f2 u2:Int} (k:MeetAt W x L1 L2 h f1 u1 f2 u2) (hr:Rl 0 0 B W V) (hB:x.D≤B):MeetAt V x L1 L2 h f1 u1 f2 u2:=by
 have hdw:=k.r1.dw;have hm:=(k.mb x.fm (.inr (.inl rfl))).1;have hb:=(k.mb x.b (.inl rfl)).1;have hblk:∀j,j<x.D→V.heap[j]?=W.heap[j]? :=fun j hj=>by
  rw[hr.block j _ (wbI (show j<W.heap.size by omega)) (.inr (waK _)) (.inl (by omega)),wbI (show j<W.heap.size by omega)]
 have hrs:RlS (fun j=>x.D≤j) W V:=⟨hr.os,hr.tape,hr.output,hr.size,fun i hi hs=>hblk i oQ⟩
 have nb:¬x.D≤x.b:=by omega
 refine⟨hrs.cell k.c0 nb,hrs.cell k.c1 nb,hrs.cell k.c2 nb,hrs.cell k.c3 nb,?_,hrs.cell k.c5 nb,hrs.cell k.c6 nb,hrs.cell k.c7 nb,hrs.cell k.c8 nb,fun j=>(za8 hrs oQ nb).trans (k.fz j),k.r1.rl00 hr hB,k.r2.rl00 hr hB,k.ap,k.bf,?_,k.fnd⟩
 ·obtain⟨z,hz⟩:=k.c4;exact⟨z,hrs.cell hz nb⟩
 ·obtain⟨es,n,h1,h2⟩:=k.fine;exact⟨es,n,(hblk _ hm).trans h1,h2.imp fun e p g=>g.rl00 hr⟩
theorem KpM.of_meet {W V:World} {x:AskD} {L1 L2:List Cl} (hr:RlS (x.mv L1.length L2.length) W V):KpM (x.mv L1.length L2.length) W V:=⟨hr.size,fun k o hk _ hn=>(hr.block k (waL.1 hk).1 hn).trans hk⟩
theorem zdP {β:Type} {S:Nat→Prop} {w:World} {B:Nat} (hB:w.heap.size≤B):OwnFrom B (fun(_:β) W=>RlS S w W):=fun s X Y row hs hg hr=>
 ⟨hg.os.trans hs.os,hg.tape.trans hs.tape,hg.output.trans hs.output,waW hs.size hg.size,fun i hi hS=>(hg.block i (waD hi hs.size) (fun e=>by have:=(hr i e.symm).1;omega)).trans (hs.block i hi hS)⟩
theorem zhy {fn:Func} {p t:Tmp} {ty ty':TypeId} (h:fn.results=#[.cell p ty,.cell t ty']) (tmps:Array Value) (P:Program) (w:World):
 (results fn tmps).run P w=((asAddr (tmps.getD p undef)).run P w).andThen fun a w₁=>((loadVar ty a).run P w₁).andThen fun v w₂=>((asAddr (tmps.getD t undef)).run P w₂).andThen fun b w₃=>((loadVar ty' b).run P w₃).andThen fun v2 w₄=>.ok (.tuple #[v,v2]) w₄:=by
 simp only[results,h];simp[Sem.run_bind,Result.andThen]
def inW (f1 u1 f2 u2 n:Int):Bool:=zqx f1 u1 n||zqx f2 u2 n
def zuL (L1 L2:List Cl) (n:Int):Prop:=zc9 (fun s=>zdd (zap L1 n s) (zap L2 n s)) 0
theorem zaF {S:Nat→Prop} {W V:World} {B:Nat} {t:TypeId} {v:Value} (k:Boxed W B t v) (h:RlS S W V) (hB:¬S B):Boxed V B t v:=(h.block B k.lt hB).trans k
theorem zep (n:Int):shV n=.agg (shA n):=rfl
theorem zeq (n:Int):∃v0 v1 v2 v3 v4 v5 v6 v7 v8 v9,shV n=.agg #[.int .i64 v0,.int .i64 v1,.int .i64 v2,.int .i64 v3,.int .i64 v4,.int .i64 v5,.int .i64 v6,.int .i64 v7,.int .i64 v8,.int .i64 v9]:=⟨_,_,_,_,_,_,_,_,_,_,rfl⟩
theorem zaB {W V:World} {B:Nat} {t:TypeId} {v:Value} (h:Below W.heap.size W V) (k:Boxed W B t v):Boxed V B t v:=(h.block B k.lt).trans k
theorem mx0 {a:Int}:0≤mxI a 0:=by unfold mxI;split<;>omega
theorem zmV (a f u:Int):ze3 a f u≤a:=by unfold ze3;split<;>omega
theorem zmW (a f u:Int):a≤ze4 a f u:=by unfold ze4;split<;>omega
theorem mx1 {f1 u1 f2 u2:Int}:mxI (zhH f1 u1 f2 u2 2) 0≤9223372036854775807:=by
 have h1:=zmV 146097 f1 u1;have h2:=zmV (ze3 146097 f1 u1) f2 u2;have h3:zhH f1 u1 f2 u2 2=ze3 (ze3 146097 f1 u1) f2 u2:=rfl;unfold mxI;split<;>omega
theorem mn0 {f1 u1 f2 u2:Int}:-9223372036854775808≤mnI (zhI f1 u1 f2 u2 2) 146096:=by
 have h1:=zmW (-1) f1 u1;have h2:=zmW (ze4 (-1) f1 u1) f2 u2;have h3:zhI f1 u1 f2 u2 2=ze4 (ze4 (-1) f1 u1) f2 u2:=rfl;unfold mnI;split<;>omega
theorem mn1 {a:Int}:mnI a 146096≤146096:=by unfold mnI;split<;>omega
def zss (x:AskD) (L1 L2:List Cl) (f1 u1 f2 u2:Int) (W:World) (e:Ending) (W':World):Prop:=
 ((∃(n:Int) (s:Nat),e=.returned (.tuple #[.int .i64 (n * 86400+s),.bool true])∧0≤n∧n<146097∧zel (fun s=>zdd (zap L1 n s) (zap L2 n s)) 0 s)∨
   (e=.returned (.tuple #[.int .i64 0,.bool false])∧∀n,n∈zcy (mxI (zhH f1 u1 f2 u2 2) 0) (mnI (zhI f1 u1 f2 u2 2) 146096)→inW f1 u1 f2 u2 n=true→zuL L1 L2 n))∧
   MeetAt W' x L1 L2 zdd f1 u1 f2 u2∧RlS (x.mv L1.length L2.length) W W'
theorem znY (x:AskD) (L1 L2:List Cl) (f1 u1 f2 u2:Int) (W:World) (hM:MeetAt W x L1 L2 zdd f1 u1 f2 u2) (hg:x.g=47):
 Calls prog 88 #[.pointer (some ⟨x.b,0,none⟩)] W (zss x L1 L2 f1 u1 f2 u2 W):=by
 have HD:=waV (fun l' V (hV:MeetAt V x L1 L2 zdd f1 u1 f2 u2) n h0 h1=>zal (m:=2) (l':=l') (zsr x L1 L2 f1 u1 f2 u2 V hV hg n h0 h1))
 have HW:=waV (fun l' f u n V=>zal (m:=2) (l':=l') (znX f u n V))
 have HG:=waV (fun f u V=>wbP (n:=4).2 (zhu f u V))
 have HM:=waV hM;have HBd:=waV (fun V (hV:MeetAt V x L1 L2 zdd f1 u1 f2 u2)=>wbP (n:=4).2 (zlK x.b f1 u1 f2 u2 V hV.c5 hV.c6 hV.c7 hV.c8))
 have hDW:=hM.r1.dw;clear hM;refine(wbP (n:=5)).1 ?_;refine callsIn_of_wp_marks func88 rfl trivial ?_ rfl;simp only[ntmps88,wbQ,waG,List.length_nil,Nat.reduceAdd,Nat.reduceSub,wbR,wbS,List.push_toArray,List.append_toArray,wbN,wbT]
 gi_wp2
 have hb0:Below W.heap.size W (((W.alloc (.cells #[.pointer (some ⟨x.b,0,none⟩)] 147)).alloc (.cells #[.int .i64 0] 2)).alloc (.cells #[.bool false] 4)):=(((waC _ W).alloc (waJ _) _).alloc (by simp) _).alloc (by simp;omega) _
 have bx0:Boxed (((W.alloc (.cells #[.pointer (some ⟨x.b,0,none⟩)] 147)).alloc (.cells #[.int .i64 0] 2)).alloc (.cells #[.bool false] 4)) W.heap.size 147 (.pointer (some ⟨x.b,0,none⟩)):=((Boxed.new _ _ _).alloc _).alloc _;have ba0:Boxed (((W.alloc (.cells #[.pointer (some ⟨x.b,0,none⟩)] 147)).alloc (.cells #[.int .i64 0] 2)).alloc (.cells #[.bool false] 4)) (W.heap.size+1) 2 (.int .i64 0):=by
  have h:W.heap.size+1=(W.alloc (.cells #[.pointer (some ⟨x.b,0,none⟩)] 147)).heap.size:=by simp
  rw[h];exact(Boxed.new _ _ _).alloc _
 have bf0:Boxed (((W.alloc (.cells #[.pointer (some ⟨x.b,0,none⟩)] 147)).alloc (.cells #[.int .i64 0] 2)).alloc (.cells #[.bool false] 4)) (W.heap.size+2) 4 (.bool false):=by
  have h:W.heap.size+2=((W.alloc (.cells #[.pointer (some ⟨x.b,0,none⟩)] 147)).alloc (.cells #[.int .i64 0] 2)).heap.size:=by simp
  rw[h];exact Boxed.new _ _ _
 have hz0:(((W.alloc (.cells #[.pointer (some ⟨x.b,0,none⟩)] 147)).alloc (.cells #[.int .i64 0] 2)).alloc (.cells #[.bool false] 4)).heap.size=W.heap.size+3:=by simp
 generalize (((W.alloc (.cells #[.pointer (some ⟨x.b,0,none⟩)] 147)).alloc (.cells #[.int .i64 0] 2)).alloc (.cells #[.bool false] 4))=W0 at *;have hM0:=HM.out.below hb0;have hc0:=bx0.cell;apply zds
 gi_wp2_with (refine⟨trivial,?_⟩;gi_at_call 147;refine(HBd.out _ hM0).mono ?_;rintro e w1 ⟨rfl,hb1⟩)
 apply wpIn_label;simp only[Exit.then]
 gi_wp2_with (refine⟨trivial,?_⟩;gi_at_call 74;refine(HG.out _ _ _).mono ?_;rintro e w2 ⟨b1,b2,rfl,hl1,hl2,hne,hd1,hd2,hb2⟩)
 have hb02:Below W0.heap.size W0 w2:=hb1.trans (hb2.mono hb1.size);have hbW2:Below W.heap.size W w2:=hb0.trans (hb02.mono hb0.size);have hM2:=hM0.below hb02;have bx2:=zaB hb02 bx0;have ba2:=zaB hb02 ba0;have bf2:=zaB hb02 bf0;have hz2:=hb02.size;have hl1':W.heap.size+3≤b1:=by have:=hb1.size;omega
 have hl2':W.heap.size+3≤b2:=by have:=hb1.size;omega
 have nM:∀k,W.heap.size≤k→¬x.mv L1.length L2.length k:=fun k h1 h2=>by have:=(HM.out.mb k h2).1;omega
 have eg:∀args w,(callFunc 128 args).run prog w=.ok (.enter 128 args) w:=enters_of func128 kQ rfl;refine wpIn_rangeFunc_ownH rfl oQ (gf:=128) (lb:=#[.pointer (some ⟨b1,0,none⟩),.pointer (some ⟨b2,0,none⟩)]) rfl trivial eg
  (ze2 (KpM (x.mv L1.length L2.length)) 4 b1 b2 (mxI (zhH f1 u1 f2 u2 2) 0) (mnI (zhI f1 u1 f2 u2 2) 146096) dQ mx0 mx1 mn0 mn1 (fun _ _ hk hc=>hk.cell hc (nM _ oQ)) w2 hd1 hd2)
  (fun h k=>h.trans k) (fun V l o o' _ hl ho _=>KpM.putObj o' hl ho) (waC _ _) (fun _=>rfl)
  (fun pre V=>((MeetAt V x L1 L2 zdd f1 u1 f2 u2∧∀d,d∈pre→inW f1 u1 f2 u2 d.1=true→zuL L1 L2 d.1)∧RlS (x.mv L1.length L2.length) w2 V)∧(Boxed V W.heap.size 147 (.pointer (some ⟨x.b,0,none⟩))∧Boxed V (W.heap.size+1) 2 (.int .i64 0))∧Boxed V (W.heap.size+2) 4 (.bool false))
  (fun c pre V=>∃(n:Int) (s:Nat),((MeetAt V x L1 L2 zdd f1 u1 f2 u2∧c=.ret∧0≤n∧n<146097∧zel (fun s=>zdd (zap L1 n s) (zap L2 n s)) 0 s)∧RlS (x.mv L1.length L2.length) W V)∧Boxed V (W.heap.size+1) 2 (.int .i64 (n * 86400+s))∧Boxed V (W.heap.size+2) 4 (.bool true))
  (OwnFrom.and (OwnFrom.and (zbf (lo:=0) (hi:=0) (fun _ X Y hs hr=>⟨hs.1.rl00 hr oQ,hs.2⟩)) (zdP (waJ _))) (OwnFrom.and (OwnFrom.and (Own.from (boxed_own _ _ (fun _=>_)) _) (Own.from (boxed_own _ _ (fun _=>_)) _)) (Own.from (boxed_own _ _ (fun _=>_)) _)))
  (fun c s X Y row hs hg hr=>by
    obtain⟨n,z,⟨⟨h1,h2⟩,h3⟩,h4,h5⟩:=hs;exact⟨n,z,⟨⟨zbf (lo:=0) (hi:=0) (B:=w2.heap.size) (J:=fun(_:Unit) V=>MeetAt V x L1 L2 zdd f1 u1 f2 u2) (fun _ X Y hs hr=>hs.rl00 hr oQ) () X Y row h1 hg hr,h2⟩,zdP hbW2.size () X Y row h3 hg hr⟩,Own.from (boxed_own _ _ (fun(_:Unit)=>_)) w2.heap.size () X Y row h4 hg hr,Own.from (boxed_own _ _ (fun(_:Unit)=>_)) w2.heap.size () X Y row h5 hg hr⟩)
  ⟨⟨⟨hM2,fun d hd=>by cases hd⟩,RlS.refl _ w2⟩,⟨bx2,ba2⟩,bf2⟩
  (fun d a' V=>∃Bs,w2.heap.size≤Bs∧V.heap[Bs]?=some (.cells (shA d.1) 125)∧a'={tmps:=#[.pointer (some ⟨x.b,0,none⟩),.pointer (some ⟨W.heap.size,0,none⟩),.pointer (some ⟨W.heap.size+1,0,none⟩),.pointer (some ⟨W.heap.size+1+1,0,none⟩),.int .i64 (zhH f1 u1 f2 u2 2),.int .i64 (zhI f1 u1 f2 u2 2),.pointer (some ⟨Bs,0,none⟩),undef,undef,undef,.tuple #[.int .i64 (zhH f1 u1 f2 u2 2),.int .i64 (zhI f1 u1 f2 u2 2)],.pointer (some ⟨x.b,0,none⟩),.tuple #[.int .i64 (zhH f1 u1 f2 u2 2),.int .i64 (zhI f1 u1 f2 u2 2)],.int .i64 (zhH f1 u1 f2 u2 2),.int .i64 (zhI f1 u1 f2 u2 2),.int .i64 (zhH f1 u1 f2 u2 2),.int .i64 (zhI f1 u1 f2 u2 2),.func (.func 128) #[] #[.pointer (some ⟨b1,0,none⟩),.pointer (some ⟨b2,0,none⟩)],shV d.1,undef,undef,undef,undef,undef,undef,undef,undef,undef,undef,undef,undef,undef,undef,undef,undef,undef,undef,undef,undef,undef,undef,undef,undef,undef,undef,undef,undef,undef,undef,undef,undef,undef,undef,undef,undef,undef,undef],defers:=[]})
  (fun d a' _ X Y row hs hg hr=>by
    obtain⟨Bs,e1,e2,e3⟩:=hs;refine⟨Bs,e1,(hg.block Bs (waL.1 e2).1 (fun e=>?_)).trans e2,e3⟩
    obtain⟨_,o,ho,hc⟩:=hr Bs e.symm;rw[e2] at ho;cases ho;cases hc)
  ?assign ?body ?done ?stop
 case assign=>
  rintro l1 pre d V K ⟨⟨⟨hm,hall⟩,hrl⟩,⟨hx,ha⟩,hf⟩ hK;obtain⟨v0,v1,v2,v3,v4,v5,v6,v7,v8,v9,hv⟩:=zeq d.1;have hA:shA d.1=#[.int .i64 v0,.int .i64 v1,.int .i64 v2,.int .i64 v3,.int .i64 v4,.int .i64 v5,.int .i64 v6,.int .i64 v7,.int .i64 v8,.int .i64 v9]:=by have:=(zep d.1).symm.trans hv;injection this
  have HK:=waV hK;clear hK;rw[hv] at HK ⊢;rw[hA] at HK;have hsz:=hrl.size
  gi_wp2
  have hb:=(waC _ V).alloc (waJ _) (.cells #[.int .i64 v0,.int .i64 v1,.int .i64 v2,.int .i64 v3,.int .i64 v4,.int .i64 v5,.int .i64 v6,.int .i64 v7,.int .i64 v8,.int .i64 v9] 125);refine HK.out _ _ ((KeepsOthers.alloc _ _).from _) ((KpM.refl _ V).alloc _) ⟨⟨⟨hm.below hb,hall⟩,hrl.below hb hsz⟩,⟨zaB hb hx,zaB hb ha⟩,zaB hb hf⟩ ⟨V.heap.size,hsz,World.alloc_heap_new V _,rfl⟩
 case body=>
  rintro l1 pre d a' V hl1 ⟨r1,hr1⟩ ⟨⟨⟨hm,hall⟩,hrl⟩,⟨hx,ha⟩,hf⟩ ⟨Bs,hBs,hbs,rfl⟩ hlt;obtain⟨v0,v1,v2,v3,v4,v5,v6,v7,v8,v9,hv⟩:=zeq d.1;have hA:shA d.1=#[.int .i64 v0,.int .i64 v1,.int .i64 v2,.int .i64 v3,.int .i64 v4,.int .i64 v5,.int .i64 v6,.int .i64 v7,.int .i64 v8,.int .i64 v9]:=by have:=(zep d.1).symm.trans hv;injection this
  have hv0:v0=d.1:=by have h:Value.int .i64 (shN d.1 (yD d.1) (mD d.1) (dD d.1) 0)=.int .i64 v0:=congrArg (fun a=>a.getD 0 undef) hA;injection h with _ h;exact h.symm
  subst hv0;have hn0:0≤d.1:=by have:=zaS.1 d.2;have:=@mx0 (zhH f1 u1 f2 u2 2);omega
  have hn1:d.1<146097:=by have:=zaS.1 d.2;have:=@mn1 (zhI f1 u1 f2 u2 2);omega
  have HDd:=waV (fun V hV=>HD.out l1 V hV d.1 hn0 hn1)
  have HAll:=waV hall;rw[hv] at HDd ⊢;rw[hA] at hbs;generalize hdn:d.1=n at *;have hsz:=hrl.size;have hcx:=hx.cell;have c5:=hm.c5;have c6:=hm.c6;have c7:=hm.c7;have c8:=hm.c8;obtain⟨z,c4⟩:=hm.c4;have hfz:=hm.fz;have cs0:V.cell? ⟨Bs,0,none⟩=some (.int .i64 n):=by simp[World.cell?,hbs]
  have HB:=waV (fun V' (hb:Below V.heap.size V V')=>(⟨⟨⟨hm.below hb,hall⟩,hrl.below hb hsz⟩,⟨zaB hb hx,zaB hb ha⟩,zaB hb hf⟩:((MeetAt V' x L1 L2 zdd f1 u1 f2 u2∧∀d,d∈pre→inW f1 u1 f2 u2 d.1=true→zuL L1 L2 d.1)∧RlS (x.mv L1.length L2.length) w2 V')∧(Boxed V' W.heap.size 147 (.pointer (some ⟨x.b,0,none⟩))∧Boxed V' (W.heap.size+1) 2 (.int .i64 0))∧Boxed V' (W.heap.size+2) 4 (.bool false)))
  have hxW:=hx.lt;have hmb:=(hm.mb x.b (.inl rfl)).1;have HC:=waV (fun V' (hb:Below V.heap.size V V')=>(⟨((zad hb).1 _ _ hxW).trans hcx,(hm.below hb).c4,(hm.below hb).fz,(hm.below hb).c7,(hm.below hb).c8,(hb.block Bs (waL.1 hbs).1).trans hbs⟩:V'.cell? ⟨W.heap.size,0,none⟩=some (.pointer (some ⟨x.b,0,none⟩))∧(∃z,V'.cell? ⟨x.b,4,none⟩=some (.int .i64 z))∧(∀j,V'.frozen? ⟨x.b,j,none⟩=false)∧V'.cell? ⟨x.b,7,none⟩=some (.int .i64 f2)∧V'.cell? ⟨x.b,8,none⟩=some (.int .i64 u2)∧
   V'.heap[Bs]?=some (.cells #[.int .i64 n,.int .i64 v1,.int .i64 v2,.int .i64 v3,.int .i64 v4,.int .i64 v5,.int .i64 v6,.int .i64 v7,.int .i64 v8,.int .i64 v9] 125)))
  cases hw1:zqx f1 u1 n with
  |false=>
   cases hw2:zqx f2 u2 n with
   |false=>
    have h1:=waV (fun V=>HW.out l1 f1 u1 n V)
    have h2:=waV (fun V=>HW.out l1 f2 u2 n V)
    rw[hw1] at h1;rw[hw2] at h2;have hin:inW f1 u1 f2 u2 n=false:=by unfold inW;rw[hw1,hw2];rfl
    clear hm hall hrl hx ha hf
    gi_wp2_with fail
    refine⟨trivial,?_⟩;refine(h1.out _).mono ?_;rintro e w3 ⟨rfl,hq3⟩;obtain⟨hcx3,_,_,c7,c8,_⟩:=HC.out w3 hq3
    gi_wp2_with fail
    refine⟨trivial,?_⟩;refine(h2.out _).mono ?_;rintro e w4 ⟨rfl,hq4⟩;have hb4:=hq3.trans (hq4.mono hq3.size)
    gi_wp2_with fail
    obtain⟨⟨⟨g1,g2⟩,g3⟩,g4,g5⟩:=HB.out w4 hb4;exact⟨⟨hb4.size,fun i o _ h2 _=>(hb4.block i (waL.1 h2).1).trans h2⟩,KpM.of_below hb4,⟨⟨g1,fun d' hd' hi'=>(wbB.1 hd').elim (fun h=>g2 d' h hi') (fun h=>by
     have e:=wbC.1 h;rw[e,hdn,hin] at hi';cases hi')⟩,g3⟩,g4,g5⟩
   |true=>
    have h1:=waV (fun V=>HW.out l1 f1 u1 n V)
    have h2:=waV (fun V=>HW.out l1 f2 u2 n V)
    rw[hw1] at h1;rw[hw2] at h2;clear hm hall hrl hx ha hf
    gi_wp2_with fail
    refine⟨trivial,?_⟩;refine(h1.out _).mono ?_;rintro e w3 ⟨rfl,hq3⟩;obtain⟨hcx3,_,_,c7,c8,_⟩:=HC.out w3 hq3
    gi_wp2_with fail
    refine⟨trivial,?_⟩;refine(h2.out _).mono ?_;rintro e w4 ⟨rfl,hq4⟩;have hb4:=hq3.trans (hq4.mono hq3.size);clear hcx3 c5 c6 c7 c8 hcx c4 hfz cs0 h1 h2;obtain⟨hcx,⟨z',c4⟩,hfz,_,_,hbs4⟩:=HC.out w4 hb4;have hl4:=waR w4 _ c4;have e0:(w4).cell? ⟨Bs,0,none⟩=some (.int .i64 n):=by simp[World.cell?,hbs4]
    have e1:(w4).cell? ⟨Bs,1,none⟩=some (.int .i64 v1):=by simp[World.cell?,hbs4]
    have e2:(w4).cell? ⟨Bs,2,none⟩=some (.int .i64 v2):=by simp[World.cell?,hbs4]
    have e3:(w4).cell? ⟨Bs,3,none⟩=some (.int .i64 v3):=by simp[World.cell?,hbs4]
    have e4:(w4).cell? ⟨Bs,4,none⟩=some (.int .i64 v4):=by simp[World.cell?,hbs4]
    have e5:(w4).cell? ⟨Bs,5,none⟩=some (.int .i64 v5):=by simp[World.cell?,hbs4]
    have e6:(w4).cell? ⟨Bs,6,none⟩=some (.int .i64 v6):=by simp[World.cell?,hbs4]
    have e7:(w4).cell? ⟨Bs,7,none⟩=some (.int .i64 v7):=by simp[World.cell?,hbs4]
    have e8:(w4).cell? ⟨Bs,8,none⟩=some (.int .i64 v8):=by simp[World.cell?,hbs4]
    have e9:(w4).cell? ⟨Bs,9,none⟩=some (.int .i64 v9):=by simp[World.cell?,hbs4]
    have hne1:¬x.b=Bs:=by omega
    have hne2:¬Bs=x.b:=by omega
    clear hbs4
    gi_wp2_with fail
    refine⟨trivial,?_⟩;refine(HDd.out _ ((HB.out w4 hb4).1.1.1.count _)).mono ?_;rintro e w5 ⟨hres,hm5,hr5⟩;have hrV:RlS (x.mv L1.length L2.length) V w5:=(((RlS.refl _ V).below hb4 (waJ _)).set ⟨x.b,4,none⟩ _ (.inl rfl)).trans hr5;have hkp:KpM (x.mv L1.length L2.length) V w5:=KpM.of_meet hrV;have hkf:KeepsFrom w2.heap.size V w5:=⟨hrV.size,fun i o h1 h2 _=>(hrV.block i (waL.1 h2).1 (nM _ (by have:=hbW2.size;omega))).trans h2⟩
    obtain⟨⟨⟨g1,g2⟩,g3⟩,⟨g4,g5⟩,g6⟩:=HB.out V (waC _ V);have g3':=g3.trans hrV;have g4':=zaF g4 hrV (nM _ oQ);have g5':=zaF g5 hrV (nM _ oQ);have g6':=zaF g6 hrV (nM _ oQ);clear g1 g3 g4 g5 g6 hrV HB HC HDd c4 e0 e1 e2 e3 e4 e5 e6 e7 e8 e9 hr5 hcx hfz;obtain(⟨s,rfl,hs⟩|⟨rfl,hs⟩):=hres
    ·have hs8:=hs.1;have ca:=g5'.cell;have cf:=g6'.cell;have fa:=g5'.frozen;have ff:=g6'.frozen;have lta:=g5'.lt;have ltf:=g6'.lt;have g3w:=((RlS.refl _ W).below hbW2 (waJ _)).trans g3'
     gi_wp2_with fail
     have hz2:=hbW2.size;have r1:RlS (·=W.heap.size+1) w5 (w5.setCell ⟨W.heap.size+1,0,none⟩ (.int .i64 (n * 86400+s))):=(RlS.refl (·=W.heap.size+1) w5).set _ _ rfl;have r2:RlS (·=W.heap.size+1+1) (w5.setCell ⟨W.heap.size+1,0,none⟩ (.int .i64 (n * 86400+s))) ((w5.setCell ⟨W.heap.size+1,0,none⟩ (.int .i64 (n * 86400+s))).setCell ⟨W.heap.size+1+1,0,none⟩ (.bool true)):=(RlS.refl (·=W.heap.size+1+1) _).set _ _ rfl;refine⟨⟨by simpa using hkf.size,fun k o h1 h2 h3=>?_⟩,n,s,⟨⟨(hm5.own r1 oQ ⟨_,_,_,g5',by decide⟩).own r2 oQ ⟨_,_,_,g6'.other oQ _,by decide⟩,rfl,by omega,by omega,hs⟩,?_⟩,(g5'.set _).other oQ _,(g6'.other oQ _).set _⟩
     ·rw[wbJ _ _ _ _ (by show k≠W.heap.size+1+1;omega),wbJ _ _ _ _ (by show k≠W.heap.size+1;omega)]
      exact hkf.same k o h1 h2 h3
     ·exact⟨g3w.os,g3w.tape,g3w.output,by simpa using g3w.size,fun i hi hS=>by
       rw[wbJ _ _ _ _ (by show i≠W.heap.size+1+1;omega),wbJ _ _ _ _ (by show i≠W.heap.size+1;omega)]
       exact g3w.block i hi hS⟩
    ·gi_wp2_with fail
     refine⟨hkf,hkp,⟨⟨hm5,fun d' hd' hi'=>(wbB.1 hd').elim (fun h=>g2 d' h hi') (fun h=>by
      have e:=wbC.1 h;rw[e,hdn];exact hs)⟩,g3'⟩,⟨g4',g5'⟩,g6'⟩
  |true=>
   have h1:=waV (fun V=>HW.out l1 f1 u1 n V)
   rw[hw1] at h1;clear hm hall hrl hx ha hf
   gi_wp2_with fail
   refine⟨trivial,?_⟩;refine(h1.out _).mono ?_;rintro e w3 ⟨rfl,hq3⟩;clear c5 c6 c7 c8 hcx c4 hfz cs0 h1
   gi_wp2_with fail
   refine⟨trivial,?_⟩;obtain⟨hcx,⟨z',c4⟩,hfz,_,_,hbs4⟩:=HC.out w3 hq3;have hl4:=waR w3 _ c4;have e0:(w3).cell? ⟨Bs,0,none⟩=some (.int .i64 n):=by simp[World.cell?,hbs4]
   have e1:(w3).cell? ⟨Bs,1,none⟩=some (.int .i64 v1):=by simp[World.cell?,hbs4]
   have e2:(w3).cell? ⟨Bs,2,none⟩=some (.int .i64 v2):=by simp[World.cell?,hbs4]
   have e3:(w3).cell? ⟨Bs,3,none⟩=some (.int .i64 v3):=by simp[World.cell?,hbs4]
   have e4:(w3).cell? ⟨Bs,4,none⟩=some (.int .i64 v4):=by simp[World.cell?,hbs4]
   have e5:(w3).cell? ⟨Bs,5,none⟩=some (.int .i64 v5):=by simp[World.cell?,hbs4]
   have e6:(w3).cell? ⟨Bs,6,none⟩=some (.int .i64 v6):=by simp[World.cell?,hbs4]
   have e7:(w3).cell? ⟨Bs,7,none⟩=some (.int .i64 v7):=by simp[World.cell?,hbs4]
   have e8:(w3).cell? ⟨Bs,8,none⟩=some (.int .i64 v8):=by simp[World.cell?,hbs4]
   have e9:(w3).cell? ⟨Bs,9,none⟩=some (.int .i64 v9):=by simp[World.cell?,hbs4]
   have hne1:¬x.b=Bs:=by omega
   have hne2:¬Bs=x.b:=by omega
   clear hbs4
   gi_wp2_with fail
   refine⟨trivial,?_⟩;refine(HDd.out _ ((HB.out w3 hq3).1.1.1.count _)).mono ?_;rintro e w5 ⟨hres,hm5,hr5⟩;have hrV:RlS (x.mv L1.length L2.length) V w5:=(((RlS.refl _ V).below hq3 (waJ _)).set ⟨x.b,4,none⟩ _ (.inl rfl)).trans hr5;have hkp:KpM (x.mv L1.length L2.length) V w5:=KpM.of_meet hrV;have hkf:KeepsFrom w2.heap.size V w5:=⟨hrV.size,fun i o h1 h2 _=>(hrV.block i (waL.1 h2).1 (nM _ (by have:=hbW2.size;omega))).trans h2⟩
   obtain⟨⟨⟨g1,g2⟩,g3⟩,⟨g4,g5⟩,g6⟩:=HB.out V (waC _ V);have g3':=g3.trans hrV;have g4':=zaF g4 hrV (nM _ oQ);have g5':=zaF g5 hrV (nM _ oQ);have g6':=zaF g6 hrV (nM _ oQ);clear g1 g3 g4 g5 g6 hrV HB HC HDd c4 e0 e1 e2 e3 e4 e5 e6 e7 e8 e9 hr5 hcx hfz;obtain(⟨s,rfl,hs⟩|⟨rfl,hs⟩):=hres
   ·have hs8:=hs.1;have ca:=g5'.cell;have cf:=g6'.cell;have fa:=g5'.frozen;have ff:=g6'.frozen;have lta:=g5'.lt;have ltf:=g6'.lt;have g3w:=((RlS.refl _ W).below hbW2 (waJ _)).trans g3'
    gi_wp2_with fail
    have hz2:=hbW2.size;have r1:RlS (·=W.heap.size+1) w5 (w5.setCell ⟨W.heap.size+1,0,none⟩ (.int .i64 (n * 86400+s))):=(RlS.refl (·=W.heap.size+1) w5).set _ _ rfl;have r2:RlS (·=W.heap.size+1+1) (w5.setCell ⟨W.heap.size+1,0,none⟩ (.int .i64 (n * 86400+s))) ((w5.setCell ⟨W.heap.size+1,0,none⟩ (.int .i64 (n * 86400+s))).setCell ⟨W.heap.size+1+1,0,none⟩ (.bool true)):=(RlS.refl (·=W.heap.size+1+1) _).set _ _ rfl;refine⟨⟨by simpa using hkf.size,fun k o h1 h2 h3=>?_⟩,n,s,⟨⟨(hm5.own r1 oQ ⟨_,_,_,g5',by decide⟩).own r2 oQ ⟨_,_,_,g6'.other oQ _,by decide⟩,rfl,by omega,by omega,hs⟩,?_⟩,(g5'.set _).other oQ _,(g6'.other oQ _).set _⟩
    ·rw[wbJ _ _ _ _ (by show k≠W.heap.size+1+1;omega),wbJ _ _ _ _ (by show k≠W.heap.size+1;omega)]
     exact hkf.same k o h1 h2 h3
    ·exact⟨g3w.os,g3w.tape,g3w.output,by simpa using g3w.size,fun i hi hS=>by
      rw[wbJ _ _ _ _ (by show i≠W.heap.size+1+1;omega),wbJ _ _ _ _ (by show i≠W.heap.size+1;omega)]
      exact g3w.block i hi hS⟩
   ·gi_wp2_with fail
    refine⟨hkf,hkp,⟨⟨hm5,fun d' hd' hi'=>(wbB.1 hd').elim (fun h=>g2 d' h hi') (fun h=>by
     have e:=wbC.1 h;rw[e,hdn];exact hs)⟩,g3'⟩,⟨g4',g5'⟩,g6'⟩
 case done=>
  rintro D xs V hD rfl ⟨⟨⟨hm,hall⟩,hrl⟩,⟨hx,ha⟩,hf⟩ hKd;have ca:=ha.cell;have cf:=hf.cell;have fa:=ha.frozen;have ff:=hf.frozen;have lta:=ha.lt;have ltf:=hf.lt;have hz2:=hbW2.size;have g3w:=((RlS.refl _ W).below hbW2 (waJ _)).trans hrl
  gi_wp2_with fail
  have r1:RlS (·=W.heap.size+1) V (V.setCell ⟨W.heap.size+1,0,none⟩ (.int .i64 0)):=(RlS.refl (·=W.heap.size+1) V).set _ _ rfl;have r2:RlS (·=W.heap.size+1+1) (V.setCell ⟨W.heap.size+1,0,none⟩ (.int .i64 0)) ((V.setCell ⟨W.heap.size+1,0,none⟩ (.int .i64 0)).setCell ⟨W.heap.size+1+1,0,none⟩ (.bool false)):=(RlS.refl (·=W.heap.size+1+1) _).set _ _ rfl;have hm':=(hm.own r1 oQ ⟨_,_,_,ha,by decide⟩).own r2 oQ ⟨_,_,_,hf.other oQ _,by decide⟩
  have ha':=(ha.set (.int .i64 0)).other (show W.heap.size+1≠W.heap.size+1+1 by omega) (.bool false)
  have hf':Boxed ((V.setCell ⟨W.heap.size+1,0,none⟩ (.int .i64 0)).setCell ⟨W.heap.size+1+1,0,none⟩ (.bool false)) (W.heap.size+2) 4 (.bool false):=(hf.other oQ (.int .i64 0)).set (.bool false);have hKd':((V.setCell ⟨W.heap.size+1,0,none⟩ (.int .i64 0)).setCell ⟨W.heap.size+1+1,0,none⟩ (.bool false)).heap[D]?=some (.deferred (some [])):=by
   rw[wbJ _ _ _ _ (by show D≠W.heap.size+1+1;omega),wbJ _ _ _ _ (by show D≠W.heap.size+1;omega)];exact hKd
  have g3v:RlS (x.mv L1.length L2.length) W ((V.setCell ⟨W.heap.size+1,0,none⟩ (.int .i64 0)).setCell ⟨W.heap.size+1+1,0,none⟩ (.bool false)):=⟨g3w.os,g3w.tape,g3w.output,by simpa using g3w.size,fun i hi hS=>by
   rw[wbJ _ _ _ _ (by show i≠W.heap.size+1+1;omega),wbJ _ _ _ _ (by show i≠W.heap.size+1;omega)]
   exact g3w.block i hi hS⟩
  clear hm ha hf hKd g3w r1 r2 ca cf fa ff hrl;generalize ((V.setCell ⟨W.heap.size+1,0,none⟩ (.int .i64 0)).setCell ⟨W.heap.size+1+1,0,none⟩ (.bool false))=V6 at *;have hall':∀n,n∈zcy (mxI (zhH f1 u1 f2 u2 2) 0) (mnI (zhI f1 u1 f2 u2 2) 146096)→inW f1 u1 f2 u2 n=true→zuL L1 L2 n:=fun n hn h=>hall ⟨n,hn⟩ (List.mem_attach _ _) h
  have HRes:Hid ((Ending.returned (.tuple #[.int .i64 0,.bool false])=.returned (.tuple #[.int .i64 0,.bool false]))∧∀n,n∈zcy (mxI (zhH f1 u1 f2 u2 2) 0) (mnI (zhI f1 u1 f2 u2 2) 146096)→inW f1 u1 f2 u2 n=true→zuL L1 L2 n):=⟨rfl,hall'⟩;clear hall hall';have hr:Rl 0 0 x.D V6 (V6.putObj D (.deferred none)):=(Rl.refl _ _ _ _).put _ hKd' rfl oQ;have HMf:=waV (hm'.rl00 hr (waJ _));have HRf:=waV (show RlS (x.mv L1.length L2.length) W (V6.putObj D (.deferred none)) from zdP hbW2.size () V6 _ (some D) g3v (grownBy_putObj' V6 D _) (fun r e=>by cases e;exact⟨hD,_,hKd',rfl⟩))
  have q1:=(show Boxed (V6.putObj D (.deferred none)) _ _ _ from hr.block _ _ ha' (.inr (waK _)) (.inr rfl)).cell
  have q2:=(show Boxed (V6.putObj D (.deferred none)) _ _ _ from hr.block _ _ hf' (.inr (waK _)) (.inr rfl)).cell
  refine⟨by simp,.inl ⟨_,_,rfl,run_takeDeferred hKd',?_⟩⟩
  refine⟨.tuple #[.int .i64 0,.bool false],?_,?_⟩
  ·rw[zhy rfl]
   go_simp
  exact⟨.inr HRes.out,HMf.out,HRf.out⟩
 case stop=>
  rintro D c pre V6 hD _ ⟨n,s,⟨⟨hm',rfl,hn0,hn1,hs⟩,g3v⟩,ha',hf'⟩ hKd';have hz2:=hbW2.size
  gi_wp2_with fail
  have HRes:Hid (∃(n':Int) (s':Nat),(Ending.returned (.tuple #[.int .i64 (n * 86400+s),.bool true])=.returned (.tuple #[.int .i64 (n' * 86400+s'),.bool true]))∧0≤n'∧n'<146097∧zel (fun s=>zdd (zap L1 n' s) (zap L2 n' s)) 0 s'):=⟨n,s,rfl,hn0,hn1,hs⟩
  have hr:Rl 0 0 x.D V6 (V6.putObj D (.deferred none)):=(Rl.refl _ _ _ _).put _ hKd' rfl oQ;have HMf:=waV (hm'.rl00 hr (waJ _));have HRf:=waV (show RlS (x.mv L1.length L2.length) W (V6.putObj D (.deferred none)) from zdP hbW2.size () V6 _ (some D) g3v (grownBy_putObj' V6 D _) (fun r e=>by cases e;exact⟨hD,_,hKd',rfl⟩))
  have q1:=(show Boxed (V6.putObj D (.deferred none)) _ _ _ from hr.block _ _ ha' (.inr (waK _)) (.inr rfl)).cell
  have q2:=(show Boxed (V6.putObj D (.deferred none)) _ _ _ from hr.block _ _ hf' (.inr (waK _)) (.inr rfl)).cell
  refine⟨by simp,.inl ⟨_,_,rfl,run_takeDeferred hKd',?_⟩⟩
  refine⟨.tuple #[.int .i64 (n * 86400+s),.bool true],?_,?_⟩
  ·rw[zhy rfl]
   go_simp
  exact⟨.inl HRes.out,HMf.out,HRf.out⟩
end Go.Proofs.YtgedndlifiihkaaGreatDoor
namespace Go.Proofs.YtgedndlifiihkaaGreatDoor
open Go.Proofs.Tryz
open Go.RowKit
open Go.Maps
theorem zst (s:Int) (w:World):Calls prog 90 #[.pointer none,.int .i64 s] w (Ret (.bool false) w):=by
 go_enter func90,ntmps90;go_wp2_with fail;go_ret;exact⟨rfl,waC _ _⟩
theorem zqz {w:World} {D:Nat} {v:Value} {p:Nat→Bool} (h:zbp w D v p) (s:Nat) (hs:s<86400):Calls prog 90 #[v,.int .i64 s] w (Ret (.bool (p s)) w):=by
 rcases h with ⟨rfl,h⟩|⟨b,rfl,_,hd⟩
 ·rw[h s hs];exact zst _ _
 ·refine(zmy b s p hs w hd).mono ?_;rintro e w' ⟨rfl,rfl⟩;exact⟨rfl,waC _ _⟩
def zsu (L1 L2:List Cl):Prop:=∀n,0≤n→n<146097→zf4 (zap L1 n) (zap L2 n)
theorem zqA (f u:Int):zat f u≤12622780799:=by unfold zat;(repeat' split)<;>omega
theorem zmX {L:List Cl} {n:Int} {s:Nat} (h0:0≤n) (h1:n<146097) (hs:s<86400) (h:zap L n s=true):zqx (hF L) (hU L) n=true∧hF L / 86400≤n∧n≤hU L / 86400∧¬hU L<0:=by
 obtain⟨a1,a2,a3⟩:=zmQ h;have a1:hF L≤n * 86400+(s:Int):=a1;have a2:n * 86400+(s:Int)≤hU L:=a2;have a3:¬hU L<0:=a3;refine⟨?_,by omega,by omega,a3⟩
 have hin:zjx (hF L) n≤n * 86400+(s:Int)∧n * 86400+(s:Int)≤zi5 (hU L) n:=by
  generalize hF L=a at *;generalize hU L=b at *;have d0:zq2 n=n * 86400:=if_pos ⟨h0,h1⟩;have d1:zq3 n=n * 86400+86399:=if_pos ⟨h0,h1⟩;unfold zjx zi5 mxI mnI;rw[d0,d1];constructor
  ·split<;>omega
  ·split<;>omega
 have hh:=((ztF (f:=zjx (hF L) n) (u:=zi5 (hU L) n) (t:=n * 86400+(s:Int))).2 ⟨hin.1,hin.2,by omega,by omega⟩).2
 unfold zqx;rw[waO (by omega)];rfl
theorem zvv {L1 L2:List Cl} {n:Int} (h:(hF L1 / 86400≤n∧n≤hU L1 / 86400∧¬hU L1<0)∨(hF L2 / 86400≤n∧n≤hU L2 / 86400∧¬hU L2<0)):zhH (hF L1) (hU L1) (hF L2) (hU L2) 2≤n∧n≤zhI (hF L1) (hU L1) (hF L2) (hU L2) 2:=by
 have e1:∀L,zaE (hF L) (hU L)=hF L:=fun L=>zf7 _ _
 have e2:∀L,zat (hF L) (hU L)=hU L:=fun L=>zdy _ _
 show ze3 (ze3 146097 (hF L1) (hU L1)) (hF L2) (hU L2)≤n∧n≤ze4 (ze4 (-1) (hF L1) (hU L1)) (hF L2) (hU L2);unfold ze3 ze4;rw[e1,e2,e1,e2];clear e1 e2;generalize hF L1=a1 at *;generalize hU L1=b1 at *;generalize hF L2=a2 at *;generalize hU L2=b2 at *;rcases h with ⟨h1,h2,h3⟩|⟨h1,h2,h3⟩
 ·rw[if_neg h3,if_neg h3]
  (repeat' split)<;>omega
 ·rw[if_neg h3,if_neg h3]
  (repeat' split)<;>omega
theorem znZ {L1 L2:List Cl} (h:∀n,n∈zcy (mxI (zhH (hF L1) (hU L1) (hF L2) (hU L2) 2) 0) (mnI (zhI (hF L1) (hU L1) (hF L2) (hU L2) 2) 146096)→inW (hF L1) (hU L1) (hF L2) (hU L2) n=true→zuL L1 L2 n):zsu L1 L2:=fun n h0 h1 s hs=>by
 have key:zap L1 n s=true∨zap L2 n s=true→zap L1 n s=zap L2 n s:=fun hk=>by
  have hw:inW (hF L1) (hU L1) (hF L2) (hU L2) n=true∧((hF L1 / 86400≤n∧n≤hU L1 / 86400∧¬hU L1<0)∨(hF L2 / 86400≤n∧n≤hU L2 / 86400∧¬hU L2<0)):=by
   unfold inW;rcases hk with hk|hk
   ·obtain⟨a1,a2⟩:=zmX h0 h1 hs hk;exact⟨by rw[a1];rfl,.inl a2⟩
   ·obtain⟨a1,a2⟩:=zmX h0 h1 hs hk;exact⟨by rw[a1,Bool.or_true],.inr a2⟩
  obtain⟨a1,a2⟩:=zvv hw.2;refine zp7 (h n (zaS.2 ⟨?_,?_⟩) hw.1) s hs
  ·unfold mxI;split<;>omega
  ·unfold mnI;split<;>omega
 cases h1':zap L1 n s with
 |true=>rw [←h1'];exact key (.inl h1')
 |false=>
  cases h2':zap L2 n s with
  |true=>rw [h1',h2'] at key;exact key (.inr rfl)
  |false=>rfl
theorem zsv {L1 L2:List Cl} {n:Int} {s:Nat} (h0:0≤n) (h1:n<146097) (h:zel (fun s=>zdd (zap L1 n s) (zap L2 n s)) 0 s):¬zsu L1 L2:=fun k=>by
 obtain⟨hs,_,hx,_⟩:=h;have hx:(zap L1 n s^^zap L2 n s)=true:=hx;rw[k n h0 h1 s hs,Bool.xor_self] at hx;cases hx
def erE (a b:Int):Int:=if a=0 then b else a
def zti (n1 n2:Nat) (L1 L2:List Cl) (W:World) (e:Ending) (W':World):Prop:=
 Below W.heap.size W W'∧∃(y f:Bool) (t:Int),e=.returned (.tuple #[.agg #[.bool y,.int .i64 t,.bool f],.int .i64 (erE (zco n1 L1) (zco n2 L2))])∧(erE (zco n1 L1) (zco n2 L2)=0→(y=true↔zsu L1 L2))
theorem zkL:zsj 47 zdd:=⟨enters_of func47 kQ rfl,fun va vb p q w hw ha hb=>zf1 va vb p q w hw ha hb⟩
theorem RlS.to_below {S:Nat→Prop} {W V:World} {B:Nat} (h:RlS S W V) (hS:∀k,S k→B≤k) (hB:B≤W.heap.size):Below B W V:=⟨h.os,h.tape,h.output,h.size,fun k hk=>h.block k oQ (fun g=>by have:=hS k g;omega)⟩
theorem MeetAt.mge {W:World} {x:AskD} {L1 L2:List Cl} {h:Bool→Bool→Bool} {f1 u1 f2 u2:Int} {B:Nat} (k:MeetAt W x L1 L2 h f1 u1 f2 u2) (h1:B≤x.b) (h2:B≤x.fm) (h3:B≤x.lo1) (h4:B≤x.lo2):∀j,x.mv L1.length L2.length j→B≤j:=by
 rintro j (rfl|rfl|g|g)
 ·exact h1
 ·exact h2
 ·have:=k.r1.f.mb j g;omega
 ·have:=k.r2.f.mb j g;omega
theorem zlL (A1 A2:Option Addr) (n1 n2 k1 k2 g:Nat) (L1 L2:List Cl) (W:World) (hA1:zbx W A1 n1 L1) (hn1:n1≤4294967296) (hl1:A1=none→n1=0) (hbit1:∀c,c∈L1→zcz c∧c.s≤9223372036854775807)
 (hA2:zbx W A2 n2 L2) (hn2:n2≤4294967296) (hl2:A2=none→n2=0) (hbit2:∀c,c∈L2→zcz c∧c.s≤9223372036854775807) (hw:Tz W) (hg:g=47) (hf:zsj g zdd):
 Calls prog 46 #[.slice A1 n1 k1,.slice A2 n2 k2,.func (.func g) #[] #[]] W (zti n1 n2 L1 L2 W):=by
 have HBeg:=waV (fun V (hV:Below W.heap.size W V)=>zqy A1 A2 n1 n2 k1 k2 g L1 L2 zdd V (hA1.below hV (waJ _)) hn1 hl1 hbit1 (hA2.below hV (waJ _)) hn2 hl2 hbit2 (hw.below hV) hf)
 have HFi:=waV (fun V x (hV:MeetAt V x L1 L2 zdd (hF L1) (hU L1) (hF L2) (hU L2)) (hxg:x.g=g)=>znY x L1 L2 (hF L1) (hU L1) (hF L2) (hU L2) V hV (hxg.trans hg))
 clear hA1 hA2 hn1 hn2 hl1 hl2 hbit1 hbit2 hw hf hg;go_enter func46,ntmps46;go_wp2_with fail;have hb0:Below W.heap.size W (W.alloc (.cells #[.bool false,.int .i64 0,.bool false] 45)):=(waC _ W).alloc (waJ _) _;have hz0:(W.alloc (.cells #[.bool false,.int .i64 0,.bool false] 45)).heap.size=W.heap.size+1:=by simp
 have bx0:(W.alloc (.cells #[.bool false,.int .i64 0,.bool false] 45)).heap[W.heap.size]?=some (.cells #[.bool false,.int .i64 0,.bool false] 45):=World.alloc_heap_new W _;generalize (W.alloc (.cells #[.bool false,.int .i64 0,.bool false] 45))=W0 at *;refine(HBeg.out _ hb0).mono ?_;rintro e w1 ⟨hb1,hres⟩;have hz:=hb0.size;have bx1:=(hb1.block _ (waL.1 bx0).1).trans bx0;have hb01:=hb0.trans (hb1.mono hz);have lb1:=(waL.1 bx1).1;have c0:w1.cell? ⟨W.heap.size,0,none⟩=some (.bool false):=by simp[World.cell?,bx1]
 have c1:w1.cell? ⟨W.heap.size,1,none⟩=some (.int .i64 0):=by simp[World.cell?,bx1]
 have c2:w1.cell? ⟨W.heap.size,2,none⟩=some (.bool false):=by simp[World.cell?,bx1]
 have fz:∀j,w1.frozen? ⟨W.heap.size,j,none⟩=false:=fun j=>by simp[World.frozen?,bx1]
 obtain(⟨he,rfl⟩|⟨he1,he,rfl⟩|⟨he1,he2,x,rfl,hxg,hx1,hx2,hxD,hx3,hx4,hM⟩):=hres
 ·generalize hE:zco n1 L1=E at *;have hf0:=fz 0;have hf1:=fz 1;have hf2:=fz 2;have hE':Hid (erE (zco n1 L1) (zco n2 L2)=E):=by show _=_;unfold erE;rw[if_neg (by rw[hE];exact he),hE]
  go_wp2_with fail
  (try simp only[Exit.inBlock,Exit.then])
  refine waY (v:=.tuple #[.agg #[.bool false,.int .i64 0,.bool false],.int .i64 E]) (by rw[zaz rfl];go_simp) rfl ?_
  have hbE:=Below.setCell (p:=⟨W.heap.size,2,none⟩) (Below.setCell (p:=⟨W.heap.size,1,none⟩) (Below.setCell (p:=⟨W.heap.size,0,none⟩) (by assumption:Below W.heap.size W _) (waJ _) (.bool false)) (waJ _) (.int .i64 0)) (waJ _) (.bool false)
  exact⟨hbE,false,false,0,by rw[hE'.out],fun h=>absurd (hE'.out.symm.trans h) he⟩
 ·generalize hE:zco n2 L2=E at *;have hf0:=fz 0;have hf1:=fz 1;have hf2:=fz 2;have hE':Hid (erE (zco n1 L1) (zco n2 L2)=E):=by show _=_;unfold erE;rw[if_pos he1,hE]
  go_wp2_with fail
  (try simp only[Exit.inBlock,Exit.then])
  refine waY (v:=.tuple #[.agg #[.bool false,.int .i64 0,.bool false],.int .i64 E]) (by rw[zaz rfl];go_simp) rfl ?_
  have hbE:=Below.setCell (p:=⟨W.heap.size,2,none⟩) (Below.setCell (p:=⟨W.heap.size,1,none⟩) (Below.setCell (p:=⟨W.heap.size,0,none⟩) (by assumption:Below W.heap.size W _) (waJ _) (.bool false)) (waJ _) (.int .i64 0)) (waJ _) (.bool false)
  rw[←hE] at hE';exact⟨hbE,false,false,0,by rw[hE'.out,hE],fun h=>absurd (hE.symm.trans (hE'.out.symm.trans h)) he⟩
 ·have hE':Hid (erE (zco n1 L1) (zco n2 L2)=0):=by show _=_;unfold erE;rw[if_pos he1,he2]
  have HM:=waV hM;have hFi:=waV (HFi.out w1 x hM hxg);have hge:=hM.mge (show W.heap.size+1≤x.b by omega) oQ oQ oQ
  have hDw:=hM.r1.dw;clear hM;go_wp2_with fail;refine hFi.out.mono ?_;rintro e w2 ⟨hres,hM2,hr2⟩;have nb:¬x.mv L1.length L2.length W.heap.size:=fun g=>by have:=hge _ g;omega
  have hb2:Below W.heap.size W w2:=hb01.trans (hr2.to_below (fun k g=>by have:=hge k g;omega) oQ)
  have lb2:W.heap.size<w2.heap.size:=waD lb1 hr2.size;have c0:=hr2.cell c0 nb;have c1:=hr2.cell c1 nb;have c2:=hr2.cell c2 nb;have fz:∀j,w2.frozen? ⟨W.heap.size,j,none⟩=false:=fun j=>(za8 hr2 lb1 nb).trans (fz j)
  have hf0:=fz 0;have hf1:=fz 1;have hf2:=fz 2;clear bx1 lb1 hb1 hr2 hFi HFi HBeg bx0 hb0 hb01;obtain(⟨n,s,rfl,h0,h1,hn⟩|⟨rfl,hn⟩):=hres
  ·have hS:=waV (zsv h0 h1 hn);have hs8:=hn.1;have hD:=waV (fun V hV=>zsh x.d1 L1 x.lo1 x.hi1 x.D V hV n h0 h1)
   have HM2:=waV hM2;have q0:=hM2.c0;have lbx:=waR w2 _ q0;have d0:(n * 86400+(s:Int)) / 86400=n:=by omega
   have d1:(n * 86400+(s:Int))%86400=(s:Int):=by omega
   clear hn hM2;go_wp2_with fail;refine(hD.out w2 HM2.out.r1).mono ?_;rintro e w3 ⟨v,rfl,hd,hR3,hr3⟩;have nb1:¬x.d1.mv L1.length W.heap.size:=fun g=>nb (.inr (.inr (.inl g)))
   have hb3:Below W.heap.size W w3:=hb2.trans (hr3.to_below (fun k g=>by have:=hge k (.inr (.inr (.inl g)));omega) oQ)
   have c03:=hr3.cell c0 nb1;have c13:=hr3.cell c1 nb1;have c23:=hr3.cell c2 nb1;have fz3:∀j,w3.frozen? ⟨W.heap.size,j,none⟩=false:=fun j=>(za8 hr3 lb2 nb1).trans (fz j)
   have lb3:W.heap.size<w3.heap.size:=waD lb2 hr3.size;have hH:=waV (zqz hd s hs8);clear c0 c1 c2 fz hf0 hf1 hf2 hd hR3 hr3 q0 HM2 HM hD hb2;generalize zap L1 n s=B at *;go_wp2_with fail;refine hH.out.mono ?_;rintro e w4 ⟨rfl,hq4⟩;have hb4:Below W.heap.size W w4:=hb3.trans (hq4.mono oQ);have c04:=((zad hq4).1 _ _ lb3).trans c03;have c14:=((zad hq4).1 _ _ lb3).trans c13;have c24:=((zad hq4).1 _ _ lb3).trans c23;have fz4:∀j,w4.frozen? ⟨W.heap.size,j,none⟩=false:=fun j=>(za8 ((RlS.refl (fun _=>False) w3).below hq4 (waJ _)) lb3 (fun g=>g)).trans (fz3 j)
   have hf0:=fz4 0;have hf1:=fz4 1;have hf2:=fz4 2;have lb4:=waD lb3 hq4.size;clear c03 c13 c23 fz3 hq4 hb3;go_wp2_with fail
   (try simp only[Exit.inBlock,Exit.then])
   refine waY (v:=.tuple #[.agg #[.bool false,.int .i64 (n * 86400+(s:Int)),.bool B],.int .i64 0]) (by rw[zaz rfl];go_simp) rfl ?_
   have hbE:=Below.setCell (p:=⟨W.heap.size,2,none⟩) (Below.setCell (p:=⟨W.heap.size,1,none⟩) (Below.setCell (p:=⟨W.heap.size,0,none⟩) (by assumption:Below W.heap.size W _) (waJ _) (.bool false)) (waJ _) (.int .i64 (n * 86400+(s:Int)))) (waJ _) (.bool B)
   exact⟨hbE,false,B,_,by rw[hE'.out],fun _=>⟨fun h=>(by cases h),fun h=>absurd h hS.out⟩⟩
  ·have hS:=waV (znZ hn);clear hn;go_wp2_with fail
   (try simp only[Exit.inBlock,Exit.then])
   refine waY (v:=.tuple #[.agg #[.bool true,.int .i64 0,.bool false],.int .i64 0]) (by rw[zaz rfl];go_simp) rfl ?_
   have hbE:=Below.setCell (p:=⟨W.heap.size,2,none⟩) (Below.setCell (p:=⟨W.heap.size,1,none⟩) (Below.setCell (p:=⟨W.heap.size,0,none⟩) (by assumption:Below W.heap.size W _) (waJ _) (.bool true)) (waJ _) (.int .i64 0)) (waJ _) (.bool false)
   exact⟨hbE,true,false,0,by rw[hE'.out],fun _=>⟨fun _=>hS.out,fun _=>rfl⟩⟩
theorem zn0 (A1 A2:Option Addr) (n1 n2 k1 k2:Nat) (L1 L2:List Cl) (W:World) (hA1:zbx W A1 n1 L1) (hn1:n1≤4294967296) (hl1:A1=none→n1=0) (hbit1:∀c,c∈L1→zcz c∧c.s≤9223372036854775807)
 (hA2:zbx W A2 n2 L2) (hn2:n2≤4294967296) (hl2:A2=none→n2=0) (hbit2:∀c,c∈L2→zcz c∧c.s≤9223372036854775807) (hw:Tz W):
 Calls prog 18 #[.slice A1 n1 k1,.slice A2 n2 k2] W (zti n1 n2 L1 L2 W):=by
 have HV:=waV (fun V (hV:Below W.heap.size W V)=>zlL A1 A2 n1 n2 k1 k2 47 L1 L2 V (hA1.below hV (waJ _)) hn1 hl1 hbit1 (hA2.below hV (waJ _)) hn2 hl2 hbit2 (hw.below hV) rfl zkL)
 clear hA1 hA2 hn1 hn2 hl1 hl2 hbit1 hbit2 hw;go_enter func18,ntmps18;go_wp2_with fail;have hb0:Below W.heap.size W (W.alloc (.cells #[.bool false,.int .i64 0,.bool false] 45)):=(waC _ W).alloc (waJ _) _;have hz0:(W.alloc (.cells #[.bool false,.int .i64 0,.bool false] 45)).heap.size=W.heap.size+1:=by simp
 have bx0:(W.alloc (.cells #[.bool false,.int .i64 0,.bool false] 45)).heap[W.heap.size]?=some (.cells #[.bool false,.int .i64 0,.bool false] 45):=World.alloc_heap_new W _;generalize (W.alloc (.cells #[.bool false,.int .i64 0,.bool false] 45))=W0 at *;refine(HV.out _ hb0).mono ?_;rintro e w1 ⟨hb1,y,f,t,rfl,hy⟩;have bx1:=(hb1.block _ (waL.1 bx0).1).trans bx0;have hb01:=hb0.trans (hb1.mono oQ);have lb1:=(waL.1 bx1).1;have c0:w1.cell? ⟨W.heap.size,0,none⟩=some (.bool false):=by simp[World.cell?,bx1]
 have c1:w1.cell? ⟨W.heap.size,1,none⟩=some (.int .i64 0):=by simp[World.cell?,bx1]
 have c2:w1.cell? ⟨W.heap.size,2,none⟩=some (.bool false):=by simp[World.cell?,bx1]
 have hf0:w1.frozen? ⟨W.heap.size,0,none⟩=false:=by simp[World.frozen?,bx1]
 have hf1:w1.frozen? ⟨W.heap.size,1,none⟩=false:=by simp[World.frozen?,bx1]
 have hf2:w1.frozen? ⟨W.heap.size,2,none⟩=false:=by simp[World.frozen?,bx1]
 have HY:=waV hy;clear bx1 bx0 hb1 hb0 hy HV;generalize hE:erE (zco n1 L1) (zco n2 L2)=E at *;go_wp2_with fail
 (try simp only[Exit.inBlock,Exit.then])
 refine waY (v:=.tuple #[.agg #[.bool y,.int .i64 t,.bool f],.int .i64 E]) (by rw[zaz rfl];go_simp) rfl ?_
 have hbE:=Below.setCell (p:=⟨W.heap.size,2,none⟩) (Below.setCell (p:=⟨W.heap.size,1,none⟩) (Below.setCell (p:=⟨W.heap.size,0,none⟩) (by assumption:Below W.heap.size W _) (waJ _) (.bool y)) (waJ _) (.int .i64 t)) (waJ _) (.bool f)
 subst hE;exact⟨hbE,y,f,t,rfl,HY.out⟩
end Go.Proofs.YtgedndlifiihkaaGreatDoor
namespace Go.Proofs.YtgedndlifiihkaaGreatDoor
open Go.Proofs.Tryz
open Go.RowKit
open Go.Maps
attribute [local go_sem] Oper.semAt_some
theorem zmY (d:RollD) (L:List Cl) (lo hi D:Nat) (W:World) (hR:RollAt W d L lo hi D) (f t:Int):
 Calls prog 70 #[.pointer (some ⟨d.b,0,none⟩),.int .i64 f,.int .i64 t] W (zvr d L f t W):=by
 have HB:=waV (fun V (hV:Below W.heap.size W V)=>zkG d L lo hi D V (hR.below hV) f t)
 clear hR;go_enter func70,ntmps70;go_wp2_with fail;have hb0:Below W.heap.size W (((W.alloc (.cells #[.pointer (some ⟨d.b,0,none⟩)] 115)).alloc (.cells #[.int .i64 f] 2)).alloc (.cells #[.int .i64 t] 2)):=(((waC _ W).alloc (waJ _) _).alloc (by simp) _).alloc (by simp;omega) _
 have hz0:(((W.alloc (.cells #[.pointer (some ⟨d.b,0,none⟩)] 115)).alloc (.cells #[.int .i64 f] 2)).alloc (.cells #[.int .i64 t] 2)).heap.size=W.heap.size+3:=by simp
 have x0:Boxed (((W.alloc (.cells #[.pointer (some ⟨d.b,0,none⟩)] 115)).alloc (.cells #[.int .i64 f] 2)).alloc (.cells #[.int .i64 t] 2)) W.heap.size 115 (.pointer (some ⟨d.b,0,none⟩)):=((Boxed.new _ _ _).alloc _).alloc _;have x1:Boxed (((W.alloc (.cells #[.pointer (some ⟨d.b,0,none⟩)] 115)).alloc (.cells #[.int .i64 f] 2)).alloc (.cells #[.int .i64 t] 2)) (W.heap.size+1) 2 (.int .i64 f):=by
  have h:W.heap.size+1=(W.alloc (.cells #[.pointer (some ⟨d.b,0,none⟩)] 115)).heap.size:=by simp
  rw[h];exact(Boxed.new _ _ _).alloc _
 have x2:Boxed (((W.alloc (.cells #[.pointer (some ⟨d.b,0,none⟩)] 115)).alloc (.cells #[.int .i64 f] 2)).alloc (.cells #[.int .i64 t] 2)) (W.heap.size+1+1) 2 (.int .i64 t):=by
  have h:W.heap.size+1+1=((W.alloc (.cells #[.pointer (some ⟨d.b,0,none⟩)] 115)).alloc (.cells #[.int .i64 f] 2)).heap.size:=by simp
  rw[h];exact Boxed.new _ _ _
 generalize (((W.alloc (.cells #[.pointer (some ⟨d.b,0,none⟩)] 115)).alloc (.cells #[.int .i64 f] 2)).alloc (.cells #[.int .i64 t] 2))=W0 at *;refine(HB.out _ hb0).mono ?_;rintro e w1 ⟨rfl,hb1⟩;have x0:=zaB hb1 x0;have x1:=zaB hb1 x1;have x2:=zaB hb1 x2;have hb01:=hb0.trans (hb1.mono oQ);have c1:=x1.cell;have c2:=x2.cell;have f1:=x1.frozen;have f2:=x2.frozen;have l1:=x1.lt;have l2:=x2.lt;go_wp2_with fail;go_ret;exact⟨W.heap.size+1,W.heap.size+1+1,W.heap.size,rfl,by omega,by omega,waJ _,((x1.set _).other oQ _).cell,((x2.other oQ _).set _).cell,((x0.other oQ _).other oQ _).cell,(hb01.setCell (p:=⟨W.heap.size+1,0,none⟩) (by show W.heap.size≤W.heap.size+1;omega) _).setCell (p:=⟨W.heap.size+1+1,0,none⟩) (by show W.heap.size≤W.heap.size+1+1;omega) _⟩
end Go.Proofs.YtgedndlifiihkaaGreatDoor
