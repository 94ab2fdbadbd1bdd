/- A part of the proof: WTod1 WLap2 WSecL2 -/
import Derived.Test.YtgedndlifiihkaaGreatDoorT12
import Derived.Test.YtgedndlifiihkaaGreatDoorT13
set_option maxHeartbeats 80000000
set_option maxRecDepth 100000
set_option linter.unusedSimpArgs false
set_option linter.unusedVariables false
namespace Go.Proofs.YtgedndlifiihkaaGreatDoor
open Go.Proofs.Tryz
open Go.RowKit Go.Shelf
attribute [local go_sem] Oper.semAt_some
section scope
variable {F : Fence} {n : Nat} {P : Program} {Q : Exit → Act → World → Prop} {a : Act} {w : World} {b : Frame} {k : List Item} {cs : List Frame}
theorem zcv {c:Code}:step P (lone (b.atR a (.code (.scope c)::k)) cs w)=.next (lone (b.atR a (.code c::.inScope c::k)) cs w):=
 step_lone_go (by simp[stepG,stepG.exec,Frame.atR])
theorem zjj {c:Code}:step P (lone (b.atR a (.inScope c::k)) cs w)=.next (lone (b.atR a k) cs w):=
 step_lone_go (by simp[stepG,stepG.exec,Frame.atR])
theorem zdv {c:Code} (h:c.wpIn F n P (Exit.noGoto Q) a w):(Code.scope c).wpIn F n P Q a w:=by
 intro b k cs hro hb hr;have h0:(lone (b.atR a (.code (.scope c)::k)) cs w).fenced P F:=fenced_calm hb hr rfl;obtain⟨e,a₁,w₁,hq,harr⟩:=h b (.inScope c::k) cs hro hb hr;cases e with
 |normal=>exact⟨.normal,a₁,w₁,hq,.head h0 zcv (StepsIn.trans harr (.one (fenced_calm hb hr rfl) zjj))⟩
 |exit id=>
  have hx:exitTo id (.inScope c::k)=exitTo id k:=by simp[exitTo]
  exact⟨_,a₁,w₁,hq,fun k' hk=>.head h0 zcv (harr.1 k' (by rw[hx];exact hk)),
   fun hr' hk=>let ⟨k₁,h1,h2⟩:=harr.2 hr' (by rw[hx];exact hk);⟨k₁,h1,.head h0 zcv h2⟩⟩
 |goto l=>exact hq.elim
 |ret=>exact⟨_,a₁,w₁,hq,.of_steps (.one h0 zcv) harr⟩
 |panic ch=>exact⟨_,a₁,w₁,hq,.of_steps (.one h0 zcv) harr⟩
 |outgrown=>exact⟨_,a₁,w₁,hq,.of_steps (.one h0 zcv) harr⟩
end scope
theorem zel {P:Program} {n m l l':Nat} {f:FuncId} {tmps:Array Value} {assign body:Code} {w:World} {R:Ending→World→Prop} (h:RoundIn Fence.wide n P l f tmps assign body w R):RoundIn (Fence.wide.inRound l') m P l f tmps assign body w R:=
 ⟨h.1,fun c cs _=>h.2 c cs (room_wide _)⟩
theorem zam {P:Program} {m l':Nat} {f:FuncId} {args:Array Value} {w:World} {R:Ending→World→Prop} (h:Calls P f args w R):CallsIn (Fence.wide.inRound l') m P f args w R:=
 CallsIn.inRound l' (wbP.2 h)
theorem zc0 {β:Type} {B:Nat} {M:Nat→Prop} {W0:World}:OwnFrom B (fun(_:β) W=>KpM M W0 W):=fun _ X Y row hs hg hr=>hs.trans ⟨hg.size,fun k o h1 h2 _=>(hg.block k (waL.1 h1).1 (fun e=>by
 obtain⟨_,o',ho,hc⟩:=hr k e.symm;rw[h1] at ho;cases ho;rw[hc] at h2;cases h2)).trans h1⟩
theorem Tz.kpM {M:Nat→Prop} {X Y:World} (h:Tz X) (k:KpM M X Y) (hM:¬M 0):Tz Y:=fun j hj=>k.cell (h j hj) hM
theorem zlE {α β:Type} {f:α→List β} {c:Nat} (l:List α) (h:∀a,(f a).length≤c):(l.flatMap f).length≤l.length * c:=by
 induction l with
 |nil=>simp
 |cons a l ih=>rw [List.flatMap_cons,waF,waG,Nat.add_mul];have:=h a;omega
theorem zsr {α β:Type} {f:α→List β} {p q:List α} (h:p<+:q):p.flatMap f<+:q.flatMap f:=by
 obtain⟨r,rfl⟩:=h;exact⟨r.flatMap f,by rw[List.flatMap_append]⟩
def zdw (a b:Nat) (l:List Nat):List Nat:=l.map fun c=>a * 3600+b * 60+c
def zdP (s a:Nat) (l:List Nat):List Nat:=l.flatMap fun b=>zdw a b (zar s)
def zfA (m s:Nat) (l:List Nat):List Nat:=l.flatMap fun a=>zdP s a (zar m)
theorem zkw (a b:Nat) (l:List Nat):(zdw a b l).length=l.length:=by simp[zdw]
theorem zkx (s a:Nat) (l:List Nat):(zdP s a l).length≤l.length * 64:=zlE l fun b=>by rw[zkw];exact zfu s
theorem zqc (m s:Nat) (l:List Nat):(zfA m s l).length≤l.length * 4096:=zlE l fun b=>by have:=zkx s b (zar m);have:=zfu m;omega
theorem zky (h m s:Nat):zfA m s (zar h)=zhQ h m s:=rfl
theorem ziq (a b:Nat) (l:List Nat) (c:Nat):zdw a b (l++[c])=zdw a b l++[a * 3600+b * 60+c]:=by simp[zdw]
theorem zn5 (s a:Nat) (l:List Nat) (b:Nat):zdP s a (l++[b])=zdP s a l++zdw a b (zar s):=by simp[zdP]
theorem zn6 (m s:Nat) (l:List Nat) (a:Nat):zfA m s (l++[a])=zfA m s l++zdP s a (zar m):=by simp[zfA]
theorem zem (w:World) (o:Obj) (v:Value) (t:TypeId):((w.alloc o).alloc (.cells #[v] t)).cell? ⟨w.heap.size+1,0,none⟩=some v:=by
 have h:(w.alloc o).heap.size=w.heap.size+1:=by simp
 rw[←h];exact zaa rfl rfl
theorem zhm (w:World) (o:Obj) (v:Value) (t:TypeId):((w.alloc (.cells #[v] t)).alloc o).cell? ⟨w.heap.size,0,none⟩=some v:=
 ((zad ((waC _ (w.alloc (.cells #[v] t))).alloc (waJ _) o)).1 w.heap.size 0 (by simp)).trans (zaa rfl rfl)
theorem ze5 (w:World) (x y z:Value) (t t' t'':TypeId):(((w.alloc (.cells #[x] t)).alloc (.cells #[y] t')).alloc (.cells #[z] t'')).cell? ⟨w.heap.size,0,none⟩=some x∧
 (((w.alloc (.cells #[x] t)).alloc (.cells #[y] t')).alloc (.cells #[z] t'')).cell? ⟨w.heap.size+1,0,none⟩=some y∧(((w.alloc (.cells #[x] t)).alloc (.cells #[y] t')).alloc (.cells #[z] t'')).cell? ⟨w.heap.size+1+1,0,none⟩=some z:=by
 have hb:=(waC _ ((w.alloc (.cells #[x] t)).alloc (.cells #[y] t'))).alloc (waJ _) (.cells #[z] t'');have h2:=zem (w.alloc (.cells #[x] t)) (.cells #[y] t') z t'';rw[World.size_alloc] at h2;exact⟨((zad hb).1 _ _ (by simp;omega)).trans (zhm _ _ _ _),((zad hb).1 _ _ (by simp)).trans (zem _ _ _ _),h2⟩
theorem zjk (m:Nat):(zar m).attach.map (fun x:{k // k∈zar m}=>x.1)=zar m:=List.attach_map_subtype_val _
def zdx {l:List Nat} (p:List {k // k∈l}):List Nat:=p.map fun x=>x.1
theorem zdy {l:List Nat} (p:List {k // k∈l}) (x:{k // k∈l}):zdx (p++[x])=zdx p++[x.1]:=by simp[zdx]
theorem zdQ (l:List Nat):zdx l.attach=l:=List.attach_map_subtype_val _
theorem zkz {l:List Nat} {p0:List {k // k∈l}} {a:{k // k∈l}} (hpre:p0++[a]<+:l.attach):∃r:List Nat,l=zdx p0++a.1::r:=by
 obtain⟨r,hr⟩:=hpre;have h:=congrArg zdx hr;rw[zdQ] at h;exact⟨zdx r,h.symm.trans (by simp[zdx])⟩
theorem zmM {f:Nat→List Nat} {l x r q:List Nat} {a:Nat} (e:l=x++a::r) (hq:q<+:f a):x.flatMap f++q<+:l.flatMap f:=by
 obtain⟨q2,hq2⟩:=hq;rw[e];refine⟨q2++r.flatMap f,?_⟩;rw[List.flatMap_append,List.flatMap_cons,←hq2];simp
theorem zmN {l:List Nat} (p:List {k // k∈l}):(zdx p).length=p.length:=by simp[zdx]
theorem zgG (M:Nat→Prop) (n bh bm bs h m s:Nat) (hh:h<16777216) (hm:m<1152921504606846976) (hs:s<1152921504606846976) (nh:¬M bh) (nm:¬M bm) (ns:¬M bs) (nt:¬M 0):
 SeqR Fence.wide n prog 276 #[.pointer (some ⟨bh,0,none⟩),.pointer (some ⟨bm,0,none⟩),.pointer (some ⟨bs,0,none⟩)] (fun k:Nat=> #[.int .i64 (k:Int)]) (fun k _=>k<86400) (KpM M) (fun xs=>xs=zhQ h m s) (fun pre=>pre<+:zhQ h m s) 300000 0 0
  (fun W=>(∀k,M k→k<W.heap.size)∧W.cell? ⟨bh,0,none⟩=some (.int .u64 h)∧W.cell? ⟨bm,0,none⟩=some (.int .u64 m)∧W.cell? ⟨bs,0,none⟩=some (.int .u64 s)∧Tz W):=by
 have eg:∀args w,(callFunc 196 args).run prog w=.ok (.enter 196 args) w:=enters_of func196 kQ rfl;intro l J Jx W ⟨hM,ch,cm,cs,hT⟩ hJ hJx hY h0;have HA:=waV (fun k V B (hc:V.cell? ⟨B,0,none⟩=some (.int .u64 h))=>wbP (n:=k).2 (zeE h oQ B 0 1 V hc))
 have HA2:=waV (fun l' k V B (hc:V.cell? ⟨B,0,none⟩=some (.int .u64 m))=>zam (m:=k) (l':=l') (zeE m oQ B 0 1 V hc))
 have HA3:=waV (fun l' k V B (hc:V.cell? ⟨B,0,none⟩=some (.int .u64 s))=>zam (m:=k) (l':=l') (zeE s oQ B 0 1 V hc))
 have HY:=waV hY;clear hY;have hbh:=waR W _ ch;have hbm:=waR W _ cm;have hbs:=waR W _ cs
 suffices hs20:∀k,CallsIn Fence.wide (k+20) prog 276 (#[.func (.yield l) #[] #[]]++ #[.pointer (some ⟨bh,0,none⟩),.pointer (some ⟨bm,0,none⟩),.pointer (some ⟨bs,0,none⟩)]) W fun e W'=>(∃v,e=.returned v)∧((∃xs,xs=zhQ h m s∧J xs W')∨(∃pre,pre<+:zhQ h m s∧Jx pre W')) from wbP.2 (wbP.1 (hs20 0))
 intro k;refine callsIn_of_wp_marks func276 rfl trivial ?_ rfl;simp only[ntmps276,wbQ,waG,List.length_nil,Nat.reduceAdd,Nat.reduceSub,wbR,wbS,List.push_toArray,List.append_toArray,wbN,wbT]
 gi_wp2
 apply zdv;apply wpIn_seq;apply wpIn_label;simp only[Exit.then]
 gi_wp2_with (refine⟨trivial,?_⟩;gi_at_call 138;refine(HA.out _ _ _ (zem _ _ _ _)).mono ?_;rintro e w1 ⟨bA,rfl,cA,hlA,hq1⟩)
 have hb1:Below W.heap.size W w1:=((((waC _ W).alloc (waJ _) _).alloc (by simp) _).trans (hq1.mono (by simp;omega)))
 have cY1:w1.cell? ⟨W.heap.size,0,none⟩=some (.func (.yield l) #[] #[]):=((zad hq1).1 _ _ (by simp;omega)).trans (zhm _ _ _ _)
 have cm1:w1.cell? ⟨bm,0,none⟩=some (.int .u64 m):=((zad hb1).1 _ _ hbm).trans cm;have cs1:w1.cell? ⟨bs,0,none⟩=some (.int .u64 s):=((zad hb1).1 _ _ hbs).trans cs;have hT1:=hT.below hb1;have hJ1:J [] w1:=hJ _ _ _ h0 ((Rl.refl _ _ _ W).below hb1);have hlA2:W.heap.size+2≤bA:=by simpa using hlA
 have hz1:W.heap.size+3≤w1.heap.size:=by have h:bA<w1.heap.size:=waR w1 _ cA;omega
 have nM:∀k,W.heap.size≤k→¬M k:=fun k h1 h2=>by have:=hM k h2;omega
 clear hq1 hT h0 ch cm cs hbh hbm hbs hb1 hlA;have bh64:h<18446744073709551616:=by omega
 have bm64:m<18446744073709551616:=by omega
 have bs64:s<18446744073709551616:=by omega
 refine wpIn_rangeFunc_ownH rfl oQ (gf:=196) (lb:=#[.pointer (some ⟨bA,0,none⟩)]) rfl trivial eg
  (zcu (fun x:{k // k∈zar h}=>x.1) (zar h).attach (KpM M) (k+19) bA h oQ (zjk h) bh64 (fun _ _ hk hc=>hk.cell hc (nM _ oQ)) (fun _ _ hk ht=>ht.kpM hk nt) w1 cA hT1)
  (fun h k=>h.trans k) (fun V l o o' _ hl ho _=>KpM.putObj o' hl ho) (waC _ _) (fun _=>rfl)
  (fun pre V=>J (zfA m s (zdx pre)) V∧KpM M w1 V)
  (fun c pre V=>c=.exit 0∧∃p0 a q,pre=p0++[a]∧q<+:zdP s a.1 (zar m)∧Jx (zfA m s (zdx p0)++q) V)
  (OwnFrom.and (zbc (lo:=0) (hi:=0) (fun _ X Y hs hr=>hJ _ X Y hs (hr.mono oQ))) zc0)
  (fun c=>zbc (lo:=0) (hi:=0) (fun _ X Y hs hr=>by obtain⟨e,p0,a,q,e2,e3,hj⟩:=hs;exact⟨e,p0,a,q,e2,e3,hJx _ X Y hj (hr.mono oQ)⟩))
  ⟨hJ1,KpM.refl _ _⟩
  (fun x a' V=>∃Bx,w1.heap.size≤Bx∧Boxed V Bx 3 (.int .i64 (x.1:Int))∧a'={tmps:=#[.func (.yield l) #[] #[],.pointer (some ⟨bh,0,none⟩),.pointer (some ⟨bm,0,none⟩),.pointer (some ⟨bs,0,none⟩),.pointer (some ⟨W.heap.size,0,none⟩),.pointer (some ⟨Bx,0,none⟩),undef,undef,.int .u64 h,.slice (some ⟨W.heap.size+1,0,none⟩) 1 1,.func (.func 196) #[] #[.pointer (some ⟨bA,0,none⟩)],.int .i64 (x.1:Int),undef,undef,undef,undef,undef,undef,undef,undef,undef,undef,undef,undef,undef,undef,undef,undef,undef,undef],defers:=[]})
  (fun x a' _ X Y row hs hg hr=>by obtain⟨Bx,e1,e2,e3⟩:=hs;exact⟨Bx,e1,boxed_own Bx 3 (fun(_:Unit)=>Value.int .i64 (x.1:Int)) () X Y row e2 hg (fun r e=>(hr r e).2),e3⟩)
  ?assign ?body ?done ?stop
 case assign=>
  rintro l1 pre x V K ⟨hj,hk⟩ hK
  gi_wp2
  exact hK _ _ ((KeepsOthers.alloc _ _).from _) ((KpM.refl _ V).alloc _) ⟨hJ _ _ _ hj ((Rl.refl _ _ _ V).alloc _),hk.alloc _⟩ ⟨V.heap.size,hk.size,Boxed.new V _ _,rfl⟩
 case body=>
  rintro l1 pre a a' V hl1 ⟨r1,hr1⟩ ⟨hj,hk⟩ ⟨Bx,hBx,bX,rfl⟩ hlt;have cmV:=hk.cell cm1 nm;have hsV:=hk.size;have hmV:=waR V _ cmV
  gi_wp2_with (refine⟨trivial,?_⟩;gi_at_call 138;refine(HA2.out l1 _ _ _ (zaa rfl rfl)).mono ?_;rintro e w2 ⟨bB,rfl,cB,hlB,hq2⟩)
  have hb2:Below V.heap.size V w2:=((waC _ V).alloc (waJ _) _).trans (hq2.mono (by simp))
  have hr2:w2.heap[l1]?=some (.loop r1):=(hb2.block l1 (waL.1 hr1).1).trans hr1;have hj2:=hJ _ _ _ hj ((Rl.refl _ _ _ V).below hb2);have hk2:KpM M V w2:=KpM.of_below hb2;have hT2:=(hT1.kpM hk nt).below hb2;have hs2:=hb2.size;have kf2:KeepsFrom w1.heap.size V w2:=⟨hb2.size,fun i o _ h2 _=>(hb2.block i (waL.1 h2).1).trans h2⟩
  have hBxV:=bX.lt;have hBn:V.heap.size≤bB:=waW (by simp) hlB
  refine wpIn_rangeFunc_ownN (l₀:=l1) (r₀:=r1) rfl hr2 oQ (gf:=196) (lb:=#[.pointer (some ⟨bB,0,none⟩)]) rfl trivial eg
   ((zcu (fun x:{k // k∈zar m}=>x.1) (zar m).attach (KpM M) (k+17) bB m oQ (zjk m) bm64 (fun _ _ hk hc=>hk.cell hc (nM _ oQ)) (fun _ _ hk ht=>ht.kpM hk nt) w2 cB hT2).inRound l1)
   (fun h k=>h.trans k) (fun V l o o' _ hl ho _=>KpM.putObj o' hl ho) (waC _ _) (fun _=>rfl)
   (fun pre' V'=>(J (zfA m s (zdx pre)++zdP s a.1 (zdx pre')) V'∧KpM M V V')∧KeepsFrom w1.heap.size V V')
   (fun c pre' V'=>(c=.exit 0∧∃p0 b q,pre'=p0++[b]∧q<+:zdw a.1 b.1 (zar s)∧Jx (zfA m s (zdx pre)++(zdP s a.1 (zdx p0)++q)) V')∧KeepsFrom w1.heap.size V V')
   (OwnFrom.and (OwnFrom.and (zbc (lo:=0) (hi:=0) (fun _ X Y hs hr=>hJ _ X Y hs (hr.mono oQ))) zc0) (ownFrom_keepsFrom hb2.size))
   (fun c=>OwnFrom.and (zbc (lo:=0) (hi:=0) (fun _ X Y hs hr=>by obtain⟨e,p0,b,q,e2,e3,hj⟩:=hs;exact⟨e,p0,b,q,e2,e3,hJx _ X Y hj (hr.mono oQ)⟩)) (ownFrom_keepsFrom hb2.size))
   ⟨⟨by simpa[zdx,zdP] using hj2,hk2⟩,kf2⟩
   (fun x a' V'=>∃By,V.heap.size≤By∧Boxed V' By 3 (.int .i64 (x.1:Int))∧a'={tmps:=#[.func (.yield l) #[] #[],.pointer (some ⟨bh,0,none⟩),.pointer (some ⟨bm,0,none⟩),.pointer (some ⟨bs,0,none⟩),.pointer (some ⟨W.heap.size,0,none⟩),.pointer (some ⟨Bx,0,none⟩),.pointer (some ⟨By,0,none⟩),undef,.int .u64 h,.slice (some ⟨W.heap.size+1,0,none⟩) 1 1,.func (.func 196) #[] #[.pointer (some ⟨bA,0,none⟩)],.int .i64 (a.1:Int),.int .u64 m,.slice (some ⟨V.heap.size,0,none⟩) 1 1,.func (.func 196) #[] #[.pointer (some ⟨bB,0,none⟩)],.int .i64 (x.1:Int),undef,undef,undef,undef,undef,undef,undef,undef,undef,undef,undef,undef,undef,undef],defers:=[]})
   (fun x a' _ X Y row hs hg hr=>by obtain⟨By,e1,e2,e3⟩:=hs;exact⟨By,e1,boxed_own By 3 (fun(_:Unit)=>Value.int .i64 (x.1:Int)) () X Y row e2 hg (fun r e=>(hr r e).2),e3⟩)
   ?assign2 ?body2 ?done2 ?stop2
  case assign2=>
   rintro l2 pre' x V' K ⟨⟨hj',hk'⟩,hf'⟩ hK
   gi_wp2
   exact hK _ _ ((KeepsOthers.alloc _ _).from _) ((KpM.refl _ V').alloc _) ⟨⟨hJ _ _ _ hj' ((Rl.refl _ _ _ V').alloc _),hk'.alloc _⟩,hf'.trans ((KeepsOthers.alloc _ _).from _)⟩ ⟨V'.heap.size,hk'.size,Boxed.new V' _ _,rfl⟩
  case body2=>
   rintro l2 pre' b a' V' hl2 ⟨r2',hr2'⟩ ⟨⟨hj',hk'⟩,hf'⟩ ⟨By,hBy,bY,rfl⟩ hlt';have csV:=(hk.trans hk').cell cs1 ns;have hsV':=hk'.size;have hmV':=waR V' _ csV
   gi_wp2_with (refine⟨trivial,?_⟩;gi_at_call 138;refine(HA3.out l2 _ _ _ (zaa rfl rfl)).mono ?_;rintro e w3 ⟨bC,rfl,cC,hlC,hq3⟩)
   have hb3:Below V'.heap.size V' w3:=((waC _ V').alloc (waJ _) _).trans (hq3.mono (by simp))
   have hr3:w3.heap[l2]?=some (.loop r2'):=(hb3.block l2 (waL.1 hr2').1).trans hr2';have hj3:=hJ _ _ _ hj' ((Rl.refl _ _ _ V').below hb3);have hk3:KpM M V' w3:=KpM.of_below hb3;have hT3:=((hT1.kpM hk nt).kpM hk' nt).below hb3;have kf3:KeepsFrom w1.heap.size V' w3:=⟨hb3.size,fun i o _ h2 _=>(hb3.block i (waL.1 h2).1).trans h2⟩
   have hByV:=bY.lt;have hs3:=hb3.size;have hCn:V'.heap.size≤bC:=waW (by simp) hlC
   have cYV:=(hk.trans hk').cell cY1 (nM _ (waJ _));have cXV:V'.cell? ⟨Bx,0,none⟩=some (.int .i64 (a.1:Int)):=hk'.cell bX.cell (nM _ oQ);have cZV:=bY.cell;refine wpIn_rangeFunc_ownN (l₀:=l2) (r₀:=r2') rfl hr3 oQ (gf:=196) (lb:=#[.pointer (some ⟨bC,0,none⟩)]) rfl trivial eg
    ((zcu (fun x:{k // k∈zar s}=>x.1) (zar s).attach (KpM M) (k+15) bC s oQ (zjk s) bs64 (fun _ _ hk hc=>hk.cell hc (nM _ oQ)) (fun _ _ hk ht=>ht.kpM hk nt) w3 cC hT3).inRound l2)
    (fun h k=>h.trans k) (fun V l o o' _ hl ho _=>KpM.putObj o' hl ho) (waC _ _) (fun _=>rfl)
    (fun pre'' V''=>(J (zfA m s (zdx pre)++(zdP s a.1 (zdx pre')++zdw a.1 b.1 (zdx pre''))) V''∧KpM M V' V'')∧KeepsFrom w1.heap.size V' V'')
    (fun c pre'' V''=>(c=.exit 0∧Jx (zfA m s (zdx pre)++(zdP s a.1 (zdx pre')++zdw a.1 b.1 (zdx pre''))) V'')∧KeepsFrom w1.heap.size V' V'')
    (OwnFrom.and (OwnFrom.and (zbc (lo:=0) (hi:=0) (fun _ X Y hs hr=>hJ _ X Y hs (hr.mono oQ))) zc0) (ownFrom_keepsFrom hb3.size))
    (fun c=>OwnFrom.and (zbc (lo:=0) (hi:=0) (fun _ X Y hs hr=>⟨hs.1,hJx _ X Y hs.2 (hr.mono oQ)⟩)) (ownFrom_keepsFrom hb3.size))
    ⟨⟨by simpa[zdx,zdw] using hj3,hk3⟩,kf3⟩
    (fun x a' _=>a'={tmps:=#[.func (.yield l) #[] #[],.pointer (some ⟨bh,0,none⟩),.pointer (some ⟨bm,0,none⟩),.pointer (some ⟨bs,0,none⟩),.pointer (some ⟨W.heap.size,0,none⟩),.pointer (some ⟨Bx,0,none⟩),.pointer (some ⟨By,0,none⟩),.int .i64 (x.1:Int),.int .u64 h,.slice (some ⟨W.heap.size+1,0,none⟩) 1 1,.func (.func 196) #[] #[.pointer (some ⟨bA,0,none⟩)],.int .i64 (a.1:Int),.int .u64 m,.slice (some ⟨V.heap.size,0,none⟩) 1 1,.func (.func 196) #[] #[.pointer (some ⟨bB,0,none⟩)],.int .i64 (b.1:Int),.int .u64 s,.slice (some ⟨V'.heap.size,0,none⟩) 1 1,.func (.func 196) #[] #[.pointer (some ⟨bC,0,none⟩)],.int .i64 (x.1:Int),undef,undef,undef,undef,undef,undef,undef,undef,undef,undef],defers:=[]})
    (fun _ _ _ _ _ _ hs _ _=>hs)
    ?assign3 ?body3 ?done3 ?stop3
   case assign3=>
    rintro l3 pre'' x V'' K hi hK
    gi_wp2
    exact hK _ _ (KeepsFrom.refl _ _) (KpM.refl _ _) hi rfl
   case body3=>
    rintro l3 pre'' c a' V'' hl3 _ ⟨⟨hj'',hk''⟩,hf''⟩ rfl hlt'';have cY:=hk''.cell cYV (nM _ (waJ _));have cX:=hk''.cell cXV (nM _ oQ);have cZ:=hk''.cell cZV (nM _ oQ);have ha:=zfz (k:=24) hh a.2;have hb:=zfz (k:=60) hm b.2;have hc:=zfz (k:=60) hs c.2;have l1':=zqc m s (zdx pre);have l2':=zkx s a.1 (zdx pre');have l3':=zkw a.1 b.1 (zdx pre'');rw[zmN] at l1' l2' l3';obtain⟨fn,tmps,assign,body,hy,hR⟩:=HY.out _ (a.1 * 3600+b.1 * 60+c.1) V'' hj'' oQ (by simp only[waF];omega)
    have HR:=waV hR;have e0:((a.1 * 3600+b.1 * 60+c.1:Nat):Int)=(a.1:Int) * 3600+(b.1:Int) * 60+(c.1:Int):=by push_cast;rfl
    rw[e0] at hy;clear hR hj'' e0;have e5:∀x y z w:List Nat,(x++(y++z))++w=x++(y++(z++w)):=fun x y z w=>by simp
    gi_wp2
    refine(zel (l':=l3) HR.out).mono ?_;rintro e W4 (⟨rfl,hj4,hk4,hf4⟩|⟨rfl,hj4,hf4⟩)
    ·rw[e5,←ziq,←zdy] at hj4;have HJ4:=waV hj4;clear hj4 HR hy
     gi_wp2
     exact⟨zaz hf4 oQ,hk4,⟨HJ4.out,hk''.trans hk4⟩,hf''.trans (zaz hf4 oQ)⟩
    ·rw[e5,←ziq,←zdy] at hj4;have HJ4:=waV hj4;clear hj4 HR hy
     gi_wp2
     exact⟨zaz hf4 oQ,⟨rfl,HJ4.out⟩,hf''.trans (zaz hf4 oQ)⟩
   case done3=>
    rintro zs V'' rfl ⟨⟨hj'',hk''⟩,hf''⟩;rw[zdQ] at hj''
    gi_wp2
    exact⟨zaz hf'' (by omega),hk'',⟨by rw[zdy,zn5];exact hj'',hk'.trans hk''⟩,hf'.trans hf''⟩
   case stop3=>
    rintro c pre'' V'' hpre ⟨⟨rfl,hj''⟩,hf''⟩;have HP:Hid (zdw a.1 b.1 (zdx pre'')<+:zdw a.1 b.1 (zar s)):=by
     show _<+:_;obtain⟨r,hr⟩:=hpre;have h:=congrArg zdx hr;rw[zdQ] at h;exact⟨zdw a.1 b.1 (zdx r),by unfold zdw;rw[←List.map_append];congr 1;exact(by simpa[zdx] using h)⟩
    have HJ:=waV hj'';clear hpre hj''
    gi_wp2
    exact⟨zaz hf'' oQ,⟨rfl,pre',b,_,rfl,HP.out,HJ.out⟩,hf'.trans hf''⟩
  case done2=>
   rintro zs V' rfl ⟨⟨hj',hk'⟩,hf'⟩;rw[zdQ] at hj'
   gi_wp2
   exact⟨zaz hf' (by omega),hk',by rw[zdy,zn6];exact hj',hk.trans hk'⟩
  case stop2=>
   rintro c pre' V' hpre ⟨⟨rfl,p0,b,q,rfl,hq,hj'⟩,hf'⟩;have HP:Hid (zdP s a.1 (zdx p0)++q<+:zdP s a.1 (zar m)):=by
    show _<+:_;obtain⟨r,e⟩:=zkz hpre;exact zmM (f:=fun b=>zdw a.1 b (zar s)) e hq
   have HJ:=waV hj';clear hq hpre hj'
   gi_wp2
   exact⟨zaz hf' oQ,rfl,pre,a,_,rfl,HP.out,HJ.out⟩
 case done=>
  rintro D zs V hD rfl ⟨hj,hk⟩ hKd;rw[zdQ,zky] at hj;have HJ:=waV hj
  gi_wp2
  refine⟨by simp,.inl ⟨_,_,rfl,run_takeDeferred hKd,?_⟩⟩
  exact⟨_,results_none rfl _ _ _,⟨_,rfl⟩,.inl ⟨_,rfl,hJ _ _ _ HJ.out ((Rl.refl _ _ _ V).put _ hKd rfl oQ)⟩⟩
 case stop=>
  rintro D c pre V hD hpre ⟨rfl,p0,a,q,rfl,hq,hj⟩ hKd;have HJ:=waV hj;have HP:Hid (zfA m s (zdx p0)++q<+:zhQ h m s):=by
   show _<+:_;obtain⟨r,e⟩:=zkz hpre;rw[←zky];exact zmM (f:=fun a=>zdP s a (zar m)) e hq
  clear hq hpre hj
  gi_wp2
  refine⟨by simp,.inl ⟨_,_,rfl,run_takeDeferred hKd,?_⟩⟩
  exact⟨_,results_none rfl _ _ _,⟨_,rfl⟩,.inr ⟨_,HP.out,hJx _ _ _ HJ.out ((Rl.refl _ _ _ V).put _ hKd rfl oQ)⟩⟩
def zv7 (h m s:Nat) (w:World) (e:Ending) (w':World):Prop:=
 ∃b1 b2 b3,e=.returned (.func (.func 276) #[] #[.pointer (some ⟨b1,0,none⟩),.pointer (some ⟨b2,0,none⟩),.pointer (some ⟨b3,0,none⟩)])∧w.heap.size≤b1∧w.heap.size≤b2∧w.heap.size≤b3∧
  w'.cell? ⟨b1,0,none⟩=some (.int .u64 (h&&&16777215:Nat))∧w'.cell? ⟨b2,0,none⟩=some (.int .u64 (m&&&1152921504606846975:Nat))∧w'.cell? ⟨b3,0,none⟩=some (.int .u64 (s&&&1152921504606846975:Nat))∧Below w.heap.size w w'
theorem zmO (h m s:Nat) (h1:h<18446744073709551616) (m1:m<18446744073709551616) (s1:s<18446744073709551616) (w:World):Calls prog 267 #[.int .u64 h,.int .u64 m,.int .u64 s] w (zv7 h m s w):=by
 have HH:=waV (fun V=>zmJ h m s h1 m1 s1 V)
 generalize hA:(h&&&16777215:Nat)=A at *;generalize hB:(m&&&1152921504606846975:Nat)=B at *;generalize hC:(s&&&1152921504606846975:Nat)=C at *;go_enter func267,ntmps267;go_wp2_with fail;refine(HH.out _).mono ?_;rintro e w1 ⟨rfl,rfl⟩;go_wp2;go_ret;obtain⟨c0,c1,c2⟩:=ze5 w (.int .u64 A) (.int .u64 B) (.int .u64 C) 33 33 33;exact⟨w.heap.size,w.heap.size+1,w.heap.size+1+1,rfl,by omega,by omega,by omega,by rw[hA];exact c0,by rw[hB];exact c1,by rw[hC];exact c2,by exact zaI⟩
end Go.Proofs.YtgedndlifiihkaaGreatDoor
namespace Go.Proofs.YtgedndlifiihkaaGreatDoor
open Go.Proofs.Tryz
open Go.RowKit
def zv8 (c:Cl) (w:World) (x:Ending) (w':World):Prop:=∃g lb,x=.returned (.func (.func g) #[] lb)∧(∀args w,(callFunc g args).run prog w=.ok (.enter g args) w)∧zhl g lb c w.heap.size w'.heap.size w'∧Below w.heap.size w w'
structure LapI (c:Cl) (cs:Array Value) (gc:Nat→Value) (P:Int→Bool) (F U:Int) (w w':World) (l0 l1 l2 l3 l4 l5 l6 l7:Bool) (t3 t4 t8 t9 t10 t11:Value) (g:Nat) (lb:Array Value) (lo hi b3 b4:Nat):Prop where
 below:Below w.heap.size w w'
 arr:Arr w' w.heap.size 30 gc
 h0:l0=true→t8=.agg cs
 h2:l2=true→t10=.agg cs
 h1:l1=true→t9=.func (.func g) #[] lb∧(∀args w,(callFunc g args).run prog w=.ok (.enter g args) w)∧zby g lb P lo hi w'∧w.heap.size<lo∧hi≤w'.heap.size
 h3:l3=true→t11=.agg #[.int .i64 F,.int .i64 U]
 h4:l4=true→t3=.pointer (some ⟨b3,0,none⟩)∧w.heap.size<b3∧b3<w'.heap.size∧(w'.cell? ⟨b3,0,none⟩).isSome=true∧(∀o,w'.frozen? ⟨b3,o,none⟩=false)∧(l1=true→b3<lo∨hi≤b3)
 h5:l5=true→t4=.pointer (some ⟨b4,0,none⟩)∧w.heap.size<b4∧b4<w'.heap.size∧(w'.cell? ⟨b4,0,none⟩).isSome=true∧(w'.cell? ⟨b4,1,none⟩).isSome=true∧(∀o,w'.frozen? ⟨b4,o,none⟩=false)∧(l1=true→b4<lo∨hi≤b4)
 hne:l4=true→l5=true→b3≠b4
 h6a:l6=true→l1=true∧l3=true∧l4=true∧l5=true
 h6:l6=true→w'.cell? ⟨b3,0,none⟩=some t9
 h7a:l7=true→l1=true∧l3=true∧l4=true∧l5=true∧l6=true
 h7:l7=true→w'.cell? ⟨b4,0,none⟩=some (.int .i64 F)∧w'.cell? ⟨b4,1,none⟩=some (.int .i64 U)
theorem LapI.mono {c:Cl} {cs:Array Value} {gc:Nat→Value} {P:Int→Bool} {F U:Int} {w w' w1:World} {l0 l1 l2 l3 l4 l5 l6 l7:Bool} {t3 t4 t8 t9 t10 t11:Value} {g:Nat} {lb:Array Value} {lo hi b3 b4:Nat}
 (H:LapI c cs gc P F U w w' l0 l1 l2 l3 l4 l5 l6 l7 t3 t4 t8 t9 t10 t11 g lb lo hi b3 b4) (hq:Below w'.heap.size w' w1):LapI c cs gc P F U w w1 l0 l1 l2 l3 l4 l5 l6 l7 t3 t4 t8 t9 t10 t11 g lb lo hi b3 b4:=by
 have c:=fun b o (hl:b<w'.heap.size)=>(zad hq).1 b o hl
 have f:=fun b o (hl:b<w'.heap.size)=>(zad hq).2 b o hl
 have hz:=hq.size;refine⟨zak H.below hq H.below.size,Arr.below H.arr (Arr.lt H.arr dQ) hq,H.h0,H.h2,fun h=>?_,H.h3,fun h=>?_,fun h=>?_,H.hne,H.h6a,fun h=>?_,H.h7a,fun h=>?_⟩
 ·obtain⟨a1,a2,a3,a4,a5⟩:=H.h1 h;exact⟨a1,a2,a3.later (KpI.of_below hq a5),a4,by omega⟩
 ·obtain⟨a1,a2,a3,a4,a5,a6⟩:=H.h4 h;exact⟨a1,a2,by omega,by rw[c _ _ a3];exact a4,fun o=>(f _ _ a3).trans (a5 o),a6⟩
 ·obtain⟨a1,a2,a3,a4,a5,a6,a7⟩:=H.h5 h;exact⟨a1,a2,by omega,by rw[c _ _ a3];exact a4,by rw[c _ _ a3];exact a5,fun o=>(f _ _ a3).trans (a6 o),a7⟩
 ·obtain⟨_,_,a3,_⟩:=H.h4 (H.h6a h).2.2.1;exact(c _ _ a3).trans (H.h6 h)
 ·obtain⟨_,_,a3,_⟩:=H.h5 (H.h7a h).2.2.2.1;exact⟨(c _ _ a3).trans (H.h7 h).1,(c _ _ a3).trans (H.h7 h).2⟩
theorem zlF {lo hi:Nat} {w:World} (a:Addr) (v:Value) (h:a.block<lo∨hi≤a.block):KpI lo hi w (w.setCell a v):=⟨by simp,fun k h1 h2=>wbJ _ _ _ _ oQ⟩
theorem zlG {w:World} {b m:Nat} {g:Nat→Value} (h:Arr w b m g) (a:Addr) (v:Value) (hb:b≠a.block):Arr (w.setCell a v) b m g:=
 ⟨fun j hj=>by rw[waU _ _ _ _ (by intro e;subst e;exact hb rfl)];exact h.1 j hj,fun j=>by rw[waS];exact h.2 j⟩
theorem LapI.set3 {c:Cl} {cs:Array Value} {gc:Nat→Value} {P:Int→Bool} {F U:Int} {w w':World} {l0 l2:Bool} {t3 t4 t8 t9 t10 t11:Value} {g:Nat} {lb:Array Value} {lo hi b3 b4:Nat}
 (H:LapI c cs gc P F U w w' l0 true l2 true true true false false t3 t4 t8 t9 t10 t11 g lb lo hi b3 b4):LapI c cs gc P F U w (w'.setCell ⟨b3,0,none⟩ t9) l0 true l2 true true true true false t3 t4 t8 t9 t10 t11 g lb lo hi b3 b4:=by
 obtain⟨x1,x2,x3,x4,x5,x6⟩:=H.h4 rfl;obtain⟨y1,y2,y3,y4,y5,y6,y7⟩:=H.h5 rfl;have hne:=H.hne rfl rfl;have hz:(w'.setCell ⟨b3,0,none⟩ t9).heap.size=w'.heap.size:=by simp
 have o:∀k,(w'.setCell ⟨b3,0,none⟩ t9).cell? ⟨b4,k,none⟩=w'.cell? ⟨b4,k,none⟩:=fun k=>waU _ _ _ _ (by simp<;>omega)
 obtain⟨v0,hv0⟩:=wbO.1 x4;have hs:(w'.setCell ⟨b3,0,none⟩ t9).cell? ⟨b3,0,none⟩=some t9:=World.cell?_setCell_same' _ _ _ (by rw[hv0];rfl)
 refine⟨H.below.setCell (p:=⟨b3,0,none⟩) (by show w.heap.size≤b3;omega) _,zlG H.arr _ _ (by show w.heap.size≠b3;omega),H.h0,H.h2,fun _=>?_,H.h3,fun _=>⟨x1,x2,by omega,by rw[hs];rfl,fun o=>by rw[waS];exact x5 o,x6⟩,fun _=>⟨y1,y2,by omega,by rw[o];exact y4,by rw[o];exact y5,fun o=>by rw[waS];exact y6 o,y7⟩,fun _ _=>hne,fun _=>⟨rfl,rfl,rfl,rfl⟩,fun _=>hs,by simp,by simp⟩
 obtain⟨a1,a2,a3,a4,a5⟩:=H.h1 rfl;exact⟨a1,a2,a3.later (zlF _ _ (x6 rfl)),a4,by omega⟩
theorem LapI.set4 {c:Cl} {cs:Array Value} {gc:Nat→Value} {P:Int→Bool} {F U:Int} {w w':World} {l0 l2:Bool} {t3 t4 t8 t9 t10 t11:Value} {g:Nat} {lb:Array Value} {lo hi b3 b4:Nat}
 (H:LapI c cs gc P F U w w' l0 true l2 true true true true false t3 t4 t8 t9 t10 t11 g lb lo hi b3 b4):LapI c cs gc P F U w ((w'.setCell ⟨b4,0,none⟩ (.int .i64 F)).setCell ⟨b4,1,none⟩ (.int .i64 U)) l0 true l2 true true true true true t3 t4 t8 t9 t10 t11 g lb lo hi b3 b4:=by
 obtain⟨x1,x2,x3,x4,x5,x6⟩:=H.h4 rfl;obtain⟨y1,y2,y3,y4,y5,y6,y7⟩:=H.h5 rfl;have hne:=H.hne rfl rfl;have h6:=H.h6 rfl;obtain⟨W,hW⟩:∃W,(w'.setCell ⟨b4,0,none⟩ (.int .i64 F)).setCell ⟨b4,1,none⟩ (.int .i64 U)=W:=⟨_,rfl⟩;have hz:W.heap.size=w'.heap.size:=by rw[←hW];simp
 have o:∀k,W.cell? ⟨b3,k,none⟩=w'.cell? ⟨b3,k,none⟩:=fun k=>by rw[←hW,waU _ _ _ _ (by simp<;>omega),waU _ _ _ _ (by simp<;>omega)]
 have fr:∀b k,W.frozen? ⟨b,k,none⟩=w'.frozen? ⟨b,k,none⟩:=fun b k=>by rw[←hW,waS,waS]
 have s0:W.cell? ⟨b4,0,none⟩=some (.int .i64 F):=by
  rw[←hW,waU _ _ _ _ (by simp)]
  obtain⟨v0,hv0⟩:=wbO.1 y4;exact World.cell?_setCell_same' _ _ _ (by rw[hv0];rfl)
 have s1:W.cell? ⟨b4,1,none⟩=some (.int .i64 U):=by
  rw[←hW];obtain⟨v0,hv0⟩:=wbO.1 y5;exact World.cell?_setCell_same' _ _ _ (by rw[waU _ _ _ _ (by simp),hv0];rfl)
 have kp:KpI lo hi w' W:=by rw[←hW];exact(zlF _ _ (y7 rfl)).trans (zlF _ _ (y7 rfl))
 have hb:Below w.heap.size w W:=by rw[←hW];exact(H.below.setCell (p:=⟨b4,0,none⟩) (by show w.heap.size≤b4;omega) _).setCell (p:=⟨b4,1,none⟩) (by show w.heap.size≤b4;omega) _
 have ha:Arr W w.heap.size 30 gc:=by rw[←hW];exact zlG (zlG H.arr _ _ (by show w.heap.size≠b4;omega)) _ _ (by show w.heap.size≠b4;omega)
 rw[hW];refine⟨hb,ha,H.h0,H.h2,fun _=>?_,H.h3,fun _=>⟨x1,x2,by omega,by rw[o];exact x4,fun o=>by rw[fr];exact x5 o,x6⟩,fun _=>⟨y1,y2,by omega,by rw[s0];rfl,by rw[s1];rfl,fun o=>by rw[fr];exact y6 o,y7⟩,fun _ _=>hne,fun _=>⟨rfl,rfl,rfl,rfl⟩,fun _=>by rw[o];exact h6,fun _=>⟨rfl,rfl,rfl,rfl,rfl⟩,fun _=>⟨s0,s1⟩⟩
 obtain⟨a1,a2,a3,a4,a5⟩:=H.h1 rfl;exact⟨a1,a2,a3.later kp,a4,by omega⟩
theorem zss (c:Cl) (hc:zbD c) (hs:c.s≤9223372036854775807) (w:World):Calls prog 115 #[.agg (clA c)] w (zv8 c w):=by
 have eg:∀args w,(callFunc 174 args).run prog w=.ok (.enter 174 args) w:=enters_of func174 kQ rfl;have EG:=waV eg;have HD:=waV (fun W=>zpF c hc W)
 have HS:=waV (fun W=>zj9 c W)
 have HY:=waV (fun W=>zhk (spF c) (spU c) W)
 have HI:=waV (zbN c);have HA:=waV (fun w b h=>@zuk c w b h)
 have hX:Below w.heap.size w (w.alloc (.cells (clA c) 61))∧Arr (w.alloc (.cells (clA c) 61)) w.heap.size 30 (gC c):=⟨(waC _ w).alloc (waJ _) _,zg3 w c 61⟩;have HX:=waV hX;have h1c:(Value.agg (clA c)).oneCell'=false:=rfl;have HR:Hid (∀bS bF bU bH bA bC g lb sm F1 U1 lo' hi' w',(w.heap.size≤bS∧bS<w'.heap.size)→(w.heap.size≤bF∧bF<w'.heap.size)→(w.heap.size≤bU∧bU<w'.heap.size)→(w.heap.size≤bH∧bH<w'.heap.size)→(w.heap.size≤bA∧bA<w'.heap.size)→(w.heap.size≤bC∧bC<w'.heap.size)→w.heap.size≤lo'→hi'≤w'.heap.size→
  w'.cell? ⟨bS,0,none⟩=some (.bool sm)→w'.cell? ⟨bF,0,none⟩=some (.int .i64 F1)→w'.cell? ⟨bU,0,none⟩=some (.int .i64 U1)→w'.cell? ⟨bH,0,none⟩=some (.func (.func g) #[] lb)→w'.cell? ⟨bA,0,none⟩=some (.int .i64 (spF c))→w'.cell? ⟨bA,1,none⟩=some (.int .i64 (spU c))→Arr w' bC 30 (gC c)→
  (∀args w,(callFunc g args).run prog w=.ok (.enter g args) w)→zby g lb (zka c) lo' hi' w'→((sm=false∧spU c<0)∨(sm=true∧0≤spU c∧F1=spF c / 86400∧U1=spU c / 86400))→
  zhl 174 #[.pointer (some ⟨bS,0,none⟩),.pointer (some ⟨bF,0,none⟩),.pointer (some ⟨bU,0,none⟩),.pointer (some ⟨bH,0,none⟩),.pointer (some ⟨bA,0,none⟩),.pointer (some ⟨bC,0,none⟩)] c w.heap.size w'.heap.size w'):=
  fun bS bF bU bH bA bC g lb sm F1 U1 lo' hi' w' a1 a2 a3 a4 a5 a6 a7 a8 b1 b2 b3 b4 b5 b6 b7 b8 b9 b10=>zp4 c bS bF bU bH bA bC g lb sm F1 U1 w.heap.size w'.heap.size lo' hi' w' a1 a2 a3 a4 a5 a6 a7 a8 (waJ _) b1 b2 b3 b4 b5 b6 b7 b8 b9 hs b10
 have hy:(spU c<0∧zkr (spF c) (spU c)=.tuple #[.int .i64 0,.int .i64 0,.bool false])∨(0≤spU c∧zkr (spF c) (spU c)=.tuple #[.int .i64 (spF c / 86400),.int .i64 (spU c / 86400),.bool true]):=by
  obtain⟨e1,e2⟩:=zp2 c.f c.t;unfold zkr;have e3:zaE (spF c) (spU c)=spF c:=e1;have e4:zas (spF c) (spU c)=spU c:=e2;rw[e3,e4]
  by_cases h:spU c<0
  ·exact .inl ⟨h,if_pos h⟩
  ·exact .inr ⟨by omega,if_neg h⟩
 have hsp:spF c=zaE c.f c.t∧spU c=zas c.f c.t:=⟨rfl,rfl⟩;rw[←hsp.1,←hsp.2] at HS;clear hX hc eg hsp;generalize zka c=P at *;generalize spF c=F at *;generalize spU c=U at *;generalize gC c=gc at *;generalize clA c=cs at *;go_enter func115,ntmps115;go_wp2_with fail;refine zdO kQ kQ (I:=fun L a w'=>∃(l0 l1 l2 l3 l4 l5 l6 l7:Bool) (t3 t4 t8 t9 t10 t11:Value) (g:Nat) (lb:Array Value) (lo hi b3 b4:Nat),L=#[l0,l1,l2,l3,l4,l5,l6,l7]∧
  a={tmps:=#[.agg cs,.pointer (some ⟨w.heap.size,0,none⟩),.nilFunc,t3,t4,undef,undef,undef,t8,t9,t10,t11,undef,undef,undef,undef,undef,undef,undef],defers:=[]}∧
  Hid (LapI c cs gc P F U w w' l0 l1 l2 l3 l4 l5 l6 l7 t3 t4 t8 t9 t10 t11 g lb lo hi b3 b4)) ?size ?start ?step ?done
 case size=>
  rintro L a w' ⟨l0,l1,l2,l3,l4,l5,l6,l7,t3,t4,t8,t9,t10,t11,g,lb,lo,hi,b3,b4,rfl,_⟩;rfl
 case start=>exact⟨false,false,false,false,false,false,false,false,_,_,_,_,_,_,0,#[],0,0,0,0,rfl,rfl,⟨HX.out.1.drew,HX.out.2,by simp,by simp,by simp,by simp,by simp,by simp,by simp,by simp,by simp,by simp,by simp⟩⟩
 case step=>
  rintro L a w' i o ⟨l0,l1,l2,l3,l4,l5,l6,l7,t3,t4,t8,t9,t10,t11,g,lb,lo,hi,b3,b4,rfl,rfl,H⟩ ho h2 h3;have hi8:i<8:=(waL.1 ho).1;obtain rfl|rfl|rfl|rfl|rfl|rfl|rfl|rfl:i=0∨i=1∨i=2∨i=3∨i=4∨i=5∨i=6∨i=7:=by omega
  ·have e0:l0=false:=h2;subst e0;obtain rfl:=waB ho;refine zcZ rfl ?_;have HB:=waV (zcH (HA.out _ _ H.out.arr))
   go_wp2_with (first|(refine zai (by rfl) 61 _ rfl cs w.heap.size 0 rfl underlying61 rfl HI.out HB.out ?_)|fail)
   exact⟨true,l1,l2,l3,l4,l5,l6,l7,t3,t4,.agg cs,t9,t10,t11,g,lb,lo,hi,b3,b4,rfl,rfl,{H.out with h0:=fun _=>rfl}⟩
  ·have e0:l1=false:=h2;subst e0;obtain rfl:=waB ho;have d0:l0=true:=h3 ⟨0,.data⟩ (by simp) rfl
   obtain rfl:=H.out.h0 d0;have n6:l6=false:=by cases h:l6 with|false=>rfl|true=>exact absurd (H.out.h6a h).1 dQ
   have n7:l7=false:=by cases h:l7 with|false=>rfl|true=>exact absurd (H.out.h7a h).1 dQ
   subst n6 n7;clear h3 h2 ho;refine zcZ rfl ?_
   go_wp2_with (go_at_call 171;refine(HD.out _).mono ?_;rintro e w1 ⟨g',lb',rfl,hg,hp,hq1⟩)
   have HM:=H.out.mono hq1;have hz:=Arr.lt H.out.arr dQ;exact⟨l0,true,l2,l3,l4,l5,false,false,t3,t4,.agg cs,.func (.func g') #[] lb',t10,t11,g',lb',w'.heap.size,w1.heap.size,b3,b4,rfl,rfl,⟨HM.below,HM.arr,HM.h0,HM.h2,fun _=>⟨rfl,hg,hp,hz,waJ _⟩,HM.h3,
    fun h=>by obtain⟨a1,a2,a3,a4,a5,a6⟩:=HM.h4 h;exact⟨a1,a2,a3,a4,a5,fun _=>.inl (H.out.h4 h).2.2.1⟩,fun h=>by obtain⟨a1,a2,a3,a4,a5,a6,a7⟩:=HM.h5 h;exact⟨a1,a2,a3,a4,a5,a6,fun _=>.inl (H.out.h5 h).2.2.1⟩,HM.hne,by simp,by simp,by simp,by simp⟩⟩
  ·have e0:l2=false:=h2;subst e0;obtain rfl:=waB ho;clear h3 h2 ho;refine zcZ rfl ?_;have HB:=waV (zcH (HA.out _ _ H.out.arr))
   go_wp2_with (first|(refine zai (by rfl) 61 _ rfl cs w.heap.size 0 rfl underlying61 rfl HI.out HB.out ?_)|fail)
   exact⟨l0,l1,true,l3,l4,l5,l6,l7,t3,t4,t8,t9,.agg cs,t11,g,lb,lo,hi,b3,b4,rfl,rfl,{H.out with h2:=fun _=>rfl}⟩
  ·have e0:l3=false:=h2;subst e0;obtain rfl:=waB ho;have d2:l2=true:=h3 ⟨2,.data⟩ (by simp) rfl
   obtain rfl:=H.out.h2 d2;have n6:l6=false:=by cases h:l6 with|false=>rfl|true=>exact absurd (H.out.h6a h).2.1 dQ
   have n7:l7=false:=by cases h:l7 with|false=>rfl|true=>exact absurd (H.out.h7a h).2.1 dQ
   subst n6 n7;clear h3 h2 ho;refine zcZ rfl ?_
   go_wp2_with (go_at_call 172;refine(HS.out _).mono ?_;rintro e w1 ⟨rfl,hq1⟩)
   have HM:=H.out.mono hq1;exact⟨l0,l1,l2,true,l4,l5,false,false,t3,t4,t8,t9,.agg cs,.agg #[.int .i64 F,.int .i64 U],g,lb,lo,hi,b3,b4,rfl,rfl,{HM with h3:=fun _=>rfl,h6a:=by simp,h6:=by simp,h7a:=by simp,h7:=by simp}⟩
  ·have e0:l4=false:=h2;subst e0;obtain rfl:=waB ho;have n6:l6=false:=by cases h:l6 with|false=>rfl|true=>exact absurd (H.out.h6a h).2.2.1 dQ
   have n7:l7=false:=by cases h:l7 with|false=>rfl|true=>exact absurd (H.out.h7a h).2.2.1 dQ
   subst n6 n7;clear h3 h2 ho;refine zcZ rfl ?_;go_wp2;have hqa:Below w'.heap.size w' (w'.alloc (.cells #[.nilFunc] 202)):=(waC _ w').alloc (waJ _) _;have HM:=H.out.mono hqa;have hz:=Arr.lt H.out.arr dQ;exact⟨l0,l1,l2,l3,true,l5,false,false,_,t4,t8,t9,t10,t11,g,lb,lo,hi,w'.heap.size,b4,rfl,rfl,{HM with h4:=fun _=>⟨rfl,hz,by simp,by rw[zaa rfl rfl];rfl,fun o=>by go_simp,fun h=>.inr (H.out.h1 h).2.2.2.2⟩,hne:=fun _ h e=>by have:=(H.out.h5 h).2.2.1;omega,h6a:=by simp,h6:=by simp,h7a:=by simp,h7:=by simp}⟩
  ·have e0:l5=false:=h2;subst e0;obtain rfl:=waB ho;have n6:l6=false:=by cases h:l6 with|false=>rfl|true=>exact absurd (H.out.h6a h).2.2.2 dQ
   have n7:l7=false:=by cases h:l7 with|false=>rfl|true=>exact absurd (H.out.h7a h).2.2.2.1 dQ
   subst n6 n7;clear h3 h2 ho;refine zcZ rfl ?_;go_wp2;have hqa:Below w'.heap.size w' (w'.alloc (.cells #[.int .i64 0,.int .i64 0] 154)):=(waC _ w').alloc (waJ _) _;have HM:=H.out.mono hqa;have hz:=Arr.lt H.out.arr dQ;exact⟨l0,l1,l2,l3,l4,true,false,false,t3,_,t8,t9,t10,t11,g,lb,lo,hi,b3,w'.heap.size,rfl,rfl,{HM with h5:=fun _=>⟨rfl,hz,by simp,by rw[zaa rfl rfl];rfl,by rw[zaa rfl rfl];rfl,fun o=>by go_simp,fun h=>.inr (H.out.h1 h).2.2.2.2⟩,hne:=fun h _ e=>by have:=(H.out.h4 h).2.2.1;omega,h6a:=by simp,h6:=by simp,h7a:=by simp,h7:=by simp}⟩
  ·have e0:l6=false:=h2;subst e0;obtain rfl:=waB ho;have d1:l1=true:=h3 ⟨1,.data⟩ (by simp) rfl
   have d4:l4=true:=h3 ⟨4,.data⟩ (by simp) rfl
   have d3:l3=true:=h3 ⟨3,.chain⟩ (by simp) rfl
   have d5:l5=true:=h3 ⟨5,.phase⟩ (by simp) rfl
   have n7:l7=false:=by cases h:l7 with|false=>rfl|true=>exact absurd (H.out.h7a h).2.2.2.2 dQ
   subst n7 d1 d4 d3 d5;have HM:=waV H.out.set3;obtain⟨rfl,x2,x3,x4,x5,x6⟩:=H.out.h4 rfl;obtain⟨rfl,y2,y3,y4,y5⟩:=H.out.h1 rfl;obtain⟨v0,x4⟩:=wbO.1 x4;clear h3 h2 ho H;refine zaK rfl fun K' hK=>?_
   have HK:=waV hK;clear hK;go_wp2;exact HK.out _ _ ⟨l0,true,l2,true,true,true,true,false,_,_,_,_,_,_,g,lb,lo,hi,b3,b4,rfl,rfl,HM.out⟩
  ·have e0:l7=false:=h2;subst e0;obtain rfl:=waB ho;have d5:l5=true:=h3 ⟨5,.data⟩ (by simp) rfl
   have d3:l3=true:=h3 ⟨3,.data⟩ (by simp) rfl
   have d6:l6=true:=h3 ⟨6,.chain⟩ (by simp) rfl
   have d1:l1=true:=h3 ⟨1,.phase⟩ (by simp) rfl
   have d4:l4=true:=h3 ⟨4,.phase⟩ (by simp) rfl
   subst d1 d4 d3 d5 d6;have HM:=waV H.out.set4;obtain⟨rfl,y2,y3,y4,y5,y6,y7⟩:=H.out.h5 rfl;obtain rfl:=H.out.h3 rfl;obtain⟨v0,x4⟩:=wbO.1 y4;obtain⟨v1,x5⟩:=wbO.1 y5;clear h3 h2 ho H y4 y5;refine zaK rfl fun K' hK=>?_
   have HK:=waV hK;clear hK;go_wp2;exact HK.out _ _ ⟨l0,true,l2,true,true,true,true,true,_,_,_,_,_,_,g,lb,lo,hi,b3,b4,rfl,rfl,HM.out⟩
 case done=>
  rintro L a w' ⟨l0,l1,l2,l3,l4,l5,l6,l7,t3,t4,t8,t9,t10,t11,g,lb,lo,hi,b3,b4,rfl,rfl,H⟩ hd;have d0:l0=true:=hd 0 dQ;have d1:l1=true:=hd 1 dQ;have d2:l2=true:=hd 2 dQ;have d3:l3=true:=hd 3 dQ;have d4:l4=true:=hd 4 dQ;have d5:l5=true:=hd 5 dQ;have d6:l6=true:=hd 6 dQ;have d7:l7=true:=hd 7 dQ;clear hd;subst d0 d1 d2 d3 d4 d5 d6 d7;obtain⟨rfl,x2,x3,x4,x5,x6⟩:=H.out.h4 rfl;obtain⟨rfl,y2,y3,y4,y5,y6,y7⟩:=H.out.h5 rfl;obtain⟨rfl,z2,z3,z4,z5⟩:=H.out.h1 rfl;have c3:=H.out.h6 rfl;obtain⟨c40,c41⟩:=H.out.h7 rfl;have HBw:=waV H.out.below;have HAr:=waV H.out.arr;have HP:=waV z3;have HZ:=waV z2;have hwz:=Arr.lt H.out.arr dQ;clear H x4 y4 y5 z2 z3;go_wp2_with fail;refine(HY.out _).mono ?_;rintro e w3 ⟨rfl,hq3⟩;have bc:=zad hq3;have k3:=(bc.1 b3 0 x3).trans c3;have k40:=(bc.1 b4 0 y3).trans c40;have k41:=(bc.1 b4 1 y3).trans c41;have HA3:=waV (Arr.below HAr.out hwz hq3);have HB3:=waV (zak HBw.out hq3 HBw.out.size);have HP3:=waV (HP.out.later (KpI.of_below hq3 z5));have hz3:=hq3.size;clear bc c3 c40 c41 HAr HBw HP hq3;rcases hy with ⟨hy1,hy2⟩|⟨hy1,hy2⟩
  ·rw[hy2];go_wp2;go_ret;obtain⟨q0,q1,q2⟩:=ze5 w3 (.int .i64 0) (.int .i64 0) (.bool false) 2 2 4;have hb5:Below w3.heap.size w3 (((w3.alloc (.cells #[.int .i64 0] 2)).alloc (.cells #[.int .i64 0] 2)).alloc (.cells #[.bool false] 4)):=(((waC _ w3).alloc (waJ _) _).alloc (by simp) _).alloc (by simp;omega) _
   have hz5:w3.heap.size+3=(((w3.alloc (.cells #[.int .i64 0] 2)).alloc (.cells #[.int .i64 0] 2)).alloc (.cells #[.bool false] 4)).heap.size:=by simp
   have hwz3:=HB3.out.size;generalize (((w3.alloc (.cells #[.int .i64 0] 2)).alloc (.cells #[.int .i64 0] 2)).alloc (.cells #[.bool false] 4))=w5 at *;have bc5:=zad hb5;exact⟨_,_,rfl,EG.out,HR.out _ _ _ _ _ _ g lb false 0 0 lo hi w5 ⟨by omega,by omega⟩ ⟨by omega,by omega⟩ ⟨by omega,by omega⟩ ⟨by omega,by omega⟩ ⟨by omega,by omega⟩ ⟨by omega,by omega⟩ oQ oQ q2 q0 q1 ((bc5.1 b3 0 oQ).trans k3) ((bc5.1 b4 0 oQ).trans k40) ((bc5.1 b4 1 oQ).trans k41) (Arr.below HA3.out oQ hb5) HZ.out
    (HP3.out.later (KpI.of_below hb5 oQ)) (.inl ⟨rfl,hy1⟩),zak HB3.out hb5 hwz3⟩
  ·rw[hy2];go_wp2;go_ret;obtain⟨q0,q1,q2⟩:=ze5 w3 (.int .i64 (F / 86400)) (.int .i64 (U / 86400)) (.bool true) 2 2 4;have hb5:Below w3.heap.size w3 (((w3.alloc (.cells #[.int .i64 (F / 86400)] 2)).alloc (.cells #[.int .i64 (U / 86400)] 2)).alloc (.cells #[.bool true] 4)):=(((waC _ w3).alloc (waJ _) _).alloc (by simp) _).alloc (by simp;omega) _
   have hz5:w3.heap.size+3=(((w3.alloc (.cells #[.int .i64 (F / 86400)] 2)).alloc (.cells #[.int .i64 (U / 86400)] 2)).alloc (.cells #[.bool true] 4)).heap.size:=by simp
   have hwz3:=HB3.out.size;generalize (((w3.alloc (.cells #[.int .i64 (F / 86400)] 2)).alloc (.cells #[.int .i64 (U / 86400)] 2)).alloc (.cells #[.bool true] 4))=w5 at *;have bc5:=zad hb5;exact⟨_,_,rfl,EG.out,HR.out _ _ _ _ _ _ g lb true (F / 86400) (U / 86400) lo hi w5 ⟨by omega,by omega⟩ ⟨by omega,by omega⟩ ⟨by omega,by omega⟩ ⟨by omega,by omega⟩ ⟨by omega,by omega⟩ ⟨by omega,by omega⟩ oQ oQ q2 q0 q1 ((bc5.1 b3 0 oQ).trans k3) ((bc5.1 b4 0 oQ).trans k40) ((bc5.1 b4 1 oQ).trans k41) (Arr.below HA3.out oQ hb5) HZ.out
    (HP3.out.later (KpI.of_below hb5 oQ)) (.inr ⟨rfl,hy1,rfl,rfl⟩),zak HB3.out hb5 hwz3⟩
end Go.Proofs.YtgedndlifiihkaaGreatDoor
namespace Go.Proofs.YtgedndlifiihkaaGreatDoor
open Go.Proofs.Tryz
theorem zlH {h m s:Nat} (hh:h<16777216) (hm:m<1152921504606846976) (hs:s<1152921504606846976):(zhQ h m s).Pairwise (·< ·):=by
 have s3:∀a b,(zdw a b (zar s)).Pairwise (·< ·):=fun a b=>by
  unfold zdw;rw[List.pairwise_map];exact(zbe s).imp (fun h=>by omega)
 have m3:∀a b x,x∈zdw a b (zar s)→∃c,c<60∧x=a * 3600+b * 60+c:=fun a b x hx=>by
  unfold zdw at hx;obtain⟨c,hc,rfl⟩:=List.mem_map.1 hx;exact⟨c,zfz (k:=60) hs hc,rfl⟩
 have s2:∀a,(zdP s a (zar m)).Pairwise (·< ·):=fun a=>by
  unfold zdP;rw[List.pairwise_flatMap];refine⟨fun b _=>s3 a b,(zbe m).imp fun {b b'} hb x hx y hy=>?_⟩
  obtain⟨c,hc,rfl⟩:=m3 a b x hx;obtain⟨c',hc',rfl⟩:=m3 a b' y hy;omega
 have m2:∀a x,x∈zdP s a (zar m)→∃c,c<3600∧x=a * 3600+c:=fun a x hx=>by
  unfold zdP at hx;obtain⟨b,hb,hx⟩:=List.mem_flatMap.1 hx;obtain⟨c,hc,rfl⟩:=m3 a b x hx;have:=zfz (k:=60) hm hb;exact⟨b * 60+c,by omega,by omega⟩
 show(zfA m s (zar h)).Pairwise (·< ·);unfold zfA;rw[List.pairwise_flatMap];refine⟨fun a _=>s2 a,(zbe h).imp fun {a a'} ha x hx y hy=>?_⟩
 obtain⟨c,hc,rfl⟩:=m2 a x hx;obtain⟨c',hc',rfl⟩:=m2 a' y hy;omega
theorem zba (m n:Nat) (hn:n<64):zbP (m:Int) (n:Int)=m.testBit n:=by
 have e:(m:Int) / 2^(n:Int).toNat%2=((m / 2^n%2:Nat):Int):=by
  rw[Int.toNat_natCast];push_cast;rfl
 unfold zbP;rw[e,Nat.testBit_eq_decide_div_mod_eq,waQ,waM,waM];omega
theorem zgH {h m s k:Nat}:k∈zhQ (h&&&16777215) (m&&&1152921504606846975) (s&&&1152921504606846975)↔k<86400∧zcM (k:Int) (h:Int) (m:Int) (s:Int)=true:=by
 have e1:((k:Int) / 3600)=((k / 3600:Nat):Int):=by omega
 have e2:((k:Int) / 60%60)=((k / 60%60:Nat):Int):=by omega
 have e3:((k:Int)%60)=((k%60:Nat):Int):=by omega
 have b:∀x n c:Nat,c<64→(c∈zar (x&&&(2^n - 1))↔c<n∧x.testBit c=true):=fun x n c hc=>by
  rw[zaW,Nat.testBit_and,Nat.testBit_two_pow_sub_one];simp only[waN,waM];constructor
  ·rintro ⟨_,h1,h2⟩;exact⟨h2,h1⟩
  ·rintro ⟨h1,h2⟩;exact⟨hc,h2,h1⟩
 have b1:∀x c:Nat,(c∈zar (x&&&16777215)↔c<24∧x.testBit c=true):=fun x c=>by
  by_cases hc:c<64
  ·exact b x 24 c hc
  ·constructor
   ·intro h;exact absurd (zaW.1 h).1 hc
   ·rintro ⟨h,_⟩;omega
 have b2:∀x c:Nat,(c∈zar (x&&&1152921504606846975)↔c<60∧x.testBit c=true):=fun x c=>by
  by_cases hc:c<64
  ·exact b x 60 c hc
  ·constructor
   ·intro h;exact absurd (zaW.1 h).1 hc
   ·rintro ⟨h,_⟩;omega
 rw[zsq];unfold zcM;constructor
 ·rintro ⟨a,ha,b',hb,c,hc,rfl⟩;obtain⟨a1,a2⟩:=(b1 h a).1 ha;obtain⟨c1,c2⟩:=(b2 m b').1 hb;obtain⟨d1,d2⟩:=(b2 s c).1 hc;refine⟨by omega,?_⟩
  rw[e1,e2,e3,show(a * 3600+b' * 60+c) / 3600=a by omega,show(a * 3600+b' * 60+c) / 60%60=b' by omega,show(a * 3600+b' * 60+c)%60=c by omega,
   zba _ _ oQ,zba _ _ oQ,zba _ _ oQ,a2,c2,d2]
  rfl
 ·rintro ⟨hk,ht⟩;rw[e1,e2,e3,zba _ _ (by omega),zba _ _ (by omega),zba _ _ (by omega)] at ht
  simp only[waN] at ht;exact⟨k / 3600,(b1 _ _).2 ⟨by omega,ht.1⟩,k / 60%60,(b2 _ _).2 ⟨by omega,ht.2.1⟩,k%60,(b2 _ _).2 ⟨by omega,ht.2.2⟩,by omega⟩
theorem zkA {L p:List Nat} {x:Nat} (hs:L.Pairwise (·< ·)) (hp:p++[x]<+:L) {k:Nat} (hk:k∈L) (hn:k ∉ p++[x]):x<k:=by
 obtain⟨r,rfl⟩:=hp;rcases wbB.1 hk with h|h
 ·exact absurd h hn
 ·exact(List.pairwise_append.1 hs).2.2 x (by simp) k h
end Go.Proofs.YtgedndlifiihkaaGreatDoor
