/- A part of the proof: WCst1 -/
import Derived.Test.YtllcdbgjeidlkaaGreatDoorT21
import Derived.Test.YtllcdbgjeidlkaaGreatDoorT14
set_option maxHeartbeats 80000000
set_option maxRecDepth 100000
set_option linter.unusedSimpArgs false
set_option linter.unusedVariables false
namespace Go.Proofs.YtllcdbgjeidlkaaGreatDoor
open Go.Proofs.Tryz
open Go.RowKit Go.Shelf
attribute [local go_sem] Oper.semAt_some
def hOf (s:Nat):Nat:=s / 3600
def zdy (s:Nat):Nat:=s / 60%60
def zdz (s:Nat):Nat:=s%60
def zku (p:Nat->Bool):Value:=.tuple #[.int .u64 (orN hOf (zeu p):Nat),.int .u64 (orN zdy (zeu p):Nat),.int .u64 (orN zdz (zeu p):Nat)]
theorem zqx (w:World) (x y z:Value) (t t' t'':TypeId):(((w.alloc (.cells #[x] t)).alloc (.cells #[y] t')).alloc (.cells #[z] t'')).heap.size=w.heap.size+3:=by simp
theorem zm6 (a b:Nat) (ha:a<18446744073709551616) (hb:b<64):bits .or .u64 (a:Int) (IntKind.u64.wrap ((2:Int)^b))=((a|||2^b:Nat):Int):=by
 have h2:(2:Int)^b=((2^b:Nat):Int):=by simp
 have h3:2^b<2^64:=Nat.pow_lt_pow_right oQ hb;have e:IntKind.u64.wrap ((2:Int)^b)=((2^b:Nat):Int):=by
  rw[h2];have h4:((2^b:Nat):Int)<18446744073709551616:=by omega
  have h5:(0:Int)<=((2^b:Nat):Int):=Int.natCast_nonneg _;generalize ((2^b:Nat):Int)=z at h4 h5 ⊢;simp[IntKind.wrap,IntKind.bits,IntKind.signed];omega
 rw[e,bits_or_u64_nat a (2^b) ha (by omega)]
theorem zjf {fn:Func} {p t q:Tmp} {ty ty' ty2:TypeId} (h:fn.results=#[.cell p ty,.cell t ty',.cell q ty2]) (tmps:Array Value) (P:Program) (w:World):
 (results fn tmps).run P w=((asAddr (tmps.getD p undef)).run P w).andThen fun a w₁=>((loadVar ty a).run P w₁).andThen fun v w₂=>((asAddr (tmps.getD t undef)).run P w₂).andThen fun b w₃=>((loadVar ty' b).run P w₃).andThen fun v2 w₄=>
   ((asAddr (tmps.getD q undef)).run P w₄).andThen fun c w₅=>((loadVar ty2 c).run P w₅).andThen fun v3 w₆=>.ok (.tuple #[v,v2,v3]) w₆:=by
 simp only[results,h];simp[Sem.run_bind,Result.andThen]
def zdO (ds:List (Nat×Value)) (a:Act):Act:=ds.foldl (fun a d=>a.put (some d.1) d.2) a
theorem zee {F:Fence} {n:Nat} {P:Program} {c:Code} {Q:Exit->Act->World->Prop} {a:Act} {w:World} (ds:List (Nat×Value)) (W:World) (h2:c.wpIn F n P (fun e a' w'=>e=.normal/\a'=zdO ds a/\w'=W) a w) (h1:Q .normal (zdO ds a) W):c.wpIn F n P Q a w:=
 wpIn_mono h2 (by rintro e a' w' ⟨rfl,rfl,rfl⟩;exact h1)
theorem zkv (v:Value) (p:Nat->Bool) (w:World) (hd:zdN w v p) (hw:Tz w):Calls prog 73 #[v] w (Ret (zku p) w):=by
 have eg:∀args w,(callFunc 198 args).run prog w=.ok (.enter 198 args) w:=enters_of func198 kQ rfl;have HA:=waV (fun n W (hW:Below w.heap.size w W)=>wbP (n:=n).2 (zs8 v p W (by
  rcases hd with h|⟨b,h1,h2⟩
  ·exact .inl h
  ·exact .inr ⟨b,h1,h2.below hW⟩)))
 have HP:Hid (∀n l s,s<86400->∀W,CallsIn (Fence.wide.inRound l) n prog 141 #[.int .i64 ((s:Nat):Int)] W (zbE (.tuple #[.int .i64 ((hOf s:Nat):Int),.int .i64 ((zdy s:Nat):Int),.int .i64 ((zdz s:Nat):Int),.bool true]) W)):=fun n l s hs W=>by
  have h:=zat (m:=n) (l':=l) (zjK ((s:Nat):Int) oQ oQ W);have e1:(s:Int) / 3600=((hOf s:Nat):Int):=by unfold hOf;omega
  have e2:(s:Int) / 60%60=((zdy s:Nat):Int):=by unfold zdy;omega
  have e3:(s:Int)%60=((zdz s:Nat):Int):=by unfold zdz;omega
  rwa [e1,e2,e3] at h
 have HW:=waV hw;have HL:Hid (∀k,k∈zeu p->k<86400):=fun k hk=>by
  unfold zeu at hk;exact wbG.1 (List.mem_filter.1 hk).1
 clear hd hw;refine(wbP (n:=20)).1 ?_;refine callsIn_of_wp_marks func73 rfl trivial ?_ rfl;simp only[ntmps73,wbQ,waG,List.length_nil,Nat.reduceAdd,Nat.reduceSub,wbR,wbS,List.push_toArray,List.append_toArray,wbN,wbT]
 gi_wp2_with ((with_reducible(refine And.intro ?_ ?_));exact trivial;gi_at_call 140;refine(HA.out _ _ (by exact zaE)).mono ?_;rintro e w1 ⟨bA,rfl,hlA,cA,hq1⟩)
 have hb0:Below w.heap.size w (((w.alloc (.cells #[.int .u64 0] 39)).alloc (.cells #[.int .u64 0] 39)).alloc (.cells #[.int .u64 0] 39)):=(((waC _ w).alloc (waJ _) _).alloc (by simp) _).alloc (by simp;omega) _
 have hz0:=zqx w (.int .u64 0) (.int .u64 0) (.int .u64 0) 39 39 39;have B0:Boxed (((w.alloc (.cells #[.int .u64 0] 39)).alloc (.cells #[.int .u64 0] 39)).alloc (.cells #[.int .u64 0] 39)) w.heap.size 39 (.int .u64 0):=((Boxed.new w _ _).alloc _).alloc _;have B1:Boxed (((w.alloc (.cells #[.int .u64 0] 39)).alloc (.cells #[.int .u64 0] 39)).alloc (.cells #[.int .u64 0] 39)) (w.heap.size+1) 39 (.int .u64 0):=by
  have h:=(Boxed.new (w.alloc (.cells #[.int .u64 0] 39)) 39 (.int .u64 0)).alloc (.cells #[.int .u64 0] 39)
  rwa [World.size_alloc] at h
 have B2:Boxed (((w.alloc (.cells #[.int .u64 0] 39)).alloc (.cells #[.int .u64 0] 39)).alloc (.cells #[.int .u64 0] 39)) (w.heap.size+1+1) 39 (.int .u64 0):=by
  have h:=Boxed.new ((w.alloc (.cells #[.int .u64 0] 39)).alloc (.cells #[.int .u64 0] 39)) 39 (.int .u64 0)
  rwa [World.size_alloc,World.size_alloc] at h
 generalize (((w.alloc (.cells #[.int .u64 0] 39)).alloc (.cells #[.int .u64 0] 39)).alloc (.cells #[.int .u64 0] 39))=w0 at *;have keep:∀{b v},Boxed w0 b 39 v->Boxed w1 b 39 v:=fun h=>(hq1.block _ h.lt).trans h
 have B0':=keep B0;have B1':=keep B1;have B2':=keep B2;have hb1:Below w.heap.size w w1:=zaf hb0 hq1 hb0.size;have hT1:=HW.out.below hb1;have hz1:w.heap.size+3<=w1.heap.size:=by have:=hq1.size;omega
 have hbA:w.heap.size+3<=bA:=by omega
 have htz:0<w.heap.size:=waR w _ (HW.out 0 dQ);clear B0 B1 B2 keep hq1 hlA hz0 hb0 HA HW;have hseq:=zqd (fun k=>k=w.heap.size\/k=w.heap.size+1\/k=w.heap.size+1+1) 19 bA p oQ oQ
 have HT:Hid (zku p=.tuple #[.int .u64 (orN hOf (zeu p):Nat),.int .u64 (orN zdy (zeu p):Nat),.int .u64 (orN zdz (zeu p):Nat)]):=rfl;generalize zku p=TV at *;generalize zeu p=L at *;refine za4 rfl dQ (gf:=198) (lb:=#[.pointer (some ⟨bA,0,none⟩)]) rfl trivial eg hseq
  (fun h k=>h.trans k) (fun V l o o' _ hl ho _=>KpM.putObj o' hl ho) (fun o o'=>?st) (fun _=>rfl) (waK _)
  (fun pre V=>(Boxed V w.heap.size 39 (.int .u64 (orN hOf pre:Nat))/\Boxed V (w.heap.size+1) 39 (.int .u64 (orN zdy pre:Nat))/\Boxed V (w.heap.size+1+1) 39 (.int .u64 (orN zdz pre:Nat)))/\(∀k,k∈pre->k<86400)/\Below w.heap.size w V)
  (fun c pre V=>False)
  (fun pre A B hs hr=>⟨⟨hr.block _ _ hs.1.1 (.inr (waK _)) (.inr rfl),hr.block _ _ hs.1.2.1 (.inr (waK _)) (.inr rfl),hr.block _ _ hs.1.2.2 (.inr (waK _)) (.inr rfl)⟩,hs.2.1,za5 hs.2.2 hr (.inr rfl) oQ (waJ _)⟩)
  (fun c pre A B hs hr=>hs)
  ⟨⟨B0',B1',B2'⟩,by simp,hb1⟩
  (fun x a' _=>a'={tmps:=#[v,undef,.pointer (some ⟨w.heap.size,0,none⟩),.pointer (some ⟨w.heap.size+1,0,none⟩),.pointer (some ⟨w.heap.size+1+1,0,none⟩),.int .i64 (x:Int),undef,undef,undef,undef,v,.func (.func 198) #[] #[.pointer (some ⟨bA,0,none⟩)],.int .i64 (x:Int),undef,undef,undef,undef,undef,undef,undef,undef,undef,undef,undef,undef,undef,undef,undef,undef,undef,undef,undef,undef,undef,undef],defers:=[]})
  (fun _ _ _ _ hs _=>hs) (fun _ _ _ hs _=>hs)
  ?assign ?body ?done ?stop
 case st=>
  have hb:Below w1.heap.size w1 ((w1.alloc o).alloc o'):=((waC _ w1).alloc (waJ _) _).alloc (by simp) _
  refine⟨fun k e=>?_,fun j hj=>((zad hb).1 _ _ (waR w1 _ (cA j hj))).trans (cA j hj),hT1.below hb⟩
  have:=hb.size;rcases e with rfl|rfl|rfl<;>omega
 case assign=>
  rintro l1 pre x V K hi he hK
  gi_wp2
  exact hK _ _ (KeepsFrom.refl _ _) (KpM.refl _ _) (Rl.refl _ _ _ _) hi rfl
 case body=>
  rintro l1 pre x a' V hl1 _ ⟨⟨b0,b1,b2⟩,hp,hb⟩ hx86 rfl hlt;have P1:=waV (fun n=>HP.out n l1 x hx86)
  have c0:=b0.cell;have c1:=b1.cell;have c2:=b2.cell;have z0:=b0.frozen;have z1:=b1.frozen;have z2:=b2.frozen
  gi_wp2_with ((with_reducible(refine And.intro ?_ ?_));exact trivial;gi_at_call 141;refine(P1.out _ _).mono ?_;rintro e w4 ⟨rfl,rfl⟩)
  have h0:hOf x<64:=by unfold hOf;omega
  have h1:zdy x<64:=by unfold zdy;omega
  have h2:zdz x<64:=by unfold zdz;omega
  have HF:Hid (orN hOf (pre++[x])=orN hOf pre|||2^hOf x):=zje _ _ _
  have HG:Hid (orN zdy (pre++[x])=orN zdy pre|||2^zdy x):=zje _ _ _
  have HK:Hid (orN zdz (pre++[x])=orN zdz pre|||2^zdz x):=zje _ _ _
  have lF:=zfp hOf pre (fun s hs=>by have:=hp s hs;unfold hOf;omega)
  have lG:=zfp zdy pre (fun s hs=>by unfold zdy;omega)
  have lK:=zfp zdz pre (fun s hs=>by unfold zdz;omega)
  clear P1;generalize hOf x=A at *;generalize zdy x=B at *;generalize zdz x=C at *;generalize orN hOf pre=F at *;generalize orN zdy pre=G at *;generalize orN zdz pre=K' at *;have h0':(A:Int)<64:=by omega
  have h1':(B:Int)<64:=by omega
  have h2':(C:Int)<64:=by omega
  have hA0:¬(A:Int)<0:=by omega
  have hB0:¬(B:Int)<0:=by omega
  have hC0:¬(C:Int)<0:=by omega
  refine zee [(20,.int .u64 F),(21,.int .i64 A),(22,.int .u64 (IntKind.u64.wrap (2^A))),(23,.int .u64 (bits .or .u64 F (IntKind.u64.wrap (2^A))))] (V.setCell ⟨w.heap.size,0,none⟩ (.int .u64 (bits .or .u64 F (IntKind.u64.wrap (2^A))))).drew ?ways0 ?on0
  case ways0=>
   gi_region
   all_goals exact⟨rfl,rfl,rfl⟩
  simp only[zdO,List.foldl,Act.put,wbU,wbV,wbW];rw[zm6 F A lF h0];obtain⟨V1,hV1⟩:∃V',(V.setCell ⟨w.heap.size,0,none⟩ (.int .u64 ((F|||2^A:Nat):Int))).drew=V':=⟨_,rfl⟩
  rw[hV1];have b0':Boxed V1 w.heap.size 39 (.int .u64 ((F|||2^A:Nat):Int)):=by rw[<-hV1];exact Boxed.set _ b0
  have b1':Boxed V1 (w.heap.size+1) 39 (.int .u64 (G:Nat)):=by rw[<-hV1];exact Boxed.other b1 (by omega) _
  have b2':Boxed V1 (w.heap.size+1+1) 39 (.int .u64 (K':Nat)):=by rw[<-hV1];exact Boxed.other b2 (by omega) _
  have r1:Rl w.heap.size (w.heap.size+3) V.heap.size V V1:=by rw[<-hV1];exact((Rl.refl w.heap.size (w.heap.size+3) V.heap.size V).set ⟨w.heap.size,0,none⟩ _ (waJ _) (by show w.heap.size<w.heap.size+3;omega)).drew
  have c1:=b1'.cell;have z1:=b1'.frozen;clear b0 b1 b2 c0 c2 z0 z2 hV1
  gi_wp2
  refine zee [(24,.int .u64 G),(25,.int .i64 B),(26,.int .u64 (IntKind.u64.wrap (2^B))),(27,.int .u64 (bits .or .u64 G (IntKind.u64.wrap (2^B))))] (V1.setCell ⟨w.heap.size+1,0,none⟩ (.int .u64 (bits .or .u64 G (IntKind.u64.wrap (2^B))))).drew ?ways1 ?on1
  case ways1=>
   gi_region
   all_goals exact⟨rfl,rfl,rfl⟩
  simp only[zdO,List.foldl,Act.put,wbU,wbV,wbW];rw[zm6 G B lG h1];obtain⟨V2,hV2⟩:∃V',(V1.setCell ⟨w.heap.size+1,0,none⟩ (.int .u64 ((G|||2^B:Nat):Int))).drew=V':=⟨_,rfl⟩
  rw[hV2];have b0:Boxed V2 w.heap.size 39 (.int .u64 ((F|||2^A:Nat):Int)):=by rw[<-hV2];exact Boxed.other b0' (by omega) _
  have b1:Boxed V2 (w.heap.size+1) 39 (.int .u64 ((G|||2^B:Nat):Int)):=by rw[<-hV2];exact Boxed.set _ b1'
  have b2:Boxed V2 (w.heap.size+1+1) 39 (.int .u64 (K':Nat)):=by rw[<-hV2];exact Boxed.other b2' (by omega) _
  have r2:Rl w.heap.size (w.heap.size+3) V.heap.size V V2:=by rw[<-hV2];exact(r1.set ⟨w.heap.size+1,0,none⟩ _ (by show w.heap.size<=w.heap.size+1;omega) (by show w.heap.size+1<w.heap.size+3;omega)).drew
  have c2:=b2.cell;have z2:=b2.frozen;clear b0' b1' b2' c1 z1 hV2 r1
  gi_wp2
  refine zee [(28,.int .u64 K'),(29,.int .i64 C),(30,.int .u64 (IntKind.u64.wrap (2^C))),(31,.int .u64 (bits .or .u64 K' (IntKind.u64.wrap (2^C))))] (V2.setCell ⟨w.heap.size+1+1,0,none⟩ (.int .u64 (bits .or .u64 K' (IntKind.u64.wrap (2^C))))).drew ?ways2 ?on2
  case ways2=>
   gi_region
   all_goals exact⟨rfl,rfl,rfl⟩
  simp only[zdO,List.foldl,Act.put,wbU,wbV,wbW];rw[zm6 K' C lK h2];obtain⟨V3,hV3⟩:∃V',(V2.setCell ⟨w.heap.size+1+1,0,none⟩ (.int .u64 ((K'|||2^C:Nat):Int))).drew=V':=⟨_,rfl⟩
  rw[hV3];have b0':Boxed V3 w.heap.size 39 (.int .u64 ((F|||2^A:Nat):Int)):=by rw[<-hV3];exact Boxed.other b0 (by omega) _
  have b1':Boxed V3 (w.heap.size+1) 39 (.int .u64 ((G|||2^B:Nat):Int)):=by rw[<-hV3];exact Boxed.other b1 (by omega) _
  have b2':Boxed V3 (w.heap.size+1+1) 39 (.int .u64 ((K'|||2^C:Nat):Int)):=by rw[<-hV3];exact Boxed.set _ b2
  have r3:Rl w.heap.size (w.heap.size+3) V.heap.size V V3:=by rw[<-hV3];exact(r2.set ⟨w.heap.size+1+1,0,none⟩ _ (by show w.heap.size<=w.heap.size+1+1;omega) (by show w.heap.size+1+1<w.heap.size+3;omega)).drew
  clear b0 b1 b2 c2 z2 hV3 r2
  gi_wp2
  refine⟨zgn r3 (by have:=hb.size;omega) (waJ _),KpM.of_rl r3 (by intro k h3 h4;omega),⟨?_,?_,?_⟩,fun k hk=>?_,za5 hb r3 (.inl (waJ _)) (by have:=hb.size;omega) (waJ _)⟩
  ·rw[HF.out];exact b0'
  ·rw[HG.out];exact b1'
  ·rw[HK.out];exact b2'
  ·rcases wbB.1 hk with h|h
   ·exact hp k h
   ·rw[wbC.1 h];exact hx86
 case done=>
  rintro D zs V hD rfl ⟨⟨b0,b1,b2⟩,hp,hb⟩ hKd;have c0:=b0.cell;have c1:=b1.cell;have c2:=b2.cell;have z0:=b0.frozen;have z1:=b1.frozen;have z2:=b2.frozen;generalize orN hOf zs=F at *;generalize orN zdy zs=G at *;generalize orN zdz zs=K' at *
  gi_wp2
  refine zee [(32,.int .u64 F),(33,.int .u64 G),(34,.int .u64 K')] (((V.setCell ⟨w.heap.size,0,none⟩ (.int .u64 F)).setCell ⟨w.heap.size+1,0,none⟩ (.int .u64 G)).setCell ⟨w.heap.size+1+1,0,none⟩ (.int .u64 K')).drew ?ways ?on
  case ways=>
   gi_region
   all_goals exact⟨rfl,rfl,rfl⟩
  simp only[zdO,List.foldl,Act.put,wbU,wbV,wbW];have b0':Boxed (((V.setCell ⟨w.heap.size,0,none⟩ (.int .u64 F)).setCell ⟨w.heap.size+1,0,none⟩ (.int .u64 G)).setCell ⟨w.heap.size+1+1,0,none⟩ (.int .u64 K')).drew w.heap.size 39 (.int .u64 F):=((b0.set _).other oQ _).other oQ _;have b1':Boxed (((V.setCell ⟨w.heap.size,0,none⟩ (.int .u64 F)).setCell ⟨w.heap.size+1,0,none⟩ (.int .u64 G)).setCell ⟨w.heap.size+1+1,0,none⟩ (.int .u64 K')).drew (w.heap.size+1) 39 (.int .u64 G):=(Boxed.set _ (b1.other oQ _)).other oQ _;have b2':Boxed (((V.setCell ⟨w.heap.size,0,none⟩ (.int .u64 F)).setCell ⟨w.heap.size+1,0,none⟩ (.int .u64 G)).setCell ⟨w.heap.size+1+1,0,none⟩ (.int .u64 K')).drew (w.heap.size+1+1) 39 (.int .u64 K'):=Boxed.set _ ((b2.other oQ _).other oQ _);have hb':Below w.heap.size w (((V.setCell ⟨w.heap.size,0,none⟩ (.int .u64 F)).setCell ⟨w.heap.size+1,0,none⟩ (.int .u64 G)).setCell ⟨w.heap.size+1+1,0,none⟩ (.int .u64 K')).drew:=(((hb.setCell (p:=⟨w.heap.size,0,none⟩) (waJ _) _).setCell (p:=⟨w.heap.size+1,0,none⟩) (Nat.le_succ _) _).setCell (p:=⟨w.heap.size+1+1,0,none⟩) (by show w.heap.size<=w.heap.size+1+1;omega) _).drew
  have hKd':(((V.setCell ⟨w.heap.size,0,none⟩ (.int .u64 F)).setCell ⟨w.heap.size+1,0,none⟩ (.int .u64 G)).setCell ⟨w.heap.size+1+1,0,none⟩ (.int .u64 K')).drew.heap[D]?=some (.deferred (some [])):=by
   show(((V.setCell ⟨w.heap.size,0,none⟩ (.int .u64 F)).setCell ⟨w.heap.size+1,0,none⟩ (.int .u64 G)).setCell ⟨w.heap.size+1+1,0,none⟩ (.int .u64 K')).heap[D]?=_;rw[wbJ _ _ _ _ (by show D≠w.heap.size+1+1;omega),wbJ _ _ _ _ (by show D≠w.heap.size+1;omega),wbJ _ _ _ _ (by show D≠w.heap.size;omega)]
   exact hKd
  generalize (((V.setCell ⟨w.heap.size,0,none⟩ (.int .u64 F)).setCell ⟨w.heap.size+1,0,none⟩ (.int .u64 G)).setCell ⟨w.heap.size+1+1,0,none⟩ (.int .u64 K')).drew=V2 at *
  gi_wp2
  refine⟨by simp,.inl ⟨_,_,rfl,run_takeDeferred hKd',?_⟩⟩
  have hr:Rl 0 0 w.heap.size V2 (V2.putObj D (.deferred none)):=(Rl.refl _ _ _ V2).put _ hKd' rfl oQ;have q0:=(show Boxed (V2.putObj D (.deferred none)) _ _ _ from hr.block _ _ b0' (.inr (waK _)) (.inr rfl)).cell
  have q1:=(show Boxed (V2.putObj D (.deferred none)) _ _ _ from hr.block _ _ b1' (.inr (waK _)) (.inr rfl)).cell
  have q2:=(show Boxed (V2.putObj D (.deferred none)) _ _ _ from hr.block _ _ b2' (.inr (waK _)) (.inr rfl)).cell
  refine⟨TV,?_,rfl,za5 hb' hr (.inr rfl) (waJ _) (waJ _)⟩;rw[HT.out,zjf rfl]
  go_simp
 case stop=>
  rintro D c pre V hD hpre h hKd;exact h.elim
end Go.Proofs.YtllcdbgjeidlkaaGreatDoor
namespace Go.Proofs.YtllcdbgjeidlkaaGreatDoor
open Go.Proofs.Tryz
open Go.RowKit
open Go.Maps
theorem RollAt.imp {V W:World} {d:RollD} {L:List Cl} {lo hi D:Nat} (h:RollAt W d L lo hi D) (ho:V.os=W.os) (ht:V.tape=W.tape) (hu:V.output=W.output) (hs:W.heap.size<=V.heap.size) (hblk:∀k,k<D->V.heap[k]?=W.heap[k]?) (hd:∀e p,DiscAt W e p->DiscAt V e p):RollAt V d L lo hi D:=by
 have hD:=h.hiD;have hdw:=h.dw;have hrs:RlS (fun k=>D<=k) W V:=⟨ho,ht,hu,hs,fun i hi hs=>hblk i oQ⟩
 have hb:¬D<=d.b:=by have:=h.f.lb0;omega
 refine⟨h.f.apart hrs fun k g=>.inr (by have:D<=k:=g;omega),⟨fun i hi=>?_,?_,fun a ha=>?_,?_⟩,hD,waW hdw hs,h.tz.rls hrs (fun g=>by have:=h.tl;have:=h.f.lb0;omega),h.tl⟩
 ·obtain⟨es,k,h1,h2⟩:=h.m.parts i hi;exact⟨es,k,(hblk _ (by have:=h.f.lp i hi;omega)).trans h1,h2.imp hd⟩
 ·obtain⟨es,k,h1,h2⟩:=h.m.known;exact⟨es,k,(hblk _ (by have:=h.f.lk;omega)).trans h1,h2.imp hd⟩
 ·obtain⟨v,h1,h2⟩:=h.m.whole a ha;refine⟨v,hrs.cell h1 hb,h2.imp id ?_⟩;rintro ⟨e,h3,h4,h5⟩;exact⟨e,h3,h4,hd _ _ h5⟩
 ·obtain⟨z,hz⟩:=h.m.many;exact⟨z,hrs.cell hz hb⟩
def zcQ (W:World) (B:Nat):Prop:=∃cs t fz,W.heap[B]?=some (.cells cs t fz)/\t≠162
theorem zcQ.rls {S:Nat->Prop} {W V:World} {B:Nat} (h:zcQ W B) (hr:RlS S W V) (hS:¬S B):zcQ V B:=by
 obtain⟨cs,t,fz,h1,h2⟩:=h;exact⟨cs,t,fz,(hr.block _ (waL.1 h1).1 hS).trans h1,h2⟩
theorem DiscAt.foreign {W V:World} {B e:Nat} {p:Nat->Bool} (h:DiscAt W e p) (hF:zcQ W B) (hr:RlS (·=B) W V):DiscAt V e p:=by
 refine h.rls hr ?_;rintro rfl;obtain⟨cs,hc⟩:=h.obj;obtain⟨cs',t,fz,h1,h2⟩:=hF;rw[hc] at h1;cases h1;exact h2 rfl
theorem zbp.imp {W V:World} {D:Nat} {v:Value} {p:Nat->Bool} (h:zbp W D v p) (hd:∀e p,DiscAt W e p->DiscAt V e p):zbp V D v p:=by
 rcases h with h|⟨b,h1,h2,h3⟩
 ·exact .inl h
 ·exact .inr ⟨b,h1,h2,hd _ _ h3⟩
theorem RollAt.own {V W:World} {d:RollD} {L:List Cl} {lo hi D B:Nat} (h:RollAt W d L lo hi D) (hr:RlS (·=B) W V) (hB:D<=B) (hF:zcQ W B):RollAt V d L lo hi D:=
 h.imp hr.os hr.tape hr.output hr.size (fun k hk=>hr.block k (by have:=h.dw;omega) (fun g=>by have:k=B:=g;omega)) (fun e p g=>g.foreign hF hr)
theorem MeetAt.own {V W:World} {x:AskD} {L1 L2:List Cl} {h:Bool->Bool->Bool} {f1 u1 f2 u2:Int} {B:Nat} (k:MeetAt W x L1 L2 h f1 u1 f2 u2) (hr:RlS (·=B) W V) (hB:x.D<=B) (hF:zcQ W B):MeetAt V x L1 L2 h f1 u1 f2 u2:=by
 have hb:=k.bf;have h1:=k.r1.hiD;have nb:¬(x.b=B):=by omega
 have nm:¬(x.fm=B):=by omega
 have hlt:=waR W _ k.c0;refine⟨hr.cell k.c0 nb,hr.cell k.c1 nb,hr.cell k.c2 nb,hr.cell k.c3 nb,?_,hr.cell k.c5 nb,hr.cell k.c6 nb,hr.cell k.c7 nb,hr.cell k.c8 nb,fun j=>(zaX hr hlt nb).trans (k.fz j),k.r1.own hr hB hF,k.r2.own hr hB hF,k.ap,k.bf,?_,k.fnd⟩
 ·obtain⟨z,hz⟩:=k.c4;exact⟨z,hr.cell hz nb⟩
 ·obtain⟨es,n,h1,h2⟩:=k.fine;exact⟨es,n,(hr.block _ (waL.1 h1).1 nm).trans h1,h2.one,fun q hq=>by
   obtain⟨v1,v2,p1,p2,g1,g2,g3,g4,g5⟩:=h2.all q hq;exact⟨v1,v2,p1,p2,g1,g2,g3.imp (fun e p g=>g.foreign hF hr),g4.imp (fun e p g=>g.foreign hF hr),g5⟩⟩
structure DayS (W0 W:World) (x:AskD) (L1 L2:List Cl) (h:Bool->Bool->Bool) (f1 u1 f2 u2:Int) (sh:Array Value):Prop where
 m:MeetAt W x L1 L2 h f1 u1 f2 u2
 rl:RlS (x.mv L1.length L2.length) W0 W
 s:∀j v,sh[j]?=some v->W.cell? ⟨W0.heap.size,j,none⟩=some v
 DW:x.D<=W0.heap.size
theorem DayS.nS {W0 W:World} {x:AskD} {L1 L2:List Cl} {h:Bool->Bool->Bool} {f1 u1 f2 u2:Int} {sh:Array Value} (k:DayS W0 W x L1 L2 h f1 u1 f2 u2 sh) {B:Nat} (hB:W0.heap.size<=B):¬x.mv L1.length L2.length B:=fun g=>by
 have:=(k.m.mb B g).1;have:=k.DW;omega
theorem DayS.below {W0 W V:World} {x:AskD} {L1 L2:List Cl} {h:Bool->Bool->Bool} {f1 u1 f2 u2:Int} {sh:Array Value} (k:DayS W0 W x L1 L2 h f1 u1 f2 u2 sh) (hb:Below W.heap.size W V):DayS W0 V x L1 L2 h f1 u1 f2 u2 sh:=
 ⟨k.m.below hb,k.rl.trans ((RlS.refl _ W).below hb (waJ _)),fun j v hj=>by
  have:=k.s j v hj;exact((zad hb).1 _ _ (waR W _ this)).trans this,k.DW⟩
theorem DayS.turn1 {W0 W V:World} {x:AskD} {L1 L2:List Cl} {h:Bool->Bool->Bool} {f1 u1 f2 u2:Int} {sh:Array Value} (k:DayS W0 W x L1 L2 h f1 u1 f2 u2 sh) (hr:RlS (x.d1.mv L1.length) W V) (hR:RollAt V x.d1 L1 x.lo1 x.hi1 x.D):DayS W0 V x L1 L2 h f1 u1 f2 u2 sh:=
 ⟨k.m.turn1 hr hR,k.rl.trans (hr.mono fun j g=>.inr (.inr (.inl g))),fun j v hj=>hr.cell (k.s j v hj) (fun g=>k.nS (waJ _) (.inr (.inr (.inl g)))),k.DW⟩
theorem DayS.turn2 {W0 W V:World} {x:AskD} {L1 L2:List Cl} {h:Bool->Bool->Bool} {f1 u1 f2 u2:Int} {sh:Array Value} (k:DayS W0 W x L1 L2 h f1 u1 f2 u2 sh) (hr:RlS (x.d2.mv L2.length) W V) (hR:RollAt V x.d2 L2 x.lo2 x.hi2 x.D):DayS W0 V x L1 L2 h f1 u1 f2 u2 sh:=
 ⟨k.m.turn2 hr hR,k.rl.trans (hr.mono fun j g=>.inr (.inr (.inr g))),fun j v hj=>hr.cell (k.s j v hj) (fun g=>k.nS (waJ _) (.inr (.inr (.inr g)))),k.DW⟩
theorem DayS.limbs {W0 W:World} {x:AskD} {L1 L2:List Cl} {h:Bool->Bool->Bool} {f1 u1 f2 u2:Int} {sh:Array Value} (k:DayS W0 W x L1 L2 h f1 u1 f2 u2 sh):W.rangeAt W0.heap.size 0 sh.toList:=fun j v hj=>by
 rw[waH];exact k.s j v (by simpa using hj)
def zxu {α:Type} (ds:α->List (Nat×Value)) (R:α->World->Prop) (a0:Act) (e:Exit) (a:Act) (w:World):Prop:=e=.normal/\∃x,a=zdO (ds x) a0/\R x w
theorem zm7 {α:Type} {P:Program} {c:Code} {Q:Exit->Act->World->Prop} {a:Act} {w:World} (ds:α->List (Nat×Value)) (R:α->World->Prop) (h2:c.wp P (zxu ds R a) a w) (h1:∀x w',R x w'->Q .normal (zdO (ds x) a) w'):c.wp P Q a w:=
 Code.wp_mono (by rintro e a' w' ⟨rfl,x,rfl,hr⟩;exact h1 x w' hr) h2
structure PairR (W0:World) (x:AskD) (L1 L2:List Cl) (h:Bool->Bool->Bool) (f1 u1 f2 u2:Int) (n:Int) (v1 v2:Value) (B:Nat) (W:World):Prop where
 m:MeetAt W x L1 L2 h f1 u1 f2 u2
 rl:RlS (x.mv L1.length L2.length) W0 W
 d1:zbp W x.D v1 (zay L1 n)
 d2:zbp W x.D v2 (zay L2 n)
 b:x.D<=B/\W0.heap.size<=B/\B<W.heap.size
 c0:W.cell? ⟨B,0,none⟩=some v1
 c1:W.cell? ⟨B,1,none⟩=some v2
theorem PairR.mk' {W0 W:World} {x:AskD} {L1 L2:List Cl} {h:Bool->Bool->Bool} {f1 u1 f2 u2:Int} {sh:Array Value} {n:Int} {v1 v2:Value} {B:Nat} (k:DayS W0 W x L1 L2 h f1 u1 f2 u2 sh) (d1:zbp W x.D v1 (zay L1 n)) (d2:zbp W x.D v2 (zay L2 n)) (hB:W0.heap.size<=B)
 (hF:zcQ W B) {a0 a1:Value} (c0:W.cell? ⟨B,0,none⟩=some a0) (c1:W.cell? ⟨B,1,none⟩=some a1):PairR W0 x L1 L2 h f1 u1 f2 u2 n v1 v2 B ((W.setCell ⟨B,0,none⟩ v1).setCell ⟨B,1,none⟩ v2):=by
 have hr:RlS (·=B) W ((W.setCell ⟨B,0,none⟩ v1).setCell ⟨B,1,none⟩ v2):=((RlS.refl (·=B) W).set ⟨B,0,none⟩ v1 rfl).set ⟨B,1,none⟩ v2 rfl;have hDW:=k.DW;have hlt:=waR W _ c0;refine⟨k.m.own hr oQ hF,?_,d1.imp (fun e p g=>g.foreign hF hr),d2.imp (fun e p g=>g.foreign hF hr),⟨by omega,hB,by simpa using hlt⟩,?_,?_⟩
 ·exact⟨hr.os.trans k.rl.os,hr.tape.trans k.rl.tape,hr.output.trans k.rl.output,waW k.rl.size hr.size,fun i hi hs=>(hr.block i (waD hi k.rl.size) (fun g=>by have:i=B:=g;omega)).trans (k.rl.block i hi hs)⟩
 ·exact(waU _ _ _ _ (by simp)).trans (waT _ _ _ c0)
 ·exact waT _ _ _ ((waU _ _ _ _ (by simp)).trans c1)
end Go.Proofs.YtllcdbgjeidlkaaGreatDoor
