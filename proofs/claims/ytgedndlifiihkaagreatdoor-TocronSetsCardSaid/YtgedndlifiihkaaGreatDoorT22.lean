/- A part of the proof: WCst1 WMeet1 WMeet2 -/
import Derived.Test.YtgedndlifiihkaaGreatDoorT21
import Derived.Test.YtgedndlifiihkaaGreatDoorT15
set_option maxHeartbeats 80000000
set_option maxRecDepth 100000
set_option linter.unusedSimpArgs false
set_option linter.unusedVariables false
namespace Go.Proofs.YtgedndlifiihkaaGreatDoor
open Go.Proofs.Tryz
open Go.RowKit Go.Shelf
attribute [local go_sem] Oper.semAt_some
def hOf (s:Nat):Nat:=s / 3600
def zdj (s:Nat):Nat:=s / 60%60
def zdk (s:Nat):Nat:=s%60
def zhD (p:Nat→Bool):Value:=.tuple #[.int .u64 (orN hOf (zbW p):Nat),.int .u64 (orN zdj (zbW p):Nat),.int .u64 (orN zdk (zbW p):Nat)]
theorem zqB (w:World) (x y z:Value) (t t' t'':TypeId):(((w.alloc (.cells #[x] t)).alloc (.cells #[y] t')).alloc (.cells #[z] t'')).heap.size=w.heap.size+3:=by simp
theorem zm4 (a b:Nat) (ha:a<18446744073709551616) (hb:b<64):bits .or .u64 (a:Int) (IntKind.u64.wrap ((2:Int)^b))=((a|||2^b:Nat):Int):=by
 have h2:(2:Int)^b=((2^b:Nat):Int):=by simp
 have h3:2^b<2^64:=Nat.pow_lt_pow_right oQ hb;have e:IntKind.u64.wrap ((2:Int)^b)=((2^b:Nat):Int):=by
  rw[h2];have h4:((2^b:Nat):Int)<18446744073709551616:=by omega
  have h5:(0:Int)≤((2^b:Nat):Int):=Int.natCast_nonneg _;generalize ((2^b:Nat):Int)=z at h4 h5 ⊢;simp[IntKind.wrap,IntKind.bits,IntKind.signed];omega
 rw[e,bits_or_u64_nat a (2^b) ha (by omega)]
theorem zju {fn:Func} {p t q:Tmp} {ty ty' ty2:TypeId} (h:fn.results=#[.cell p ty,.cell t ty',.cell q ty2]) (tmps:Array Value) (P:Program) (w:World):
 (results fn tmps).run P w=((asAddr (tmps.getD p undef)).run P w).andThen fun a w₁=>((loadVar ty a).run P w₁).andThen fun v w₂=>((asAddr (tmps.getD t undef)).run P w₂).andThen fun b w₃=>((loadVar ty' b).run P w₃).andThen fun v2 w₄=>
   ((asAddr (tmps.getD q undef)).run P w₄).andThen fun c w₅=>((loadVar ty2 c).run P w₅).andThen fun v3 w₆=>.ok (.tuple #[v,v2,v3]) w₆:=by
 simp only[results,h];simp[Sem.run_bind,Result.andThen]
def zdS (ds:List (Nat×Value)) (a:Act):Act:=ds.foldl (fun a d=>a.put (some d.1) d.2) a
theorem zfH {F:Fence} {n:Nat} {P:Program} {c:Code} {Q:Exit→Act→World→Prop} {a:Act} {w:World} (ds:List (Nat×Value)) (W:World) (h2:c.wpIn F n P (fun e a' w'=>e=.normal∧a'=zdS ds a∧w'=W) a w) (h1:Q .normal (zdS ds a) W):c.wpIn F n P Q a w:=
 wpIn_mono h2 (by rintro e a' w' ⟨rfl,rfl,rfl⟩;exact h1)
theorem zfI (v:Value) (p:Nat→Bool) (w:World) (hd:zeQ w v p) (hw:Tz w):Calls prog 117 #[v] w (Ret (zhD p) w):=by
 have eg:∀args w,(callFunc 224 args).run prog w=.ok (.enter 224 args) w:=enters_of func224 kQ rfl;have HA:=waV (fun n W (hW:Below w.heap.size w W)=>wbP (n:=n).2 (zsJ v p W (by
  rcases hd with h|⟨b,h1,h2⟩
  ·exact .inl h
  ·exact .inr ⟨b,h1,h2.below hW⟩)))
 have HP:Hid (∀n l s,s<86400→∀W,CallsIn (Fence.wide.inRound l) n prog 180 #[.int .i64 ((s:Nat):Int)] W (zbO (.tuple #[.int .i64 ((hOf s:Nat):Int),.int .i64 ((zdj s:Nat):Int),.int .i64 ((zdk s:Nat):Int),.bool true]) W)):=fun n l s hs W=>by
  have h:=zam (m:=n) (l':=l) (zjW ((s:Nat):Int) oQ oQ W);have e1:(s:Int) / 3600=((hOf s:Nat):Int):=by unfold hOf;omega
  have e2:(s:Int) / 60%60=((zdj s:Nat):Int):=by unfold zdj;omega
  have e3:(s:Int)%60=((zdk s:Nat):Int):=by unfold zdk;omega
  rwa [e1,e2,e3] at h
 have HW:=waV hw;have HL:Hid (∀k,k∈zbW p→k<86400):=fun k hk=>by
  unfold zbW at hk;exact wbG.1 (List.mem_filter.1 hk).1
 clear hd hw;refine(wbP (n:=20)).1 ?_;refine callsIn_of_wp_marks func117 rfl trivial ?_ rfl;simp only[ntmps117,wbQ,waG,List.length_nil,Nat.reduceAdd,Nat.reduceSub,wbR,wbS,List.push_toArray,List.append_toArray,wbN,wbT]
 gi_wp2_with ((with_reducible(refine And.intro ?_ ?_));exact trivial;gi_at_call 179;refine(HA.out _ _ (by exact zaI)).mono ?_;rintro e w1 ⟨bA,rfl,hlA,cA,hq1⟩)
 have hb0:Below w.heap.size w (((w.alloc (.cells #[.int .u64 0] 33)).alloc (.cells #[.int .u64 0] 33)).alloc (.cells #[.int .u64 0] 33)):=(((waC _ w).alloc (waJ _) _).alloc (by simp) _).alloc (by simp;omega) _
 have hz0:=zqB w (.int .u64 0) (.int .u64 0) (.int .u64 0) 33 33 33;have B0:Boxed (((w.alloc (.cells #[.int .u64 0] 33)).alloc (.cells #[.int .u64 0] 33)).alloc (.cells #[.int .u64 0] 33)) w.heap.size 33 (.int .u64 0):=((Boxed.new w _ _).alloc _).alloc _;have B1:Boxed (((w.alloc (.cells #[.int .u64 0] 33)).alloc (.cells #[.int .u64 0] 33)).alloc (.cells #[.int .u64 0] 33)) (w.heap.size+1) 33 (.int .u64 0):=by
  have h:=(Boxed.new (w.alloc (.cells #[.int .u64 0] 33)) 33 (.int .u64 0)).alloc (.cells #[.int .u64 0] 33)
  rwa [World.size_alloc] at h
 have B2:Boxed (((w.alloc (.cells #[.int .u64 0] 33)).alloc (.cells #[.int .u64 0] 33)).alloc (.cells #[.int .u64 0] 33)) (w.heap.size+1+1) 33 (.int .u64 0):=by
  have h:=Boxed.new ((w.alloc (.cells #[.int .u64 0] 33)).alloc (.cells #[.int .u64 0] 33)) 33 (.int .u64 0)
  rwa [World.size_alloc,World.size_alloc] at h
 generalize (((w.alloc (.cells #[.int .u64 0] 33)).alloc (.cells #[.int .u64 0] 33)).alloc (.cells #[.int .u64 0] 33))=w0 at *;have keep:∀{b v},Boxed w0 b 33 v→Boxed w1 b 33 v:=fun h=>(hq1.block _ h.lt).trans h
 have B0':=keep B0;have B1':=keep B1;have B2':=keep B2;have hb1:Below w.heap.size w w1:=zak hb0 hq1 hb0.size;have hT1:=HW.out.below hb1;have hz1:w.heap.size+3≤w1.heap.size:=by have:=hq1.size;omega
 have hbA:w.heap.size+3≤bA:=by omega
 have htz:0<w.heap.size:=waR w _ (HW.out 0 dQ);clear B0 B1 B2 keep hq1 hlA hz0 hb0 HA HW;have hseq:=zqi (fun k=>k=w.heap.size∨k=w.heap.size+1∨k=w.heap.size+1+1) 19 bA p oQ oQ
 have HT:Hid (zhD p=.tuple #[.int .u64 (orN hOf (zbW p):Nat),.int .u64 (orN zdj (zbW p):Nat),.int .u64 (orN zdk (zbW p):Nat)]):=rfl;generalize zhD p=TV at *;generalize zbW p=L at *;refine za0 rfl dQ (gf:=224) (lb:=#[.pointer (some ⟨bA,0,none⟩)]) rfl trivial eg hseq
  (fun h k=>h.trans k) (fun V l o o' _ hl ho _=>KpM.putObj o' hl ho) (fun o o'=>?st) (fun _=>rfl) (waK _)
  (fun pre V=>(Boxed V w.heap.size 33 (.int .u64 (orN hOf pre:Nat))∧Boxed V (w.heap.size+1) 33 (.int .u64 (orN zdj pre:Nat))∧Boxed V (w.heap.size+1+1) 33 (.int .u64 (orN zdk pre:Nat)))∧(∀k,k∈pre→k<86400)∧Below w.heap.size w V)
  (fun c pre V=>False)
  (fun pre A B hs hr=>⟨⟨hr.block _ _ hs.1.1 (.inr (waK _)) (.inr rfl),hr.block _ _ hs.1.2.1 (.inr (waK _)) (.inr rfl),hr.block _ _ hs.1.2.2 (.inr (waK _)) (.inr rfl)⟩,hs.2.1,zaZ hs.2.2 hr (.inr rfl) oQ (waJ _)⟩)
  (fun c pre A B hs hr=>hs)
  ⟨⟨B0',B1',B2'⟩,by simp,hb1⟩
  (fun x a' _=>a'={tmps:=#[v,undef,.pointer (some ⟨w.heap.size,0,none⟩),.pointer (some ⟨w.heap.size+1,0,none⟩),.pointer (some ⟨w.heap.size+1+1,0,none⟩),.int .i64 (x:Int),undef,undef,undef,undef,v,.func (.func 224) #[] #[.pointer (some ⟨bA,0,none⟩)],.int .i64 (x:Int),undef,undef,undef,undef,undef,undef,undef,undef,undef,undef,undef,undef,undef,undef,undef,undef,undef,undef,undef,undef,undef,undef],defers:=[]})
  (fun _ _ _ _ hs _=>hs) (fun _ _ _ hs _=>hs)
  ?assign ?body ?done ?stop
 case st=>
  have hb:Below w1.heap.size w1 ((w1.alloc o).alloc o'):=((waC _ w1).alloc (waJ _) _).alloc (by simp) _
  refine⟨fun k e=>?_,fun j hj=>((zad hb).1 _ _ (waR w1 _ (cA j hj))).trans (cA j hj),hT1.below hb⟩
  have:=hb.size;rcases e with rfl|rfl|rfl<;>omega
 case assign=>
  rintro l1 pre x V K hi he hK
  gi_wp2
  exact hK _ _ (KeepsFrom.refl _ _) (KpM.refl _ _) (Rl.refl _ _ _ _) hi rfl
 case body=>
  rintro l1 pre x a' V hl1 _ ⟨⟨b0,b1,b2⟩,hp,hb⟩ hx86 rfl hlt;have P1:=waV (fun n=>HP.out n l1 x hx86)
  have c0:=b0.cell;have c1:=b1.cell;have c2:=b2.cell;have z0:=b0.frozen;have z1:=b1.frozen;have z2:=b2.frozen
  gi_wp2_with ((with_reducible(refine And.intro ?_ ?_));exact trivial;gi_at_call 180;refine(P1.out _ _).mono ?_;rintro e w4 ⟨rfl,rfl⟩)
  have h0:hOf x<64:=by unfold hOf;omega
  have h1:zdj x<64:=by unfold zdj;omega
  have h2:zdk x<64:=by unfold zdk;omega
  have HF:Hid (orN hOf (pre++[x])=orN hOf pre|||2^hOf x):=zjt _ _ _
  have HG:Hid (orN zdj (pre++[x])=orN zdj pre|||2^zdj x):=zjt _ _ _
  have HK:Hid (orN zdk (pre++[x])=orN zdk pre|||2^zdk x):=zjt _ _ _
  have lF:=zc2 hOf pre (fun s hs=>by have:=hp s hs;unfold hOf;omega)
  have lG:=zc2 zdj pre (fun s hs=>by unfold zdj;omega)
  have lK:=zc2 zdk pre (fun s hs=>by unfold zdk;omega)
  clear P1;generalize hOf x=A at *;generalize zdj x=B at *;generalize zdk x=C at *;generalize orN hOf pre=F at *;generalize orN zdj pre=G at *;generalize orN zdk pre=K' at *;have h0':(A:Int)<64:=by omega
  have h1':(B:Int)<64:=by omega
  have h2':(C:Int)<64:=by omega
  have hA0:¬(A:Int)<0:=by omega
  have hB0:¬(B:Int)<0:=by omega
  have hC0:¬(C:Int)<0:=by omega
  refine zfH [(20,.int .u64 F),(21,.int .i64 A),(22,.int .u64 (IntKind.u64.wrap (2^A))),(23,.int .u64 (bits .or .u64 F (IntKind.u64.wrap (2^A))))] (V.setCell ⟨w.heap.size,0,none⟩ (.int .u64 (bits .or .u64 F (IntKind.u64.wrap (2^A))))).drew ?ways0 ?on0
  case ways0=>
   gi_region
   all_goals exact⟨rfl,rfl,rfl⟩
  simp only[zdS,List.foldl,Act.put,wbU,wbV,wbW];rw[zm4 F A lF h0];obtain⟨V1,hV1⟩:∃V',(V.setCell ⟨w.heap.size,0,none⟩ (.int .u64 ((F|||2^A:Nat):Int))).drew=V':=⟨_,rfl⟩
  rw[hV1];have b0':Boxed V1 w.heap.size 33 (.int .u64 ((F|||2^A:Nat):Int)):=by rw[←hV1];exact Boxed.set _ b0
  have b1':Boxed V1 (w.heap.size+1) 33 (.int .u64 (G:Nat)):=by rw[←hV1];exact Boxed.other b1 (by omega) _
  have b2':Boxed V1 (w.heap.size+1+1) 33 (.int .u64 (K':Nat)):=by rw[←hV1];exact Boxed.other b2 (by omega) _
  have r1:Rl w.heap.size (w.heap.size+3) V.heap.size V V1:=by rw[←hV1];exact((Rl.refl w.heap.size (w.heap.size+3) V.heap.size V).set ⟨w.heap.size,0,none⟩ _ (waJ _) (by show w.heap.size<w.heap.size+3;omega)).drew
  have c1:=b1'.cell;have z1:=b1'.frozen;clear b0 b1 b2 c0 c2 z0 z2 hV1
  gi_wp2
  refine zfH [(24,.int .u64 G),(25,.int .i64 B),(26,.int .u64 (IntKind.u64.wrap (2^B))),(27,.int .u64 (bits .or .u64 G (IntKind.u64.wrap (2^B))))] (V1.setCell ⟨w.heap.size+1,0,none⟩ (.int .u64 (bits .or .u64 G (IntKind.u64.wrap (2^B))))).drew ?ways1 ?on1
  case ways1=>
   gi_region
   all_goals exact⟨rfl,rfl,rfl⟩
  simp only[zdS,List.foldl,Act.put,wbU,wbV,wbW];rw[zm4 G B lG h1];obtain⟨V2,hV2⟩:∃V',(V1.setCell ⟨w.heap.size+1,0,none⟩ (.int .u64 ((G|||2^B:Nat):Int))).drew=V':=⟨_,rfl⟩
  rw[hV2];have b0:Boxed V2 w.heap.size 33 (.int .u64 ((F|||2^A:Nat):Int)):=by rw[←hV2];exact Boxed.other b0' (by omega) _
  have b1:Boxed V2 (w.heap.size+1) 33 (.int .u64 ((G|||2^B:Nat):Int)):=by rw[←hV2];exact Boxed.set _ b1'
  have b2:Boxed V2 (w.heap.size+1+1) 33 (.int .u64 (K':Nat)):=by rw[←hV2];exact Boxed.other b2' (by omega) _
  have r2:Rl w.heap.size (w.heap.size+3) V.heap.size V V2:=by rw[←hV2];exact(r1.set ⟨w.heap.size+1,0,none⟩ _ (by show w.heap.size≤w.heap.size+1;omega) (by show w.heap.size+1<w.heap.size+3;omega)).drew
  have c2:=b2.cell;have z2:=b2.frozen;clear b0' b1' b2' c1 z1 hV2 r1
  gi_wp2
  refine zfH [(28,.int .u64 K'),(29,.int .i64 C),(30,.int .u64 (IntKind.u64.wrap (2^C))),(31,.int .u64 (bits .or .u64 K' (IntKind.u64.wrap (2^C))))] (V2.setCell ⟨w.heap.size+1+1,0,none⟩ (.int .u64 (bits .or .u64 K' (IntKind.u64.wrap (2^C))))).drew ?ways2 ?on2
  case ways2=>
   gi_region
   all_goals exact⟨rfl,rfl,rfl⟩
  simp only[zdS,List.foldl,Act.put,wbU,wbV,wbW];rw[zm4 K' C lK h2];obtain⟨V3,hV3⟩:∃V',(V2.setCell ⟨w.heap.size+1+1,0,none⟩ (.int .u64 ((K'|||2^C:Nat):Int))).drew=V':=⟨_,rfl⟩
  rw[hV3];have b0':Boxed V3 w.heap.size 33 (.int .u64 ((F|||2^A:Nat):Int)):=by rw[←hV3];exact Boxed.other b0 (by omega) _
  have b1':Boxed V3 (w.heap.size+1) 33 (.int .u64 ((G|||2^B:Nat):Int)):=by rw[←hV3];exact Boxed.other b1 (by omega) _
  have b2':Boxed V3 (w.heap.size+1+1) 33 (.int .u64 ((K'|||2^C:Nat):Int)):=by rw[←hV3];exact Boxed.set _ b2
  have r3:Rl w.heap.size (w.heap.size+3) V.heap.size V V3:=by rw[←hV3];exact(r2.set ⟨w.heap.size+1+1,0,none⟩ _ (by show w.heap.size≤w.heap.size+1+1;omega) (by show w.heap.size+1+1<w.heap.size+3;omega)).drew
  clear b0 b1 b2 c2 z2 hV3 r2
  gi_wp2
  refine⟨zdd r3 (by have:=hb.size;omega) (waJ _),KpM.of_rl r3 (by intro k h3 h4;omega),⟨?_,?_,?_⟩,fun k hk=>?_,zaZ hb r3 (.inl (waJ _)) (by have:=hb.size;omega) (waJ _)⟩
  ·rw[HF.out];exact b0'
  ·rw[HG.out];exact b1'
  ·rw[HK.out];exact b2'
  ·rcases wbB.1 hk with h|h
   ·exact hp k h
   ·rw[wbC.1 h];exact hx86
 case done=>
  rintro D zs V hD rfl ⟨⟨b0,b1,b2⟩,hp,hb⟩ hKd;have c0:=b0.cell;have c1:=b1.cell;have c2:=b2.cell;have z0:=b0.frozen;have z1:=b1.frozen;have z2:=b2.frozen;generalize orN hOf zs=F at *;generalize orN zdj zs=G at *;generalize orN zdk zs=K' at *
  gi_wp2
  refine zfH [(32,.int .u64 F),(33,.int .u64 G),(34,.int .u64 K')] (((V.setCell ⟨w.heap.size,0,none⟩ (.int .u64 F)).setCell ⟨w.heap.size+1,0,none⟩ (.int .u64 G)).setCell ⟨w.heap.size+1+1,0,none⟩ (.int .u64 K')).drew ?ways ?on
  case ways=>
   gi_region
   all_goals exact⟨rfl,rfl,rfl⟩
  simp only[zdS,List.foldl,Act.put,wbU,wbV,wbW];have b0':Boxed (((V.setCell ⟨w.heap.size,0,none⟩ (.int .u64 F)).setCell ⟨w.heap.size+1,0,none⟩ (.int .u64 G)).setCell ⟨w.heap.size+1+1,0,none⟩ (.int .u64 K')).drew w.heap.size 33 (.int .u64 F):=((b0.set _).other oQ _).other oQ _;have b1':Boxed (((V.setCell ⟨w.heap.size,0,none⟩ (.int .u64 F)).setCell ⟨w.heap.size+1,0,none⟩ (.int .u64 G)).setCell ⟨w.heap.size+1+1,0,none⟩ (.int .u64 K')).drew (w.heap.size+1) 33 (.int .u64 G):=(Boxed.set _ (b1.other oQ _)).other oQ _;have b2':Boxed (((V.setCell ⟨w.heap.size,0,none⟩ (.int .u64 F)).setCell ⟨w.heap.size+1,0,none⟩ (.int .u64 G)).setCell ⟨w.heap.size+1+1,0,none⟩ (.int .u64 K')).drew (w.heap.size+1+1) 33 (.int .u64 K'):=Boxed.set _ ((b2.other oQ _).other oQ _);have hb':Below w.heap.size w (((V.setCell ⟨w.heap.size,0,none⟩ (.int .u64 F)).setCell ⟨w.heap.size+1,0,none⟩ (.int .u64 G)).setCell ⟨w.heap.size+1+1,0,none⟩ (.int .u64 K')).drew:=(((hb.setCell (p:=⟨w.heap.size,0,none⟩) (waJ _) _).setCell (p:=⟨w.heap.size+1,0,none⟩) (Nat.le_succ _) _).setCell (p:=⟨w.heap.size+1+1,0,none⟩) (by show w.heap.size≤w.heap.size+1+1;omega) _).drew
  have hKd':(((V.setCell ⟨w.heap.size,0,none⟩ (.int .u64 F)).setCell ⟨w.heap.size+1,0,none⟩ (.int .u64 G)).setCell ⟨w.heap.size+1+1,0,none⟩ (.int .u64 K')).drew.heap[D]?=some (.deferred (some [])):=by
   show(((V.setCell ⟨w.heap.size,0,none⟩ (.int .u64 F)).setCell ⟨w.heap.size+1,0,none⟩ (.int .u64 G)).setCell ⟨w.heap.size+1+1,0,none⟩ (.int .u64 K')).heap[D]?=_;rw[wbJ _ _ _ _ (by show D≠w.heap.size+1+1;omega),wbJ _ _ _ _ (by show D≠w.heap.size+1;omega),wbJ _ _ _ _ (by show D≠w.heap.size;omega)]
   exact hKd
  generalize (((V.setCell ⟨w.heap.size,0,none⟩ (.int .u64 F)).setCell ⟨w.heap.size+1,0,none⟩ (.int .u64 G)).setCell ⟨w.heap.size+1+1,0,none⟩ (.int .u64 K')).drew=V2 at *
  gi_wp2
  refine⟨by simp,.inl ⟨_,_,rfl,run_takeDeferred hKd',?_⟩⟩
  have hr:Rl 0 0 w.heap.size V2 (V2.putObj D (.deferred none)):=(Rl.refl _ _ _ V2).put _ hKd' rfl oQ;have q0:=(show Boxed (V2.putObj D (.deferred none)) _ _ _ from hr.block _ _ b0' (.inr (waK _)) (.inr rfl)).cell
  have q1:=(show Boxed (V2.putObj D (.deferred none)) _ _ _ from hr.block _ _ b1' (.inr (waK _)) (.inr rfl)).cell
  have q2:=(show Boxed (V2.putObj D (.deferred none)) _ _ _ from hr.block _ _ b2' (.inr (waK _)) (.inr rfl)).cell
  refine⟨TV,?_,rfl,zaZ hb' hr (.inr rfl) (waJ _) (waJ _)⟩;rw[HT.out,zju rfl]
  go_simp
 case stop=>
  rintro D c pre V hD hpre h hKd;exact h.elim
end Go.Proofs.YtgedndlifiihkaaGreatDoor
namespace Go.Proofs.YtgedndlifiihkaaGreatDoor
open Go.Proofs.Tryz
open Go.RowKit
open Go.Maps
theorem RollAt.imp {V W:World} {d:RollD} {L:List Cl} {lo hi D:Nat} (h:RollAt W d L lo hi D) (ho:V.os=W.os) (ht:V.tape=W.tape) (hu:V.output=W.output) (hs:W.heap.size≤V.heap.size) (hblk:∀k,k<D→V.heap[k]?=W.heap[k]?) (hd:∀e p,DiscAt W e p→DiscAt V e p):RollAt V d L lo hi D:=by
 have hD:=h.hiD;have hdw:=h.dw;have hrs:RlS (fun k=>D≤k) W V:=⟨ho,ht,hu,hs,fun i hi hs=>hblk i oQ⟩
 have hb:¬D≤d.b:=by have:=h.f.lb0;omega
 refine⟨h.f.apart hrs fun k g=>.inr (by have:D≤k:=g;omega),⟨fun i hi=>?_,?_,fun a ha=>?_,?_⟩,hD,waW hdw hs,h.tz.rls hrs (fun g=>by have:=h.tl;have:=h.f.lb0;omega),h.tl⟩
 ·obtain⟨es,k,h1,h2⟩:=h.m.parts i hi;exact⟨es,k,(hblk _ (by have:=h.f.lp i hi;omega)).trans h1,h2.imp hd⟩
 ·obtain⟨es,k,h1,h2⟩:=h.m.known;exact⟨es,k,(hblk _ (by have:=h.f.lk;omega)).trans h1,h2.imp hd⟩
 ·obtain⟨v,h1,h2⟩:=h.m.whole a ha;refine⟨v,hrs.cell h1 hb,h2.imp id ?_⟩;rintro ⟨e,h3,h4,h5⟩;exact⟨e,h3,h4,hd _ _ h5⟩
 ·obtain⟨z,hz⟩:=h.m.many;exact⟨z,hrs.cell hz hb⟩
def zc3 (W:World) (B:Nat):Prop:=∃cs t fz,W.heap[B]?=some (.cells cs t fz)∧t≠200
theorem zc3.rls {S:Nat→Prop} {W V:World} {B:Nat} (h:zc3 W B) (hr:RlS S W V) (hS:¬S B):zc3 V B:=by
 obtain⟨cs,t,fz,h1,h2⟩:=h;exact⟨cs,t,fz,(hr.block _ (waL.1 h1).1 hS).trans h1,h2⟩
theorem DiscAt.foreign {W V:World} {B e:Nat} {p:Nat→Bool} (h:DiscAt W e p) (hF:zc3 W B) (hr:RlS (·=B) W V):DiscAt V e p:=by
 refine h.rls hr ?_;rintro rfl;obtain⟨cs,hc⟩:=h.obj;obtain⟨cs',t,fz,h1,h2⟩:=hF;rw[hc] at h1;cases h1;exact h2 rfl
theorem zbo.imp {W V:World} {D:Nat} {v:Value} {p:Nat→Bool} (h:zbo W D v p) (hd:∀e p,DiscAt W e p→DiscAt V e p):zbo V D v p:=by
 rcases h with h|⟨b,h1,h2,h3⟩
 ·exact .inl h
 ·exact .inr ⟨b,h1,h2,hd _ _ h3⟩
theorem RollAt.own {V W:World} {d:RollD} {L:List Cl} {lo hi D B:Nat} (h:RollAt W d L lo hi D) (hr:RlS (·=B) W V) (hB:D≤B) (hF:zc3 W B):RollAt V d L lo hi D:=
 h.imp hr.os hr.tape hr.output hr.size (fun k hk=>hr.block k (by have:=h.dw;omega) (fun g=>by have:k=B:=g;omega)) (fun e p g=>g.foreign hF hr)
theorem MeetAt.own {V W:World} {x:AskD} {L1 L2:List Cl} {h:Bool→Bool→Bool} {f1 u1 f2 u2:Int} {B:Nat} (k:MeetAt W x L1 L2 h f1 u1 f2 u2) (hr:RlS (·=B) W V) (hB:x.D≤B) (hF:zc3 W B):MeetAt V x L1 L2 h f1 u1 f2 u2:=by
 have hb:=k.bf;have h1:=k.r1.hiD;have nb:¬(x.b=B):=by omega
 have nm:¬(x.fm=B):=by omega
 have hlt:=waR W _ k.c0;refine⟨hr.cell k.c0 nb,hr.cell k.c1 nb,hr.cell k.c2 nb,hr.cell k.c3 nb,?_,hr.cell k.c5 nb,hr.cell k.c6 nb,hr.cell k.c7 nb,hr.cell k.c8 nb,fun j=>(za6 hr hlt nb).trans (k.fz j),k.r1.own hr hB hF,k.r2.own hr hB hF,k.ap,k.bf,?_,k.fnd⟩
 ·obtain⟨z,hz⟩:=k.c4;exact⟨z,hr.cell hz nb⟩
 ·obtain⟨es,n,h1,h2⟩:=k.fine;exact⟨es,n,(hr.block _ (waL.1 h1).1 nm).trans h1,h2.one,fun q hq=>by
   obtain⟨v1,v2,p1,p2,g1,g2,g3,g4,g5⟩:=h2.all q hq;exact⟨v1,v2,p1,p2,g1,g2,g3.imp (fun e p g=>g.foreign hF hr),g4.imp (fun e p g=>g.foreign hF hr),g5⟩⟩
structure DayS (W0 W:World) (x:AskD) (L1 L2:List Cl) (h:Bool→Bool→Bool) (f1 u1 f2 u2:Int) (sh:Array Value):Prop where
 m:MeetAt W x L1 L2 h f1 u1 f2 u2
 rl:RlS (x.mv L1.length L2.length) W0 W
 s:∀j v,sh[j]?=some v→W.cell? ⟨W0.heap.size,j,none⟩=some v
 DW:x.D≤W0.heap.size
theorem DayS.nS {W0 W:World} {x:AskD} {L1 L2:List Cl} {h:Bool→Bool→Bool} {f1 u1 f2 u2:Int} {sh:Array Value} (k:DayS W0 W x L1 L2 h f1 u1 f2 u2 sh) {B:Nat} (hB:W0.heap.size≤B):¬x.mv L1.length L2.length B:=fun g=>by
 have:=(k.m.mb B g).1;have:=k.DW;omega
theorem DayS.below {W0 W V:World} {x:AskD} {L1 L2:List Cl} {h:Bool→Bool→Bool} {f1 u1 f2 u2:Int} {sh:Array Value} (k:DayS W0 W x L1 L2 h f1 u1 f2 u2 sh) (hb:Below W.heap.size W V):DayS W0 V x L1 L2 h f1 u1 f2 u2 sh:=
 ⟨k.m.below hb,k.rl.trans ((RlS.refl _ W).below hb (waJ _)),fun j v hj=>by
  have:=k.s j v hj;exact((zad hb).1 _ _ (waR W _ this)).trans this,k.DW⟩
theorem DayS.turn1 {W0 W V:World} {x:AskD} {L1 L2:List Cl} {h:Bool→Bool→Bool} {f1 u1 f2 u2:Int} {sh:Array Value} (k:DayS W0 W x L1 L2 h f1 u1 f2 u2 sh) (hr:RlS (x.d1.mv L1.length) W V) (hR:RollAt V x.d1 L1 x.lo1 x.hi1 x.D):DayS W0 V x L1 L2 h f1 u1 f2 u2 sh:=
 ⟨k.m.turn1 hr hR,k.rl.trans (hr.mono fun j g=>.inr (.inr (.inl g))),fun j v hj=>hr.cell (k.s j v hj) (fun g=>k.nS (waJ _) (.inr (.inr (.inl g)))),k.DW⟩
theorem DayS.turn2 {W0 W V:World} {x:AskD} {L1 L2:List Cl} {h:Bool→Bool→Bool} {f1 u1 f2 u2:Int} {sh:Array Value} (k:DayS W0 W x L1 L2 h f1 u1 f2 u2 sh) (hr:RlS (x.d2.mv L2.length) W V) (hR:RollAt V x.d2 L2 x.lo2 x.hi2 x.D):DayS W0 V x L1 L2 h f1 u1 f2 u2 sh:=
 ⟨k.m.turn2 hr hR,k.rl.trans (hr.mono fun j g=>.inr (.inr (.inr g))),fun j v hj=>hr.cell (k.s j v hj) (fun g=>k.nS (waJ _) (.inr (.inr (.inr g)))),k.DW⟩
theorem DayS.limbs {W0 W:World} {x:AskD} {L1 L2:List Cl} {h:Bool→Bool→Bool} {f1 u1 f2 u2:Int} {sh:Array Value} (k:DayS W0 W x L1 L2 h f1 u1 f2 u2 sh):W.rangeAt W0.heap.size 0 sh.toList:=fun j v hj=>by
 rw[waH];exact k.s j v (by simpa using hj)
def zwf {α:Type} (ds:α→List (Nat×Value)) (R:α→World→Prop) (a0:Act) (e:Exit) (a:Act) (w:World):Prop:=e=.normal∧∃x,a=zdS (ds x) a0∧R x w
theorem zgK {α:Type} {P:Program} {c:Code} {Q:Exit→Act→World→Prop} {a:Act} {w:World} (ds:α→List (Nat×Value)) (R:α→World→Prop) (h2:c.wp P (zwf ds R a) a w) (h1:∀x w',R x w'→Q .normal (zdS (ds x) a) w'):c.wp P Q a w:=
 Code.wp_mono (by rintro e a' w' ⟨rfl,x,rfl,hr⟩;exact h1 x w' hr) h2
structure PairR (W0:World) (x:AskD) (L1 L2:List Cl) (h:Bool→Bool→Bool) (f1 u1 f2 u2:Int) (n:Int) (v1 v2:Value) (B:Nat) (W:World):Prop where
 m:MeetAt W x L1 L2 h f1 u1 f2 u2
 rl:RlS (x.mv L1.length L2.length) W0 W
 d1:zbo W x.D v1 (zao L1 n)
 d2:zbo W x.D v2 (zao L2 n)
 b:x.D≤B∧W0.heap.size≤B∧B<W.heap.size
 c0:W.cell? ⟨B,0,none⟩=some v1
 c1:W.cell? ⟨B,1,none⟩=some v2
theorem PairR.mk' {W0 W:World} {x:AskD} {L1 L2:List Cl} {h:Bool→Bool→Bool} {f1 u1 f2 u2:Int} {sh:Array Value} {n:Int} {v1 v2:Value} {B:Nat} (k:DayS W0 W x L1 L2 h f1 u1 f2 u2 sh) (d1:zbo W x.D v1 (zao L1 n)) (d2:zbo W x.D v2 (zao L2 n)) (hB:W0.heap.size≤B)
 (hF:zc3 W B) {a0 a1:Value} (c0:W.cell? ⟨B,0,none⟩=some a0) (c1:W.cell? ⟨B,1,none⟩=some a1):PairR W0 x L1 L2 h f1 u1 f2 u2 n v1 v2 B ((W.setCell ⟨B,0,none⟩ v1).setCell ⟨B,1,none⟩ v2):=by
 have hr:RlS (·=B) W ((W.setCell ⟨B,0,none⟩ v1).setCell ⟨B,1,none⟩ v2):=((RlS.refl (·=B) W).set ⟨B,0,none⟩ v1 rfl).set ⟨B,1,none⟩ v2 rfl;have hDW:=k.DW;have hlt:=waR W _ c0;refine⟨k.m.own hr oQ hF,?_,d1.imp (fun e p g=>g.foreign hF hr),d2.imp (fun e p g=>g.foreign hF hr),⟨by omega,hB,by simpa using hlt⟩,?_,?_⟩
 ·exact⟨hr.os.trans k.rl.os,hr.tape.trans k.rl.tape,hr.output.trans k.rl.output,waW k.rl.size hr.size,fun i hi hs=>(hr.block i (waD hi k.rl.size) (fun g=>by have:i=B:=g;omega)).trans (k.rl.block i hi hs)⟩
 ·exact(waU _ _ _ _ (by simp)).trans (waT _ _ _ c0)
 ·exact waT _ _ _ ((waU _ _ _ _ (by simp)).trans c1)
abbrev zdg:Bool→Bool→Bool:=fun a b=>a^^b
def zwg (x:AskD) (L1 L2:List Cl) (f1 u1 f2 u2:Int) (n:Int) (W:World) (e:Ending) (W':World):Prop:=
 ((∃s,e=.returned (.tuple #[.int .i64 (s:Nat),.bool true])∧zen (fun s=>zdg (zao L1 n s) (zao L2 n s)) 0 s)∨(e=.returned (.tuple #[.int .i64 0,.bool false])∧zdc (fun s=>zdg (zao L1 n s) (zao L2 n s)) 0))∧
   MeetAt W' x L1 L2 zdg f1 u1 f2 u2∧RlS (x.mv L1.length L2.length) W W'
theorem zuO (n:Int):∃sh,shV n=.agg sh∧sh.size=10:=⟨_,rfl,rfl⟩
theorem zbo.isPtr {W:World} {D:Nat} {v:Value} {p:Nat→Bool} (h:zbo W D v p):∃q,v=.pointer q:=by
 rcases h with ⟨h,_⟩|⟨b,h,_⟩
 ·exact⟨_,h⟩
 ·exact⟨_,h⟩
theorem zkR (W:World) (cs:Array Value):zc3 (W.alloc (.cells cs 291)) W.heap.size:=⟨_,_,_,World.alloc_heap_new W _,by decide⟩
structure PBox (W0 W:World) (B:Nat):Prop where
 b:W0.heap.size≤B
 f:zc3 W B
 c0:W.cell? ⟨B,0,none⟩=some (.pointer none)
 c1:W.cell? ⟨B,1,none⟩=some (.pointer none)
 fz:∀j,W.frozen? ⟨B,j,none⟩=false
theorem PBox.new {W0 W:World} (h:W0.heap.size≤W.heap.size):PBox W0 (W.alloc (.cells #[.pointer none,.pointer none] 291)) W.heap.size:=
 ⟨h,zkR _ _,zaa rfl rfl,zaa rfl rfl,fun j=>by go_simp⟩
theorem PBox.rls {S:Nat→Prop} {W0 W V:World} {B:Nat} (h:PBox W0 W B) (hr:RlS S W V) (hS:¬S B):PBox W0 V B:=
 ⟨h.b,h.f.rls hr hS,hr.cell h.c0 hS,hr.cell h.c1 hS,fun j=>(za6 hr (waR W _ h.c0) hS).trans (h.fz j)⟩
theorem PBox.pair {W0 W:World} {x:AskD} {L1 L2:List Cl} {h:Bool→Bool→Bool} {f1 u1 f2 u2:Int} {sh:Array Value} {n:Int} {v1 v2:Value} {B:Nat} (b:PBox W0 W B) (k:DayS W0 W x L1 L2 h f1 u1 f2 u2 sh) (d1:zbo W x.D v1 (zao L1 n)) (d2:zbo W x.D v2 (zao L2 n)):
 PairR W0 x L1 L2 h f1 u1 f2 u2 n v1 v2 B ((W.setCell ⟨B,0,none⟩ v1).setCell ⟨B,1,none⟩ v2):=PairR.mk' k d1 d2 b.b b.f b.c0 b.c1
theorem DayS.size {W0 W:World} {x:AskD} {L1 L2:List Cl} {h:Bool→Bool→Bool} {f1 u1 f2 u2:Int} {sh:Array Value} (k:DayS W0 W x L1 L2 h f1 u1 f2 u2 sh):W0.heap.size≤W.heap.size:=k.rl.size
theorem DayS.n1 {W0 W:World} {x:AskD} {L1 L2:List Cl} {h:Bool→Bool→Bool} {f1 u1 f2 u2:Int} {sh:Array Value} (k:DayS W0 W x L1 L2 h f1 u1 f2 u2 sh) {B:Nat} (hB:W0.heap.size≤B):¬x.d1.mv L1.length B:=fun g=>k.nS hB (.inr (.inr (.inl g)))
theorem DayS.n2 {W0 W:World} {x:AskD} {L1 L2:List Cl} {h:Bool→Bool→Bool} {f1 u1 f2 u2:Int} {sh:Array Value} (k:DayS W0 W x L1 L2 h f1 u1 f2 u2 sh) {B:Nat} (hB:W0.heap.size≤B):¬x.d2.mv L2.length B:=fun g=>k.nS hB (.inr (.inr (.inr g)))
theorem DayS.disc2 {W0 W V:World} {x:AskD} {L1 L2:List Cl} {h:Bool→Bool→Bool} {f1 u1 f2 u2:Int} {sh:Array Value} (k:DayS W0 W x L1 L2 h f1 u1 f2 u2 sh) {v:Value} {p:Nat→Bool} (d:zbo W x.D v p) (hr:RlS (x.d2.mv L2.length) W V):zbo V x.D v p:=d.rls hr fun j g=>(k.m.mb j (.inr (.inr (.inr g)))).1
theorem zbo.below {W V:World} {D:Nat} {v:Value} {p:Nat→Bool} (d:zbo W D v p) (hb:Below W.heap.size W V):zbo V D v p:=d.imp fun e p g=>g.below hb
theorem zqC {C:World→Prop} {Sv:World→Value→Prop} {m ck:Nat} {es:Array MapEntry} {T k e:TypeId} {z x:Value} (hT:prog.underlying T=some (.map k e)) (hz:∀w,(zeroValue e).run prog w=.ok z w) (hK:∀V,C V→KeyRun prog k V (Sv V)) (hx:∀V,C V→Sv V x) (hes:∀V,C V→∀q∈es.toList,Sv V q.key)
 (h1:zfE es.toList) (W:World) (hC:C W) (hW:W.heap[m]?=some (.map es ck)):
 (∃q∈es.toList,q.key=x∧∀V:World,C V→V.heap[m]?=some (.map es ck)→(Instr.lookup T (.map (some m)) x false).run prog V=.ok q.val V)∨
   ((∀q∈es.toList,q.key≠x)∧∀V:World,C V→V.heap[m]?=some (.map es ck)→(Instr.lookup T (.map (some m)) x false).run prog V=.ok z V):=by
 rcases zbs (w:=W) (z:=z) (x:=x) hT (hz W) hW (hK W hC) (hx W hC) (hes W hC) with ⟨q,hq,hk,_⟩|⟨hno,_⟩
 ·refine .inl ⟨q,hq,hk,fun V hCV hV=>?_⟩
  rcases zbs (w:=V) (z:=z) (x:=x) hT (hz V) hV (hK V hCV) (hx V hCV) (hes V hCV) with ⟨q',hq',hk',h⟩|⟨hno,_⟩
  ·rw[h false,if_neg (by decide),h1 q hq q' hq' (hk.trans hk'.symm)]
  ·exact absurd hk (hno q hq)
 ·refine .inr ⟨hno,fun V hCV hV=>?_⟩
  rcases zbs (w:=V) (z:=z) (x:=x) hT (hz V) hV (hK V hCV) (hx V hCV) (hes V hCV) with ⟨q',hq',hk',h⟩|⟨_,h⟩
  ·exact absurd hk' (hno q' hq')
  ·rw[h false,if_neg (by decide)]
theorem PairR.below {W0 W V:World} {x:AskD} {L1 L2:List Cl} {h:Bool→Bool→Bool} {f1 u1 f2 u2:Int} {n:Int} {v1 v2:Value} {B:Nat} (k:PairR W0 x L1 L2 h f1 u1 f2 u2 n v1 v2 B W) (hb:Below W.heap.size W V):PairR W0 x L1 L2 h f1 u1 f2 u2 n v1 v2 B V:=
 ⟨k.m.below hb,k.rl.trans ((RlS.refl _ W).below hb (waJ _)),k.d1.below hb,k.d2.below hb,⟨k.b.1,k.b.2.1,waD k.b.2.2 hb.size⟩,((zad hb).1 _ _ k.b.2.2).trans k.c0,((zad hb).1 _ _ k.b.2.2).trans k.c1⟩
theorem PairR.putF {W0 W:World} {x:AskD} {L1 L2:List Cl} {h:Bool→Bool→Bool} {f1 u1 f2 u2:Int} {n:Int} {v1 v2:Value} {B:Nat} (k:PairR W0 x L1 L2 h f1 u1 f2 u2 n v1 v2 B W) {es:Array MapEntry} {j:Nat} (hes:FineE W x.D h es.toList):PairR W0 x L1 L2 h f1 u1 f2 u2 n v1 v2 B (W.putObj x.fm (.map es j)):=by
 have hr:RlS (·=x.fm) W (W.putObj x.fm (.map es j)):=(RlS.refl _ W).put _ _ rfl;have hm:=(k.m.mb x.fm (.inr (.inl rfl))).1;have hb:=k.b;have nB:¬(B=x.fm):=by omega
 exact⟨k.m.putF hes,k.rl.trans (hr.mono fun i g=>.inr (.inl g)),k.d1.rls hr (fun i g=>by have:i=x.fm:=g;omega),k.d2.rls hr (fun i g=>by have:i=x.fm:=g;omega),⟨hb.1,hb.2.1,by simpa using hb.2.2⟩,hr.cell k.c0 nB,hr.cell k.c1 nB⟩
theorem zlU {p:Nat→Bool} {s x y:Nat} (h:zen p s x) (k:zen p s y):x=y:=by
 obtain⟨_,h2,h3,h4⟩:=h;obtain⟨_,k2,k3,k4⟩:=k;rcases Nat.lt_trichotomy x y with g|g|g
 ·rw[k4 x h2 g] at h3;cases h3
 ·exact g
 ·rw[h4 y k2 g] at k3;cases k3
theorem zm5 (p:Nat→Bool):∀N:Nat,(∃x,x<N∧p x=true∧∀y,y<x→p y=false)∨∀y,y<N→p y=false
 |0=>.inr fun y h=>by omega
 |N+1=>by
  rcases zm5 p N with ⟨x,h1,h2,h3⟩|h
  ·exact .inl ⟨x,by omega,h2,h3⟩
  ·cases hp:p N with
   |true=>exact .inl ⟨N,by omega,hp,h⟩
   |false=>
    refine .inr fun y hy=>?_
    by_cases e:y=N
    ·rw[e];exact hp
    ·exact h y oQ
theorem zuP (p:Nat→Bool):(∃x,zen p 0 x)∨zdc p 0:=by
 rcases zm5 p 86400 with ⟨x,h1,h2,h3⟩|h
 ·exact .inl ⟨x,h1,waK _,h2,fun y _ hy=>h3 y hy⟩
 ·exact .inr fun y _ hy=>h y hy
theorem zsN (x:AskD) (L1 L2:List Cl) (f1 u1 f2 u2:Int) (W:World) (hM:MeetAt W x L1 L2 zdg f1 u1 f2 u2) (hg:x.g=47) (n:Int) (h0:0≤n) (h1:n<146097):
 Calls prog 149 #[.pointer (some ⟨x.b,0,none⟩),shV n] W (zwg x L1 L2 f1 u1 f2 u2 n W):=by
 have HA1:=waV (fun V (hV:MeetAt V x L1 L2 zdg f1 u1 f2 u2)=>zkN x.d1 L1 x.lo1 x.hi1 x.D V hV.r1 n h0 h1)
 have HA2:=waV (fun V (hV:MeetAt V x L1 L2 zdg f1 u1 f2 u2)=>zkN x.d2 L2 x.lo2 x.hi2 x.D V hV.r2 n h0 h1)
 obtain⟨sh,hsh,hsz⟩:=zuO n;rw[hsh] at HA1 HA2 ⊢;have HM:=waV hM;have hDW:=hM.r1.dw;have c0:=hM.c0;have lb:=waR W _ c0;have hu:=underlying125;have hi':(prog.info? 125).map (·.size)=some sh.toList.length:=by
  rw[Array.length_toList,hsz];kernel_rfl
 have HSz:=waV hsz;clear hM hsh hsz;go_enter func149,ntmps149;go_wp2_with fail;have hD0:Hid (DayS W ((W.alloc (.cells sh 125)).drew) x L1 L2 zdg f1 u1 f2 u2 sh):=by
  have hb:Below W.heap.size W ((W.alloc (.cells sh 125)).drew):=((waC _ W).alloc (waJ _) _).drew;exact⟨HM.out.below hb,(RlS.refl _ W).below hb (waJ _),fun j v hj=>show(W.alloc (.cells sh 125)).cell? _=_ from zaa rfl hj,hDW⟩
 refine zgK (α:=Value×Value×Nat) (fun y=>[(9,.pointer (some ⟨x.b,0,none⟩)),(10,.pointer (some ⟨x.b,0,none⟩)),(11,.pointer (some ⟨x.b,0,none⟩)),(12,.pointer (some ⟨x.d1.b,0,none⟩)),(13,.agg sh),(14,y.1),(15,.pointer (some ⟨x.b,0,none⟩)),(16,.pointer (some ⟨x.b,0,none⟩)),(17,.pointer (some ⟨x.b,1,none⟩)),(18,.pointer (some ⟨x.d2.b,0,none⟩)),(19,.agg sh),(20,y.2.1),(21,.agg #[y.1,y.2.1]),(6,.pointer (some ⟨y.2.2,0,none⟩))])
  (fun y w'=>PairR W x L1 L2 zdg f1 u1 f2 u2 n y.1 y.2.1 y.2.2 w') ?ways ?on
 case ways=>
  have hHeld:=hD0;refine zan 14 (fun w'=>Hid (DayS W w' x L1 L2 zdg f1 u1 f2 u2 sh)) kQ ?_
  generalize (W.alloc (.cells sh 125)).drew=W1 at *;refine(kP 0 9 (h:=(kP 1 10 (h:=(kP 2 11 (h:=(kR 3 12 (fun w_ hSw_=>hSw_.out.m.c0) (h:=?_))))))))
  simp only[Act.put,aPu1,aPu2,aPu3];refine zaj (i:=4) (dst:=some 13) (v:=.agg sh.toList.toArray) (hy:=fun o_ ho_=>?_) (hS:=hHeld) (h:=?_)
  case refine_1=>(obtain rfl:=waB ho_;exact yieldsIf_load_mid (by rfl) 125 _ rfl W.heap.size 0 rfl sh.toList _ (fun w' hw'=>hw'.out.limbs) hu rfl hi')
  simp only[Act.put,aPu1,aPu2,aPu3,Array.toArray_toList];refine(kP 6 15 (h:=(kP 7 16 (h:=(kP 8 17 (h:=(kR 9 18 (fun w_ hSw_=>hSw_.out.m.c1) (h:=?_))))))))
  simp only[Act.put,aPu1,aPu2,aPu3];refine zaj (i:=10) (dst:=some 19) (v:=.agg sh.toList.toArray) (hy:=fun o_ ho_=>?_) (hS:=hHeld) (h:=?_)
  case refine_1=>(obtain rfl:=waB ho_;exact yieldsIf_load_mid (by rfl) 125 _ rfl W.heap.size 0 rfl sh.toList _ (fun w' hw'=>hw'.out.limbs) hu rfl hi')
  simp only[Act.put,aPu1,aPu2,aPu3,Array.toArray_toList];refine zdz (i:=5) (i':=13) kQ (fun o_ ho_ K_ hK_=>?_) (fun o_ ho_ K_ hK_=>?_)
  all_goals obtain rfl:=waB ho_
  all_goals have HK_:=waV hK_
  all_goals clear hK_ ho_
  ·go_wp2_with (go_at_call 75;refine(HA1.out _ hHeld.out.m).mono ?_;rintro e w3 ⟨v1,rfl,d1,hR1,hr1⟩)
   obtain⟨p1,rfl⟩:=d1.isPtr;refine HK_.out _ _ (hHeld.out.turn1 hr1 hR1) ?_;have hHeld:Hid (DayS W w3 x L1 L2 zdg f1 u1 f2 u2 sh):=hHeld.out.turn1 hr1 hR1;clear HK_;refine zdz (i:=11) (i':=13) kQ (fun o_ ho_ K_ hK_=>?_) (fun o_ ho_ K_ hK_=>?_)
   all_goals obtain rfl:=waB ho_
   all_goals have HK_:=waV hK_
   all_goals clear hK_ ho_
   ·go_wp2_with (go_at_call 75;refine(HA2.out _ hHeld.out.m).mono ?_;rintro e w4 ⟨v2,rfl,d2,hR2,hr2⟩)
    obtain⟨p2,rfl⟩:=d2.isPtr;refine HK_.out _ _ (hHeld.out.turn2 hr2 hR2) ?_;have d1:=hHeld.out.disc2 d1 hr2;have hHeld:Hid (DayS W w4 x L1 L2 zdg f1 u1 f2 u2 sh):=hHeld.out.turn2 hr2 hR2;clear HK_;refine(kP 12 21 (h:=?_));simp only[Act.put,aPu1,aPu2,aPu3];refine zac (i:=13) kQ fun o_ ho_ K_ hK_=>?_
    obtain rfl:=waB ho_;have HK_:=waV hK_;clear hK_ ho_;have hP:=PBox.new (W0:=W) (W:=w4) hHeld.out.size;go_wp2;refine HK_.out _ _ (hHeld.out.below ((waC _ _).alloc (waJ _) _)) ?_;have hHeld:Hid (DayS W (World.alloc w4 (.cells #[.pointer none,.pointer none] 291)) x L1 L2 zdg f1 u1 f2 u2 sh):=hHeld.out.below ((waC _ _).alloc (waJ _) _)
    (try have d1:=d1.below ((waC _ w4).alloc (waJ _) (.cells #[.pointer none,.pointer none] 291)))
    (try have d2:=d2.below ((waC _ w4).alloc (waJ _) (.cells #[.pointer none,.pointer none] 291)))
    clear HK_;generalize World.alloc w4 (.cells #[.pointer none,.pointer none] 291)=w5 at *;have HPr:=waV (hP.pair hHeld.out d1 d2);have c0_:=hP.c0;have c1_:=hP.c1;have f_:=hP.fz;refine zag (j:=1) dQ (.inr rfl) dQ kQ ?_;simp only[wbQ,waG,List.length_nil,Nat.reduceAdd,Nat.reduceSub,waZ,wbA];go_wp2;refine⟨rfl,(.pointer p1,.pointer p2,w4.heap.size),?_,HPr.out⟩;simp only[zdS,List.foldl,Act.put,wbU,wbV,wbW]
   ·have hP:=PBox.new (W0:=W) (W:=w3) hHeld.out.size;go_wp2;refine HK_.out _ _ (hHeld.out.below ((waC _ _).alloc (waJ _) _)) ?_;have hHeld:Hid (DayS W (World.alloc w3 (.cells #[.pointer none,.pointer none] 291)) x L1 L2 zdg f1 u1 f2 u2 sh):=hHeld.out.below ((waC _ _).alloc (waJ _) _)
    (try have d1:=d1.below ((waC _ w3).alloc (waJ _) (.cells #[.pointer none,.pointer none] 291)))
    (try have d2:=d2.below ((waC _ w3).alloc (waJ _) (.cells #[.pointer none,.pointer none] 291)))
    clear HK_;generalize World.alloc w3 (.cells #[.pointer none,.pointer none] 291)=w5 at *;refine zac (i:=11) kQ fun o_ ho_ K_ hK_=>?_
    obtain rfl:=waB ho_;have HK_:=waV hK_;clear hK_ ho_
    go_wp2_with (go_at_call 75;refine(HA2.out _ hHeld.out.m).mono ?_;rintro e w4 ⟨v2,rfl,d2,hR2,hr2⟩)
    obtain⟨p2,rfl⟩:=d2.isPtr;refine HK_.out _ _ (hHeld.out.turn2 hr2 hR2) ?_;have d1:=hHeld.out.disc2 d1 hr2;have hHeld:Hid (DayS W w4 x L1 L2 zdg f1 u1 f2 u2 sh):=hHeld.out.turn2 hr2 hR2;clear HK_;have hP:=hP.rls hr2 (hHeld.out.n2 hP.b);refine(kP 12 21 (h:=?_));simp only[Act.put,aPu1,aPu2,aPu3];have HPr:=waV (hP.pair hHeld.out d1 d2);have c0_:=hP.c0;have c1_:=hP.c1;have f_:=hP.fz;refine zag (j:=1) dQ (.inr rfl) dQ kQ ?_;simp only[wbQ,waG,List.length_nil,Nat.reduceAdd,Nat.reduceSub,waZ,wbA];go_wp2;refine⟨rfl,(.pointer p1,.pointer p2,w3.heap.size),?_,HPr.out⟩;simp only[zdS,List.foldl,Act.put,wbU,wbV,wbW]
  ·have hP:=PBox.new (W0:=W) (W:=W1) hHeld.out.size;go_wp2;refine HK_.out _ _ (hHeld.out.below ((waC _ _).alloc (waJ _) _)) ?_;have hHeld:Hid (DayS W (World.alloc W1 (.cells #[.pointer none,.pointer none] 291)) x L1 L2 zdg f1 u1 f2 u2 sh):=hHeld.out.below ((waC _ _).alloc (waJ _) _)
   (try have d1:=d1.below ((waC _ W1).alloc (waJ _) (.cells #[.pointer none,.pointer none] 291)))
   (try have d2:=d2.below ((waC _ W1).alloc (waJ _) (.cells #[.pointer none,.pointer none] 291)))
   clear HK_;generalize World.alloc W1 (.cells #[.pointer none,.pointer none] 291)=w5 at *;refine zac (i:=5) kQ fun o_ ho_ K_ hK_=>?_
   obtain rfl:=waB ho_;have HK_:=waV hK_;clear hK_ ho_
   go_wp2_with (go_at_call 75;refine(HA1.out _ hHeld.out.m).mono ?_;rintro e w3 ⟨v1,rfl,d1,hR1,hr1⟩)
   obtain⟨p1,rfl⟩:=d1.isPtr;refine HK_.out _ _ (hHeld.out.turn1 hr1 hR1) ?_;have hHeld:Hid (DayS W w3 x L1 L2 zdg f1 u1 f2 u2 sh):=hHeld.out.turn1 hr1 hR1;clear HK_;have hP:=hP.rls hr1 (hHeld.out.n1 hP.b);refine zac (i:=11) kQ fun o_ ho_ K_ hK_=>?_
   obtain rfl:=waB ho_;have HK_:=waV hK_;clear hK_ ho_
   go_wp2_with (go_at_call 75;refine(HA2.out _ hHeld.out.m).mono ?_;rintro e w4 ⟨v2,rfl,d2,hR2,hr2⟩)
   obtain⟨p2,rfl⟩:=d2.isPtr;refine HK_.out _ _ (hHeld.out.turn2 hr2 hR2) ?_;have d1:=hHeld.out.disc2 d1 hr2;have hHeld:Hid (DayS W w4 x L1 L2 zdg f1 u1 f2 u2 sh):=hHeld.out.turn2 hr2 hR2;clear HK_;have hP:=hP.rls hr2 (hHeld.out.n2 hP.b);refine(kP 12 21 (h:=?_));simp only[Act.put,aPu1,aPu2,aPu3];have HPr:=waV (hP.pair hHeld.out d1 d2);have c0_:=hP.c0;have c1_:=hP.c1;have f_:=hP.fz;refine zag (j:=1) dQ (.inr rfl) dQ kQ ?_;simp only[wbQ,waG,List.length_nil,Nat.reduceAdd,Nat.reduceSub,waZ,wbA];go_wp2;refine⟨rfl,(.pointer p1,.pointer p2,W1.heap.size),?_,HPr.out⟩;simp only[zdS,List.foldl,Act.put,wbU,wbV,wbW]
 case on=>
 rintro ⟨v1,v2,B⟩ w5 hP;simp only[zdS,List.foldl,Act.put,wbU,wbW,wbV];have HP:Hid (PairR W x L1 L2 zdg f1 u1 f2 u2 n v1 v2 B w5):=hP;clear hD0 hP HA1 HA2 HM c0 hu hi' HSz;have HT:Hid (prog.underlying 152=some (.map 291 4)):=underlying152;obtain⟨es,ck,hE,hes⟩:=HP.out.m.fine;have lm:=(waL.1 hE).1;have c3:=HP.out.m.c3;have lb5:=waR w5 _ c3;have c3y:∀y:Ext w5,y.W.cell? ⟨x.b,3,none⟩=some (.map (some x.fm)):=fun y=>y.cell c3
 have p0y:∀y:Ext w5,y.W.cell? ⟨B,0,none⟩=some v1:=fun y=>y.cell HP.out.c0
 have p1y:∀y:Ext w5,y.W.cell? ⟨B,1,none⟩=some v2:=fun y=>y.cell HP.out.c1
 rcases zqC (C:=fun V=>Below w5.heap.size w5 V) (Sv:=zhA) (x:=.agg #[v1,v2]) (z:=.bool false) HT.out (fun w=>rfl) (fun V _=>zm3 V) (fun V hV=>⟨v1,v2,rfl,(HP.out.d1.below hV).ptr,(HP.out.d2.below hV).ptr⟩) (fun V hV=>zkP (hes.rls (S:=fun _=>False) ((RlS.refl _ w5).below hV (waJ _)) (fun _ g=>g.elim))) hes.one w5 (waC _ _) hE with ⟨q,hq,hk,hl⟩|⟨hno,hl⟩
 ·have HN:Hid (zdc (fun s=>zdg (zao L1 n s) (zao L2 n s)) 0∧q.val=.bool true):=by
   obtain⟨y1,y2,p1,p2,g1,g2,g3,g4,g5⟩:=hes.all q hq;rw[hk] at g1;simp only[Value.agg.injEq,Array.mk.injEq,List.cons.injEq,and_true] at g1;obtain⟨rfl,rfl⟩:=g1;exact⟨g5.same (g3.same HP.out.d1) (g4.same HP.out.d2),g2⟩
  have hly:∀y:Ext w5,(Instr.lookup 152 (.map (some x.fm)) (.agg #[v1,v2]) false).run prog y.W=.ok (.bool true) y.W:=fun y=>by
   rw[←HN.out.2];exact hl y.W y.h ((y.h.block _ lm).trans hE)
  clear hl hes hk hq hE HT;go_wp2;refine zaV kQ kQ ?_
  repeat (first|go_big_quiet_skip|(go_big_quiet_want;go_big_quiet_op;(first|go_big_quiet_on|go_big_quiet_call (fail))))
  refine wpQuiet_nil ?_;rintro _ ⟨xw,rfl⟩;have HP6:=waV (HP.out.below xw.h);clear c3y p0y p1y hly HP;go_wp2
  (try simp only[Exit.inBlock,Exit.then])
  refine waY (wbM rfl _ _ _) rfl ?_;exact⟨.inr ⟨rfl,HN.out.1⟩,HP6.out.m,HP6.out.rl⟩
 ·have hly:∀y:Ext w5,(Instr.lookup 152 (.map (some x.fm)) (.agg #[v1,v2]) false).run prog y.W=.ok (.bool false) y.W:=fun y=>hl y.W y.h ((y.h.block _ lm).trans hE)
  have HNo:=waV hno;have HEs:=waV hes;clear hl hno hes;go_wp2;refine zaV kQ kQ ?_
  repeat (first|go_big_quiet_skip|(go_big_quiet_want;go_big_quiet_op;(first|go_big_quiet_on|go_big_quiet_call (fail))))
  refine wpQuiet_nil ?_;rintro _ ⟨xw,rfl⟩;have HP6:=waV (HP.out.below xw.h);have hE6:xw.W.heap[x.fm]?=some (.map es ck):=(xw.h.block _ lm).trans hE;have HK6:Hid (FineE xw.W x.D zdg es.toList):=HEs.out.rls (S:=fun _=>False) ((RlS.refl _ w5).below xw.h (waJ _)) (fun _ g=>g.elim)
  clear c3y p0y p1y hly HP HEs hE lm c3 lb5;generalize xw.W=V6 at *;have c2:=HP6.out.m.c2;rw[hg] at c2;have c2y:∀y:Ext V6,y.W.cell? ⟨x.b,2,none⟩=some (.func (.func 47) #[] #[]):=fun y=>y.cell c2
  have p0y:∀y:Ext V6,y.W.cell? ⟨B,0,none⟩=some v1:=fun y=>y.cell HP6.out.c0
  have p1y:∀y:Ext V6,y.W.cell? ⟨B,1,none⟩=some v2:=fun y=>y.cell HP6.out.c1
  have HF0:=waV (fun V (hV:Below V6.heap.size V6 V)=>zf5 v1 v2 (zao L1 n) (zao L2 n) V ((HP6.out.below hV).m.r1.tz) (HP6.out.below hV).d1.v (HP6.out.below hV).d2.v)
  rcases zuP (fun s=>zdg (zao L1 n s) (zao L2 n s)) with ⟨s,hs⟩|hN
  ·have HF:Hid (∀V,Below V6.heap.size V6 V→Calls prog 47 #[v1,v2] V (Ret (.tuple #[.int .i64 (s:Nat),.bool true]) V)):=fun V hV=>(HF0.out V hV).mono (by
    rintro e w' ⟨rfl,(⟨y,rfl,hy⟩|⟨rfl,hn⟩)⟩
    ·obtain rfl:=zlU hs hy;exact⟨rfl,waC _ _⟩
    ·have:=hn s hs.2.1 hs.1;have h3:=hs.2.2.1;exact absurd (h3.symm.trans this) dQ)
   have HS:=waV hs;clear hs HF0;go_wp2;refine zaV kQ kQ ?_
   repeat (first|go_big_quiet_skip|(go_big_quiet_want;go_big_quiet_op;(first|go_big_quiet_on|go_big_quiet_call ((with_reducible exact zey _ (HF.out _ (Ext.h _)))))))
   refine wpQuiet_nil ?_;rintro _ ⟨xw,rfl⟩;have HP7:=waV (HP6.out.below xw.h);clear c2y p0y p1y HP6 HF HK6;go_wp2
   (try simp only[Exit.inBlock,Exit.then])
   refine waY (wbM rfl _ _ _) rfl ?_;exact⟨.inl ⟨s,rfl,HS.out⟩,HP7.out.m,HP7.out.rl⟩
  ·have HF:Hid (∀V,Below V6.heap.size V6 V→Calls prog 47 #[v1,v2] V (Ret (.tuple #[.int .i64 0,.bool false]) V)):=fun V hV=>(HF0.out V hV).mono (by
    rintro e w' ⟨rfl,(⟨y,rfl,hy⟩|⟨rfl,hn⟩)⟩
    ·have:=hN y hy.2.1 hy.1;have h3:=hy.2.2.1;exact absurd (h3.symm.trans this) dQ
    ·exact⟨rfl,waC _ _⟩)
   have HN:=waV hN;clear hN HF0;go_wp2;refine zaV kQ kQ ?_
   repeat (first|go_big_quiet_skip|(go_big_quiet_want;go_big_quiet_op;(first|go_big_quiet_on|go_big_quiet_call ((with_reducible exact zey _ (HF.out _ (Ext.h _)))))))
   refine wpQuiet_nil ?_;rintro _ ⟨xw,rfl⟩;have HP7:=waV (HP6.out.below xw.h);have hE7:xw.W.heap[x.fm]?=some (.map es ck):=(xw.h.block _ (waL.1 hE6).1).trans hE6;have HK7:Hid (FineE xw.W x.D zdg es.toList):=HK6.out.rls (S:=fun _=>False) ((RlS.refl _ V6).below xw.h (waJ _)) (fun _ g=>g.elim)
   clear c2y p0y p1y HP6 HF HK6 hE6 c2;generalize xw.W=V7 at *;have HUp:Hid (∀(V:World) (es5:Array MapEntry),(es5=es∨es5=#[])→PairR W x L1 L2 zdg f1 u1 f2 u2 n v1 v2 B V→V.heap[x.fm]?=some (.map es5 ck)→FineE V x.D zdg es5.toList→∀k,
    (Instr.mapUpdate 152 (.map (some x.fm)) (.agg #[v1,v2]) (.bool true)).run prog (V.drewN k)=.ok () ((V.drewN k).putObj x.fm (.map (es5.push {key:=.agg #[v1,v2],val:=.bool true,born:=ck}) (ck+1)))∧
      PairR W x L1 L2 zdg f1 u1 f2 u2 n v1 v2 B ((V.drewN k).putObj x.fm (.map (es5.push {key:=.agg #[v1,v2],val:=.bool true,born:=ck}) (ck+1)))):=fun V es5 he hP hE5 hK k=>by
    have hP2:=hP.below (zax (waC _ _) k);have hK2:FineE (V.drewN k) x.D zdg es5.toList:=hK.rls (S:=fun _=>False) ((RlS.refl _ V).drewN k) (fun _ g=>g.elim)
    have hno':∀q∈es5.toList,q.key≠.agg #[v1,v2]:=by
     rcases he with rfl|rfl
     ·exact HNo.out
     ·intro q hq;cases hq
    exact⟨zcd (w:=V.drewN k) (x:=.agg #[v1,v2]) (v:=.bool true) HT.out hE5 (zm3 _) ⟨v1,v2,rfl,hP2.d1.ptr,hP2.d2.ptr⟩ (zkP hK2) hno',hP2.putF (hK2.push hno' hP2.d1 hP2.d2 HN.out)⟩
   have hln:(Builtin.len_ #[152] 3 #[.map (some x.fm)]).run prog V7=.ok (.int .i64 (es.size:Int)) V7:=zeG HT.out hE7;have hcr:(Builtin.clear_ #[152] 0 #[.map (some x.fm)]).run prog V7=.ok (.tuple #[]) (V7.putObj x.fm (.map #[] ck)):=zde HT.out hE7;have c3:=HP7.out.m.c3;have lb7:=waR V7 _ c3
   by_cases h6:es.size=512
   ·rw[h6] at hln;have HP8:=waV (HP7.out.putF (j:=ck) (es:=#[]) (FineE.nil _ _ _));have hE8:(V7.putObj x.fm (.map #[] ck)).heap[x.fm]?=some (.map #[] ck):=World.putObj_heap_same (waL.1 hE7).1;have HK8:Hid (FineE (V7.putObj x.fm (.map #[] ck)) x.D zdg (#[]:Array MapEntry).toList):=FineE.nil _ _ _;go_wp2;clear HP7 HK7 hln hcr hE7 c3;generalize (V7.putObj x.fm (.map #[] ck):World)=V8 at *;have c3:=HP8.out.m.c3;have q0:=HP8.out.c0;have q1:=HP8.out.c1;refine zbg 5 kQ dQ kQ kQ kQ kQ kQ kQ ?_;dsimp only[List.take,List.drop]
    (try simp only[Act.put,List.append,wbT,wbN])
    repeat (first|go_big_quiet_skip|(go_big_quiet_want;(first|(fail;simp only[Act.put,wbU,wbV,wbW];go_big_quiet_on)|(go_big_quiet_op;(first|go_big_quiet_on|go_big_quiet_call (fail))))))
    refine wpQuiet_nil ?_;rintro _ ⟨nq,rfl⟩;obtain⟨hup,hret⟩:=HUp.out V8 #[] (.inr rfl) HP8.out hE8 HK8.out nq;have HRet:=waV hret;clear hret HUp HP8 HK8 hE8;go_wp2
    (try simp only[Exit.inBlock,Exit.then])
    refine waY (wbM rfl _ _ _) rfl ?_;exact⟨.inr ⟨rfl,HN.out⟩,HRet.out.m,HRet.out.rl⟩
   ·have h7:¬((es.size:Int)=512):=by omega
    have HP8:=HP7;have hE8:=hE7;have HK8:=HK7;go_wp2;clear HP7 HK7 hln hcr hE7 c3;generalize (V7:World)=V8 at *;have c3:=HP8.out.m.c3;have q0:=HP8.out.c0;have q1:=HP8.out.c1;refine zbg 5 kQ dQ kQ kQ kQ kQ kQ kQ ?_;dsimp only[List.take,List.drop]
    (try simp only[Act.put,List.append,wbT,wbN])
    repeat (first|go_big_quiet_skip|(go_big_quiet_want;(first|(fail;simp only[Act.put,wbU,wbV,wbW];go_big_quiet_on)|(go_big_quiet_op;(first|go_big_quiet_on|go_big_quiet_call (fail))))))
    refine wpQuiet_nil ?_;rintro _ ⟨nq,rfl⟩;obtain⟨hup,hret⟩:=HUp.out V8 es (.inl rfl) HP8.out hE8 HK8.out nq;have HRet:=waV hret;clear hret HUp HP8 HK8 hE8;go_wp2
    (try simp only[Exit.inBlock,Exit.then])
    refine waY (wbM rfl _ _ _) rfl ?_;exact⟨.inr ⟨rfl,HN.out⟩,HRet.out.m,HRet.out.rl⟩
end Go.Proofs.YtgedndlifiihkaaGreatDoor
