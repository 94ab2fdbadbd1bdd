/- A part of the proof: WTa1 -/
import Derived.Test.YtllcdbgjeidlkaaGreatDoorT15
import Derived.Test.YtllcdbgjeidlkaaGreatDoorT06
import Derived.Test.YtllcdbgjeidlkaaGreatDoorT29
import Derived.Test.YtllcdbgjeidlkaaGreatDoorT21
import Derived.Test.YtllcdbgjeidlkaaGreatDoorT30
import Derived.Test.YtllcdbgjeidlkaaGreatDoorT34
set_option maxHeartbeats 80000000
set_option maxRecDepth 100000
set_option linter.unusedSimpArgs false
set_option linter.unusedVariables false
namespace Go.Proofs.YtllcdbgjeidlkaaGreatDoor
open Go.Proofs.Tryz
open Go.RowKit Go.Shelf
attribute [local go_sem] Oper.semAt_some
def wyL (y:Nat->Nat) (k:Nat):List Nat:=(List.range k).flatMap fun i=>wd1 i (zam (y i))
theorem zjt (y:Nat->Nat) (k:Nat):wyL y (k+1)=wyL y k++wd1 k (zam (y k)):=by
 unfold wyL;rw[List.range_succ,List.flatMap_append];simp
theorem zju (y:Nat->Nat) (k:Nat):(wyL y k).length<=k * 64:=by
 have h:=zi6 (f:=fun i=>wd1 i (zam (y i))) (c:=64) (List.range k) (fun i=>by rw[zlu];exact zdw _)
 rw[List.length_range] at h;exact h
theorem zv9 (y:Nat->Nat) {k:Nat} (h:k<=7):wyL y k<+:wyL y 7:=by
 unfold wyL;exact zmK ⟨(List.range 7).drop k,by
  have e:List.range k=(List.range 7).take k:=by rw[List.take_range];congr 1;omega
  rw[e,List.take_append_drop]⟩
def zbg (y:Nat->Nat):List Int:=(wyL y 7).map fun(k:Nat)=>1970+(k:Int)
structure KpA (B:Nat) (t:TypeId) (W W':World):Prop where
 size:W.heap.size<=W'.heap.size
 row:∀v,Boxed W B t v->(∀k,v.ownBlock=some k->k<W.heap.size)->(∀k o,W.heap[k]?=some o->o.isCells=true->k≠B->v.ownBlock≠some k->W'.heap[k]?=some o)/\∃v',Boxed W' B t v'/\∀k,v'.ownBlock=some k->k<W'.heap.size/\(v.ownBlock=some k\/W.heap.size<=k)
structure KpS (S:Nat->Prop) (W W':World):Prop where
 size:W.heap.size<=W'.heap.size
 cells:∀k o,S k->W.heap[k]?=some o->o.isCells=true->W'.heap[k]?=some o
def zdd (B:Nat) (t:TypeId) (S:Nat->Prop) (V:World):Prop:=∃v,Boxed V B t v/\∀k,v.ownBlock=some k->k<V.heap.size/\¬S k
section
variable {B : Nat} {t : TypeId} {S S' : Nat -> Prop} {X Y Z : World}
theorem KpA.refl (B:Nat) (t:TypeId) (W:World):KpA B t W W:=⟨waJ _,fun v h hk=>⟨fun _ _ h _ _ _=>h,v,h,fun k e=>⟨hk k e,.inl e⟩⟩⟩
theorem KpA.trans (h:KpA B t X Y) (k:KpA B t Y Z):KpA B t X Z:=⟨waW h.size k.size,fun v hv hb=>by
 obtain⟨c1,v1,hv1,r1⟩:=h.row v hv hb;obtain⟨c2,v2,hv2,r2⟩:=k.row v1 hv1 (fun j e=>(r1 j e).1)
 refine⟨fun j o ho hc hB hn=>c2 j o (c1 j o ho hc hB hn) hc hB (fun e=>?_),v2,hv2,fun j e=>?_⟩
 ·rcases(r1 j e).2 with g|g
  ·exact hn g
  ·have:=(waL.1 ho).1;omega
 ·obtain⟨a,b⟩:=r2 j e;refine⟨a,?_⟩;rcases b with g|g
  ·rcases(r1 j g).2 with q|q
   ·exact .inl q
   ·exact .inr q
  ·exact .inr (waW h.size g)⟩
theorem KpA.putObj {l:Nat} {o:Obj} (o':Obj) (hl:X.heap[l]?=some o) (ho:o.isCells=false):KpA B t X (X.putObj l o'):=⟨by simp,fun v hv hb=>by
 have key:∀(k:Nat) (q:Obj),X.heap[k]?=some q->q.isCells=true->(X.putObj l o').heap[k]?=some q:=fun k q h1 h2=>by
  by_cases e:k=l
  ·subst e;rw[hl] at h1;cases h1;rw[ho] at h2;cases h2
  ·rw[World.putObj_heap_other e];exact h1
 exact⟨fun k q h1 h2 _ _=>key k q h1 h2,v,key _ _ hv rfl,fun k e=>⟨by simpa using hb k e,.inl e⟩⟩⟩
theorem KpS.refl (S:Nat->Prop) (W:World):KpS S W W:=⟨waJ _,fun _ _ _ h _=>h⟩
theorem KpS.trans (h:KpS S X Y) (k:KpS S Y Z):KpS S X Z:=⟨waW h.size k.size,fun j o hs h1 h2=>k.cells j o hs (h.cells j o hs h1 h2) h2⟩
theorem KpS.mono (h:KpS S X Y) (hS:∀k,S' k->S k):KpS S' X Y:=⟨h.size,fun j o hs h1 h2=>h.cells j o (hS j hs) h1 h2⟩
theorem KpS.of_rl {N:Nat} (h:Rl 0 0 N X Y):KpS S X Y:=⟨h.size,fun j o _ h1 h2=>h.block j o h1 (.inr (waK _)) (.inr h2)⟩
theorem KpS.of_below (h:Below X.heap.size X Y):KpS S X Y:=⟨h.size,fun j o _ h1 _=>(h.block j (waL.1 h1).1).trans h1⟩
theorem KpS.putObj {l:Nat} {o:Obj} (o':Obj) (hl:X.heap[l]?=some o) (ho:o.isCells=false):KpS S X (X.putObj l o'):=⟨by simp,fun k q _ h1 h2=>by
 by_cases e:k=l
 ·subst e;rw[hl] at h1;cases h1;rw[ho] at h2;cases h2
 ·rw[World.putObj_heap_other e];exact h1⟩
theorem KpS.cell (h:KpS S X Y) {b o:Nat} {v:Value} (hc:X.cell? ⟨b,o,none⟩=some v) (hS:S b):Y.cell? ⟨b,o,none⟩=some v:=by
 obtain⟨q,hq,hcells⟩:=cells_of_cell hc;exact(wbK ((h.cells b q hS hq hcells).trans hq.symm)).trans hc
theorem Tz.kpS {w w':World} (h:Tz w) (k:KpS S w w') (hS:S 0):Tz w':=fun j hj=>k.cell (h j hj) hS
theorem zdd.rl00 {N:Nat} (h:zdd B t S X) (hr:Rl 0 0 N X Y):zdd B t S Y:=by
 obtain⟨v,hv,hk⟩:=h;exact⟨v,hr.block B _ hv (.inr (waK _)) (.inr rfl),fun k e=>⟨waD (hk k e).1 hr.size,(hk k e).2⟩⟩
theorem zdd.below (h:zdd B t S X) (hr:Below X.heap.size X Y):zdd B t S Y:=by
 obtain⟨v,hv,hk⟩:=h;exact⟨v,(hr.block B (waL.1 hv).1).trans hv,fun k e=>⟨waD (hk k e).1 hr.size,(hk k e).2⟩⟩
theorem zdd.add (h:zdd B t S X) (hS:∀k,S' k->S k\/X.heap.size<=k):zdd B t S' X:=by
 obtain⟨v,hv,hk⟩:=h;exact⟨v,hv,fun k e=>⟨(hk k e).1,fun g=>by
  rcases hS k g with g|g
  ·exact(hk k e).2 g
  ·have:=(hk k e).1;omega⟩⟩
theorem zdd.lt (h:zdd B t S X):B<X.heap.size:=by
 obtain⟨v,hv,_⟩:=h;exact(waL.1 hv).1
theorem zdd.kpA (h:zdd B t S X) (hk:KpA B t X Y) (hS:∀k,S k->k<X.heap.size):zdd B t S Y:=by
 obtain⟨v,hv,hr⟩:=h;obtain⟨_,v',hv',h'⟩:=hk.row v hv (fun k e=>(hr k e).1)
 refine⟨v',hv',fun k e=>⟨(h' k e).1,fun g=>?_⟩⟩
 rcases(h' k e).2 with q|q
 ·exact(hr k q).2 g
 ·have:=hS k g;omega
theorem zdd.kps (h:zdd B t S X) (hk:KpA B t X Y) (hB:∀k,S k->k≠B):KpS S X Y:=by
 obtain⟨v,hv,hr⟩:=h;obtain⟨hc,_⟩:=hk.row v hv (fun k e=>(hr k e).1)
 exact⟨hk.size,fun k o hs h1 h2=>hc k o h1 h2 (hB k hs) (fun e=>(hr k e).2 hs)⟩
end
abbrev w7A (y:Nat->Nat):Array Value:=#[.int .u64 (y 0:Nat),.int .u64 (y 1:Nat),.int .u64 (y 2:Nat),.int .u64 (y 3:Nat),.int .u64 (y 4:Nat),.int .u64 (y 5:Nat),.int .u64 (y 6:Nat)]
theorem zre (B:Nat) (t:TypeId) (n b:Nat) (y:Nat->Nat) (hy:∀j,y j<18446744073709551616) (nb:b≠B) (nt:0≠B):
 zxj Fence.wide n prog 158 #[.pointer (some ⟨b,0,none⟩)] (fun k:Nat=> #[.int .i64 (k:Int)]) (fun k _=>k<448) (KpA B t) (fun xs=>xs=wyL y 7) (fun pre=>pre<+:wyL y 7) 3000 0 0
  (fun W=>zdd B t (fun k=>k=b\/k=0) W/\(∀j,j<7->W.cell? ⟨b,j,none⟩=some (.int .u64 (y j:Nat)))/\Tz W):=by
 have eg:∀args w,(callFunc 154 args).run prog w=.ok (.enter 154 args) w:=enters_of func154 kQ rfl;intro l J Jx W ⟨hR,cw,hT⟩ hJ hJx hY h0;have HA:=waV (fun k j V B (hc:V.cell? ⟨B,0,none⟩=some (.int .u64 (y j:Nat)))=>wbP (n:=k).2 (zc2 (y j) (hy j) B 0 1 V hc))
 have HY:=waV hY;clear hY;have hbl:=waR W _ (cw 0 dQ)
 suffices hs20:∀k,CallsIn Fence.wide (k+20) prog 158 (#[.func (.yield l) #[] #[]]++ #[.pointer (some ⟨b,0,none⟩)]) W fun e W'=>(∃v,e=.returned v)/\((∃xs,xs=wyL y 7/\J xs W')\/(∃pre,pre<+:wyL y 7/\Jx pre W')) from wbP.2 (wbP.1 (hs20 0))
 intro k;refine callsIn_of_wp_marks func158 rfl trivial ?_ rfl;simp only[ntmps158,wbQ,waG,List.length_nil,Nat.reduceAdd,Nat.reduceSub,wbR,wbS,List.push_toArray,List.append_toArray,wbN,wbT]
 gi_wp2
 apply zcg;apply wpIn_seq;apply wpIn_label;simp only[Exit.then]
 have cY:=@zaa W #[.func (.yield l) #[] #[]] 111 W.heap.size 0 (.func (.yield l) #[] #[]) rfl rfl;have hb1:Below W.heap.size W (W.alloc (.cells #[.func (.yield l) #[] #[]] 111)):=(waC _ W).alloc (waJ _) _;obtain⟨W0,hW0⟩:∃W0,W.alloc (.cells #[.func (.yield l) #[] #[]] 111)=W0:=⟨_,rfl⟩;rw[hW0] at cY hb1 ⊢;have hz0:=hb1.size;have hlY:=waR W0 _ cY;have cw0:∀j,j<7->W0.cell? ⟨b,j,none⟩=some (.int .u64 (y j:Nat)):=fun j hj=>((zad hb1).1 _ _ hbl).trans (cw j hj)
 have q0:=cw0 0 dQ;have q1:=cw0 1 dQ;have q2:=cw0 2 dQ;have q3:=cw0 3 dQ;have q4:=cw0 4 dQ;have q5:=cw0 5 dQ;have q6:=cw0 6 dQ;have CW0:=waV cw0;clear cw0 cw
 gi_wp2
 have cw0:=CW0.out;clear q0 q1 q2 q3 q4 q5 q6 CW0;have hT0:=hT.below hb1;have hJ0:J (wyL y 0) W0:=hJ _ _ _ h0 ((Rl.refl _ _ _ W).below hb1);have htz:=waR W _ (hT 0 dQ);have hBz:=hR.lt;obtain⟨S0,hS0⟩:∃S0:Nat->Prop,S0=fun k=>k=b\/k=0\/k=W.heap.size:=⟨_,rfl⟩
 have hS0':∀k,S0 k↔(k=b\/k=0\/k=W.heap.size):=fun k=>by rw[hS0]
 have hR0:zdd B t S0 W0:=(hR.add (fun k h=>by rw[hS0'] at h;omega)).below hb1
 have HS0:=waV hS0';clear hS0 hS0' hR;clear hW0 h0 hT hb1;refine wpIn_loop (fun a V=>∃(j:Nat) (Ds:List Nat) (u3 u4 u5 u8 u9 u10 u11 u12 u13 u14 u15 u16 u17 u18 u19 u20 u21 u22:Value),j<=7/\a={tmps:=#[.func (.yield l) #[] #[],.pointer (some ⟨b,0,none⟩),.pointer (some ⟨W.heap.size,0,none⟩),u3,u4,u5,.agg (w7A y),.int .i64 (j:Int),u8,u9,u10,u11,u12,u13,u14,u15,u16,u17,u18,u19,u20,u21,u22],defers:=zsV Ds}/\
  zed W.heap.size V Ds/\J (wyL y j) V/\(KpS S0 W0 V/\zdd B t S0 V)/\KeepsFrom W.heap.size W0 V) (fun a _=>7 - (intOf (a.tmps.getD 7 undef)).toNat) ⟨0,[],_,_,_,_,_,_,_,_,_,_,_,_,_,_,_,_,_,_,by omega,rfl,⟨by simp,by simp⟩,hJ0,⟨KpS.refl _ _,hR0⟩,KeepsFrom.refl _ _⟩ ?_
 rintro a V ⟨j,Ds,u3,u4,u5,u8,u9,u10,u11,u12,u13,u14,u15,u16,u17,u18,u19,u20,u21,u22,hj,rfl,hDs,hjV,⟨hkV,hrV⟩,hfV⟩;have hsV:=hkV.size;have cYV:=hkV.cell cY ((HS0.out _).2 (.inr (.inr rfl)))
 by_cases hlt:j<7
 ·have cwV:=hkV.cell (cw0 j hlt) ((HS0.out _).2 (.inl rfl));have hbV:=waR V _ cwV;have i0:(0:Int)<=(j:Int):=by omega
  have i1:(j:Int)<7:=by omega
  have hix:∀W,(Instr.index 40 (.agg (w7A y)) (.int .i64 (j:Int))).run prog W=.ok (.int .u64 (y j:Nat)) W:=fun W=>zw8 (fun i=>(y i:Int)) j hlt W
  have hDl:=hDs.lt
  gi_wp2_with (refine⟨trivial,?_⟩;gi_at_call 90;refine(HA.out _ j _ _ (zdj _ _ _ _)).mono ?_;rintro e w1 ⟨bA,rfl,cA,hlA,hq1⟩)
  have hb1:Below V.heap.size V w1:=((((waC _ V).alloc (waJ _) _).alloc (by simp) _).trans (hq1.mono (by simp;omega)))
  have cI:w1.cell? ⟨V.heap.size,0,none⟩=some (.int .i64 (j:Int)):=((zad hq1).1 _ _ (by simp;omega)).trans (zfi _ _ _ _)
  have hj1:=hJ _ _ _ hjV ((Rl.refl _ _ _ V).below hb1);have hT1:=(hT0.kpS hkV ((HS0.out _).2 (.inr (.inl rfl)))).below hb1;have hs1:=hb1.size;have kf1:KeepsFrom W.heap.size V w1:=⟨hb1.size,fun i o _ h2 _=>(hb1.block i (waL.1 h2).1).trans h2⟩
  have hAn:V.heap.size<=bA:=waW (by simp;omega) hlA
  clear hq1 hlA;have hlenj:=zju y j;obtain⟨S1,hS1⟩:∃S1:Nat->Prop,S1=fun k=>S0 k\/k=V.heap.size\/k=bA:=⟨_,rfl⟩
  have HS1:=waV (fun k=>(show S1 k↔(S0 k\/k=V.heap.size\/k=bA) by rw[hS1]))
  have hRw1:zdd B t S1 w1:=(hrV.add (fun k h=>by
   rcases(HS1.out k).1 h with h|h|h
   ·exact .inl h
   ·right;omega
   ·right;omega)).below hb1
  have hbAl:=waR w1 _ cA;have hIl:=waR w1 _ cI;have H1B:Hid (∀k,S1 k->k≠B/\k<w1.heap.size):=fun k h=>by
   rcases(HS1.out k).1 h with h|h|h
   ·rcases(HS0.out k).1 h with h|h|h
    ·subst h;exact⟨nb,by omega⟩
    ·subst h;exact⟨nt,by omega⟩
    ·subst h;exact⟨by omega,by omega⟩
   ·subst h;exact⟨by omega,by omega⟩
   ·subst h;exact⟨by omega,by omega⟩
  have cYw:w1.cell? ⟨W.heap.size,0,none⟩=some (.func (.yield l) #[] #[]):=((zad hb1).1 _ _ oQ).trans cYV;clear hS1;refine wpIn_rangeFunc_ownH rfl oQ (gf:=154) (lb:=#[.pointer (some ⟨bA,0,none⟩)]) rfl trivial eg
   (zbD (fun x:{k // k∈zam (y j)}=>x.1) (zam (y j)).attach (KpS S1) (k+19) bA (y j) oQ (zgO _) (hy j) (fun _ _ hk hc=>hk.cell hc ((HS1.out _).2 (.inr (.inr rfl)))) (fun _ _ hk ht=>ht.kpS hk ((HS1.out _).2 (.inl ((HS0.out _).2 (.inr (.inl rfl)))))) w1 cA hT1)
   (fun h k=>h.trans k) (fun V l o o' _ hl ho _=>KpS.putObj o' hl ho) (waC _ _) (fun _=>rfl)
   (fun pre V'=>((J (wyL y j++wd1 j (zcD pre)) V'/\KpS S1 w1 V')/\zdd B t S1 V')/\KeepsFrom W.heap.size V V')
   (fun c pre V'=>(c=.exit 0/\Jx (wyL y j++wd1 j (zcD pre)) V')/\KeepsFrom W.heap.size V V')
   (OwnFrom.and (OwnFrom.and (OwnFrom.and (zaM (lo:=0) (hi:=0) (fun _ X Y hs hr=>hJ _ X Y hs (hr.mono oQ))) (zaM (lo:=0) (hi:=0) (fun _ X Y hs hr=>hs.trans (KpS.of_rl hr)))) (zaM (lo:=0) (hi:=0) (fun _ X Y hs hr=>hs.rl00 hr))) (ownFrom_keepsFrom hb1.size))
   (fun c=>OwnFrom.and (zaM (lo:=0) (hi:=0) (fun _ X Y hs hr=>⟨hs.1,hJx _ X Y hs.2 (hr.mono oQ)⟩)) (ownFrom_keepsFrom hb1.size))
   ⟨⟨⟨by simpa[zcD,wd1] using hj1,KpS.refl _ _⟩,hRw1⟩,kf1⟩
   (fun x a' _=>a'={tmps:=#[.func (.yield l) #[] #[],.pointer (some ⟨b,0,none⟩),.pointer (some ⟨W.heap.size,0,none⟩),.pointer (some ⟨V.heap.size,0,none⟩),.int .u64 (y j:Nat),.int .i64 (x.1:Int),.agg (w7A y),.int .i64 (j:Int),.bool true,.int .i64 (j:Int),.int .u64 (y j:Nat),.int .u64 (y j:Nat),.slice (some ⟨V.heap.size+1,0,none⟩) 1 1,.func (.func 154) #[] #[.pointer (some ⟨bA,0,none⟩)],.int .i64 (x.1:Int),u15,u16,u17,u18,u19,u20,u21,u22],defers:=[]})
   (fun _ _ _ _ _ _ hs _ _=>hs)
   ?assign ?body ?done ?stop
  case assign=>
   rintro l1 pre x V' K hi hK
   gi_wp2
   exact hK _ _ (KeepsFrom.refl _ _) (KpS.refl _ _) hi rfl
  case body=>
   rintro l1 pre x a' V' hl1 _ ⟨⟨⟨hj',hk'⟩,hr'⟩,hf'⟩ rfl hlt';have cY':=hk'.cell cYw ((HS1.out _).2 (.inl ((HS0.out _).2 (.inr (.inr rfl)))));have cI':=hk'.cell cI ((HS1.out _).2 (.inr (.inl rfl)));have hx:=(zaN.1 x.2).1;have hl2:=zlu j (zcD pre);rw[zi7] at hl2;obtain⟨fn,tmps,assign,body,hy,hR⟩:=HY.out _ (j * 64+x.1) V' hj' oQ (by simp only[waF];omega)
   have HR:=waV hR;have e0:((j * 64+x.1:Nat):Int)=(j:Int) * 64+(x.1:Int):=by push_cast;rfl
   rw[e0] at hy;clear hR hj' e0
   gi_wp2
   refine(zc3 (l':=l1) HR.out).mono ?_;rintro e W4 (⟨rfl,hj4,hk4,hf4⟩|⟨rfl,hj4,hf4⟩)
   ·rw[List.append_assoc,<-zgp,<-zct] at hj4;have HJ4:=waV hj4;clear hj4 HR hy
    gi_wp2
    exact⟨zan hf4 oQ,hr'.kps hk4 (fun k h=>(H1B.out k h).1),⟨⟨HJ4.out,hk'.trans (hr'.kps hk4 (fun k h=>(H1B.out k h).1))⟩,hr'.kpA hk4 (fun k h=>waD (H1B.out k h).2 hk'.size)⟩,hf'.trans hf4⟩
   ·rw[List.append_assoc,<-zgp,<-zct] at hj4;have HJ4:=waV hj4;clear hj4 HR hy
    gi_wp2
    exact⟨zan hf4 oQ,⟨rfl,HJ4.out⟩,hf'.trans hf4⟩
  case done=>
   rintro D zs V' hD rfl ⟨⟨⟨hj',hk'⟩,hr'⟩,hf'⟩ hKd;rw[zcE,<-zjt] at hj';have HJ':=waV hj';have hM':zed W.heap.size V' (D::Ds):=(hDs.keeps hf').cons hDl oQ oQ hKd;clear hj'
   gi_wp2
   refine⟨⟨j+1,by omega,D::Ds,⟨by push_cast;rfl,rfl⟩,hM',HJ'.out,⟨hkV.trans ((KpS.of_below hb1).trans (hk'.mono fun k h=>(HS1.out k).2 (.inl h))),hr'.add (fun k h=>.inl ((HS1.out k).2 (.inl h)))⟩,hfV.trans hf'⟩,?_⟩
   simp[intOf];omega
  case stop=>
   rintro D c pre V' hD hpre ⟨⟨rfl,hj'⟩,hf'⟩ hKd;have HJ':=waV hj';have hM':zed W.heap.size V' (D::Ds):=(hDs.keeps hf').cons hDl oQ oQ hKd;have HP:Hid (wyL y j++wd1 j (zcD pre)<+:wyL y 7):=by
    show _<+:_;refine List.IsPrefix.trans ?_ (zv9 y (k:=j+1) oQ);rw[zjt,List.prefix_append_right_inj];obtain⟨r,hr⟩:=hpre;have h:=congrArg zcD hr;rw[zcE] at h;exact⟨wd1 j (zcD r),by unfold wd1;rw[<-List.map_append];congr 1;exact(by simpa[zcD] using h)⟩
   clear hpre hj'
   gi_wp2
   exact za7 (D::Ds) _ hM' fun w' hr=>⟨_,results_none rfl _ _ _,⟨_,rfl⟩,.inr ⟨_,HP.out,hJx _ _ _ HJ'.out hr⟩⟩
 ·have e:j=7:=by omega
  subst e;have HJ:=waV hjV;clear hjV
  gi_wp2
  exact za7 Ds _ hDs fun w' hr=>⟨_,results_none rfl _ _ _,⟨_,rfl⟩,.inl ⟨_,rfl,hJ _ _ _ HJ.out hr⟩⟩
def zxG (y:Nat->Nat) (w:World) (e:Ending) (w':World):Prop:=
 ∃b,e=.returned (.func (.func 158) #[] #[.pointer (some ⟨b,0,none⟩)])/\w.heap.size<=b/\(∀j,j<7->w'.cell? ⟨b,j,none⟩=some (.int .u64 (y j:Nat)))/\Below w.heap.size w w'
theorem ztB (y:Nat->Nat) (hy:∀j,j<7->ziX (fun i=>(y i:Int)) j=(y j:Int)) (w:World):Calls prog 92 #[.agg (w7A y)] w (zxG y w):=by
 have HW:=waV (fun W=>(show Calls prog 157 #[.agg (w7A y)] W (Ret (.agg (w7A y)) W) by
  have h:=zgG (fun i=>(y i:Int)) W
  unfold wdV at h;rw[hy 0 (by decide),hy 1 (by decide),hy 2 (by decide),hy 3 (by decide),hy 4 (by decide),hy 5 (by decide),hy 6 (by decide)] at h
  exact h))
 clear hy;go_enter func92,ntmps92;go_wp2_with fail;have ha:=zdv w 40 (.int .u64 (y 0:Nat)) (.int .u64 (y 1:Nat)) (.int .u64 (y 2:Nat)) (.int .u64 (y 3:Nat)) (.int .u64 (y 4:Nat)) (.int .u64 (y 5:Nat)) (.int .u64 (y 6:Nat)) (fun j=>.int .u64 (y j:Nat)) rfl rfl rfl rfl rfl rfl rfl
 have hb0:Below w.heap.size w (w.alloc (.cells (w7A y) 40)):=(waC _ w).alloc (waJ _) _;refine(HW.out _).mono ?_;rintro e w1 ⟨rfl,hb1⟩;have HA:=waV (Arr.below ha (Arr.lt ha dQ) hb1);have hbw:Below w.heap.size w w1:=hb0.trans (hb1.mono (by simp))
 have q0:=HA.out.1 0 dQ;have q1:=HA.out.1 1 dQ;have q2:=HA.out.1 2 dQ;have q3:=HA.out.1 3 dQ;have q4:=HA.out.1 4 dQ;have q5:=HA.out.1 5 dQ;have q6:=HA.out.1 6 dQ;have z0:=HA.out.2 0;have z1:=HA.out.2 1;have z2:=HA.out.2 2;have z3:=HA.out.2 3;have z4:=HA.out.2 4;have z5:=HA.out.2 5;have z6:=HA.out.2 6;clear ha hb0 hb1 HW;go_wp2_with fail;go_ret;have hA2:=(((((((Arr.set HA.out 0 dQ (g':=fun j=>.int .u64 (y j:Nat)) (.int .u64 (y 0:Nat)) rfl (fun _ _ _=>rfl)).set 1 dQ (g':=fun j=>.int .u64 (y j:Nat)) (.int .u64 (y 1:Nat)) rfl (fun _ _ _=>rfl)).set 2 dQ (g':=fun j=>.int .u64 (y j:Nat)) (.int .u64 (y 2:Nat)) rfl (fun _ _ _=>rfl)).set 3 dQ (g':=fun j=>.int .u64 (y j:Nat)) (.int .u64 (y 3:Nat)) rfl (fun _ _ _=>rfl)).set 4 dQ (g':=fun j=>.int .u64 (y j:Nat)) (.int .u64 (y 4:Nat)) rfl (fun _ _ _=>rfl)).set 5 dQ (g':=fun j=>.int .u64 (y j:Nat)) (.int .u64 (y 5:Nat)) rfl (fun _ _ _=>rfl)).set 6 dQ (g':=fun j=>.int .u64 (y j:Nat)) (.int .u64 (y 6:Nat)) rfl (fun _ _ _=>rfl))
 refine⟨w.heap.size,rfl,waJ _,hA2.1,?_⟩;exact(((((((hbw.setCell (p:=⟨w.heap.size,0,none⟩) (waJ _) _).setCell (p:=⟨w.heap.size,1,none⟩) (waJ _) _).setCell (p:=⟨w.heap.size,2,none⟩) (waJ _) _).setCell (p:=⟨w.heap.size,3,none⟩) (waJ _) _).setCell (p:=⟨w.heap.size,4,none⟩) (waJ _) _).setCell (p:=⟨w.heap.size,5,none⟩) (waJ _) _).setCell (p:=⟨w.heap.size,6,none⟩) (waJ _) _)
end Go.Proofs.YtllcdbgjeidlkaaGreatDoor
namespace Go.Proofs.YtllcdbgjeidlkaaGreatDoor
open Go.Proofs.Tryz
theorem zkT {a b c:Nat} (ha:a<18446744073709551616) (hb:b<18446744073709551616) (hc:c<18446744073709551616) (h:∀k,k<64->(c.testBit k=true↔a.testBit k=true/\b.testBit k=false)):bits .andNot .u64 (a:Int) (b:Int)=(c:Int):=by
 rw[u64_andNot_nat a b ha hb];congr 1;have hlt:∀m:Nat,m<18446744073709551616->∀k,64<=k->m.testBit k=false:=fun m hm k hk=>waX (waD (show m<2^64 from hm) (Nat.pow_le_pow_right dQ hk))
 refine Nat.eq_of_testBit_eq fun k=>?_
 rw[Nat.testBit_and,show(18446744073709551615 - b:Nat)=2^64 - (b+1) by omega,Nat.testBit_two_pow_sub_succ hb]
 by_cases hk:k<64
 ·have:=h k hk;rw[waP hk,Bool.true_and,waQ,this];simp
 ·rw[waO hk,Bool.false_and,Bool.and_false,hlt c hc k (by omega)]
section
variable {P : Int -> Nat -> Bool} {mo th la off : Nat} {pre : List Int} {x : Int}
end
theorem ztC {mo:Nat} (h:BdM 1 12 mo) (hm:mo<18446744073709551616):0<=zdP mo/\zdP mo<=31:=by
 have h0:∀(l:List Nat) (a:Int),0<=a->0<=l.foldl (fun(a:Int) (m:Nat)=>max a (zbt 2000 (m:Int))) a:=by
  intro l;induction l with
  |nil=>intro a ha;exact ha
  |cons b l ih=>intro a ha;exact ih _ (Int.le_trans ha (Int.le_max_left _ _))
 refine⟨h0 _ 0 (Int.le_refl _),?_⟩
 false_or_by_contra
 rename_i hc;obtain⟨m,hmm,hl⟩:=ztp (mo:=mo) (d:=zdP mo) oQ (Int.le_refl _);obtain⟨hk,hb⟩:=zaN.1 hmm;have:=h m hk hb;have:=(zcC (y:=2000) (m:=(m:Int)) oQ oQ).2;omega
theorem ztD {mo d:Nat} (h:BdM 1 12 mo) (hm:mo<18446744073709551616) (hd:d<18446744073709551616):(bits .andNot .u64 (zas 1 (zdP mo)) (d:Int)==0)=zlN mo d:=by
 obtain⟨l0,l31⟩:=ztC h hm;have hs:=ztn 1 (zdP mo);obtain⟨s,hs'⟩:∃s:Nat,zas 1 (zdP mo)=(s:Int):=⟨_,(Int.toNat_of_nonneg hs.1).symm⟩;have hb:∀k,k<64->s.testBit k=decide (1<=(k:Int)/\(k:Int)<=zdP mo):=fun k hk=>by
  rw[<-zbw s k hk,<-hs',zey _ _ _ (by omega) (by omega)]
 have hlt:s<18446744073709551616:=by have:=hs.2;rw[hs'] at this;omega
 rw[hs',zkT (c:=mkN (fun k=>s.testBit k&&!d.testBit k) 64) hlt hd (zcI _ 64) (fun k hk=>by rw[za9];simp[hk])]
 rw[waQ,beq_iff_eq];unfold zlN;rw[List.all_eq_true];constructor
 ·intro h0 k hk;have hk:=wbG.1 hk;have h0:mkN (fun k=>s.testBit k&&!d.testBit k) 64=0:=by omega
  have h1:(mkN (fun k=>s.testBit k&&!d.testBit k) 64).testBit k=false:=by rw[h0];exact Nat.zero_testBit k
  rw[za9] at h1;rw[hb k (by omega)] at h1
  simp at h1 ⊢
  by_cases hc:1<=k/\(k:Int)<=zdP mo
  ·right;exact h1 oQ oQ hc.2
  ·left;omega
 ·intro ha;have:mkN (fun k=>s.testBit k&&!d.testBit k) 64=0:=by
   refine Nat.eq_of_testBit_eq fun k=>?_
   rw[Nat.zero_testBit,za9]
   by_cases hk:k<64
   ·rw[hb k hk]
    by_cases hc:1<=(k:Int)/\(k:Int)<=zdP mo
    ·have:=ha k (wbG.2 oQ);simp at this ⊢;intro _ _ _;rcases this with h|h
     ·omega
     ·exact h
    ·simp[hc]
   ·simp[hk]
  omega
end Go.Proofs.YtllcdbgjeidlkaaGreatDoor
namespace Go.Proofs.YtllcdbgjeidlkaaGreatDoor
open Go.Proofs.Tryz
open Go.RowKit
attribute [local go_sem] Oper.semAt_some
theorem zrf (m:Nat) (hm:m<18446744073709551616) (w:World) (hw:Tz w):Calls prog 36 #[.int .u64 m] w (zlQ (zam m) w):=by
 have HA:=waV (fun B W h=>zc2 m hm B 0 1 W h)
 have HW:=waV hw;have eg:∀args w,(callFunc 154 args).run prog w=.ok (.enter 154 args) w:=enters_of func154 kQ rfl;have HC:=waV (fun b W (hT:Tz W) (hc:W.cell? ⟨b,0,none⟩=some (.int .u64 m))=>
  zlR 154 #[.pointer (some ⟨b,0,none⟩)] (zam m) b (b+1) 65 W dQ (waR W _ hc) hT.lt eg
   (fun V hV=>znZ 2 b m b (b+1) dQ hm (waJ _) (Nat.lt_succ_self _) V ((hV.cell (p:=⟨b,0,none⟩) (waR W _ hc)).trans hc) (hT.below hV)))
 clear hw eg;go_enter func36,ntmps36;go_wp2_with fail;have hc:=@zaa w #[.int .u64 m] 39 w.heap.size 0 (.int .u64 m) rfl rfl;have hb0:Below w.heap.size w (w.alloc (.cells #[.int .u64 m] 39)):=(waC _ _).alloc (waJ _) _;refine(HA.out w.heap.size _ hc).mono ?_;rintro e w1 ⟨b,rfl,hcb,hlb,hb1⟩;have hb2:Below w.heap.size w w1:=hb0.trans (hb1.mono (by simp))
 have HC2:=waV (HC.out b w1 (HW.out.below hb2) hcb);clear hc hcb hb1 hb0;go_wp2_with fail;refine HC2.out.mono ?_;rintro e w2 ⟨v,rfl,hv,hb3⟩;have HV:=waV hv;clear hv;go_wp2;go_ret;refine⟨_,rfl,?_,zaf hb2 hb3 hb2.size⟩;exact zqZ HV.out hb2.size
theorem zim (m:Nat) (hm:m<18446744073709551616) (w:World) (hw:Tz w):Calls prog 36 #[.int .u64 m] w (zv3 m w):=by
 refine(zrf m hm w hw).mono ?_;rintro e w' ⟨v,rfl,hv,hb⟩;have hv':w'.ownsRow w.heap.size 3 1 v (zam m).length ((zbx m).flatMap zcY):=by
  unfold zbx;rw[zq0];exact hv
 obtain⟨A,c,rfl,h1,h2,h3,_⟩:=Rd.of_own zfC hv' (by unfold zbx;rw[List.length_map])
 exact⟨A,_,c,rfl,h3,h1,h2,hb,by unfold zbx;rw[List.length_map]⟩
theorem ztE (m:Nat):0<=zdP m:=by
 have:∀(l:List Nat) (a:Int),0<=a->0<=l.foldl (fun(a:Int) (m:Nat)=>max a (zbt 2000 (m:Int))) a:=fun l=>by
  induction l with
  |nil=>intro a h;exact h
  |cons b l ih=>intro a h;rw[List.foldl_cons];exact ih _ (by omega)
 exact this _ _ dQ
theorem ztF (m:Nat):zdP m<=31:=by
 have hle:∀k:Nat,zbt 2000 (k:Int)<=31:=fun k=>by unfold zbt zuz;(repeat' split)<;>omega
 have:∀(l:List Nat) (a:Int),a<=31->l.foldl (fun(a:Int) (m:Nat)=>max a (zbt 2000 (m:Int))) a<=31:=fun l=>by
  induction l with
  |nil=>intro a h;exact h
  |cons b l ih=>intro a h;rw[List.foldl_cons];exact ih _ (by have:=hle b;omega)
 exact this _ _ dQ
theorem zoA (g:Nat->Value) (m dm:Nat) (e3:g 3=.int .u64 (m:Int)) (e4:g 4=.int .u64 (dm:Int)) (hm:m<18446744073709551616) (hd:dm<18446744073709551616) (hbd:BdM 1 12 m) (w:World) (hw:Tz w):Calls prog 39 #[.agg (zaU g)] w (Ret (.bool (zlN m dm)) w):=by
 have HBa:Hid ((bits .andNot .u64 (zas 1 (zdP m)) (dm:Int)==0)=zlN m dm):=ztD hbd hm hd;have HWo:=waV (fun V=>zkt (dm:Int) 1 (zdP m) dQ dQ (by have:=ztF m;omega) (by have:=ztE m;omega) V)
 obtain⟨cs,hcs⟩:∃cs,zaU g=cs:=⟨_,rfl⟩;have E3:cs[3]?=some (.int .u64 (m:Int)):=by rw[<-hcs,<-e3];rfl
 have E4:cs[4]?=some (.int .u64 (dm:Int)):=by rw[<-hcs,<-e4];rfl
 rw[hcs];clear hcs e3 e4 hbd hd;have HA:=waV (fun V B (hc:V.cell? ⟨B,0,none⟩=some (.int .u64 (m:Nat)))=>wbP (n:=4).2 (zc2 m hm B 0 1 V hc))
 have HL:=waV (fun l' x V=>zat (m:=2) (l':=l') (zde 2000 x dQ dQ V))
 have HW:=waV hw;have eg:∀args w,(callFunc 154 args).run prog w=.ok (.enter 154 args) w:=enters_of func154 kQ rfl;have htz:0<w.heap.size:=waR w _ (hw 0 dQ);clear hw;refine(wbP (n:=5)).1 ?_;refine callsIn_of_wp_marks func39 rfl trivial ?_ rfl;simp only[ntmps39,wbQ,waG,List.length_nil,Nat.reduceAdd,Nat.reduceSub,wbR,wbS,List.push_toArray,List.append_toArray,wbN,wbT]
 gi_wp2_with fail
 refine⟨trivial,?_⟩;have hb0:Below w.heap.size w (((w.alloc (.cells cs 43)).alloc (.cells #[.int .i64 0] 3)).alloc (.cells #[.int .u64 (m:Nat)] 39)):=(((waC _ w).alloc (waJ _) _).alloc (by simp) _).alloc (by simp;omega) _
 have hz0:(((w.alloc (.cells cs 43)).alloc (.cells #[.int .i64 0] 3)).alloc (.cells #[.int .u64 (m:Nat)] 39)).heap.size=w.heap.size+3:=by simp
 have xf:(((w.alloc (.cells cs 43)).alloc (.cells #[.int .i64 0] 3)).alloc (.cells #[.int .u64 (m:Nat)] 39)).heap[w.heap.size]?=some (.cells cs 43 (0,0)):=(Below.heap_alloc _ _ _ (by simp;omega)).trans ((Below.heap_alloc _ _ _ (by simp)).trans (World.alloc_heap_new w _))
 have x0:Boxed (((w.alloc (.cells cs 43)).alloc (.cells #[.int .i64 0] 3)).alloc (.cells #[.int .u64 (m:Nat)] 39)) (w.heap.size+1) 3 (.int .i64 0):=by
  have h:=(Boxed.new (w.alloc (.cells cs 43)) 3 (.int .i64 0)).alloc (.cells #[.int .u64 (m:Nat)] 39)
  rwa [World.size_alloc] at h
 have a0:(((w.alloc (.cells cs 43)).alloc (.cells #[.int .i64 0] 3)).alloc (.cells #[.int .u64 (m:Nat)] 39)).cell? ⟨w.heap.size+1+1,0,none⟩=some (.int .u64 (m:Nat)):=by
  have h:w.heap.size+1+1=((w.alloc (.cells cs 43)).alloc (.cells #[.int .i64 0] 3)).heap.size:=by simp
  rw[h];exact zaa rfl rfl
 clear E3;generalize (((w.alloc (.cells cs 43)).alloc (.cells #[.int .i64 0] 3)).alloc (.cells #[.int .u64 (m:Nat)] 39))=W0 at *;refine(HA.out _ _ a0).mono ?_;rintro e w1 ⟨bA,rfl,cA,hlA,hq1⟩;have x1:=zaG hq1 x0;have xf1:=(hq1.block _ (waL.1 xf).1).trans xf;have hb1:Below w.heap.size w w1:=hb0.trans (hq1.mono oQ);have hT1:=HW.out.below hb1;have hz1:=hq1.size;clear x0 a0 hb0 xf
 gi_wp2_with fail
 refine wpIn_rangeFunc_ownH rfl oQ (gf:=154) (lb:=#[.pointer (some ⟨bA,0,none⟩)]) rfl trivial eg
  (zbD (fun k:Nat=>k) (zam m) (KpM (·=w.heap.size+1)) 4 bA m dQ (List.map_id _) hm (fun _ _ hk hc=>hk.cell hc (fun g=>by have:bA=w.heap.size+1:=g;omega)) (fun _ _ hk ht=>ht.kpM hk (fun g=>by have:0=w.heap.size+1:=g;omega)) w1 cA hT1)
  (fun h k=>h.trans k) (fun V l o o' _ hl ho _=>KpM.putObj o' hl ho) (waC _ _) (fun _=>rfl)
  (fun pre V=>(Boxed V (w.heap.size+1) 3 (.int .i64 (zlP pre))/\V.heap[w.heap.size]?=some (.cells cs 43 (0,0)))/\Below w.heap.size w V)
  (fun c pre V=>False)
  (OwnFrom.and (OwnFrom.and (Own.from (boxed_own _ _ (fun pre:List Nat=>Value.int .i64 (zlP pre))) _) (zaM (lo:=0) (hi:=0) (fun _ X Y hs hr=>hr.block _ _ hs (.inr (waK _)) (.inr rfl)))) (ownFrom_below (waJ _) oQ))
  (fun c _ _ _ _ hs _ _=>hs)
  ⟨⟨x1,xf1⟩,hb1⟩
  (fun x a' V=>a'={tmps:=#[.agg cs,.pointer (some ⟨w.heap.size,0,none⟩),.bool false,.pointer (some ⟨w.heap.size+1,0,none⟩),.int .i64 (x:Int),.pointer (some ⟨w.heap.size,3,none⟩),.int .u64 (m:Nat),.slice (some ⟨w.heap.size+1+1,0,none⟩) 1 1,.func (.func 154) #[] #[.pointer (some ⟨bA,0,none⟩)],.int .i64 (x:Int),undef,undef,undef,undef,undef,undef,undef,undef,undef],defers:=[]})
  (fun _ _ _ _ _ _ hs _ _=>hs)
  ?assign ?body ?done ?stop
 case assign=>
  rintro l1 pre x V K hi hK
  gi_wp2_with fail
  exact hK _ _ (KeepsFrom.refl _ _) (KpM.refl _ _) hi rfl
 case body=>
  rintro l1 pre x a' V hl1 _ ⟨⟨hx,hxf⟩,hb⟩ rfl hlt;have hLx:=waV (fun V=>HL.out l1 (x:Int) V)
  have HS:=waV (zoo pre x);have c0:=hx.cell;have f0:=hx.frozen;have lV:=hx.lt;generalize zlP pre=F at *;generalize zbt 2000 (x:Int)=G at *
  gi_wp2_with fail
  refine zon (α:=Unit) (fun _=>[(10,.int .i64 F),(11,.int .i64 (x:Int)),(12,.int .i64 G),(13,.int .i64 (max F G))]) (fun _ w'=>Boxed w' (w.heap.size+1) 3 (.int .i64 (max F G))/\RlS (·=w.heap.size+1) V w') ?ways ?on
  case ways=>
   rcases Int.lt_or_le F G with hFG|hFG
   ·have hM:max F G=G:=by omega
    have hM1:¬G<F:=by omega
    have hM2:¬G<=F:=by omega
    rw[hM]
    gi_region_with (refine⟨trivial,?_⟩;gi_at_call 93;refine(hLx.out _).mono ?_;rintro e w4 ⟨rfl,hq4⟩;have x4:=zaG hq4 hx;have c4:=x4.cell;have f4:=x4.frozen;have l4:=x4.lt)
    all_goals first|exact⟨rfl,(),rfl,Boxed.set _ x4,((RlS.refl (·=w.heap.size+1) V).below hq4 (waJ _)).set ⟨w.heap.size+1,0,none⟩ _ rfl⟩|exact⟨rfl,(),rfl,Boxed.set _ x4,((RlS.refl (·=w.heap.size+1) V).below (((waC V.heap.size V).drew).trans hq4) (waJ _)).set ⟨w.heap.size+1,0,none⟩ _ rfl⟩
   ·have hM:max F G=F:=by omega
    have hM1:¬F<G:=by omega
    rw[hM]
    gi_region_with (refine⟨trivial,?_⟩;gi_at_call 93;refine(hLx.out _).mono ?_;rintro e w4 ⟨rfl,hq4⟩;have x4:=zaG hq4 hx;have c4:=x4.cell;have f4:=x4.frozen;have l4:=x4.lt)
    all_goals first|exact⟨rfl,(),rfl,Boxed.set _ x4,((RlS.refl (·=w.heap.size+1) V).below hq4 (waJ _)).set ⟨w.heap.size+1,0,none⟩ _ rfl⟩|exact⟨rfl,(),rfl,Boxed.set _ x4,((RlS.refl (·=w.heap.size+1) V).below (((waC V.heap.size V).drew).trans hq4) (waJ _)).set ⟨w.heap.size+1,0,none⟩ _ rfl⟩
  case on=>
   rintro _ w5 ⟨hx5,hr5⟩;simp only[zdO,List.foldl,Act.put,wbU,wbW,wbV];have hk5:KpM (·=w.heap.size+1) V w5:=⟨hr5.size,fun k o hk _ hn=>(hr5.block k (waL.1 hk).1 hn).trans hk⟩
   have hf5:KeepsFrom w1.heap.size V w5:=⟨hr5.size,fun i o h1 h2 _=>(hr5.block i (waL.1 h2).1 (fun g=>by have:i=w.heap.size+1:=g;omega)).trans h2⟩
   have hb5:Below w.heap.size w w5:=hb.trans ⟨hr5.os,hr5.tape,hr5.output,hr5.size,fun k hk=>hr5.block k (by have:=hb.size;omega) (fun g=>by have:k=w.heap.size+1:=g;omega)⟩
   have HXf:Hid (w5.heap[w.heap.size]?=some (.cells cs 43 (0,0))):=(hr5.block _ (waL.1 hxf).1 (fun g=>by have:w.heap.size=w.heap.size+1:=g;omega)).trans hxf
   clear hr5 hxf
   gi_wp2_with fail
   exact⟨hf5,hk5,⟨by rw[HS.out];exact hx5,HXf.out⟩,hb5⟩
 case done=>
  rintro D xs V hD rfl ⟨⟨hx,hxf⟩,hb⟩ hKd;have c0:=hx.cell;have c4:V.cell? ⟨w.heap.size,4,none⟩=some (.int .u64 (dm:Int)):=by rw[World.cell?_of_heap hxf];exact E4
  have l4:=(waL.1 hxf).1;have l1:=hx.lt;have hLe:zlP (zam m)=zdP m:=rfl;rw[hLe] at c0;have HBb:=HBa;generalize zdP m=Q at *;generalize zlN m dm=R at *;clear hLe hxf
  gi_wp2_with fail
  refine⟨trivial,?_⟩;refine(wbP (n:=4).2 (HWo.out _)).mono ?_;rintro e w4 ⟨rfl,rfl⟩;generalize bits .andNot .u64 (zas 1 Q) (dm:Int)=Z at *;have hZ:(Z==0)=R:=HBb.out
  gi_wp2_with fail
  refine⟨by simp,.inl ⟨_,_,rfl,run_takeDeferred hKd,?_⟩⟩
  refine⟨_,results_tmp rfl _ _ _,?_,hb.trans (belowK_b (w:=w) (waJ _) V D _ _ (by have:=hb1.size;omega) hKd rfl rfl)⟩
  rw[<-hZ];rfl
 case stop=>
  rintro D c pre V _ _ h _;exact h.elim
end Go.Proofs.YtllcdbgjeidlkaaGreatDoor
namespace Go.Proofs.YtllcdbgjeidlkaaGreatDoor
open Go.Proofs.Tryz
theorem zhl {Q:Nat->Prop} {k:Nat} (hk:k<64):(mOf Q).testBit k=true↔Q k:=by rw[zb6];simp[hk]
theorem ztG {P:Int->Nat->Bool} {m:Nat} (hm:m<64):(zhw P).testBit m=true↔∃n,zcy P n/\mD n=(m:Int):=zhl hm
theorem ztH {P:Int->Nat->Bool} {m:Nat} (hm:m<64):(zhI P).testBit m=true↔∃n,zcy P n/\dD n=(m:Int):=zhl hm
theorem zwa {P:Int->Nat->Bool} {m:Nat} (hm:m<64):(wkF P).testBit m=true↔∃n,zcy P n/\wdD n=(m:Int):=zhl hm
theorem ztI {P:Int->Nat->Bool} {m:Nat} (hm:m<64):(zlK P).testBit m=true↔∃n s,zdD P n s/\s / 60%60=m:=zhl hm
theorem zrg {P:Int->Nat->Bool} {m:Nat} (hm:m<64):(zeT P).testBit m=true↔∃n s,zdD P n s/\s / 3600=m:=zhl hm
theorem zxH (y m:Int):zbt y m<=zbt 2000 m:=by
 unfold zbt;rw[show zeM 2000=true by decide]
 by_cases c:m<1\/12<m
 ·rw[if_pos c,if_pos c];exact Int.le_refl _
 ·rw[if_neg c,if_neg c]
  by_cases h2:m=2
  ·subst h2;rw[if_pos (show(2:Int)=2/\true=true from⟨rfl,rfl⟩)]
   split<;>decide
  ·rw[if_neg (fun g=>h2 g.1),if_neg (fun g=>h2 g.1)];exact Int.le_refl _
theorem zrh {n:Int} (h:0<=n) (h1:n<146097):1<=mD n/\mD n<=12/\1<=dD n/\dD n<=zbt 2000 (mD n)/\dD n<=31:=by
 obtain⟨_,m1,m2,d1,d2⟩:=zds h h1;have hl:=zcC (y:=yD n) m1 m2;have:=zxH (yD n) (mD n);exact⟨m1,m2,d1,by omega,by omega⟩
theorem zu1 (P:Int->Nat->Bool):BdM 0 59 (zlK P):=fun k hk hb=>by
 obtain⟨n,s,h,e⟩:=(ztI hk).1 hb;omega
theorem zri (P:Int->Nat->Bool):BdM 0 23 (zeT P):=fun k hk hb=>by
 obtain⟨n,s,⟨_,_,h,_⟩,e⟩:=(zrg hk).1 hb;omega
theorem zrj (P:Int->Nat->Bool):BdM 1 12 (zhw P):=fun k hk hb=>by
 obtain⟨n,h,e⟩:=(ztG hk).1 hb;have:=zrh h.win.1 h.win.2;omega
theorem zu2 (P:Int->Nat->Bool):BdM 1 31 (zhI P):=fun k hk hb=>by
 obtain⟨n,h,e⟩:=(ztH hk).1 hb;have:=zrh h.win.1 h.win.2;omega
theorem bd_wk (P:Int->Nat->Bool):BdM 1 7 (wkF P):=fun k hk hb=>by
 obtain⟨n,h,e⟩:=(zwa hk).1 hb;have:=zeH n;omega
section
variable {P : Int -> Nat -> Bool}
end
section
variable {P : Int -> Nat -> Bool}
theorem zhm {Q:Nat->Prop} {c:Nat} (hc:c<18446744073709551616) (h:∀k,k<64->(Q k↔c.testBit k=true)):mOf Q=c:=by
 refine Nat.eq_of_testBit_eq fun k=>?_
 rw[waQ,zb6]
 by_cases hk:k<64
 ·rw[<-h k hk];exact⟨fun g=>g.2,fun g=>⟨hk,g⟩⟩
 ·rw[waX (waD (show c<2^64 from hc) (Nat.pow_le_pow_right (by decide) (by omega)))]
  exact⟨fun g=>absurd g.1 hk,fun g=>by cases g⟩
end
end Go.Proofs.YtllcdbgjeidlkaaGreatDoor
