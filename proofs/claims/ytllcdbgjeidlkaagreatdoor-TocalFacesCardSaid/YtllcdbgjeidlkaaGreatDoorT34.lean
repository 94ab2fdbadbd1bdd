/- A part of the proof: WCst7 -/
import Derived.Test.YtllcdbgjeidlkaaGreatDoorT33
import Derived.Test.YtllcdbgjeidlkaaGreatDoorT25
import Derived.Test.YtllcdbgjeidlkaaGreatDoorT30
import Derived.Test.YtllcdbgjeidlkaaGreatDoorT15
import Derived.Test.YtllcdbgjeidlkaaGreatDoorT28
import Derived.Test.YtllcdbgjeidlkaaGreatDoorT04
set_option maxHeartbeats 80000000
set_option maxRecDepth 100000
set_option linter.unusedSimpArgs false
set_option linter.unusedVariables false
namespace Go.Proofs.YtllcdbgjeidlkaaGreatDoor
open Go.Proofs.Tryz
open Go.RowKit
open Go.Maps
attribute [local go_sem] Oper.semAt_some
def zaU (g:Nat->Value):Array Value:=#[g 0,g 1,g 2,g 3,g 4,g 5,g 6,g 7,g 8,g 9,g 10,g 11,g 12,g 13,g 14,g 15,g 16,g 17,g 18,g 19,g 20,g 21,g 22,g 23,g 24,g 25,g 26,g 27,g 28,g 29,g 30,g 31,g 32,g 33,g 34,g 35,g 36,g 37,g 38,g 39,g 40,g 41,g 42,g 43,g 44,g 45,g 46,g 47,g 48,g 49,g 50]
theorem zeB (g:Nat->Value):∀i,i<51->(zaU g)[i]?=some (g i):=by
 intro i hi;have e:zaU g=((List.range 51).map g).toArray:=rfl;rw[e,List.getElem?_toArray,List.getElem?_map,List.getElem?_range hi];rfl
theorem FaceG.one {g:Nat->Value} (h:FaceG g):(zaU g).all (·.oneCell')=true:=by
 have e:zaU g=((List.range 51).map g).toArray:=rfl;rw[e];simp only[List.all_toArray,List.all_map,List.all_eq_true,wbG,Function.comp];intro i hi
 by_cases h46:i<46
 ·obtain⟨k,_,e⟩:=h.m i h46;rw[e];rfl
 ·obtain rfl|rfl|rfl|rfl|rfl:i=46\/i=47\/i=48\/i=49\/i=50:=by omega
  ·obtain⟨z,e⟩:=h.a;rw[e];rfl
  ·obtain⟨z,e⟩:=h.z;rw[e];rfl
  ·obtain⟨z,e⟩:=h.d;rw[e];rfl
  ·obtain⟨z,e⟩:=h.e;rw[e];rfl
  ·obtain⟨z,e⟩:=h.s;rw[e];rfl
def gZ (b:Bool) (i:Nat):Value:=if i<46 then .int .u64 0 else if i<49 then .int .i64 0 else .bool b
theorem zek (b:Bool):FaceG (gZ b):=⟨fun i hi=>⟨0,by decide,by unfold gZ;rw[if_pos hi];rfl⟩,⟨0,rfl⟩,⟨0,rfl⟩,⟨0,rfl⟩,⟨b,rfl⟩,⟨b,rfl⟩⟩
theorem zdo (g:Nat->Value):(prog.info? 43).map (·.size)=some (zaU g).size:=by kernel_rfl
theorem zel {b n:Nat} {t:TypeId} {z:Nat×Nat}:∀(vs:List Value) (o:Nat) (W:World),(∃cs,W.heap[b]?=some (.cells cs t z)/\cs.size=n)->∃cs,(W.setCells b o vs).heap[b]?=some (.cells cs t z)/\cs.size=n
 |[],_,_,h=>h
 |v::vs,o,W,⟨cs,hc,hs⟩=>zel vs (o+1) (W.setCell ⟨b,o,none⟩ v) ⟨cs.setIfInBounds o v,by
   obtain⟨hlt,hk⟩:=waL.1 hc;show(W.heap.modify b _)[b]?=_;rw[wbI (by rw[Array.size_modify];exact hlt),Array.getElem_modify_self,hk]
   rfl,by simpa using hs⟩
theorem zc7 {b:Nat} {X:World}:∀(vs:List Value) (o:Nat) (W:World),RlS (·=b) X W->RlS (·=b) X (W.setCells b o vs)
 |[],_,_,h=>h
 |v::vs,o,W,h=>zc7 vs (o+1) _ (h.set ⟨b,o,none⟩ v rfl)
theorem FaceAt.there {W:World} {fb:Nat} {g:Nat->Value} (h:FaceAt W fb g) (g2:Nat->Value):W.there fb 0 (zaU g2).size:=fun j hj=>by
 have hl:j<51:=hj;rw[waH,h.cell hl];exact⟨rfl,h.frozen j⟩
theorem zaV {ops:Array Oper} {rest:List Oper} {op:Oper} {a:Act} {Q:Exit->Act->World->Prop} {W:World} {b:Nat} {g0:Nat->Value} (hgd:op.guard=none) (x y:Operand) (ho:op.op=.store 43 x y) (g:Nat->Value) (hF:FaceAt W b g0) (hg:FaceG g)
 (hx:a.eval x=.pointer (some ⟨b,0,none⟩)) (hy:a.eval y=.agg (zaU g)) (h:∀W',FaceAt W' b g->RlS (·=b) W W'->wpList prog ops Q rest (a.put op.dst undef) W'):wpList prog ops Q (op::rest) a W:=by
 refine wpList_store_mid (P:=prog) hgd 43 x y ho b 0 (zaU g) hx hy (hF.there g) (zdo g) hg.one (h _ ⟨?_,hg⟩ (zc7 _ _ _ (RlS.refl _ _)));obtain⟨cs,hc,hs,_⟩:=hF.obj;obtain⟨cs',hc',hs'⟩:=zel (zaU g).toList 0 W ⟨cs,hc,hs⟩;refine⟨cs',hc',hs',fun i hi=>?_⟩
 have h2:=World.rangeAt_setCells_same W b 0 (zaU g).toList (by simpa using hF.there g) i (g i) (by rw[Array.getElem?_toList];exact zeB g i hi)
 rw[waH] at h2;rw[<-h2];simp[World.cell?,hc']
theorem zq6 {W:World} {b:Nat} {g:Nat->Value} (h:∀j v,(zaU g)[j]?=some v->W.cell? ⟨b,j,none⟩=some v):(loadVar 43 ⟨b,0,none⟩).run prog W=.ok (.agg (zaU g)) W:=by
 have:=run_loadVar_mid (P:=prog) W b 0 43 (zaU g).toList _ (fun j v hj=>by rw[waH];exact h j v (by simpa using hj)) underlying43 rfl (by simpa using zdo g)
 simpa using this
theorem FaceAt.lies {W:World} {fb:Nat} {g:Nat->Value} (h:FaceAt W fb g):∀j v,(zaU g)[j]?=some v->W.cell? ⟨fb,j,none⟩=some v:=fun j v hj=>by
 have hl:j<51:=(waL.1 hj).1;rw[zeB g j hl] at hj;rw[h.cell hl,hj]
theorem FaceAt.new (W:World) (g:Nat->Value) (hg:FaceG g):FaceAt (W.alloc (.cells (zaU g) 43)) W.heap.size g:=⟨⟨_,World.alloc_heap_new W _,rfl,fun i hi=>zeB g i hi⟩,hg⟩
theorem zem {tmps:Array Value} {W:World} {b:Nat} {g:Nat->Value} {x:Value} (hp:tmps.getD 2 undef=.pointer (some ⟨b,0,none⟩)) (hx:tmps.getD 3 undef=x) (h:∀j v,(zaU g)[j]?=some v->W.cell? ⟨b,j,none⟩=some v):
 (results Tryz.f12 tmps).run prog W=.ok (.tuple #[.agg (zaU g),x]) W:=by
 rw[zaD rfl,hp,hx];have e:(asAddr (.pointer (some ⟨b,0,none⟩))).run prog W=.ok ⟨b,0,none⟩ W:=rfl;rw[e,Result.andThen_ok,zq6 h,Result.andThen_ok]
structure OfB (W V:World) (fb b1 b2 b3 b9 kb m D:Nat) (g:Nat->Value) (v:Value):Prop where
 f:FaceAt V fb g
 t:TimeAt V fb b1 b2 b3 kb m (fun b=>D<=b) v
 vn:zhJ V (fun b=>D<=b) v
 x9:Boxed V b9 75 (.func (.func 74) #[] #[.pointer (some ⟨b1,0,none⟩),.pointer (some ⟨b2,0,none⟩),.pointer (some ⟨b3,0,none⟩)])
 rs:FaceAt V W.heap.size (gZ false)
 be:RlS (fun _=>False) W V
structure OfN (W:World) (fb b1 b2 b3 b9 kb m lo hi D:Nat):Prop where
 w:W.heap.size<lo
 l:lo<=hi
 fb:hi<=fb/\fb<D
 b1:hi<=b1
 b2:hi<=b2
 b3:hi<=b3/\b3<D
 b9:hi<=b9
 kb:hi<=kb
 m:hi<=m/\m<D
section
variable {W V X : World} {fb b1 b2 b3 b9 kb m lo hi D : Nat} {g : Nat -> Value} {v : Value}
theorem OfB.below (h:OfB W V fb b1 b2 b3 b9 kb m D g v) (hb:Below V.heap.size V X):OfB W X fb b1 b2 b3 b9 kb m D g v:=
 ⟨h.f.below hb,h.t.rls ((RlS.refl (fun _=>False) V).below hb (waJ _)) id id id id id (fun e p g=>g.below hb),h.vn.imp (fun e p g=>g.below hb),zaG hb h.x9,h.rs.below hb,h.be.below hb h.be.size⟩
theorem OfB.rl (h:OfB W V fb b1 b2 b3 b9 kb m D g v) (hr:Rl lo hi D V X) (hn:OfN W fb b1 b2 b3 b9 kb m lo hi D):OfB W X fb b1 b2 b3 b9 kb m D g v:=by
 have h1:=hn.w;have h2:=hn.l;have h3:=hn.fb;refine⟨h.f.rl hr (.inr hn.fb.1),⟨zeA h.t.x1 hr (.inr hn.b1),zeA h.t.x2 hr (.inr hn.b2),zeA h.t.x3 hr (.inr hn.b3.1),h.t.fr.rl hr (.inr hn.kb) (.inr hn.m.1) hn.m.2 (fun b hb=>.inr (by have:D<=b:=hb;omega))⟩,?_,zeA h.x9 hr (.inr hn.b9),h.rs.rl hr (.inl h1),h.be.rl hr oQ oQ⟩
 rcases h.vn with e|⟨b,p,e,hb,hd⟩
 ·exact .inl e
 ·exact .inr ⟨b,p,e,hb,hd.rl hr (.inr oQ)⟩
theorem OfB.face {g2:Nat->Value} (h:OfB W V fb b1 b2 b3 b9 kb m D g v) (hn:OfN W fb b1 b2 b3 b9 kb m lo hi D) (hr:RlS (·=fb) V X) (hf:FaceAt X fb g2):OfB W X fb b1 b2 b3 b9 kb m D g2 v:=by
 have hd:∀e p,DiscAt V e p->DiscAt X e p:=fun e p g=>g.foreign h.f.foreign hr
 have h1:=hn.w;have h2:=hn.l;have h3:=hn.fb;exact⟨hf,h.t.rls hr (h.f.ne_box h.t.x1 dQ).symm (h.f.ne_box h.t.x2 dQ).symm (h.f.ne_box h.t.x3 dQ).symm (h.f.ne_k h.t.fr).symm (h.f.ne_m h.t.fr).symm hd,h.vn.imp hd,zaO h.x9 hr (h.f.ne_box h.x9 dQ).symm,h.rs.rls hr oQ,
  ⟨hr.os.trans h.be.os,hr.tape.trans h.be.tape,hr.output.trans h.be.output,waW h.be.size hr.size,fun k hk _=>(hr.block k (waD hk h.be.size) (show ¬k=fb by omega)).trans (h.be.block k hk (fun g=>g))⟩⟩
theorem OfB.set (h:OfB W V fb b1 b2 b3 b9 kb m D g v) (hn:OfN W fb b1 b2 b3 b9 kb m lo hi D) {i:Nat} (hi':i=46\/i=47\/i=48) (z:Int):OfB W (V.setCell ⟨fb,i,none⟩ (.int .i64 z)) fb b1 b2 b3 b9 kb m D (updG g i (.int .i64 z)) v:=
 h.face hn ((RlS.refl _ V).set _ _ rfl) (h.f.set oQ (h.f.g.updI hi' z))
theorem OfB.timed (h:OfB W V fb b1 b2 b3 b9 kb m D g v) (hn:OfN W fb b1 b2 b3 b9 kb m lo hi D) {g2:Nat->Value} {v2:Value} (hr:RlS (fun k=>k=fb\/k=b3\/k=m) V X) (hf:FaceAt X fb g2) (hv:zhJ X (fun b=>D<=b) v2) (ht:TimeAt X fb b1 b2 b3 kb m (fun b=>D<=b) v2):OfB W X fb b1 b2 b3 b9 kb m D g2 v2:=by
 have h1:=hn.w;have h2:=hn.l;have h3:=hn.fb;have h4:=hn.b3;have h5:=hn.m;refine⟨hf,ht,hv,zaO h.x9 hr ?_,h.rs.rls hr (by rintro (e|e|e)<;>omega),
  ⟨hr.os.trans h.be.os,hr.tape.trans h.be.tape,hr.output.trans h.be.output,waW h.be.size hr.size,fun k hk _=>(hr.block k (waD hk h.be.size) (by rintro (e|e|e)<;>omega)).trans (h.be.block k hk (fun g=>g))⟩⟩
 rintro (e|e|e)
 ·exact(h.f.ne_box h.x9 dQ).symm e
 ·exact zeh h.x9 h.t.x3 dQ e
 ·exact zck h.x9 h.t.fr e
end
theorem of_kp {V X:World} {fb b3 kb m lo hi D:Nat} {d:RollD} {L:List Cl} {P:Nat->Prop} {g:Nat->Value} {t:TypeId} {v:Value} (hR:RollAt V d L lo hi D) (hr:RlS (fun k=>k=fb\/k=b3\/k=m) V X) (hf:FaceAt V fb g) (hfr:FreshAt V kb m P) (hx:Boxed V b3 t v) (hv:∀k z,v≠.int k z) (h1:hi<=fb/\fb<D) (h2:hi<=m/\m<D) (h3:hi<=b3/\b3<D):
 KeepsFrom D V X/\KpR (fun k=>k=d.b\/k=fb\/k=b3) d L lo hi D V X:=by
 have hb0:=hR.f.lb0;have hD:=hR.hiD;refine⟨⟨hr.size,fun k o hk ho hn=>(hr.block k (waL.1 ho).1 (by rintro (rfl|rfl|rfl)<;>omega)).trans ho⟩,⟨hr.size,fun k o ho hn hM=>(hr.block k (waL.1 ho).1 ?_).trans ho⟩,fun hV=>hV.apart hr (fun k=>?_) ?_⟩
 ·rintro (rfl|rfl|rfl)
  ·exact hM (.inr (.inl rfl))
  ·exact hM (.inr (.inr rfl))
  ·obtain⟨es,n,hm,_⟩:=hfr.f;rw[hm] at ho;cases ho;cases hn
 ·rintro (rfl|rfl|rfl)<;>omega
 ·rintro (e|e|e)
  ·exact hf.ne_t hR.tz e
  ·exact zez hx hR.tz hv e
  ·exact hfr.ne_t hR.tz e
theorem zos {q:Nat} {p:Nat->Bool} {V:World} (hd:DiscAt V q p) (hw:Tz V):Calls prog 31 #[.pointer (some ⟨q,0,none⟩),.int .i64 0] V (fun e w'=>(∃(k:Int) (r:Bool),e=.returned (.tuple #[.int .i64 k,.bool r]))/\w'=V):=by
 refine(zkc q 0 p V hd hw dQ).mono ?_;rintro e w' ⟨rfl,(⟨x,rfl,_⟩|⟨rfl,_⟩)⟩
 ·exact⟨⟨_,_,rfl⟩,rfl⟩
 ·exact⟨⟨_,_,rfl⟩,rfl⟩
theorem RlS.to_below' {W X Y:World} {b:Nat} (h:RlS (·=b) X Y) (hb:Below W.heap.size W X) (hn:W.heap.size<=b:=by exact waJ _):Below W.heap.size W Y:=hb.trans (h.to_below (fun k e=>by have:k=b:=e;omega) hb.size)
def RetOf (n:Nat) (L:List Cl) (W:World) (e:Ending) (W':World):Prop:=
 Below W.heap.size W W'/\((zbI n L≠0/\e=.returned (.tuple #[.agg (zaU (gZ false)),.int .i64 (zbI n L)]))\/(zbI n L=0/\∃g,e=.returned (.tuple #[.agg (zaU g),.int .i64 0])/\FaceOf (zay L) g))
theorem zih (A:Option Addr) (n cc:Nat) (L:List Cl) (W:World) (hA:zbh W A n L) (hn:n<=4294967296) (hnil:A=none->n=0) (hbit:∀c,c∈L->zbC c/\c.s<=9223372036854775807) (hw:Tz W):
 Calls prog 12 #[.slice A n cc] W (RetOf n L W):=by
 have HNew:=waV (fun V (hV:Below W.heap.size W V)=>zgr A n cc L V (hA.below hV (waJ _)) hn hnil hbit (hw.below hV))
 have HAll:=waV (fun d lo hi D V (hV:RollAt V d L lo hi D)=>znd d L lo hi D V hV 0 146096)
 have HTm:=waV (fun fb V=>zti fb V)
 have HAl:=waV (fun fb c g V (hf:FaceAt V fb g) (hset:zeJ [c]=true) (hb:zbC c/\c.s<=9223372036854775807) (hw:Tz V)=>zq5 fb c g V hf hset hb hw)
 have HA:=waV hA;have HN:=waV hn;have HBit:=waV hbit;have HTz:=waV hw;have htz:0<W.heap.size:=waR W _ (hw 0 dQ);clear hA hn hnil hbit hw;refine(wbP (n:=20)).1 ?_;refine callsIn_of_wp_marks func12 rfl trivial ?_ rfl;refine wpIn_wide.2 ?_;simp only[ntmps12,wbQ,waG,List.length_nil,Nat.reduceAdd,Nat.reduceSub,wbR,wbS,List.push_toArray,List.append_toArray,wbN,wbT];go_wp2_with fail
 change Calls _ _ _ (W.alloc (Obj.cells (zaU (gZ false)) 43)) _
 have hb0:Below W.heap.size W (W.alloc (Obj.cells (zaU (gZ false)) 43)):=(waC _ W).alloc (waJ _) _;have hz0:(W.alloc (Obj.cells (zaU (gZ false)) 43)).heap.size=W.heap.size+1:=by simp
 have hr0:=FaceAt.new W (gZ false) (zek false);generalize (W.alloc (Obj.cells (zaU (gZ false)) 43))=W0 at *;refine(HNew.out W0 hb0).mono ?_;rintro e w1 ⟨hb1,hres⟩;have hbW1:Below W.heap.size W w1:=hb0.trans (hb1.mono oQ);have hr1:=hr0.below hb1;have Hr1:=waV hr1;have hz1:=hb1.size;clear hr0 hb0;obtain(⟨h8,rfl⟩|⟨h8,hs,rfl⟩|⟨h8,hs,d,rfl,hroll⟩):=hres
 ·have HE:Hid (zbI n L=5):=by show _=_;unfold zbI;rw[if_pos h8]
  clear hr1
  go_wp2_with (first|(refine zaV rfl _ _ rfl (gZ false) Hr1.out (zek false) rfl rfl ?_;intro w2 hf2 hr2)|fail)
  exact⟨_,zem (x:=.int .i64 5) rfl rfl hf2.lies,hr2.to_below' hbW1,.inl ⟨by rw[HE.out];decide,by rw[HE.out]⟩⟩
 ·have HE:Hid (zbI n L=1):=by show _=_;unfold zbI;rw[if_neg (by omega),if_neg (by rw[hs];decide)]
  clear hr1
  go_wp2_with (first|(refine zaV rfl _ _ rfl (gZ false) Hr1.out (zek false) rfl rfl ?_;intro w2 hf2 hr2)|fail)
  exact⟨_,zem (x:=.int .i64 1) rfl rfl hf2.lies,hr2.to_below' hbW1,.inl ⟨by rw[HE.out];decide,by rw[HE.out]⟩⟩
 ·have HRoll:=waV hroll;have HSet:=waV hs;have HE:Hid (zbI n L=0):=by show _=_;unfold zbI;rw[if_neg (by omega),if_pos hs]
  have HFn:Hid (FaceAt (w1.alloc (.cells (zaU (gZ false)) 43)) w1.heap.size (gZ false)):=FaceAt.new _ _ (zek false);clear hroll hs hr1
  go_wp2_with (first|(refine zaV rfl _ _ rfl (gZ true) HFn.out (zek true) rfl rfl ?_;intro w2 hf2 hr2)|fail)
  have hbA:Below W.heap.size W (w1.alloc (.cells (zaU (gZ false)) 43)):=hbW1.alloc hbW1.size _;replace hr2:RlS (·=w1.heap.size) (w1.alloc (.cells (zaU (gZ false)) 43)) w2:=hr2;have hbW2:Below W.heap.size W w2:=hr2.to_below' hbA hbW1.size;have hr12:RlS (fun _=>False) w1 w2:=⟨hr2.os,hr2.tape,hr2.output,waW (by simp) hr2.size,fun k hk _=>(hr2.block k (by simp;omega) (show ¬k=w1.heap.size by omega)).trans (Below.heap_alloc _ _ _ hk)⟩
  have hlf:=hf2.lt;have hzW:=hbW1.size;have HRes2:Hid (FaceAt w2 W.heap.size (gZ false)):=Hr1.out.rls hr12 (fun g=>g)
  clear hr2 hbA HFn hb1 Hr1 HNew;generalize hfb:w1.heap.size=fb at *
  go_loopw [29] (fun i wr=>∃(k:Nat) (g':Nat->Value),k<=n/\i=.int .i64 k/\Hid (FaceAt wr fb g'/\AllR (L.take k) (gZ true) g')/\RlS (·=fb) w2 wr) (fun i _=>n - (intOf i).toNat)
  case atStart=>exact⟨0,gZ true,waK _,rfl,⟨hf2,AllR.nil _⟩,RlS.refl _ _⟩
  case round=>
   obtain⟨k,g',hk,rfl,HI,hrr⟩:=hrel;have hbr:Below W.heap.size W wr:=hrr.to_below' hbW2 oQ
   by_cases hlt:k<n
   ·obtain⟨b,o,x,rfl,hbl,hx,hcl⟩:=zbh.at_ (HA.out.below hbr (waJ _)) hlt
    have hlt':(k:Int)<(n:Int):=by omega
    have hxL:x∈L:=List.mem_of_getElem? hx;have HIx:=waV (zbV x);have H1x:Hid ((clA x).all (·.oneCell')=true):=by show _=_;kernel_rfl
    have Hs:Hid (30=(clA x).size):=rfl;have HCl:=waV hcl;have HTk:Hid (L.take (k+1)=L.take k++[x]):=by show _=_;rw[List.take_add_one,hx];rfl
    have HAx:=waV (fun V (hV:FaceAt V fb g') (hw:Tz V)=>HAl.out fb x g' V hV (zjl HSet.out hxL) (HBit.out x hxL) hw)
    clear hx hcl hxL;generalize hcs:clA x=cs at *
    go_wp2_with (first|(refine zag (by rfl) 60 _ rfl cs b (o+k * 30) rfl underlying60 rfl HIx.out HCl.out ?_)|(refine zaL (by rfl) 60 _ _ rfl cs _ rfl rfl HIx.out H1x.out Hs.out ?_;intro w3 hq3 HS3 hz3;have HSx:Hid (∀j v,cs[j]?=some v->w3.cell? ⟨wr.heap.size,0+j,none⟩=some v):=zdM (ziU HS3))|(refine zag (by rfl) 60 _ rfl cs wr.heap.size 0 rfl underlying60 rfl HIx.out HSx.out ?_)|fail)
    refine(HAx.out w3 (HI.out.1.below hq3) (HTz.out.below (hbr.trans (hq3.mono hbr.size)))).mono ?_;rintro e w4 ⟨⟨v,rfl⟩,hr4,g'',hf4,hR4⟩;have HI4:Hid (FaceAt w4 fb g''/\AllR (L.take (k+1)) (gZ true) g''):=⟨hf4,by rw[HTk.out];exact HI.out.2.snoc hR4⟩
    have hrr4:=(hrr.below hq3 hrr.size).trans hr4;clear hq3 HS3 HSx hz3 HCl HIx H1x Hs hf4 hR4 hr4 HAx;go_wp2_with fail;go_roundw
    case rel=>exact⟨k+1,g'',by omega,by go_num,HI4,hrr4⟩
    case measure=>simp [intOf];omega
   ·obtain rfl:k=n:=by omega
    have hAll:L.take k=L:=List.take_of_length_le (by have:=HA.out.1;omega)
    rw[hAll] at HI;have HI2:=HI;clear hAll HI;go_wp2_with fail;refine(HTm.out fb wr).mono ?_;rintro e w5 ⟨b1,b2,b3,kb,m,rfl,l1,l2,l3,lk,lm,n12,n13,n23,nk1,nk2,nk3,ht5,hb5⟩;have Ht5:=waV ht5;have hz5:=hb5.size;have hf5:=HI2.out.1.below hb5;have HF5:=waV hf5;have hrs5:FaceAt w5 W.heap.size (gZ false):=(HRes2.out.rls hrr (by show ¬W.heap.size=fb;omega)).below hb5
    have HRs5:=waV hrs5;have hrw5:RlS (fun _=>False) w1 w5:=(show RlS (fun _=>False) w1 wr from⟨hrr.os.trans hr12.os,hrr.tape.trans hr12.tape,hrr.output.trans hr12.output,waW hr12.size hrr.size,fun j hj _=>(hrr.block j (waD hj hr12.size) (show ¬j=fb by omega)).trans (hr12.block j hj (fun g=>g))⟩).below hb5 (by have:=hrr.size;have:=hr12.size;omega)
    have hbW5:Below W.heap.size W w5:=hbr.trans (hb5.mono hbr.size);have hzr:=hrr.size;clear ht5 hf5 hrs5 hb5;go_wp2_with fail;have hbA:Below w5.heap.size w5 (w5.alloc (.cells #[.func (.func 74) #[] #[.pointer (some ⟨b1,0,none⟩),.pointer (some ⟨b2,0,none⟩),.pointer (some ⟨b3,0,none⟩)]] 75)):=(waC _ _).alloc (waJ _) _;have hzA:(w5.alloc (.cells #[.func (.func 74) #[] #[.pointer (some ⟨b1,0,none⟩),.pointer (some ⟨b2,0,none⟩),.pointer (some ⟨b3,0,none⟩)]] 75)).heap.size=w5.heap.size+1:=by simp
    have x9:Boxed (w5.alloc (.cells #[.func (.func 74) #[] #[.pointer (some ⟨b1,0,none⟩),.pointer (some ⟨b2,0,none⟩),.pointer (some ⟨b3,0,none⟩)]] 75)) w5.heap.size 75 (.func (.func 74) #[] #[.pointer (some ⟨b1,0,none⟩),.pointer (some ⟨b2,0,none⟩),.pointer (some ⟨b3,0,none⟩)]):=Boxed.new _ _ _;have l1':=Ht5.out.x1.lt;have l2':=Ht5.out.x2.lt;have l3':=Ht5.out.x3.lt;have lk':kb<w5.heap.size:=waR w5 _ Ht5.out.fr.c;have lm':m<w5.heap.size:=by
     obtain⟨es,q,h,_⟩:=Ht5.out.fr.f;exact(waL.1 h).1
    generalize (w5.alloc (.cells #[.func (.func 74) #[] #[.pointer (some ⟨b1,0,none⟩),.pointer (some ⟨b2,0,none⟩),.pointer (some ⟨b3,0,none⟩)]] 75))=w6 at *;have hrw6:RlS (fun _=>False) w1 w6:=hrw5.below hbA hrw5.size
    have hz12:=hr12.size;have hR6:=HRoll.out w6 w6.heap.size (fun _=>False) hrw6 (fun j g=>g.elim) oQ (waJ _)
    refine(HAll.out d _ _ _ w6 hR6).mono ?_;rintro e w7 ⟨q1,q2,q3,rfl,hl1,hl2,hl3,hc1,hc2,hc3,hb7⟩;have hz7:=hb7.size;have hb57:Below w5.heap.size w5 w7:=hbA.trans (hb7.mono oQ);have x9:=zaG hb7 x9;have hbW7:Below W.heap.size W w7:=hbW5.trans (hb57.mono hbW5.size);have hrw7:RlS (fun _=>False) w1 w7:=hrw5.below hb57 hrw5.size
    have hR7:=HRoll.out w7 w7.heap.size (fun _=>False) hrw7 (fun j g=>g.elim) oQ (waJ _)
    have hN:OfN W fb b1 b2 b3 w5.heap.size kb m W0.heap.size fb w7.heap.size:=⟨by omega,by omega,⟨waJ _,by omega⟩,by omega,by omega,⟨by omega,by omega⟩,by omega,by omega,⟨by omega,by omega⟩⟩
    have HB0:Hid (OfB W w7 fb b1 b2 b3 w5.heap.size kb m w7.heap.size g' (.pointer none)):=⟨HF5.out.below hb57,by
     have h:=Ht5.out.rls ((RlS.refl (fun _=>False) w5).below hb57 (waJ _)) id id id id id (fun e p g=>g.below hb57)
     exact⟨h.x1,h.x2,h.x3,h.fr.toP (fun b g=>g.elim)⟩,.inl rfl,x9,HRs5.out.below hb57,(RlS.refl (fun _=>False) W).below hbW7 (waJ _)⟩
    have HNn:=waV hN;have hdb:=hR7.f.lb0;have HR7:=waV hR7;have hq3:q3<w7.heap.size:=waR w7 _ hc3;have HKp:=waV (fun V X g2 v2 (hR:RollAt V d L W0.heap.size fb w7.heap.size) (hr:RlS (fun j=>j=fb\/j=b3\/j=m) V X) (hB:OfB W V fb b1 b2 b3 w5.heap.size kb m w7.heap.size g2 v2)=>of_kp hR hr hB.f hB.t.fr hB.t.x3 hB.vn.map.2 HNn.out.fb HNn.out.m HNn.out.b3)
    have h1m:=HI2.out.2.masks HSet.out HI2.out.1.g (fun i hi=>by
     obtain rfl|rfl|rfl:i=0\/i=1\/i=2:=by omega
     all_goals rfl)
    have HMk:=waV h1m;have HD0:Hid (DaysI g' g' []):=by
     have e:∀i,3<=i->g' i=gZ true i:=HI2.out.2.rest;exact⟨fun _ _=>rfl,by rw[e 3 (by decide)];rfl,by rw[e 4 (by decide)];rfl,by rw[e 6 (by decide)];rfl,by rw[e 48 (by decide)];rfl,by rw[e 5 (by decide)];rfl,fun i hi1 hi2=>by rw[e i (by omega)];unfold gZ;rw[if_pos (by omega)];rfl⟩
    clear hN hR6 hR7 h1m x9 hb7 hbA hb57 hrw5 hrw6 hrw7 Ht5 HF5 HRs5 hl1 hl2 HAll HTm HAl HI2;go_wp2_with fail;refine(wpIn_wide (n:=20)).1 ?_;have eg:∀args w,(callFunc 79 args).run prog w=.ok (.enter 79 args) w:=enters_of func79 kQ rfl;have egt:∀args w,(callFunc 74 args).run prog w=.ok (.enter 74 args) w:=enters_of func74 kQ rfl;refine za4 rfl dQ (gf:=79) (lb:=#[.pointer (some ⟨q1,0,none⟩),.pointer (some ⟨q2,0,none⟩),.pointer (some ⟨q3,0,none⟩)]) rfl trivial eg
     (zkz (fun j=>j=d.b\/j=fb\/j=b3) 19 d L W0.heap.size fb w7.heap.size q1 q2 q3 (bdF L 0) (bdT L 146096) (.inl rfl) oQ zuX zuY oQ)
     (fun h k=>h.trans k) (fun V l o o' hl hl2 ho _=>KpR.put o' hl2 ho hl) (fun o o'=>?st) (fun _=>rfl) oQ
     (fun pre V=>∃g2 v2,OfB W V fb b1 b2 b3 w5.heap.size kb m w7.heap.size g2 v2/\DaysI g' g2 pre)
     (fun cd pre V=>False)
     (fun pre X Y hs hr=>by
       obtain⟨g2,v2,h1,h2⟩:=hs;exact⟨g2,v2,h1.rl hr HNn.out,h2⟩)
     (fun cd pre X Y hs hr=>hs)
     ⟨g',.pointer none,HB0.out,HD0.out⟩
     (fun x a' V=>∃Bs,w7.heap.size<=Bs/\V.heap[Bs]?=some (.cells (shA x.1) 81 (0,0))/\a'={tmps:=#[.slice A k cc,undef,.pointer (some ⟨W.heap.size,0,none⟩),.int .i64 0,.pointer (some ⟨d.b,0,none⟩),.int .i64 0,.pointer (some ⟨fb,0,none⟩),undef,u8,.pointer (some ⟨w5.heap.size,0,none⟩),.pointer (some ⟨Bs,0,none⟩),.pointer (some ⟨x.2,0,none⟩),undef,undef,undef,undef,undef,.tuple #[.pointer (some ⟨d.b,0,none⟩),.int .i64 0],.slice A k cc,.tuple #[.pointer (some ⟨d.b,0,none⟩),.int .i64 0],.pointer (some ⟨d.b,0,none⟩),.int .i64 0,.int .i64 0,.bool false,undef,undef,.agg (zaU (gZ true)),.slice A k cc,.int .i64 (k:Int),.int .i64 (k:Int),.bool false,u31,u32,u33,u34,u35,.func (.func 74) #[] #[.pointer (some ⟨b1,0,none⟩),.pointer (some ⟨b2,0,none⟩),.pointer (some ⟨b3,0,none⟩)],.pointer (some ⟨d.b,0,none⟩),.func (.func 79) #[] #[.pointer (some ⟨q1,0,none⟩),.pointer (some ⟨q2,0,none⟩),.pointer (some ⟨q3,0,none⟩)],shV x.1,.pointer (some ⟨x.2,0,none⟩),undef,undef,undef,undef,undef,undef,undef,undef,undef,undef,undef,undef,undef,undef,undef,undef,undef,undef,undef,undef,undef,undef,undef,undef,undef,undef,undef,undef,undef,undef],defers:=[]})
     (fun x a' X Y hs hr=>by
       obtain⟨Bs,e1,e2,e3⟩:=hs;exact⟨Bs,e1,hr.block Bs _ e2 (.inr (waK _)) (.inr rfl),e3⟩)
     (fun x X Y hs hr=>⟨hs.1,hs.2.1,hs.2.2.1.rl00 hr (waJ _),hs.2.2.2.1,hs.2.2.2.2.rl00 hr⟩)
     ?assign ?body ?done ?stop
    case st=>
     have hb:Below w7.heap.size w7 ((w7.alloc o).alloc o'):=((waC _ w7).alloc (waJ _) _).alloc (by simp) _
     refine⟨fun j e=>?_,HR7.out.below hb,((zad hb).1 _ _ (waR w7 _ hc1)).trans hc1,((zad hb).1 _ _ (waR w7 _ hc2)).trans hc2,((zad hb).1 _ _ hq3).trans hc3⟩
     have:=hb.size;rcases e with rfl|rfl|rfl<;>omega
    case assign=>
     rintro l1 pre x V K ⟨g2,v2,hB,hD⟩ he hK;obtain⟨v0,v1,v2',v3,v4,v5,v6,v7,v8,v9,hv⟩:=zfS x.1;have hA:shA x.1=#[.int .i64 v0,.int .i64 v1,.int .i64 v2',.int .i64 v3,.int .i64 v4,.int .i64 v5,.int .i64 v6,.int .i64 v7,.int .i64 v8,.int .i64 v9]:=by have:=(zfR x.1).symm.trans hv;injection this
     have HK:=waV hK;have HBx:=waV hB;have HDx:=waV hD;have hsz:w7.heap.size<=V.heap.size:=he.2.2.1.dw;clear hK hB hD he;rw[hv] at HK ⊢;rw[hA] at HK
     gi_wp2
     have hb:=(waC _ V).alloc (waJ _) (.cells #[.int .i64 v0,.int .i64 v1,.int .i64 v2',.int .i64 v3,.int .i64 v4,.int .i64 v5,.int .i64 v6,.int .i64 v7,.int .i64 v8,.int .i64 v9] 81);exact HK.out _ _ ((KeepsOthers.alloc _ _).from _) (KpR.below hb) ((Rl.refl 0 0 w7.heap.size V).below hb) ⟨g2,v2,HBx.out.below hb,HDx.out⟩ ⟨V.heap.size,hsz,World.alloc_heap_new V _,rfl⟩
    case body=>
     rintro l1 pre x a' V hl1 _ ⟨g2,v2,hB,hD⟩ ⟨hx0,hx1,hRV,hxD,hdx⟩ ⟨Bs,hBs,hbs,rfl⟩ hlt;obtain⟨v0,v1,v2',v3,v4,v5,v6,v7,v8,v9,hv⟩:=zfS x.1;have hA:shA x.1=#[.int .i64 v0,.int .i64 v1,.int .i64 v2',.int .i64 v3,.int .i64 v4,.int .i64 v5,.int .i64 v6,.int .i64 v7,.int .i64 v8,.int .i64 v9]:=by have:=(zfR x.1).symm.trans hv;injection this
     have HB:=waV hB;have HDy:=waV hD;have HRV:=waV hRV;have HDx:=waV hdx;have HDt:=waV (fun V g (hf:FaceAt V fb g)=>zq4 fb g x.1 hx0 hx1 V hf)
     rw[hv] at HDt ⊢;rw[hA] at hbs;have hnf:=HNn.out.fb;have hn3:=HNn.out.b3;have hnm:=HNn.out.m;have y48:V.cell? ⟨fb,48,none⟩=some (.int .i64 (pre.length:Int)):=by rw[hB.f.cell (by decide),hD.d]
     have s0:V.cell? ⟨Bs,0,none⟩=some (.int .i64 v0):=by rw[World.cell?_of_heap hbs];rfl
     have lB:=(waL.1 hbs).1;clear hB hD hRV hdx
     by_cases hp:pre.length=0
     ·have tp:((pre.length:Int)==0)=true:=by rw[hp];rfl
      have HNx:=waV (fun l'=>zat (m:=17) (l':=l') (zos HDx.out HRV.out.tz))
      have f46:=HB.out.f.frozen 46;have y46:=HB.out.f.cell (show 46<51 by decide)
      have lf:=HB.out.f.lt;clear hp
      gi_wp2_with fail
      refine⟨trivial,?_⟩;refine(HNx.out l1).mono ?_;rintro e w9 ⟨⟨z,r,rfl⟩,hw9⟩;subst w9;clear HNx
      gi_wp2_with fail
      generalize hV1:World.setCell V _ _=V1 at *;obtain⟨z1,hz1⟩:∃z,V.setCell ⟨fb,46,none⟩ (.int .i64 z)=V1:=⟨_,hV1⟩;obtain⟨g3,hg3⟩:∃G,G=updG g2 46 (.int .i64 z1):=⟨_,rfl⟩;have HB1:Hid (OfB W V1 fb b1 b2 b3 w5.heap.size kb m w7.heap.size g3 v2):=by show OfB _ _ _ _ _ _ _ _ _ _ _ _;rw[<-hz1,hg3];exact HB.out.set HNn.out (.inl rfl) z1
      have Hr1:Hid (RlS (fun j=>j=fb\/j=b3\/j=m) V V1):=by show RlS _ _ _;rw[<-hz1];exact(RlS.refl _ V).set _ _ (.inl rfl)
      have He:Hid (∀i,i<46\/i=48->g3 i=g2 i):=fun i hi=>by rw[hg3];unfold updG;rw[if_neg (by omega)]
      clear hz1 hV1 hg3 tp f46 y46 lf y48 s0;have hbs1:=(Hr1.out.block Bs (waL.1 hbs).1 (by rintro (e|e|e)<;>omega)).trans hbs
      have hd1:=HDx.out.rls Hr1.out (by rintro (e|e|e)<;>omega)
      have HZ1:Hid (Tz V1):=HRV.out.tz.rls Hr1.out (by
       rintro (e|e|e)
       ·exact HB.out.f.ne_t HRV.out.tz e
       ·exact zez HB.out.t.x3 HRV.out.tz HB.out.vn.map.2 e
       ·exact HB.out.t.fr.ne_t HRV.out.tz e)
      have s0:V1.cell? ⟨Bs,0,none⟩=some (.int .i64 v0):=by rw[World.cell?_of_heap hbs1];rfl
      have s1:V1.cell? ⟨Bs,1,none⟩=some (.int .i64 v1):=by rw[World.cell?_of_heap hbs1];rfl
      have s2:V1.cell? ⟨Bs,2,none⟩=some (.int .i64 v2'):=by rw[World.cell?_of_heap hbs1];rfl
      have s3:V1.cell? ⟨Bs,3,none⟩=some (.int .i64 v3):=by rw[World.cell?_of_heap hbs1];rfl
      have s4:V1.cell? ⟨Bs,4,none⟩=some (.int .i64 v4):=by rw[World.cell?_of_heap hbs1];rfl
      have s5:V1.cell? ⟨Bs,5,none⟩=some (.int .i64 v5):=by rw[World.cell?_of_heap hbs1];rfl
      have s6:V1.cell? ⟨Bs,6,none⟩=some (.int .i64 v6):=by rw[World.cell?_of_heap hbs1];rfl
      have s7:V1.cell? ⟨Bs,7,none⟩=some (.int .i64 v7):=by rw[World.cell?_of_heap hbs1];rfl
      have s8:V1.cell? ⟨Bs,8,none⟩=some (.int .i64 v8):=by rw[World.cell?_of_heap hbs1];rfl
      have s9:V1.cell? ⟨Bs,9,none⟩=some (.int .i64 v9):=by rw[World.cell?_of_heap hbs1];rfl
      have HPv:=waV (fun l'=>zat (m:=17) (l':=l') (zkL x.2 (zay L x.1) V1 hd1))
      have f47:=HB1.out.f.frozen 47;have y47:=HB1.out.f.cell (show 47<51 by decide)
      have lf:=HB1.out.f.lt;have HD1:=waV hd1;have HS1:=waV hbs1;clear hd1 hbs1;refine⟨trivial,?_⟩;refine(HPv.out l1).mono ?_;rintro e w9 ⟨⟨z,r,rfl⟩,hw9⟩;subst w9;clear HPv
      gi_wp2_with fail
      generalize hV2:World.setCell V1 _ _=V2 at *;obtain⟨z2,hz2⟩:∃z,V1.setCell ⟨fb,47,none⟩ (.int .i64 z)=V2:=⟨_,hV2⟩;have HB2:Hid (OfB W V2 fb b1 b2 b3 w5.heap.size kb m w7.heap.size (updG g3 47 (.int .i64 z2)) v2):=by show OfB _ _ _ _ _ _ _ _ _ _ _ _;rw[<-hz2];exact HB1.out.set HNn.out (.inr (.inl rfl)) z2
      have hr2:RlS (·=fb) V1 V2:=by rw[<-hz2];exact(RlS.refl _ V1).set _ _ rfl
      have Hr2:Hid (RlS (fun j=>j=fb\/j=b3\/j=m) V V2):=Hr1.out.trans (hr2.mono fun k e=>.inl e)
      have HZ2:Hid (Tz V2):=HZ1.out.rls hr2 (HB1.out.f.ne_t HZ1.out);have HD2:Hid (DiscAt V2 x.2 (zay L x.1)):=HD1.out.rls hr2 (by show ¬x.2=fb;omega)
      clear s0 s1 s2 s3 s4 s5 s6 s7 s8 s9 f47 y47 lf HB1 Hr1 HZ1 HD1 HS1 hr2 hz2 hV2;have HDt2:=waV (fun l'=>zat (m:=17) (l':=l') (HDt.out V2 _ HB2.out.f))
      refine⟨trivial,?_⟩;refine(HDt2.out l1).mono ?_;rintro e w10 ⟨⟨z',rfl⟩,hr10,g5,hf10,hR10⟩;have HB3:=waV (HB2.out.face HNn.out hr10 hf10);have Hr3:Hid (RlS (fun j=>j=fb\/j=b3\/j=m) V w10):=Hr2.out.trans (hr10.mono fun k e=>.inl e)
      have HZ3:Hid (Tz w10):=HZ2.out.rls hr10 (HB2.out.f.ne_t HZ2.out);have HD3:Hid (DiscAt w10 x.2 (zay L x.1)):=HD2.out.rls hr10 (by show ¬x.2=fb;omega)
      have HDs:Hid (DaysI g' g5 (pre++[x])):=HDy.out.snoc (fun i hi=>by
       unfold updG;rw[if_neg (by omega)]
       exact He.out i hi) hR10 oQ
      clear hr10 hf10 hR10 HB2 Hr2 HZ2 HD2 HDt2;have x9:=HB3.out.x9.cell;have HT3:=waV (fun l'=>zat (m:=17) (l':=l') (zkG fb b1 b2 b3 kb m x.2 (fun b=>w7.heap.size<=b) (zay L x.1) g5 v2 w10 HB3.out.t HB3.out.vn HB3.out.f HD3.out hxD HZ3.out))
      gi_wp2_with fail
      refine⟨trivial,?_⟩;refine(HT3.out l1).mono ?_;rintro e w11 ⟨⟨z'',rfl⟩,hr11,⟨g6,hf11,he11⟩,v3',hv11,ht11⟩;have HB4:=waV (HB3.out.timed HNn.out hr11 hf11 hv11 ht11);have hkp:=waV (HKp.out V w11 g2 v2 HRV.out (Hr3.out.trans hr11) HB.out);have HDf:=waV (HDs.out.same he11);clear hr11 hf11 he11 hv11 ht11 HT3 x9
      gi_wp2_with fail
      exact⟨hkp.out.1,hkp.out.2,g6,v3',HB4.out,HDf.out⟩
     ·have tp:((pre.length:Int)==0)=false:=by rw[wbE];omega
      have HB1:=HB;have Hr1:Hid (RlS (fun j=>j=fb\/j=b3\/j=m) V V):=RlS.refl _ V
      obtain⟨g3,hg3⟩:∃G,G=g2:=⟨_,rfl⟩;have He:Hid (∀i,i<46\/i=48->g3 i=g2 i):=fun i hi=>by rw[hg3]
      rw[<-hg3] at HB1;clear hp hg3
      gi_wp2_with fail
      clear tp y48 s0;have hbs1:=(Hr1.out.block Bs (waL.1 hbs).1 (by rintro (e|e|e)<;>omega)).trans hbs
      have hd1:=HDx.out.rls Hr1.out (by rintro (e|e|e)<;>omega)
      have HZ1:Hid (Tz V):=HRV.out.tz.rls Hr1.out (by
       rintro (e|e|e)
       ·exact HB.out.f.ne_t HRV.out.tz e
       ·exact zez HB.out.t.x3 HRV.out.tz HB.out.vn.map.2 e
       ·exact HB.out.t.fr.ne_t HRV.out.tz e)
      have s0:V.cell? ⟨Bs,0,none⟩=some (.int .i64 v0):=by rw[World.cell?_of_heap hbs1];rfl
      have s1:V.cell? ⟨Bs,1,none⟩=some (.int .i64 v1):=by rw[World.cell?_of_heap hbs1];rfl
      have s2:V.cell? ⟨Bs,2,none⟩=some (.int .i64 v2'):=by rw[World.cell?_of_heap hbs1];rfl
      have s3:V.cell? ⟨Bs,3,none⟩=some (.int .i64 v3):=by rw[World.cell?_of_heap hbs1];rfl
      have s4:V.cell? ⟨Bs,4,none⟩=some (.int .i64 v4):=by rw[World.cell?_of_heap hbs1];rfl
      have s5:V.cell? ⟨Bs,5,none⟩=some (.int .i64 v5):=by rw[World.cell?_of_heap hbs1];rfl
      have s6:V.cell? ⟨Bs,6,none⟩=some (.int .i64 v6):=by rw[World.cell?_of_heap hbs1];rfl
      have s7:V.cell? ⟨Bs,7,none⟩=some (.int .i64 v7):=by rw[World.cell?_of_heap hbs1];rfl
      have s8:V.cell? ⟨Bs,8,none⟩=some (.int .i64 v8):=by rw[World.cell?_of_heap hbs1];rfl
      have s9:V.cell? ⟨Bs,9,none⟩=some (.int .i64 v9):=by rw[World.cell?_of_heap hbs1];rfl
      have HPv:=waV (fun l'=>zat (m:=17) (l':=l') (zkL x.2 (zay L x.1) V hd1))
      have f47:=HB1.out.f.frozen 47;have y47:=HB1.out.f.cell (show 47<51 by decide)
      have lf:=HB1.out.f.lt;have HD1:=waV hd1;have HS1:=waV hbs1;clear hd1 hbs1;refine⟨trivial,?_⟩;refine(HPv.out l1).mono ?_;rintro e w9 ⟨⟨z,r,rfl⟩,hw9⟩;subst w9;clear HPv
      gi_wp2_with fail
      generalize hV2:World.setCell V _ _=V2 at *;obtain⟨z2,hz2⟩:∃z,V.setCell ⟨fb,47,none⟩ (.int .i64 z)=V2:=⟨_,hV2⟩;have HB2:Hid (OfB W V2 fb b1 b2 b3 w5.heap.size kb m w7.heap.size (updG g3 47 (.int .i64 z2)) v2):=by show OfB _ _ _ _ _ _ _ _ _ _ _ _;rw[<-hz2];exact HB1.out.set HNn.out (.inr (.inl rfl)) z2
      have hr2:RlS (·=fb) V V2:=by rw[<-hz2];exact(RlS.refl _ V).set _ _ rfl
      have Hr2:Hid (RlS (fun j=>j=fb\/j=b3\/j=m) V V2):=Hr1.out.trans (hr2.mono fun k e=>.inl e)
      have HZ2:Hid (Tz V2):=HZ1.out.rls hr2 (HB1.out.f.ne_t HZ1.out);have HD2:Hid (DiscAt V2 x.2 (zay L x.1)):=HD1.out.rls hr2 (by show ¬x.2=fb;omega)
      clear s0 s1 s2 s3 s4 s5 s6 s7 s8 s9 f47 y47 lf HB1 Hr1 HZ1 HD1 HS1 hr2 hz2 hV2;have HDt2:=waV (fun l'=>zat (m:=17) (l':=l') (HDt.out V2 _ HB2.out.f))
      refine⟨trivial,?_⟩;refine(HDt2.out l1).mono ?_;rintro e w10 ⟨⟨z',rfl⟩,hr10,g5,hf10,hR10⟩;have HB3:=waV (HB2.out.face HNn.out hr10 hf10);have Hr3:Hid (RlS (fun j=>j=fb\/j=b3\/j=m) V w10):=Hr2.out.trans (hr10.mono fun k e=>.inl e)
      have HZ3:Hid (Tz w10):=HZ2.out.rls hr10 (HB2.out.f.ne_t HZ2.out);have HD3:Hid (DiscAt w10 x.2 (zay L x.1)):=HD2.out.rls hr10 (by show ¬x.2=fb;omega)
      have HDs:Hid (DaysI g' g5 (pre++[x])):=HDy.out.snoc (fun i hi=>by
       unfold updG;rw[if_neg (by omega)]
       exact He.out i hi) hR10 oQ
      clear hr10 hf10 hR10 HB2 Hr2 HZ2 HD2 HDt2;have x9:=HB3.out.x9.cell;have HT3:=waV (fun l'=>zat (m:=17) (l':=l') (zkG fb b1 b2 b3 kb m x.2 (fun b=>w7.heap.size<=b) (zay L x.1) g5 v2 w10 HB3.out.t HB3.out.vn HB3.out.f HD3.out hxD HZ3.out))
      gi_wp2_with fail
      refine⟨trivial,?_⟩;refine(HT3.out l1).mono ?_;rintro e w11 ⟨⟨z'',rfl⟩,hr11,⟨g6,hf11,he11⟩,v3',hv11,ht11⟩;have HB4:=waV (HB3.out.timed HNn.out hr11 hf11 hv11 ht11);have hkp:=waV (HKp.out V w11 g2 v2 HRV.out (Hr3.out.trans hr11) HB.out);have HDf:=waV (HDs.out.same he11);clear hr11 hf11 he11 hv11 ht11 HT3 x9
      gi_wp2_with fail
      exact⟨hkp.out.1,hkp.out.2,g6,v3',HB4.out,HDf.out⟩
    case done=>
     rintro D zs V hD hzs ⟨g2,v2,hB,hDz⟩ hKd;have HO:=waV (hDz.all hB.f.g HMk.out.1 HMk.out.2.1 HMk.out.2.2 hzs);have hr:Rl 0 0 w7.heap.size V (V.putObj D (.deferred none)):=(Rl.refl _ _ _ V).put _ hKd rfl hD;have HB:=waV hB;clear hB hDz hzs
     go_wp2_with (first|(refine zag (by rfl) 43 _ rfl (zaU g2) fb 0 rfl underlying43 rfl (zdo g2) (zdM HB.out.f.lies) ?_)|(refine zaV rfl _ _ rfl g2 HB.out.rs HB.out.f.g rfl rfl ?_;intro w8 hf8 hr8)|fail)
     have hKd8:w8.heap[D]?=some (.deferred (some [])):=(hr8.block D (waL.1 hKd).1 (show ¬D=W.heap.size by have:=HNn.out.w;have:=HNn.out.l;have:=HNn.out.fb;omega)).trans hKd
     have hr9:Rl 0 0 w7.heap.size w8 (w8.putObj D (.deferred none)):=(Rl.refl _ _ _ w8).put _ hKd8 rfl hD;have hbe:RlS (fun _=>False) W w8:=⟨hr8.os.trans HB.out.be.os,hr8.tape.trans HB.out.be.tape,hr8.output.trans HB.out.be.output,waW HB.out.be.size hr8.size,fun j hj _=>(hr8.block j (waD hj HB.out.be.size) (show ¬j=W.heap.size by omega)).trans (HB.out.be.block j hj (fun g=>g))⟩
     refine⟨by simp,.inl ⟨_,_,rfl,run_takeDeferred hKd8,?_⟩⟩
     exact⟨_,zem (x:=.int .i64 0) rfl rfl (hf8.rl hr9 (.inr (waK _))).lies,(hbe.rl00 hr9 oQ).to_below (fun j g=>g.elim) (waJ _),.inr ⟨HE.out,g2,rfl,HO.out⟩⟩
    case stop=>
     rintro D c pre V hD hpre h hKd;exact h.elim
end Go.Proofs.YtllcdbgjeidlkaaGreatDoor
namespace Go.Proofs.YtllcdbgjeidlkaaGreatDoor
open Go.Proofs.Tryz
open Go.RowKit
theorem zaP {w:World} {B:Nat} {v:Value} {l:List It} (h:zaY w B v l):∃A c,v=.slice A l.length c:=by
 rcases zbO h with ⟨h1,h2⟩|⟨g,cap,h1,_⟩
 ·exact⟨none,0,by rw[h1,h2]⟩
 ·exact⟨_,cap,h1⟩
theorem zbJ {S:Nat->Prop} {V V':World} {B:Nat} {v:Value} {l:List It} (h:zaY V B v l) (hr:RlS S V V') (hS:∀g cur,V.heap[g]?=some (.cells cur 64)->¬S g):zaY V' B v l:=by
 refine⟨h.1,?_⟩;rcases h.2 with h|⟨g,cap,cur,hv,hb,hg,hrest⟩
 ·exact .inl h
 ·exact .inr ⟨g,cap,cur,hv,hb,(hr.block g (waL.1 hg).1 (hS g cur hg)).trans hg,hrest⟩
end Go.Proofs.YtllcdbgjeidlkaaGreatDoor
namespace Go.Proofs.YtllcdbgjeidlkaaGreatDoor
open Go.Proofs.Tryz
open Go.RowKit
open Go.Maps
theorem zaY.rd {w:World} {B:Nat} {v:Value} {l:List It} (h:zaY w B v l):∃A c,v=.slice A l.length c/\l.length<=c/\c<=maxLen/\zcV w A l.length l/\(A=none->l.length=0):=by
 obtain⟨A,c,h1,h2,h3,h4,_⟩:=Rd.of_own zcG h rfl;refine⟨A,c,h1,h2,h3,h4,?_⟩;rintro rfl
 false_or_by_contra
 rename_i hn;obtain⟨b,o,e,_⟩:=h4.2 oQ;cases e
end Go.Proofs.YtllcdbgjeidlkaaGreatDoor
namespace Go.Proofs.YtllcdbgjeidlkaaGreatDoor
open Go.Proofs.Tryz
open Go.RowKit
structure CalV where
 week:List It
 year:List It
 month:List It
 day:List It
 back:Bool
 hour:List It
 minute:List It
 second:List It
def zc8:CalV:=⟨[],[],[],[],false,[],[],[]⟩
def kLo (f:Int):Int:=if f=0 then 1 else if f=1 then 1970 else if f=2 then 1 else if f=3 then 1 else 0
def kHi (f:Int):Int:=if f=0 then 7 else if f=1 then 2369 else if f=2 then 12 else if f=3 then 31 else if f=4 then 23 else if f=5 then 59 else if f=6 then 59 else 0
def zwQ:List UInt8:=[46,46]
def zot (f:Int):Nat:=if f=1 then 4 else 2
def zou (N:Nat) (f:Int) (σ:PS):PS×Int:=
 let r:=znK N (zot f) σ
 if r.2.2=true/\(r.2.1<kLo f\/kHi f<r.2.1) then(zfI (atP N σ) 4 r.1,r.2.1) else(r.1,r.2.1)
def zlU (N:Nat) (f:Int) (σ:PS):PS:=if f=6/\zdL σ=46/\¬zwQ<+:σ.l then zfI (atP N σ) 8 σ else σ
def zcS (f:Int):Nat:=if f=1 then 400 else 64
def zdJ (σ:PS):List UInt8:=if σ.e=0 then σ.l.takeWhile (fun c=>decide (c≠32)) else []
def zii (N:Nat) (σ:PS):PS×Bool:=if zgD σ then(σ,false) else((ziR N [32] σ).1,true)
def zwR (c:Int):Bool:=decide ((97<=c/\c<=122)\/(65<=c/\c<=90))
def zkM (l:List UInt8):Bool:=l.any (fun c=>decide (c=45\/c=126))
def zij:List (List UInt8×List UInt8):=[
 ([109,105,110,117,116,101,108,121],[42,45,42,45,42,32,42,58,42,58,48,48]),([104,111,117,114,108,121],[42,45,42,45,42,32,42,58,48,48,58,48,48]),
 ([100,97,105,108,121],[42,45,42,45,42,32,48,48,58,48,48,58,48,48]),([119,101,101,107,108,121],[77,111,110,32,42,45,42,45,42,32,48,48,58,48,48,58,48,48]),
 ([109,111,110,116,104,108,121],[42,45,42,45,48,49,32,48,48,58,48,48,58,48,48]),([113,117,97,114,116,101,114,108,121],[42,45,48,49,44,48,52,44,48,55,44,49,48,45,48,49,32,48,48,58,48,48,58,48,48]),
 ([115,101,109,105,97,110,110,117,97,108,108,121],[42,45,48,49,44,48,55,45,48,49,32,48,48,58,48,48,58,48,48]),([121,101,97,114,108,121],[42,45,48,49,45,48,49,32,48,48,58,48,48,58,48,48]),
 ([97,110,110,117,97,108,108,121],[42,45,48,49,45,48,49,32,48,48,58,48,48,58,48,48])]
def zlV (l:List UInt8):List UInt8:=match zij.find? (fun p=>decide (zc0 l=p.1)) with|some p=>p.2|none=>[]
def zuZ (l:List UInt8):PS:=⟨l,if 8192<l.length then 8192 else 0,if 8192<l.length then 5 else 0⟩
section
variable {N : Nat} {σ τ υ : PS} {P Q : Prop}
def zkN (f many:Int) (i:It):Bool:=if f=0 then decide (i.k=0\/i.k=3\/1<i.s) else decide (i.k=0/\(1<many\/1<i.s))
def zaF (f:Int) (l:List It):Int:=
 if l.length=0 then(if f=0 then 0 else 11) else if zcS f<l.length then 5 else if l.any (fun i=>zkN f (l.length:Int) i||!zbK i (kLo f) (kHi f)) then 1 else 0
end
def zaJ (c:CalV) (f:Nat):List It:=if f=0 then c.week else if f=1 then c.year else if f=2 then c.month else if f=3 then c.day else if f=4 then c.hour else if f=5 then c.minute else if f=6 then c.second else []
section
variable {N : Nat} {σ : PS} {c : CalV}
end
def zq7 (l:Nat->List It):Nat->Int×Int
 |0=>(7,0)
 |q+1=>if zaF ((6 - q:Nat):Int) (l (6 - q))=0 then zq7 l q else(((6 - q:Nat):Int),zaF ((6 - q:Nat):Int) (l (6 - q)))
def zfB (c:CalV):Int×Int:=zq7 (zaJ c) 7
theorem zjp {c:CalV} (h:∀f:Nat,f<7->zaF f (zaJ c f)=0):zfB c=(7,0):=by
 have h0:=h 0;have h1:=h 1;have h2:=h 2;have h3:=h 3;have h4:=h 4;have h5:=h 5;have h6:=h 6;simp only[zfB,zq7]
 simp_all
end Go.Proofs.YtllcdbgjeidlkaaGreatDoor
