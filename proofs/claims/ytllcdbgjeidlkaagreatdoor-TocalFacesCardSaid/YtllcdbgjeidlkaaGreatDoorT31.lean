/- A part of the proof: WCst4 -/
import Derived.Test.YtllcdbgjeidlkaaGreatDoorT30
import Derived.Test.YtllcdbgjeidlkaaGreatDoorT28
import Derived.Test.YtllcdbgjeidlkaaGreatDoorT15
set_option maxHeartbeats 80000000
set_option maxRecDepth 100000
set_option linter.unusedSimpArgs false
set_option linter.unusedVariables false
namespace Go.Proofs.YtllcdbgjeidlkaaGreatDoor
open Go.Proofs.Tryz
open Go.RowKit
open Go.Maps
theorem FaceAt.foreign {W:World} {fb:Nat} {g:Nat->Value} (h:FaceAt W fb g):zcQ W fb:=by
 obtain⟨cs,hc,_⟩:=h.obj;exact⟨cs,_,_,hc,by decide⟩
theorem zjm {W:World} {b:Nat} {t:TypeId} {v:Value} (h:Boxed W b t v) (ht:t≠162):zcQ W b:=⟨_,_,_,h,ht⟩
theorem FaceAt.ne_box {W:World} {fb b:Nat} {g:Nat->Value} {t:TypeId} {v:Value} (h:FaceAt W fb g) (k:Boxed W b t v) (ht:t≠43):fb≠b:=by
 rintro rfl;obtain⟨cs,hc,_⟩:=h.obj;have k:W.heap[fb]?=some (.cells #[v] t (0,0)):=k;rw[hc] at k;cases k;exact ht rfl
theorem FaceAt.zero {W:World} {fb:Nat} {g:Nat->Value} (h:FaceAt W fb g):∃k:Nat,W.cell? ⟨fb,0,none⟩=some (.int .u64 (k:Int)):=by
 obtain⟨k,_,e⟩:=h.g.m 0 dQ;exact⟨k,by rw[h.cell (by decide),e]⟩
theorem FaceAt.ne_k {W:World} {fb kb m:Nat} {g:Nat->Value} {P:Nat->Prop} (h:FaceAt W fb g) (k:FreshAt W kb m P):fb≠kb:=by
 rintro rfl;obtain⟨z,hz⟩:=h.zero;have:=k.c;rw[hz] at this;cases this
theorem FaceAt.ne_m {W:World} {fb kb m:Nat} {g:Nat->Value} {P:Nat->Prop} (h:FaceAt W fb g) (k:FreshAt W kb m P):fb≠m:=by
 rintro rfl;obtain⟨es,n,hm,_⟩:=k.f;obtain⟨cs,hc,_⟩:=h.obj;rw[hm] at hc;cases hc
theorem FaceAt.ne_t {W:World} {fb:Nat} {g:Nat->Value} (h:FaceAt W fb g) (hw:Tz W):0≠fb:=by
 rintro rfl;obtain⟨z,hz⟩:=h.zero;have:=hw 0 dQ;rw[hz] at this;cases this
theorem zck {W:World} {b kb m:Nat} {t:TypeId} {v:Value} {P:Nat->Prop} (h:Boxed W b t v) (k:FreshAt W kb m P):b≠m:=by
 rintro rfl;obtain⟨es,n,hm,_⟩:=k.f;have h:W.heap[b]?=some (.cells #[v] t (0,0)):=h;rw[hm] at h;cases h
theorem zoq {W:World} {b kb m:Nat} {t:TypeId} {v:Value} {P:Nat->Prop} (h:Boxed W b t v) (k:FreshAt W kb m P) (hv:∀x,v≠.map x):b≠kb:=by
 rintro rfl;have:=k.c;rw[h.cell] at this;cases this;exact hv _ rfl
theorem zeh {W:World} {b b':Nat} {t t':TypeId} {v v':Value} (h:Boxed W b t v) (k:Boxed W b' t' v') (ht:t≠t'):b≠b':=by
 rintro rfl;have h:W.heap[b]?=some (.cells #[v] t (0,0)):=h;have k:W.heap[b]?=some (.cells #[v'] t' (0,0)):=k;rw[h] at k;cases k;exact ht rfl
theorem zez {W:World} {b:Nat} {t:TypeId} {v:Value} (h:Boxed W b t v) (hw:Tz W) (hv:∀k z,v≠.int k z):0≠b:=by
 rintro rfl;have:=hw 0 dQ;rw[h.cell] at this;cases this;exact hv _ _ rfl
theorem FreshAt.ne_t {W:World} {kb m:Nat} {P:Nat->Prop} (h:FreshAt W kb m P) (hw:Tz W):0≠m:=by
 intro e;obtain⟨es,n,hm,_⟩:=h.f;have:=hw 0 dQ;rw[e] at this;simp[World.cell?,hm] at this
theorem FreshAt.toP {W:World} {kb m:Nat} {P Q:Nat->Prop} (h:FreshAt W kb m P) (hP:∀b,P b->Q b):FreshAt W kb m Q:=⟨h.c,by
 obtain⟨es,k,h1,h2⟩:=h.f;exact⟨es,k,h1,h2.imp hP fun _ _ g=>g⟩⟩
theorem TimeAt.rls {S:Nat->Prop} {W V:World} {fb b1 b2 b3 kb m:Nat} {P:Nat->Prop} {v:Value} (h:TimeAt W fb b1 b2 b3 kb m P v) (hr:RlS S W V) (n1:¬S b1) (n2:¬S b2) (n3:¬S b3) (n4:¬S kb) (n5:¬S m) (hd:∀e p,DiscAt W e p->DiscAt V e p):
 TimeAt V fb b1 b2 b3 kb m P v:=⟨zaO h.x1 hr n1,zaO h.x2 hr n2,zaO h.x3 hr n3,h.fr.imp hr n4 n5 hd⟩
def zhJ (W:World) (P:Nat->Prop) (v:Value):Prop:=v=.pointer none\/∃b p,v=.pointer (some ⟨b,0,none⟩)/\P b/\DiscAt W b p
theorem zhJ.imp {W V:World} {P:Nat->Prop} {v:Value} (h:zhJ W P v) (hd:∀e p,DiscAt W e p->DiscAt V e p):zhJ V P v:=Or.imp id (fun⟨b,p,h1,h2,h3⟩=>⟨b,p,h1,h2,hd _ _ h3⟩) h
theorem zhJ.map {W:World} {P:Nat->Prop} {v:Value} (h:zhJ W P v):(∀x,v≠.map x)/\∀k z,v≠.int k z:=by
 rcases h with rfl|⟨b,p,rfl,_⟩<;>exact⟨fun x h=>(by cases h),fun k z h=>(by cases h)⟩
structure TiS (W V:World) (fb b1 b2 b3 kb m q:Nat) (P:Nat->Prop) (p:Nat->Bool) (g g':Nat->Value) (v:Value):Prop where
 t:TimeAt V fb b1 b2 b3 kb m P v
 pq:P q
 f:FaceAt V fb g'
 e:∀i,i<49->g' i=g i
 z:Tz V
 d:DiscAt V q p
 vn:zhJ V P v
 r:RlS (fun k=>k=fb\/k=b3\/k=m) W V
section
variable {W V X : World} {fb b1 b2 b3 kb m q : Nat} {P : Nat -> Prop} {p : Nat -> Bool} {g g' : Nat -> Value} {v : Value}
theorem TiS.below (h:TiS W V fb b1 b2 b3 kb m q P p g g' v) (hb:Below V.heap.size V X):TiS W X fb b1 b2 b3 kb m q P p g g' v:=
 ⟨h.t.rls ((RlS.refl (fun _=>False) V).below hb (waJ _)) id id id id id (fun e p g=>g.below hb),h.pq,h.f.below hb,h.e,h.z.below hb,h.d.below hb,h.vn.imp (fun e p g=>g.below hb),h.r.below hb h.r.size⟩
theorem TiS.drewN (h:TiS W V fb b1 b2 b3 kb m q P p g g' v) (n:Nat):TiS W (V.drewN n) fb b1 b2 b3 kb m q P p g g' v:=h.below (zaj (waC _ _) n)
theorem TiS.drew (h:TiS W V fb b1 b2 b3 kb m q P p g g' v):TiS W V.drew fb b1 b2 b3 kb m q P p g g' v:=h.below (waC _ _).drew
theorem TiS.sq (h:TiS W V fb b1 b2 b3 kb m q P p g g' v) {b:Bool} (hb:g' 50=.bool b):V.cell? ⟨fb,50,none⟩=some (.bool b):=by rw[h.f.cell (by decide),hb]
theorem TiS.ev (h:TiS W V fb b1 b2 b3 kb m q P p g g' v) {b:Bool} (hb:g' 49=.bool b):V.cell? ⟨fb,49,none⟩=some (.bool b):=by rw[h.f.cell (by decide),hb]
theorem TiS.face (h:TiS W V fb b1 b2 b3 kb m q P p g g' v) {i:Nat} (hi:i=49\/i=50) (b:Bool):TiS W (V.setCell ⟨fb,i,none⟩ (.bool b)) fb b1 b2 b3 kb m q P p g (updG g' i (.bool b)) v:=by
 have hr:RlS (·=fb) V (V.setCell ⟨fb,i,none⟩ (.bool b)):=(RlS.refl _ V).set _ _ rfl;have hd:∀e p,DiscAt V e p->DiscAt (V.setCell ⟨fb,i,none⟩ (.bool b)) e p:=fun e p g=>g.foreign h.f.foreign hr
 have hg:=h.f.g;refine⟨h.t.rls hr (h.f.ne_box h.t.x1 dQ).symm (h.f.ne_box h.t.x2 dQ).symm (h.f.ne_box h.t.x3 dQ).symm (h.f.ne_k h.t.fr).symm (h.f.ne_m h.t.fr).symm hd,h.pq,h.f.set oQ ⟨fun j hj=>?_,?_,?_,?_,?_,?_⟩,fun j hj=>?_,h.z.rls hr (h.f.ne_t h.z),hd _ _ h.d,h.vn.imp hd,h.r.trans (hr.mono fun k e=>.inl e)⟩
 ·unfold updG;rw[if_neg (by omega)];exact hg.m j hj
 ·unfold updG;rw[if_neg (by omega)];exact hg.a
 ·unfold updG;rw[if_neg (by omega)];exact hg.z
 ·unfold updG;rw[if_neg (by omega)];exact hg.d
 ·unfold updG;split
  ·exact⟨_,rfl⟩
  ·exact hg.e
 ·unfold updG;split
  ·exact⟨_,rfl⟩
  ·exact hg.s
 ·unfold updG;rw[if_neg (by omega)];exact h.e j hj
theorem TiS.first (h:TiS W V fb b1 b2 b3 kb m q P p g g' v):TiS W (V.setCell ⟨b3,0,none⟩ (.pointer (some ⟨q,0,none⟩))) fb b1 b2 b3 kb m q P p g g' (.pointer (some ⟨q,0,none⟩)):=by
 have hr:RlS (·=b3) V (V.setCell ⟨b3,0,none⟩ (.pointer (some ⟨q,0,none⟩))):=(RlS.refl _ V).set _ _ rfl;have hd:∀e p,DiscAt V e p->DiscAt (V.setCell ⟨b3,0,none⟩ (.pointer (some ⟨q,0,none⟩))) e p:=fun e p g=>g.foreign (zjm h.t.x3 dQ) hr
 exact⟨⟨zaO h.t.x1 hr (zeh h.t.x1 h.t.x3 dQ),zaO h.t.x2 hr (zeh h.t.x2 h.t.x3 dQ),h.t.x3.set _,h.t.fr.imp hr (zoq h.t.x3 h.t.fr h.vn.map.1).symm (zck h.t.x3 h.t.fr).symm hd⟩,h.pq,
  h.f.rls hr (h.f.ne_box h.t.x3 dQ),h.e,h.z.rls hr (zez h.t.x3 h.z h.vn.map.2),hd _ _ h.d,.inr ⟨q,p,rfl,h.pq,hd _ _ h.d⟩,h.r.trans (hr.mono fun k e=>.inr (.inl e))⟩
theorem TiS.fresh (h:TiS W V fb b1 b2 b3 kb m q P p g g' v) (hr:RlS (·=m) V X) (hf:FreshAt X kb m P):TiS W X fb b1 b2 b3 kb m q P p g g' v:=by
 have hd:∀e p,DiscAt V e p->DiscAt X e p:=fun e p g=>g.rls hr (by
  rintro rfl;obtain⟨es,n,hm,_⟩:=h.t.fr.f;obtain⟨cs,hc⟩:=g.obj;rw[hm] at hc;cases hc)
 exact⟨⟨zaO h.t.x1 hr (zck h.t.x1 h.t.fr),zaO h.t.x2 hr (zck h.t.x2 h.t.fr),zaO h.t.x3 hr (zck h.t.x3 h.t.fr),hf⟩,h.pq,
  h.f.rls hr (h.f.ne_m h.t.fr),h.e,h.z.rls hr (h.t.fr.ne_t h.z),hd _ _ h.d,h.vn.imp hd,h.r.trans (hr.mono fun k e=>.inr (.inr e))⟩
end
def zng (fb b1 b2 b3 kb m:Nat) (P:Nat->Prop) (g:Nat->Value) (W:World) (e:Ending) (W':World):Prop:=
 (∃x,e=.returned x)/\RlS (fun k=>k=fb\/k=b3\/k=m) W W'/\(∃g',FaceAt W' fb g'/\∀i,i<49->g' i=g i)/\∃v,zhJ W' P v/\TimeAt W' fb b1 b2 b3 kb m P v
theorem TiS.ret {W V:World} {fb b1 b2 b3 kb m q:Nat} {P:Nat->Prop} {p:Nat->Bool} {g g':Nat->Value} {v x:Value} (h:TiS W V fb b1 b2 b3 kb m q P p g g' v):zng fb b1 b2 b3 kb m P g W (.returned x) V:=
 ⟨⟨_,rfl⟩,h.r,⟨g',h.f,h.e⟩,v,h.vn,h.t⟩
theorem zkG (fb b1 b2 b3 kb m q:Nat) (P:Nat->Prop) (p:Nat->Bool) (g:Nat->Value) (v:Value) (W:World) (ht:TimeAt W fb b1 b2 b3 kb m P v) (hv:zhJ W P v) (hf:FaceAt W fb g) (hd:DiscAt W q p) (hq:P q) (hw:Tz W):
 Calls prog 74 #[.pointer (some ⟨q,0,none⟩),.pointer (some ⟨b1,0,none⟩),.pointer (some ⟨b2,0,none⟩),.pointer (some ⟨b3,0,none⟩)] W (zng fb b1 b2 b3 kb m P g W):=by
 have eg:∀args w,(callFunc 139 args).run prog w=.ok (.enter 139 args) w:=enters_of func139 kQ rfl;have HS:=waV (show TiS W W fb b1 b2 b3 kb m q P p g g v from⟨ht,hq,hf,fun _ _=>rfl,hw,hd,hv,RlS.refl _ _⟩)
 have HIs:=waV (zie kb m q P p W ht.fr hd);have HQ:=waV hq;have HE:=waV (fun V b' p' g' (h:TiS W V fb b1 b2 b3 kb m q P p g g' (.pointer (some ⟨b',0,none⟩))) (hb:DiscAt V b' p')=>zn3 (.pointer (some ⟨b',0,none⟩)) (.pointer (some ⟨q,0,none⟩)) p' p V h.z (.inr ⟨b',rfl,hb⟩) (.inr ⟨q,rfl,h.d⟩))
 have HT:=waV (fun V g' v' (h:TiS W V fb b1 b2 b3 kb m q P p g g' v')=>zkv (.pointer (some ⟨q,0,none⟩)) p V (.inr ⟨q,rfl,h.d⟩) h.z)
 have HL:=waV (fun V g' v' (h:TiS W V fb b1 b2 b3 kb m q P p g g' v')=>zta (.pointer (some ⟨q,0,none⟩)) p V (.inr ⟨q,rfl,h.d⟩))
 obtain⟨t0,t1,t2,hTV,t0b,t1b,t2b⟩:∃t0 t1 t2:Nat,zku p=.tuple #[.int .u64 (t0:Int),.int .u64 (t1:Int),.int .u64 (t2:Int)]/\t0<18446744073709551616/\t1<18446744073709551616/\t2<18446744073709551616:=
  ⟨_,_,_,rfl,zfp hOf _ (fun s hs=>by have:=(zev.1 hs).1;unfold hOf;omega),zfp zdy _ (fun s hs=>by unfold zdy;omega),zfp zdz _ (fun s hs=>by unfold zdz;omega)⟩
 rw[hTV] at HT;have HTL:=waV (fun V=>zn9 t0 t1 t2 t0b t1b t2b V)
 clear hTV t0b t1b t2b;obtain⟨ev,he⟩:=hf.g.e;obtain⟨sq,hs⟩:=hf.g.s;have c1:=ht.x1.cell;have c2:=ht.x2.cell;have c49:W.cell? ⟨fb,49,none⟩=some (.bool ev):=by rw[hf.cell (by decide),he]
 have c50:W.cell? ⟨fb,50,none⟩=some (.bool sq):=by rw[hf.cell (by decide),hs]
 have l1:=ht.x1.lt;have hE:=waV he;have hSq:=waV hs;clear ht hv hf hd hw hq he hs;cases ev with
 |false=>
  cases sq with
  |false=>
   go_enter func74,ntmps74;go_wp2_with fail
   (try simp only[Exit.inBlock,Exit.then])
   refine waY (results_none rfl _ _ _) rfl ?_;exact HS.out.ret
  |true=>
   go_enter func74,ntmps74;go_wp2_with fail;refine HIs.out.mono ?_;rintro e w1 ⟨hr1,(⟨rfl,_,hf1⟩|⟨rfl,hf1⟩)⟩
   ·have HS1:=waV (HS.out.fresh hr1 hf1);clear hr1 hf1 c1 c2 c49 c50 l1;go_wp2_with fail
    (try simp only[Exit.inBlock,Exit.then])
    refine waY (results_none rfl _ _ _) rfl ?_;exact HS1.out.ret
   ·have HS1:=waV (HS.out.fresh hr1 (hf1.toP (fun b h=>h.elim id (fun e=>by rw[e];exact HQ.out))))
    clear hr1 hf1 c1 c2 c49 c50 l1 HS HIs;have x1:=HS1.out.t.x1.cell;have x3:=HS1.out.t.x3.cell;have z3:=HS1.out.t.x3.frozen;have l1:=HS1.out.t.x1.lt;have l3:=HS1.out.t.x3.lt;have y49:w1.cell? ⟨fb,49,none⟩=some (.bool false):=by rw[HS1.out.f.cell (by decide),hE.out]
    have y50:w1.cell? ⟨fb,50,none⟩=some (.bool true):=by rw[HS1.out.f.cell (by decide),hSq.out]
    have f49:=HS1.out.f.frozen 49;have f50:=HS1.out.f.frozen 50;have lf:=HS1.out.f.lt;rcases HS1.out.vn with rfl|⟨b,p',rfl,hPb,hd'⟩
    case' inl=>
     go_wp2_with fail;have HS2:=waV HS1.out.first
     clear x1 x3 z3 l1 l3 y49 y50 f49 f50 lf HS1;generalize (w1.setCell _ _)=V2 at *;obtain⟨b,hb⟩:∃b,b=q:=⟨_,rfl⟩;obtain⟨p',hp'⟩:∃p',DiscAt V2 b p':=⟨p,by rw[hb];exact HS2.out.d⟩
     replace HS2:Hid (TiS W V2 fb b1 b2 b3 kb m q P p g g (.pointer (some ⟨b,0,none⟩))):=by rw[hb];exact HS2.out
     clear hb
    case' inr=>
     go_wp2_with fail;have HS2:=HS1;clear x1 x3 z3 l1 l3 y49 y50 f49 f50 lf HS1;generalize hV2:w1=V2 at *;have hp':=hd';clear hV2 hd' hPb
    all_goals
     clear hp';have x1:=HS2.out.t.x1.cell;have x3:=HS2.out.t.x3.cell;have z3:=HS2.out.t.x3.frozen;have l1:=HS2.out.t.x1.lt;have l3:=HS2.out.t.x3.lt;have y49:V2.cell? ⟨fb,49,none⟩=some (.bool false):=by rw[HS2.out.f.cell (by decide),hE.out]
     have y50:V2.cell? ⟨fb,50,none⟩=some (.bool true):=by rw[HS2.out.f.cell (by decide),hSq.out]
     have f49:=HS2.out.f.frozen 49;have f50:=HS2.out.f.frozen 50;have lf:=HS2.out.f.lt
     go_region
     have HS3:=waV (HS2.out.face (.inl rfl) false).drew;clear x1 x3 z3 l1 l3 y49 y50 f49 f50 lf HS2;generalize (World.setCell V2 _ _).drew=V3 at *;have x1:=HS3.out.t.x1.cell;have l1:=HS3.out.t.x1.lt;have y50:V3.cell? ⟨fb,50,none⟩=some (.bool true):=by rw[HS3.out.f.cell (by decide),<-hSq.out];rfl
     have lf:=HS3.out.f.lt;go_wp2_with fail;clear x1 l1 y50 lf;refine(HT.out _ _ _ HS3.out).mono ?_;rintro e w5 ⟨rfl,hb5⟩;replace HS3:=waV (HS3.out.below hb5);clear hb5;have x1:=HS3.out.t.x1.cell;have l1:=HS3.out.t.x1.lt;have y50:w5.cell? ⟨fb,50,none⟩=some (.bool true):=by rw[HS3.out.f.cell (by decide),<-hSq.out];rfl
     have lf:=HS3.out.f.lt;have f50:=HS3.out.f.frozen 50;go_wp2_with fail;clear x1 l1 y50 lf f50;have Hs3:Hid ((updG g 49 (.bool false)) 50=.bool true):=hSq.out;refine zaB 16 (fun w'=>Hid (TiS W w' fb b1 b2 b3 kb m q P p g (updG g 49 (.bool false)) (.pointer (some ⟨b,0,none⟩)))) kQ ?_
     have hHeld:=waV HS3.out.drew;refine(kR 0 51 (fun w_ hSw_=>hSw_.out.t.x1.cell) (h:=(kR 1 52 (fun w_ hSw_=>hSw_.out.t.x1.cell) (h:=(kP 2 53 (h:=(kP 3 54 (h:=(kR 4 55 (fun w_ hSw_=>hSw_.out.sq Hs3.out) (h:=(kP 5 56 (h:=(kP 6 57 (h:=(kP 7 58 (h:=(kP 8 59 (h:=(kP 10 61 (h:=?_))))))))))))))))))))
     simp only[Act.put,zbj,zbk,zbl];refine zac (i:=9) kQ fun o_ ho_ K_ hK_=>?_
     obtain rfl:=waB ho_;have HK_:=waV hK_;clear hK_ ho_;go_wp2_with fail;refine(HTL.out _).mono ?_;rintro e w6 ⟨⟨k1,rfl⟩,rfl⟩;go_wp2_with fail;refine HK_.out _ _ hHeld ?_;clear HK_;have HLx:=waV (HL.out _ _ _ hHeld.out);refine zac (i:=11) kQ fun o_ ho_ K_ hK_=>?_
     obtain rfl:=waB ho_;have HK_:=waV hK_;clear hK_ ho_;go_wp2_with fail;refine HLx.out.mono ?_;rintro e w7 ⟨⟨k2,rfl⟩,rfl⟩;go_wp2_with fail;refine HK_.out _ _ hHeld ?_;clear HK_ HLx;refine(kP 12 63 (h:=(kP 13 64 (h:=(kP 14 65 (h:=(kP 15 66 (h:=?_))))))));simp only[Act.put,zbj,zbk,zbl];have y50:=hHeld.out.sq Hs3.out;have lf:=hHeld.out.f.lt;have f50:=hHeld.out.f.frozen 50;have HF:=waV (fun b=>(hHeld.out.face (.inr rfl) b).ret (x:=.tuple #[]))
     refine zaq (j:=1) dQ (.inr rfl) dQ kQ ?_;simp only[wbQ,waG,List.length_nil,Nat.reduceAdd,Nat.reduceSub,waZ,wbA];go_wp2_with fail
     (try simp only[Exit.inBlock,Exit.then])
     refine⟨rfl,_,results_none rfl _ _ _,?_⟩;exact HF.out _
 |true=>
  cases sq with
  |false=>
   go_enter func74,ntmps74;go_wp2_with fail;refine HIs.out.mono ?_;rintro e w1 ⟨hr1,(⟨rfl,_,hf1⟩|⟨rfl,hf1⟩)⟩
   ·have HS1:=waV (HS.out.fresh hr1 hf1);clear hr1 hf1 c1 c2 c49 c50 l1;go_wp2_with fail
    (try simp only[Exit.inBlock,Exit.then])
    refine waY (results_none rfl _ _ _) rfl ?_;exact HS1.out.ret
   ·have HS1:=waV (HS.out.fresh hr1 (hf1.toP (fun b h=>h.elim id (fun e=>by rw[e];exact HQ.out))))
    clear hr1 hf1 c1 c2 c49 c50 l1 HS HIs;have x1:=HS1.out.t.x1.cell;have x3:=HS1.out.t.x3.cell;have z3:=HS1.out.t.x3.frozen;have l1:=HS1.out.t.x1.lt;have l3:=HS1.out.t.x3.lt;have y49:w1.cell? ⟨fb,49,none⟩=some (.bool true):=by rw[HS1.out.f.cell (by decide),hE.out]
    have y50:w1.cell? ⟨fb,50,none⟩=some (.bool false):=by rw[HS1.out.f.cell (by decide),hSq.out]
    have f49:=HS1.out.f.frozen 49;have f50:=HS1.out.f.frozen 50;have lf:=HS1.out.f.lt;rcases HS1.out.vn with rfl|⟨b,p',rfl,hPb,hd'⟩
    case' inl=>
     go_wp2_with fail;have HS2:=waV HS1.out.first
     clear x1 x3 z3 l1 l3 y49 y50 f49 f50 lf HS1;generalize (w1.setCell _ _)=V2 at *;obtain⟨b,hb⟩:∃b,b=q:=⟨_,rfl⟩;obtain⟨p',hp'⟩:∃p',DiscAt V2 b p':=⟨p,by rw[hb];exact HS2.out.d⟩
     replace HS2:Hid (TiS W V2 fb b1 b2 b3 kb m q P p g g (.pointer (some ⟨b,0,none⟩))):=by rw[hb];exact HS2.out
     clear hb
    case' inr=>
     go_wp2_with fail;have HS2:=HS1;clear x1 x3 z3 l1 l3 y49 y50 f49 f50 lf HS1;generalize hV2:w1=V2 at *;have hp':=hd';clear hV2 hd' hPb
    all_goals
     have HEx:=waV (HE.out _ _ p' _ HS2.out.drew (hp'.below (waC _ _).drew));clear hp';have hE3:=hE;refine zaB 12 (fun w'=>Hid (TiS W w' fb b1 b2 b3 kb m q P p g g (.pointer (some ⟨b,0,none⟩)))) kQ ?_
     have hHeld:=waV HS2.out.drew;clear HS2;generalize V2.drew=V2d at *;refine(kR 0 29 (fun w_ hSw_=>hSw_.out.t.x1.cell) (h:=(kR 1 30 (fun w_ hSw_=>hSw_.out.t.x1.cell) (h:=(kP 2 31 (h:=(kP 3 32 (h:=(kR 4 33 (fun w_ hSw_=>hSw_.out.ev hE.out) (h:=(kP 5 34 (h:=(kR 6 35 (fun w_ hSw_=>hSw_.out.t.x3.cell) (h:=(kP 7 36 (h:=?_))))))))))))))))
     simp only[Act.put,zbj,zbk,zbl];refine zac (i:=8) kQ fun o_ ho_ K_ hK_=>?_
     obtain rfl:=waB ho_;have HK_:=waV hK_;clear hK_ ho_;go_wp2_with fail;refine HEx.out.mono ?_;rintro e w4 ⟨⟨r,rfl,_⟩,rfl⟩;go_wp2_with fail;refine HK_.out _ _ hHeld ?_;clear HK_ HEx;refine(kP 9 38 (h:=(kP 10 39 (h:=(kP 11 40 (h:=?_))))));simp only[Act.put,zbj,zbk,zbl];have y49:=hHeld.out.ev hE.out;have lf:=hHeld.out.f.lt;have f49:=hHeld.out.f.frozen 49;have y50:=hHeld.out.sq hSq.out;have x1:=hHeld.out.t.x1.cell;have l1:=hHeld.out.t.x1.lt;have n1:=hHeld.out.f.ne_box hHeld.out.t.x1 dQ;have n2:=n1.symm;have HS3:=waV (hHeld.out.face (.inl rfl) r);refine zaq (j:=1) dQ (.inr rfl) dQ kQ ?_;simp only[wbQ,waG,List.length_nil,Nat.reduceAdd,Nat.reduceSub,waZ,wbA];go_wp2_with fail
     (try simp only[Exit.inBlock,Exit.then])
     refine⟨rfl,_,results_none rfl _ _ _,?_⟩;exact HS3.out.ret
  |true=>
   go_enter func74,ntmps74;go_wp2_with fail;refine HIs.out.mono ?_;rintro e w1 ⟨hr1,(⟨rfl,_,hf1⟩|⟨rfl,hf1⟩)⟩
   ·have HS1:=waV (HS.out.fresh hr1 hf1);clear hr1 hf1 c1 c2 c49 c50 l1;go_wp2_with fail
    (try simp only[Exit.inBlock,Exit.then])
    refine waY (results_none rfl _ _ _) rfl ?_;exact HS1.out.ret
   ·have HS1:=waV (HS.out.fresh hr1 (hf1.toP (fun b h=>h.elim id (fun e=>by rw[e];exact HQ.out))))
    clear hr1 hf1 c1 c2 c49 c50 l1 HS HIs;have x1:=HS1.out.t.x1.cell;have x3:=HS1.out.t.x3.cell;have z3:=HS1.out.t.x3.frozen;have l1:=HS1.out.t.x1.lt;have l3:=HS1.out.t.x3.lt;have y49:w1.cell? ⟨fb,49,none⟩=some (.bool true):=by rw[HS1.out.f.cell (by decide),hE.out]
    have y50:w1.cell? ⟨fb,50,none⟩=some (.bool true):=by rw[HS1.out.f.cell (by decide),hSq.out]
    have f49:=HS1.out.f.frozen 49;have f50:=HS1.out.f.frozen 50;have lf:=HS1.out.f.lt;rcases HS1.out.vn with rfl|⟨b,p',rfl,hPb,hd'⟩
    case' inl=>
     go_wp2_with fail;have HS2:=waV HS1.out.first
     clear x1 x3 z3 l1 l3 y49 y50 f49 f50 lf HS1;generalize (w1.setCell _ _)=V2 at *;obtain⟨b,hb⟩:∃b,b=q:=⟨_,rfl⟩;obtain⟨p',hp'⟩:∃p',DiscAt V2 b p':=⟨p,by rw[hb];exact HS2.out.d⟩
     replace HS2:Hid (TiS W V2 fb b1 b2 b3 kb m q P p g g (.pointer (some ⟨b,0,none⟩))):=by rw[hb];exact HS2.out
     clear hb
    case' inr=>
     go_wp2_with fail;have HS2:=HS1;clear x1 x3 z3 l1 l3 y49 y50 f49 f50 lf HS1;generalize hV2:w1=V2 at *;have hp':=hd';clear hV2 hd' hPb
    all_goals
     have HEx:=waV (HE.out _ _ p' _ HS2.out.drew (hp'.below (waC _ _).drew));clear hp';have hE3:=hE;refine zaB 12 (fun w'=>Hid (TiS W w' fb b1 b2 b3 kb m q P p g g (.pointer (some ⟨b,0,none⟩)))) kQ ?_
     have hHeld:=waV HS2.out.drew;clear HS2;generalize V2.drew=V2d at *;refine(kR 0 29 (fun w_ hSw_=>hSw_.out.t.x1.cell) (h:=(kR 1 30 (fun w_ hSw_=>hSw_.out.t.x1.cell) (h:=(kP 2 31 (h:=(kP 3 32 (h:=(kR 4 33 (fun w_ hSw_=>hSw_.out.ev hE.out) (h:=(kP 5 34 (h:=(kR 6 35 (fun w_ hSw_=>hSw_.out.t.x3.cell) (h:=(kP 7 36 (h:=?_))))))))))))))))
     simp only[Act.put,zbj,zbk,zbl];refine zac (i:=8) kQ fun o_ ho_ K_ hK_=>?_
     obtain rfl:=waB ho_;have HK_:=waV hK_;clear hK_ ho_;go_wp2_with fail;refine HEx.out.mono ?_;rintro e w4 ⟨⟨r,rfl,_⟩,rfl⟩;go_wp2_with fail;refine HK_.out _ _ hHeld ?_;clear HK_ HEx;refine(kP 9 38 (h:=(kP 10 39 (h:=(kP 11 40 (h:=?_))))));simp only[Act.put,zbj,zbk,zbl];have y49:=hHeld.out.ev hE.out;have lf:=hHeld.out.f.lt;have f49:=hHeld.out.f.frozen 49;have y50:=hHeld.out.sq hSq.out;have x1:=hHeld.out.t.x1.cell;have l1:=hHeld.out.t.x1.lt;have n1:=hHeld.out.f.ne_box hHeld.out.t.x1 dQ;have n2:=n1.symm;have HS3:=waV (hHeld.out.face (.inl rfl) r);refine zaq (j:=1) dQ (.inr rfl) dQ kQ ?_;simp only[wbQ,waG,List.length_nil,Nat.reduceAdd,Nat.reduceSub,waZ,wbA];go_wp2_with fail;clear x1 l1 y50 lf;refine(HT.out _ _ _ HS3.out).mono ?_;rintro e w5 ⟨rfl,hb5⟩;replace HS3:=waV (HS3.out.below hb5);clear hb5;have x1:=HS3.out.t.x1.cell;have l1:=HS3.out.t.x1.lt;have y50:w5.cell? ⟨fb,50,none⟩=some (.bool true):=by rw[HS3.out.f.cell (by decide),<-hSq.out];rfl
     have lf:=HS3.out.f.lt;have f50:=HS3.out.f.frozen 50;go_wp2_with fail;clear x1 l1 y50 lf f50;have Hs3:Hid ((updG g 49 (.bool r)) 50=.bool true):=hSq.out;refine zaB 16 (fun w'=>Hid (TiS W w' fb b1 b2 b3 kb m q P p g (updG g 49 (.bool r)) (.pointer (some ⟨b,0,none⟩)))) kQ ?_
     have hHeld:=waV HS3.out.drew;refine(kR 0 51 (fun w_ hSw_=>hSw_.out.t.x1.cell) (h:=(kR 1 52 (fun w_ hSw_=>hSw_.out.t.x1.cell) (h:=(kP 2 53 (h:=(kP 3 54 (h:=(kR 4 55 (fun w_ hSw_=>hSw_.out.sq Hs3.out) (h:=(kP 5 56 (h:=(kP 6 57 (h:=(kP 7 58 (h:=(kP 8 59 (h:=(kP 10 61 (h:=?_))))))))))))))))))))
     simp only[Act.put,zbj,zbk,zbl];refine zac (i:=9) kQ fun o_ ho_ K_ hK_=>?_
     obtain rfl:=waB ho_;have HK_:=waV hK_;clear hK_ ho_;go_wp2_with fail;refine(HTL.out _).mono ?_;rintro e w6 ⟨⟨k1,rfl⟩,rfl⟩;go_wp2_with fail;refine HK_.out _ _ hHeld ?_;clear HK_;have HLx:=waV (HL.out _ _ _ hHeld.out);refine zac (i:=11) kQ fun o_ ho_ K_ hK_=>?_
     obtain rfl:=waB ho_;have HK_:=waV hK_;clear hK_ ho_;go_wp2_with fail;refine HLx.out.mono ?_;rintro e w7 ⟨⟨k2,rfl⟩,rfl⟩;go_wp2_with fail;refine HK_.out _ _ hHeld ?_;clear HK_ HLx;refine(kP 12 63 (h:=(kP 13 64 (h:=(kP 14 65 (h:=(kP 15 66 (h:=?_))))))));simp only[Act.put,zbj,zbk,zbl];have y50:=hHeld.out.sq Hs3.out;have lf:=hHeld.out.f.lt;have f50:=hHeld.out.f.frozen 50;have HF:=waV (fun b=>(hHeld.out.face (.inr rfl) b).ret (x:=.tuple #[]))
     refine zaq (j:=1) dQ (.inr rfl) dQ kQ ?_;simp only[wbQ,waG,List.length_nil,Nat.reduceAdd,Nat.reduceSub,waZ,wbA];go_wp2_with fail
     (try simp only[Exit.inBlock,Exit.then])
     refine⟨rfl,_,results_none rfl _ _ _,?_⟩;exact HF.out _
end Go.Proofs.YtllcdbgjeidlkaaGreatDoor
