/- A part of the proof: WCst6 -/
import Derived.Test.YtllcdbgjeidlkaaGreatDoorT31
import Derived.Test.YtllcdbgjeidlkaaGreatDoorT32
import Derived.Test.YtllcdbgjeidlkaaGreatDoorT24
import Derived.Test.YtllcdbgjeidlkaaGreatDoorT21
import Derived.Test.YtllcdbgjeidlkaaGreatDoorT28
set_option maxHeartbeats 80000000
set_option maxRecDepth 100000
set_option linter.unusedSimpArgs false
set_option linter.unusedVariables false
namespace Go.Proofs.YtllcdbgjeidlkaaGreatDoor
open Go.Proofs.Tryz
open Go.RowKit
open Go.Maps
attribute [local go_sem] Oper.semAt_some
theorem FreshAt.rl {W V:World} {kb m lo hi B:Nat} {P:Nat->Prop} (h:FreshAt W kb m P) (hr:Rl lo hi B W V) (hk:kb<lo\/hi<=kb) (hm:m<lo\/hi<=m) (hB:m<B) (hP:∀b,P b->b<lo\/hi<=b):FreshAt V kb m P:=⟨hr.cell h.c hk,by
 obtain⟨es,k,h1,h2⟩:=h.f;exact⟨es,k,hr.block m _ h1 hm (.inl hB),h2.one,fun q hq=>by
  obtain⟨b,g1,g2,g3,p,g4⟩:=h2.all q hq;exact⟨b,g1,g2,g3,p,g4.rl hr (hP b g3)⟩⟩⟩
theorem FaceAt.rl {W V:World} {fb lo hi B:Nat} {g:Nat->Value} (h:FaceAt W fb g) (hr:Rl lo hi B W V) (hf:fb<lo\/hi<=fb):FaceAt V fb g:=by
 obtain⟨cs,hc,_⟩:=h.obj;exact h.same ((hr.block fb _ hc hf (.inr rfl)).trans hc.symm)
theorem DiscAt.uniq {W:World} {b:Nat} {p q:Nat->Bool} (h:DiscAt W b p) (k:DiscAt W b q):zgY p q:=fun s hs=>by
 have h1:=h.cells (s / 64) oQ;rw[k.cells (s / 64) (by omega)] at h1
 injection h1 with h1
 injection h1 with _ h1
 have h2:zau q (s / 64)=zau p (s / 64):=by omega
 have e:64 * (s / 64)+s%64=s:=by omega
 have h3:=zb2 p (s / 64) (s%64) oQ;have h4:=zb2 q (s / 64) (s%64) oQ;rw[e] at h3 h4;rw[<-h3,<-h4,h2]
structure AlB (W V:World) (fb kb m B1 B2 B3:Nat) (c:Cl) (P:Nat->Prop) (ds:List (Int×Nat)) (g:Nat->Value):Prop where
 f:FaceAt V fb g
 fr:FreshAt V kb m P
 pd:∀x∈ds,DiscAt V x.2 (zay [c] x.1)
 r:RlS (·=fb) W V
 x1:Boxed V B1 145 (.pointer (some ⟨fb,0,none⟩))
 x2:V.heap[B2]?=some (.cells (clA c) 60 (0,0))
 x3:Boxed V B3 146 (.func (.func 139) #[] #[.pointer (some ⟨kb,0,none⟩)])
section
variable {W V X : World} {fb kb m B1 B2 B3 : Nat} {c : Cl} {P Q : Nat -> Prop} {ds : List (Int × Nat)} {g : Nat -> Value}
theorem AlB.below (h:AlB W V fb kb m B1 B2 B3 c P ds g) (hb:Below V.heap.size V X):AlB W X fb kb m B1 B2 B3 c P ds g:=
 ⟨h.f.below hb,h.fr.imp ((RlS.refl (fun _=>False) V).below hb (waJ _)) id id (fun e p g=>g.below hb),fun x hx=>(h.pd x hx).below hb,h.r.below hb h.r.size,zaG hb h.x1,(hb.block _ (waL.1 h.x2).1).trans h.x2,zaG hb h.x3⟩
theorem AlB.drew (h:AlB W V fb kb m B1 B2 B3 c P ds g):AlB W V.drew fb kb m B1 B2 B3 c P ds g:=h.below (waC _ _).drew
theorem AlB.rl {lo hi B:Nat} (h:AlB W V fb kb m B1 B2 B3 c P ds g) (hr:Rl lo hi B V X) (hW:W.heap.size<=lo) (hWB:W.heap.size<=B) (hf:fb<lo) (h1:B1<lo) (h2:B2<lo) (hk:hi<=kb) (hm:hi<=m/\m<B) (h3:hi<=B3) (hP:∀b,P b->hi<=b) (hd:∀x∈ds,hi<=x.2):AlB W X fb kb m B1 B2 B3 c P ds g:=
 ⟨h.f.rl hr (.inl hf),h.fr.rl hr (.inr hk) (.inr hm.1) hm.2 (fun b g=>.inr (hP b g)),fun x hx=>(h.pd x hx).rl hr (.inr (hd x hx)),h.r.rl hr hW hWB,zeA h.x1 hr (.inl h1),hr.block _ _ h.x2 (.inl h2) (.inr rfl),zeA h.x3 hr (.inr h3)⟩
theorem zej {W:World} {kb m e:Nat} {P:Nat->Prop} {p:Nat->Bool} (h:FreshAt W kb m P) (k:DiscAt W e p):e≠m:=by
 rintro rfl;obtain⟨es,n,hm,_⟩:=h.f;obtain⟨cs,hc⟩:=k.obj;rw[hm] at hc;cases hc
theorem AlB.fresh (h:AlB W V fb kb m B1 B2 B3 c P ds g) (hr:RlS (·=m) V X) (hf:FreshAt X kb m Q) (hm:W.heap.size<=m):AlB W X fb kb m B1 B2 B3 c Q ds g:=by
 have n2:¬B2=m:=by
  rintro rfl;obtain⟨es,n,hm,_⟩:=h.fr.f;have hx:=h.x2;rw[hm] at hx;cases hx
 exact⟨h.f.rls hr (h.f.ne_m h.fr),hf,fun x hx=>(h.pd x hx).rls hr (zej h.fr (h.pd x hx)),⟨hr.os.trans h.r.os,hr.tape.trans h.r.tape,hr.output.trans h.r.output,waW h.r.size hr.size,fun k hk hn=>(hr.block k (waD hk h.r.size) (fun e=>by have:k=m:=e;omega)).trans (h.r.block k hk hn)⟩,
  zaO h.x1 hr (zck h.x1 h.fr),(hr.block _ (waL.1 h.x2).1 n2).trans h.x2,zaO h.x3 hr (zck h.x3 h.fr)⟩
theorem AlB.set (h:AlB W V fb kb m B1 B2 B3 c P ds g) {i k:Nat} (hi:i<46) (hk:k<18446744073709551616):AlB W (V.setCell ⟨fb,i,none⟩ (.int .u64 (k:Int))) fb kb m B1 B2 B3 c P ds (updG g i (.int .u64 (k:Int))):=by
 have hr:RlS (·=fb) V (V.setCell ⟨fb,i,none⟩ (.int .u64 (k:Int))):=(RlS.refl _ V).set _ _ rfl;have hd:∀e p,DiscAt V e p->DiscAt (V.setCell ⟨fb,i,none⟩ (.int .u64 (k:Int))) e p:=fun e p g=>g.foreign h.f.foreign hr
 have n2:¬B2=fb:=by
  rintro rfl;obtain⟨cs,hc,_⟩:=h.f.obj;have:=h.x2;rw[hc] at this
  injection this with this
  injection this with _ this
  exact absurd this dQ
 exact⟨h.f.set oQ (h.f.g.upd hi hk),h.fr.imp hr (h.f.ne_k h.fr).symm (h.f.ne_m h.fr).symm hd,fun x hx=>hd _ _ (h.pd x hx),h.r.trans hr,zaO h.x1 hr (h.f.ne_box h.x1 dQ).symm,(hr.block _ (waL.1 h.x2).1 n2).trans h.x2,zaO h.x3 hr (h.f.ne_box h.x3 dQ).symm⟩
end
theorem AlB.gU {W V:World} {fb kb m B1 B2 B3:Nat} {c:Cl} {P:Nat->Prop} {ds:List (Int×Nat)} {g:Nat->Value} (h:AlB W V fb kb m B1 B2 B3 c P ds g) (i:Nat) (hi:i<46) {G:Nat} (e:G=zbs (g i)):V.cell? ⟨fb,i,none⟩=some (.int .u64 (G:Int)):=by rw[h.f.cell (by omega),(h.f.g.nat hi).1,e]
theorem AlB.cU {W V:World} {fb kb m B1 B2 B3:Nat} {c:Cl} {P:Nat->Prop} {ds:List (Int×Nat)} {g:Nat->Value} (h:AlB W V fb kb m B1 B2 B3 c P ds g) (i:Nat) (hi:(clA c)[i]?=some (.int .u64 (c.m i))) {M:Int} (e:M=c.m i):V.cell? ⟨B2,i,none⟩=some (.int .u64 M):=by
 rw[e,<-hi];simp[World.cell?,h.x2]
theorem AlB.more {W V:World} {fb kb m B1 B2 B3:Nat} {c:Cl} {P P':Nat->Prop} {ds:List (Int×Nat)} {g:Nat->Value} (h:AlB W V fb kb m B1 B2 B3 c P ds g) {x:Int×Nat} (hP:∀b,P b->P' b) (hx:DiscAt V x.2 (zay [c] x.1)):AlB W V fb kb m B1 B2 B3 c P' (ds++[x]) g:=
 ⟨h.f,h.fr.toP hP,fun y hy=>by
  rcases wbB.1 hy with hy|hy
  ·exact h.pd y hy
  ·rw[wbC.1 hy];exact hx,h.r,h.x1,h.x2,h.x3⟩
theorem al_kp {V X:World} {fb kb m lo hi D:Nat} {d:RollD} {L:List Cl} {P:Nat->Prop} {g:Nat->Value} (hR:RollAt V d L lo hi D) (hr:RlS (fun k=>k=fb\/k=m) V X) (hf:FaceAt V fb g) (hfr:FreshAt V kb m P) (h1:fb<lo) (h2:hi<=m) (h3:m<D):
 KeepsFrom D V X/\KpR (fun k=>k=d.b\/k=fb) d L lo hi D V X:=by
 have hb0:=hR.f.lb0;have hD:=hR.hiD;refine⟨⟨hr.size,fun k o hk ho hn=>(hr.block k (waL.1 ho).1 (by rintro (rfl|rfl)<;>omega)).trans ho⟩,⟨hr.size,fun k o ho hn hM=>(hr.block k (waL.1 ho).1 ?_).trans ho⟩,fun hV=>hV.apart hr (fun k=>?_) ?_⟩
 ·rintro (rfl|rfl)
  ·exact hM (.inr rfl)
  ·obtain⟨es,n,hm,_⟩:=hfr.f;rw[hm] at ho;cases ho;cases hn
 ·rintro (rfl|rfl)<;>omega
 ·rintro (e|e)
  ·exact hf.ne_t hR.tz e
  ·exact hfr.ne_t hR.tz e
theorem zfU {M:Int} {b:Nat} (hM:M64 M) (hb:b<18446744073709551616) (h:bits .andNot .u64 M (b:Int)=0):∀k,M.toNat.testBit k=true->b.testBit k=true:=fun k hk=>by
 obtain⟨h0,h1⟩:=hM;have hm:M.toNat<18446744073709551616:=by omega
 rw[show M=(M.toNat:Int) by omega,u64_andNot_nat _ _ hm hb] at h
 have h':M.toNat&&&(18446744073709551615 - b)=0:=by omega
 have h2:(M.toNat&&&(18446744073709551615 - b)).testBit k=false:=by rw[h',Nat.zero_testBit]
 have hk64:k<64:=by
  false_or_by_contra
  rw[waX (waD (show M.toNat<2^64 from hm) (Nat.pow_le_pow_right (by decide) (by omega)))] at hk
  cases hk
 rw[Nat.testBit_and,hk,Bool.true_and,show(18446744073709551615 - b:Nat)=2^64 - (b+1) by omega,Nat.testBit_two_pow_sub_succ hb,waP hk64,Bool.true_and] at h2
 simpa using h2
theorem World.cell?_of_heap {W:World} {b o:Nat} {cs:Array Value} {t:TypeId} {z:Nat×Nat} (h:W.heap[b]?=some (.cells cs t z)):W.cell? ⟨b,o,none⟩=cs[o]? :=by simp[World.cell?,h]
theorem zuX {L:List Cl}:bdF L 0<=9223372036854775807:=by
 have h1:=zqG (zax L).1 (zax L).2;unfold bdF;split
 ·omega
 ·rw[zfQ];have:zaw (zax L).1 (zax L).2<=12622780800:=by unfold zaw;(repeat' split)<;>omega
  omega
theorem zuY {L:List Cl}:-9223372036854775808<=bdT L 146096:=by
 unfold bdT;split
 ·omega
 ·rw[zdl];omega
def ztv (fb:Nat) (c:Cl) (g:Nat->Value) (W:World) (e:Ending) (W':World):Prop:=(∃x,e=.returned x)/\RlS (·=fb) W W'/\∃g',FaceAt W' fb g'/\AloneR c g g'
theorem zq5 (fb:Nat) (c:Cl) (g:Nat->Value) (W:World) (hf:FaceAt W fb g) (hset:zeJ [c]=true) (hbit:zbC c/\c.s<=9223372036854775807) (hw:Tz W):
 Calls prog 28 #[.pointer (some ⟨fb,0,none⟩),.agg (clA c)] W (ztv fb c g W):=by
 have HNew:=waV (fun V b (hV:Below W.heap.size W V) (h:zbh V (some ⟨b,0,none⟩) 1 [c])=>zgr (some ⟨b,0,none⟩) 1 1 [c] V h (by decide) (fun h=>by cases h) (by intro x hx;rw[wbC.1 hx];exact hbit) (hw.below hV))
 have HFr:=waV (fun V=>zkA V)
 have HAll:=waV (fun d lo hi D V (hV:RollAt V d [c] lo hi D)=>znd d [c] lo hi D V hV 0 146096)
 have HF:=waV hf;have HSet:=waV hset;have HBit:=waV hbit;have HTz:=waV hw;have HI:=waV (zbV c);have H1:=waV (zei c);have Hs:Hid (30=(clA c).size):=rfl;have HC1:=waV (fun w t=>zkK w c t)
 clear hf hset hbit hw;have htz:0<W.heap.size:=waR W _ (HTz.out 0 dQ);obtain⟨cs,hcs⟩:∃cs,clA c=cs:=⟨_,rfl⟩;rw[hcs] at HI H1 Hs ⊢;have HLd:Hid (∀j v,cs[j]?=some v->((W.alloc (.cells #[.pointer (some ⟨fb,0,none⟩)] 145)).alloc (.cells cs 60)).cell? ⟨W.heap.size+1,0+j,none⟩=some v):=fun j v hj=>by
  have h:W.heap.size+1=(W.alloc (.cells #[.pointer (some ⟨fb,0,none⟩)] 145)).heap.size:=by simp
  rw[h,waH];exact zaa rfl hj
 have hcs30:cs.size=30:=Hs.out.symm;refine(wbP (n:=20)).1 ?_;refine callsIn_of_wp_marks func28 rfl trivial ?_ rfl;refine wpIn_wide.2 ?_;simp only[ntmps28,wbQ,waG,List.length_nil,Nat.reduceAdd,Nat.reduceSub,wbR,wbS,List.push_toArray,List.append_toArray,wbN,wbT]
 go_wp2_with (first|(refine zag (by rfl) 60 _ rfl cs (W.heap.size+1) 0 rfl underlying60 rfl HI.out HLd.out ?_)|fail)
 rw[znh cs _ 30 rfl hcs30];clear HLd;have hb2:Below W.heap.size W (((W.alloc (.cells #[.pointer (some ⟨fb,0,none⟩)] 145)).alloc (.cells cs 60)).alloc (.cells cs 60)):=(((waC _ W).alloc (waJ _) _).alloc (by simp) _).alloc (by simp;omega) _
 have hz2:(((W.alloc (.cells #[.pointer (some ⟨fb,0,none⟩)] 145)).alloc (.cells cs 60)).alloc (.cells cs 60)).heap.size=W.heap.size+3:=by simp
 have x1:Boxed (((W.alloc (.cells #[.pointer (some ⟨fb,0,none⟩)] 145)).alloc (.cells cs 60)).alloc (.cells cs 60)) W.heap.size 145 (.pointer (some ⟨fb,0,none⟩)):=((Boxed.new _ _ _).alloc _).alloc _;have x2:(((W.alloc (.cells #[.pointer (some ⟨fb,0,none⟩)] 145)).alloc (.cells cs 60)).alloc (.cells cs 60)).heap[W.heap.size+1]?=some (.cells cs 60 (0,0)):=by
  have h:W.heap.size+1=(W.alloc (.cells #[.pointer (some ⟨fb,0,none⟩)] 145)).heap.size:=by simp
  rw[h];exact(Below.heap_alloc _ _ _ (by simp)).trans (World.alloc_heap_new _ _)
 have hrd:zbh (((W.alloc (.cells #[.pointer (some ⟨fb,0,none⟩)] 145)).alloc (.cells cs 60)).alloc (.cells cs 60)) (some ⟨W.heap.size+1+1,0,none⟩) 1 [c]:=by
  have h:W.heap.size+1+1=((W.alloc (.cells #[.pointer (some ⟨fb,0,none⟩)] 145)).alloc (.cells cs 60)).heap.size:=by simp
  rw[h,<-hcs];exact HC1.out _ _
 generalize (((W.alloc (.cells #[.pointer (some ⟨fb,0,none⟩)] 145)).alloc (.cells cs 60)).alloc (.cells cs 60))=W2 at *;refine(HNew.out W2 _ hb2 hrd).mono ?_;rintro e w1 ⟨hb1,hres⟩;obtain(⟨h,_⟩|⟨_,h,_⟩|⟨_,_,d,rfl,hroll⟩):=hres
 ·omega
 ·rw[HSet.out] at h;cases h
 have HRoll:=waV hroll;have x1:=zaG hb1 x1;have x2:=(hb1.block _ (waL.1 x2).1).trans x2;have hz1:=hb1.size;have hbW1:Below W.heap.size W w1:=hb2.trans (hb1.mono oQ);clear hroll hrd hb1;go_wp2_with fail;refine(HFr.out _).mono ?_;rintro e w2 ⟨kb,m,rfl,hk,hm,hfr,hfz,hbf⟩;have HFr2:=waV hfr;have x1:=zaG hbf x1;have x2:=(hbf.block _ (waL.1 x2).1).trans x2;have hzf:=hbf.size;have hb12:Below w1.heap.size w1 w2:=hbf;have lkb:=waR w2 _ hfr.c;have lm:m<w2.heap.size:=by
  obtain⟨es,k,h,_⟩:=hfr.f;exact(waL.1 h).1
 have lkb:kb<w2.heap.size:=lkb;clear hfr hbf hfz;go_wp2_with fail;have hbA:Below w2.heap.size w2 (w2.alloc (.cells #[.func (.func 139) #[] #[.pointer (some ⟨kb,0,none⟩)]] 146)):=(waC _ _).alloc (waJ _) _;have hzA:(w2.alloc (.cells #[.func (.func 139) #[] #[.pointer (some ⟨kb,0,none⟩)]] 146)).heap.size=w2.heap.size+1:=by simp
 have x1:=zaG hbA x1;have x2:=(hbA.block _ (waL.1 x2).1).trans x2;have x3:Boxed (w2.alloc (.cells #[.func (.func 139) #[] #[.pointer (some ⟨kb,0,none⟩)]] 146)) w2.heap.size 146 (.func (.func 139) #[] #[.pointer (some ⟨kb,0,none⟩)]):=Boxed.new _ _ _;have HFr3:=waV (HFr2.out.imp ((RlS.refl (fun _=>False) w2).below hbA (waJ _)) (fun g=>g) (fun g=>g) (fun e p g=>g.below hbA))
 have hb13:Below w1.heap.size w1 (w2.alloc (.cells #[.func (.func 139) #[] #[.pointer (some ⟨kb,0,none⟩)]] 146)):=hb12.trans (hbA.mono hb12.size);clear hbA HFr2;generalize (w2.alloc (.cells #[.func (.func 139) #[] #[.pointer (some ⟨kb,0,none⟩)]] 146))=w3 at *;have hR3:=HRoll.out w3 w3.heap.size (fun _=>False) ((RlS.refl (fun _=>False) w1).below hb13 (waJ _)) (fun k g=>g.elim) oQ (waJ _)
 refine(HAll.out d _ _ _ w3 hR3).mono ?_;rintro e w4 ⟨q1,q2,q3,rfl,hl1,hl2,hl3,hc1,hc2,hc3,hb4⟩;have x1:=zaG hb4 x1;have x2:=(hb4.block _ (waL.1 x2).1).trans x2;have x3:=zaG hb4 x3;have HFr4:=waV (HFr3.out.imp ((RlS.refl (fun _=>False) w3).below hb4 (waJ _)) (fun g=>g) (fun g=>g) (fun e p g=>g.below hb4))
 have hz4:=hb4.size;have hb14:Below w1.heap.size w1 w4:=hb13.trans (hb4.mono oQ);have hbW4:Below W.heap.size W w4:=hbW1.trans (hb14.mono hbW1.size);have hR4:=HRoll.out w4 w4.heap.size (fun _=>False) ((RlS.refl (fun _=>False) w1).below hb14 (waJ _)) (fun k g=>g.elim) oQ (waJ _)
 have hF4:=HF.out.below hbW4;have hlf:=HF.out.lt;have HB0:Hid (AlB W w4 fb kb m W.heap.size (W.heap.size+1) w2.heap.size c (fun b=>∃x∈([]:List (Int×Nat)),x.2=b) [] g):=⟨hF4,HFr4.out.toP (fun b g=>g.elim),fun x hx=>(by cases hx),(RlS.refl (·=fb) W).below hbW4 (waJ _),x1,by rw[hcs];exact x2,x3⟩
 have hz2':=hz2;have hq3:q3<w4.heap.size:=waR w4 _ hc3;have hdb:=hR4.f.lb0;have hR4':=waV hR4;have HKp:=waV (fun V X g' P' (hR:RollAt V d [c] W2.heap.size w1.heap.size w4.heap.size) (hr:RlS (fun k=>k=fb\/k=m) V X) (hf:FaceAt V fb g') (hfr:FreshAt V kb m P')=>al_kp hR hr hf hfr oQ oQ oQ)
 clear hR3 hR4 HFr3 HFr4 x1 x2 x3 hb13 hb12 hF4 HAll HNew HFr HF;go_wp2_with fail;refine(wpIn_wide (n:=20)).1 ?_;have eg:∀args w,(callFunc 79 args).run prog w=.ok (.enter 79 args) w:=enters_of func79 kQ rfl;refine za4 rfl dQ (gf:=79) (lb:=#[.pointer (some ⟨q1,0,none⟩),.pointer (some ⟨q2,0,none⟩),.pointer (some ⟨q3,0,none⟩)]) rfl trivial eg
  (zkz (fun k=>k=d.b\/k=fb) 19 d [c] W2.heap.size w1.heap.size w4.heap.size q1 q2 q3 (bdF [c] 0) (bdT [c] 146096) (.inl rfl) oQ zuX zuY oQ)
  (fun h k=>h.trans k) (fun V l o o' hl hl2 ho _=>KpR.put o' hl2 ho hl) (fun o o'=>?st) (fun _=>rfl) oQ
  (fun pre V=>∃g',AlB W V fb kb m W.heap.size (W.heap.size+1) w2.heap.size c (fun b=>∃x∈pre,x.2=b) pre g'/\AloneI c g g' pre/\∀x∈pre,(0<=x.1/\x.1<146097)/\w4.heap.size<=x.2)
  (fun cd pre V=>cd=.ret/\∃g',FaceAt V fb g'/\AloneR c g g'/\RlS (·=fb) W V)
  (fun pre A B hs hr=>by
    obtain⟨g',h1,h2,h3⟩:=hs;exact⟨g',h1.rl hr oQ oQ oQ oQ oQ oQ ⟨by omega,by omega⟩ oQ (fun b hb=>by obtain⟨x,hx,rfl⟩:=hb;have:=(h3 x hx).2;omega) (fun x hx=>by have:=(h3 x hx).2;omega),h2,h3⟩)
  (fun cd pre A B hs hr=>by
    obtain⟨h0,g',h1,h2,h3⟩:=hs;exact⟨h0,g',h1.rl hr (.inl oQ),h2,h3.rl hr oQ oQ⟩)
  ⟨g,HB0.out,AloneI.nil c g,fun x hx=>(by cases hx)⟩
  (fun x a' _=>a'={tmps:=#[.pointer (some ⟨fb,0,none⟩),.agg cs,.pointer (some ⟨W.heap.size,0,none⟩),.pointer (some ⟨W.heap.size+1,0,none⟩),.pointer (some ⟨d.b,0,none⟩),.int .i64 0,.pointer (some ⟨w2.heap.size,0,none⟩),undef,.pointer (some ⟨x.2,0,none⟩),undef,undef,undef,.tuple #[.pointer (some ⟨d.b,0,none⟩),.int .i64 0],.agg cs,.slice (some ⟨W.heap.size+1+1,0,none⟩) 1 1,.tuple #[.pointer (some ⟨d.b,0,none⟩),.int .i64 0],.pointer (some ⟨d.b,0,none⟩),.int .i64 0,.func (.func 139) #[] #[.pointer (some ⟨kb,0,none⟩)],.pointer (some ⟨d.b,0,none⟩),.func (.func 79) #[] #[.pointer (some ⟨q1,0,none⟩),.pointer (some ⟨q2,0,none⟩),.pointer (some ⟨q3,0,none⟩)],shV x.1,.pointer (some ⟨x.2,0,none⟩),undef,undef,undef,undef,undef,undef,undef,undef,undef,undef,undef,undef,undef,undef,undef,undef,undef,undef,undef,undef,undef,undef,undef,undef,undef,undef,undef,undef,undef,undef,undef,undef,undef,undef,undef,undef,undef,undef,undef,undef,undef,undef,undef,undef,undef,undef,undef,undef,undef,undef,undef,undef,undef,undef,undef,undef,undef,undef,undef,undef,undef],defers:=[]})
  (fun _ _ _ _ hs _=>hs)
  (fun x A B hs hr=>⟨hs.1,hs.2.1,hs.2.2.1.rl00 hr (waJ _),hs.2.2.2.1,hs.2.2.2.2.rl00 hr⟩)
  ?assign ?body ?done ?stop
 case st=>
  have hb:Below w4.heap.size w4 ((w4.alloc o).alloc o'):=((waC _ w4).alloc (waJ _) _).alloc (by simp) _
  refine⟨fun k e=>?_,hR4'.out.below hb,((zad hb).1 _ _ (waR w4 _ hc1)).trans hc1,((zad hb).1 _ _ (waR w4 _ hc2)).trans hc2,((zad hb).1 _ _ hq3).trans hc3⟩
  have:=hb.size;rcases e with rfl|rfl<;>omega
 case assign=>
  rintro l1 pre x V K hi he hK
  gi_wp2
  exact hK _ _ (KeepsFrom.refl _ _) (KpR.refl _ _ _ _ _ _ _) (Rl.refl _ _ _ _) hi rfl
 case body=>
  rintro l1 pre x a' V hl1 _ ⟨g',hB,hI,hP⟩ hE rfl hlt;obtain⟨hx0,hx1,hRV,hxD,hdx⟩:=hE;have hg:=hB.f.g;have HBd:=waV hB.drew;have HBV:=waV hB;have HI:=waV hI;have HP:=waV hP;have HRV:=waV hRV;have HDx:=waV hdx;clear hB hI hP hRV hdx;obtain⟨G0,hG0⟩:∃G,G=zbs (g' 0):=⟨_,rfl⟩;obtain⟨G1,hG1⟩:∃G,G=zbs (g' 1):=⟨_,rfl⟩;obtain⟨G2,hG2⟩:∃G,G=zbs (g' 2):=⟨_,rfl⟩;obtain⟨M0,hM0⟩:∃M,M=c.m 0:=⟨_,rfl⟩;obtain⟨M1,hM1⟩:∃M,M=c.m 1:=⟨_,rfl⟩;obtain⟨M2,hM2⟩:∃M,M=c.m 2:=⟨_,rfl⟩;have HG0:=waV hG0;have HG1:=waV hG1;have HG2:=waV hG2;have HM0:=waV hM0;have HM1:=waV hM1;have HM2:=waV hM2;clear hG0 hG1 hG2 hM0 hM1 hM2;have ht:∀b2 b1 b0:Bool,(b2=true/\b1=true/\b0=true)\/(b2=true/\b1=true/\b0=false)\/(b2=true/\b1=false)\/b2=false:=by decide
  rcases ht (bits .andNot .u64 M2 (G2:Int)==0) (bits .andNot .u64 M1 (G1:Int)==0) (bits .andNot .u64 M0 (G0:Int)==0) with ⟨t2,t1,t0⟩|⟨t2,t1,t0⟩|⟨t2,t1⟩|t2
  all_goals
   clear ht
   gi_wp2_with fail
   refine zfv 27 (fun w'=>Hid (AlB W w' fb kb m W.heap.size (W.heap.size+1) w2.heap.size c (fun b=>∃x∈pre,x.2=b) pre g')) kQ kQ (by rintro ⟨a,w,h⟩;exact h) ?_
   have hHeld:=HBd;refine(kP 0 23 (h:=(kR 1 24 (fun w_ hSw_=>hSw_.out.cU 2 rfl HM2.out) (h:=(kR 2 25 (fun w_ hSw_=>hSw_.out.x1.cell) (h:=(kP 3 26 (h:=(kP 4 27 (h:=(kR 5 28 (fun w_ hSw_=>hSw_.out.gU 2 dQ HG2.out) (h:=(kP 6 29 (h:=(kP 7 30 (h:=(kP 8 31 (h:=?_))))))))))))))))))
   simp only[Act.put,zbj,zbk,zbl]
  all_goals first
   |refine zai (i:=9) (dst:=some 32) (v:=?_) (hy:=fun o_ ho_=>?_) (hS:=hHeld) (h:=?_)
    case refine_2=>exact viaP
    simp only[Act.put,zbj,zbk,zbl];refine(kR 10 33 (fun w_ hSw_=>hSw_.out.cU 1 rfl HM1.out) (h:=(kR 11 34 (fun w_ hSw_=>hSw_.out.x1.cell) (h:=(kP 12 35 (h:=(kP 13 36 (h:=(kR 14 37 (fun w_ hSw_=>hSw_.out.gU 1 dQ HG1.out) (h:=(kP 15 38 (h:=(kP 16 39 (h:=?_))))))))))))))
    simp only[Act.put,zbj,zbk,zbl]
   |refine zai (i:=9) (dst:=some 32) (v:=undef) (hy:=fun o_ ho_=>?_) (hS:=hHeld) (h:=?_)
    case refine_1=>(obtain rfl:=waB ho_;exact Or.inr ⟨by rfl,rfl⟩)
    simp only[Act.put,zbj,zbk,zbl];refine zai (i:=10) (dst:=some 33) (v:=undef) (hy:=fun o_ ho_=>?_) (hS:=hHeld) (h:=?_)
    case refine_1=>(obtain rfl:=waB ho_;exact Or.inr ⟨by rfl,rfl⟩)
    simp only[Act.put,zbj,zbk,zbl];refine zai (i:=11) (dst:=some 34) (v:=undef) (hy:=fun o_ ho_=>?_) (hS:=hHeld) (h:=?_)
    case refine_1=>(obtain rfl:=waB ho_;exact Or.inr ⟨by rfl,rfl⟩)
    simp only[Act.put,zbj,zbk,zbl];refine zai (i:=12) (dst:=some 35) (v:=undef) (hy:=fun o_ ho_=>?_) (hS:=hHeld) (h:=?_)
    case refine_1=>(obtain rfl:=waB ho_;exact Or.inr ⟨by rfl,rfl⟩)
    simp only[Act.put,zbj,zbk,zbl];refine zai (i:=13) (dst:=some 36) (v:=undef) (hy:=fun o_ ho_=>?_) (hS:=hHeld) (h:=?_)
    case refine_1=>(obtain rfl:=waB ho_;exact Or.inr ⟨by rfl,rfl⟩)
    simp only[Act.put,zbj,zbk,zbl];refine zai (i:=14) (dst:=some 37) (v:=undef) (hy:=fun o_ ho_=>?_) (hS:=hHeld) (h:=?_)
    case refine_1=>(obtain rfl:=waB ho_;exact Or.inr ⟨by rfl,rfl⟩)
    simp only[Act.put,zbj,zbk,zbl];refine zai (i:=15) (dst:=some 38) (v:=undef) (hy:=fun o_ ho_=>?_) (hS:=hHeld) (h:=?_)
    case refine_1=>(obtain rfl:=waB ho_;exact Or.inr ⟨by rfl,rfl⟩)
    simp only[Act.put,zbj,zbk,zbl];refine zai (i:=16) (dst:=some 39) (v:=undef) (hy:=fun o_ ho_=>?_) (hS:=hHeld) (h:=?_)
    case refine_1=>(obtain rfl:=waB ho_;exact Or.inr ⟨by rfl,rfl⟩)
    simp only[Act.put,zbj,zbk,zbl]
  all_goals
   refine(kP 17 40 (h:=(kP 18 41 (h:=?_))));simp only[Act.put,zbj,zbk,zbl]
  all_goals first
   |refine zai (i:=19) (dst:=some 42) (v:=?_) (hy:=fun o_ ho_=>?_) (hS:=hHeld) (h:=?_)
    case refine_2=>exact viaP
    simp only[Act.put,zbj,zbk,zbl];refine(kR 20 43 (fun w_ hSw_=>hSw_.out.cU 0 rfl HM0.out) (h:=(kR 21 44 (fun w_ hSw_=>hSw_.out.x1.cell) (h:=(kP 22 45 (h:=(kP 23 46 (h:=(kR 24 47 (fun w_ hSw_=>hSw_.out.gU 0 dQ HG0.out) (h:=(kP 25 48 (h:=(kP 26 49 (h:=?_))))))))))))))
    simp only[Act.put,zbj,zbk,zbl]
   |refine zai (i:=19) (dst:=some 42) (v:=undef) (hy:=fun o_ ho_=>?_) (hS:=hHeld) (h:=?_)
    case refine_1=>(obtain rfl:=waB ho_;exact Or.inr ⟨by rfl,rfl⟩)
    simp only[Act.put,zbj,zbk,zbl];refine zai (i:=20) (dst:=some 43) (v:=undef) (hy:=fun o_ ho_=>?_) (hS:=hHeld) (h:=?_)
    case refine_1=>(obtain rfl:=waB ho_;exact Or.inr ⟨by rfl,rfl⟩)
    simp only[Act.put,zbj,zbk,zbl];refine zai (i:=21) (dst:=some 44) (v:=undef) (hy:=fun o_ ho_=>?_) (hS:=hHeld) (h:=?_)
    case refine_1=>(obtain rfl:=waB ho_;exact Or.inr ⟨by rfl,rfl⟩)
    simp only[Act.put,zbj,zbk,zbl];refine zai (i:=22) (dst:=some 45) (v:=undef) (hy:=fun o_ ho_=>?_) (hS:=hHeld) (h:=?_)
    case refine_1=>(obtain rfl:=waB ho_;exact Or.inr ⟨by rfl,rfl⟩)
    simp only[Act.put,zbj,zbk,zbl];refine zai (i:=23) (dst:=some 46) (v:=undef) (hy:=fun o_ ho_=>?_) (hS:=hHeld) (h:=?_)
    case refine_1=>(obtain rfl:=waB ho_;exact Or.inr ⟨by rfl,rfl⟩)
    simp only[Act.put,zbj,zbk,zbl];refine zai (i:=24) (dst:=some 47) (v:=undef) (hy:=fun o_ ho_=>?_) (hS:=hHeld) (h:=?_)
    case refine_1=>(obtain rfl:=waB ho_;exact Or.inr ⟨by rfl,rfl⟩)
    simp only[Act.put,zbj,zbk,zbl];refine zai (i:=25) (dst:=some 48) (v:=undef) (hy:=fun o_ ho_=>?_) (hS:=hHeld) (h:=?_)
    case refine_1=>(obtain rfl:=waB ho_;exact Or.inr ⟨by rfl,rfl⟩)
    simp only[Act.put,zbj,zbk,zbl];refine zai (i:=26) (dst:=some 49) (v:=undef) (hy:=fun o_ ho_=>?_) (hS:=hHeld) (h:=?_)
    case refine_1=>(obtain rfl:=waB ho_;exact Or.inr ⟨by rfl,rfl⟩)
    simp only[Act.put,zbj,zbk,zbl]
  all_goals
   refine zaq (j:=1) dQ (.inr rfl) dQ kQ ?_;simp only[wbQ,waG,List.length_nil,Nat.reduceAdd,Nat.reduceSub,waZ,wbA];go_wp2_with fail
  ·have E2:Hid (bits .andNot .u64 M2 (G2:Int)=0):=beq_iff_eq.1 t2;have E1:Hid (bits .andNot .u64 M1 (G1:Int)=0):=beq_iff_eq.1 t1;have E0:Hid (bits .andNot .u64 M0 (G0:Int)=0):=beq_iff_eq.1 t0;have hst:=HI.out.stop HBit.out.1.1 (fun y hy=>(HP.out y hy).1) (fun i hi k hk=>by
    obtain rfl|rfl|rfl:i=0\/i=1\/i=2:=by omega
    ·rw[<-HM0.out] at hk;rw[<-HG0.out];exact zfU (by rw[HM0.out];exact HBit.out.1.1 0 (by decide)) (by rw[HG0.out];exact(HBV.out.f.g.nat (by decide)).2) E0.out k hk
    ·rw[<-HM1.out] at hk;rw[<-HG1.out];exact zfU (by rw[HM1.out];exact HBit.out.1.1 1 (by decide)) (by rw[HG1.out];exact(HBV.out.f.g.nat (by decide)).2) E1.out k hk
    ·rw[<-HM2.out] at hk;rw[<-HG2.out];exact zfU (by rw[HM2.out];exact HBit.out.1.1 2 (by decide)) (by rw[HG2.out];exact(HBV.out.f.g.nat (by decide)).2) E2.out k hk)
   have HSt:=waV hst;clear hst
   gi_wp2_with fail
   exact⟨(KeepsOthers.drew _).from _,rfl,g',HBd.out.f,HSt.out,HBd.out.r⟩
  all_goals
   have xs:=HBd.out.x3.cell;have hrV:RlS (fun k=>k=fb\/k=m) V V.drew:=(RlS.refl _ V).drew
   have HIs:=waV (fun l'=>zat (m:=17) (l':=l') (zie kb m x.2 (fun b=>∃x∈pre,x.2=b) (zay [c] x.1) V.drew HBd.out.fr (HDx.out.below (waC _ _).drew)))
   gi_wp2_with fail
   refine⟨trivial,?_⟩;refine((HIs.out l1)).mono ?_;rintro e w5 ⟨hr5,(⟨rfl,hseen,hf5⟩|⟨rfl,hf5⟩)⟩
   ·have hkp:=HKp.out V w5 g' _ HRV.out (hrV.trans (hr5.mono (fun k g=>.inr g))) HBV.out.f HBV.out.fr
    have HB5:=waV ((HBd.out.fresh hr5 hf5 oQ).more (P':=fun b=>∃y∈pre++[x],y.2=b) (x:=x) (fun b hb=>hb.imp fun y hy=>⟨by simp[hy.1],hy.2⟩) ((HDx.out.below (waC _ _).drew).rls hr5 (zej HBV.out.fr HDx.out)))
    obtain⟨y,hy,hyx⟩:=hseen;have hsame:zgY (zay [c] y.1) (zay [c] x.1):=by
     have h1:=HBd.out.pd y hy;rw[hyx] at h1;exact h1.uniq (HDx.out.below (waC _ _).drew)
    have HI5:=waV (HI.out.known hy hsame);have HP5:Hid (∀y∈pre++[x],(0<=y.1/\y.1<146097)/\w4.heap.size<=y.2):=fun y hy=>by
     rcases wbB.1 hy with hy|hy
     ·exact HP.out y hy
     ·rw[wbC.1 hy];exact⟨⟨hx0,hx1⟩,hxD⟩
    have HK5:=waV hkp;clear hr5 hf5 hkp hsame hy hyx xs HIs
    gi_wp2_with fail
    exact⟨HK5.out.1,HK5.out.2,g',HB5.out,HI5.out,HP5.out⟩
   ·have HB5:=waV ((HBd.out.fresh hr5 hf5 oQ).more (P':=fun b=>∃y∈pre++[x],y.2=b) (x:=x) (fun b hb=>by
     rcases hb with ⟨y,hy,e⟩|e
     ·exact⟨y,by simp[hy],e⟩
     ·exact⟨x,by simp,e.symm⟩) ((HDx.out.below (waC _ _).drew).rls hr5 (zej HBV.out.fr HDx.out)))
    have hr5':RlS (fun k=>k=fb\/k=m) V w5:=hrV.trans (hr5.mono (fun k g=>.inr g))
    have HT:=waV (fun l'=>zat (m:=17) (l':=l') (zkv (.pointer (some ⟨x.2,0,none⟩)) (zay [c] x.1) w5 (.inr ⟨x.2,rfl,HB5.out.pd x (by simp)⟩) ((HRV.out.tz).rls hr5' (by
     rintro (e|e)
     ·exact HBV.out.f.ne_t HRV.out.tz e
     ·exact HBV.out.fr.ne_t HRV.out.tz e))))
    have HN0:Hid (orN zdz (zeu (zay [c] x.1))=orN (tOf 0) (zeu (zay [c] x.1))):=rfl;have HN1:Hid (orN zdy (zeu (zay [c] x.1))=orN (tOf 1) (zeu (zay [c] x.1))):=rfl;have HN2:Hid (orN hOf (zeu (zay [c] x.1))=orN (tOf 2) (zeu (zay [c] x.1))):=rfl;unfold zku at HT;rw[HN0.out,HN1.out,HN2.out] at HT;have hT0:orN (tOf 0) (zeu (zay [c] x.1))<18446744073709551616:=zfp _ _ fun s hs=>zq2 (zev.1 hs).1
    have hT1:orN (tOf 1) (zeu (zay [c] x.1))<18446744073709551616:=zfp _ _ fun s hs=>zq2 (zev.1 hs).1
    have hT2:orN (tOf 2) (zeu (zay [c] x.1))<18446744073709551616:=zfp _ _ fun s hs=>zq2 (zev.1 hs).1
    have HNew:=waV (fun g'' hr ht=>HI.out.new (g'':=g'') (x:=x) hr ht)
    have HS:=waV (And.intro hT0 (And.intro hT1 hT2));have hor0:=u64_or_nat G0 _ (by rw[HG0.out];exact(HBV.out.f.g.nat (by decide)).2) hT0
    have hor1:=u64_or_nat G1 _ (by rw[HG1.out];exact(HBV.out.f.g.nat (by decide)).2) hT1
    have hor2:=u64_or_nat G2 _ (by rw[HG2.out];exact(HBV.out.f.g.nat (by decide)).2) hT2
    have hq0:G0|||orN (tOf 0) (zeu (zay [c] x.1))<18446744073709551616:=zgd (by rw[HG0.out];exact(HBV.out.f.g.nat (by decide)).2) hT0
    have hq1:G1|||orN (tOf 1) (zeu (zay [c] x.1))<18446744073709551616:=zgd (by rw[HG1.out];exact(HBV.out.f.g.nat (by decide)).2) hT1
    have hq2:G2|||orN (tOf 2) (zeu (zay [c] x.1))<18446744073709551616:=zgd (by rw[HG2.out];exact(HBV.out.f.g.nat (by decide)).2) hT2
    have HQ:=waV (And.intro hq0 (And.intro hq1 hq2));clear hT0 hT1 hT2 hq0 hq1 hq2 HN0 HN1 HN2;obtain⟨T0,hT0⟩:∃T,T=orN (tOf 0) (zeu (zay [c] x.1)):=⟨_,rfl⟩;obtain⟨T1,hT1⟩:∃T,T=orN (tOf 1) (zeu (zay [c] x.1)):=⟨_,rfl⟩;obtain⟨T2,hT2⟩:∃T,T=orN (tOf 2) (zeu (zay [c] x.1)):=⟨_,rfl⟩;rw[<-hT0,<-hT1,<-hT2] at HT HQ;rw[<-hT0] at hor0;rw[<-hT1] at hor1;rw[<-hT2] at hor2;have HT0:=waV hT0;have HT1:=waV hT1;have HT2:=waV hT2;clear hT0 hT1 hT2 hr5 hf5 xs HIs hrV;have HR5:=waV hr5';clear hr5'
    gi_wp2_with fail
    refine⟨trivial,?_⟩;refine((HT.out l1)).mono ?_;rintro e w6 ⟨rfl,hb6⟩;replace HR5:=waV (HR5.out.below hb6 HR5.out.size);replace HB5:=waV (HB5.out.below hb6);clear hb6 HT;have xb:=HB5.out.x1.cell;have y0:=HB5.out.gU 0 dQ HG0.out;have y1:=HB5.out.gU 1 dQ HG1.out;have y2:=HB5.out.gU 2 dQ HG2.out;have z0:=HB5.out.f.frozen 0;have z1:=HB5.out.f.frozen 1;have z2:=HB5.out.f.frozen 2;have lf:=HB5.out.f.lt;have n1:=HB5.out.f.ne_box HB5.out.x1 dQ;have n2:=n1.symm
    gi_wp2_with fail
    have hr9:RlS (fun k=>k=fb\/k=m) V (((w6.setCell ⟨fb,2,none⟩ (.int .u64 ((G2|||T2:Nat):Int))).setCell ⟨fb,1,none⟩ (.int .u64 ((G1|||T1:Nat):Int))).setCell ⟨fb,0,none⟩ (.int .u64 ((G0|||T0:Nat):Int))):=((HR5.out.set ⟨fb,2,none⟩ _ (.inl rfl)).set ⟨fb,1,none⟩ _ (.inl rfl)).set ⟨fb,0,none⟩ _ (.inl rfl)
    have hkp:=HKp.out V _ g' _ HRV.out hr9 HBV.out.f HBV.out.fr;refine⟨hkp.1,hkp.2,_,((HB5.out.set (i:=2) dQ HQ.out.2.2).set (i:=1) dQ HQ.out.2.1).set (i:=0) dQ HQ.out.1,HNew.out _ (fun i hi=>?_) (fun i hi=>?_),fun y hy=>?_⟩
    ·unfold updG;rw[if_neg (by omega),if_neg (by omega),if_neg (by omega)]
    ·obtain rfl|rfl|rfl:i=0\/i=1\/i=2:=by omega
     ·rw[<-HG0.out,<-HT0.out];rfl
     ·rw[<-HG1.out,<-HT1.out];rfl
     ·rw[<-HG2.out,<-HT2.out];rfl
    ·rcases wbB.1 hy with hy|hy
     ·exact HP.out y hy
     ·rw[wbC.1 hy];exact⟨⟨hx0,hx1⟩,hxD⟩
 case done=>
  rintro D zs V hD hzs ⟨g',hB,hI,hP⟩ hKd;have HR:=waV (hI.all hzs);have HB:=waV hB;clear hB hI hP hzs;go_wp2_with fail;have hr:Rl 0 0 w4.heap.size V (V.putObj D (.deferred none)):=(Rl.refl _ _ _ V).put _ hKd rfl hD;refine⟨by simp,.inl ⟨_,_,rfl,run_takeDeferred hKd,?_⟩⟩
  exact⟨_,results_none rfl _ _ _,⟨_,rfl⟩,HB.out.r.rl00 hr oQ,g',HB.out.f.rl hr (.inr (waK _)),HR.out⟩
 case stop=>
  rintro D cd pre V hD hpre ⟨rfl,g',hF',hR',hrl⟩ hKd;refine wpIn_wide.2 ?_;have hr:Rl 0 0 w4.heap.size V (V.putObj D (.deferred none)):=(Rl.refl _ _ _ V).put _ hKd rfl hD;go_wp2_with fail;refine⟨by simp,.inl ⟨_,_,rfl,run_takeDeferred hKd,?_⟩⟩
  exact⟨_,results_none rfl _ _ _,⟨_,rfl⟩,hrl.rl00 hr oQ,g',hF'.rl hr (.inr (waK _)),hR'⟩
end Go.Proofs.YtllcdbgjeidlkaaGreatDoor
namespace Go.Proofs.YtllcdbgjeidlkaaGreatDoor
open Go.Proofs.Tryz
open Go.RowKit
theorem zkL (b:Nat) (p:Nat->Bool) (w:World) (hd:DiscAt w b p):Calls prog 32 #[.pointer (some ⟨b,0,none⟩),.int .i64 86400] w (fun e w'=>(∃(k:Int) (r:Bool),e=.returned (.tuple #[.int .i64 k,.bool r]))/\w'=w):=by
 have HM:=waV (fun V=>zgm 86399 V)
 rw[show decide ((0:Int)<=86399/\(86399:Int)<86400)=true by decide] at HM
 have HL:=waV (fun(x:Nat) (hx:x<18446744073709551616) V=>Tryz.bits_Len64 (x:Int) V oQ oQ)
 have HD:=waV hd;have c0:=hd.cells 1349 dQ;have l0:=zbv p 1349;generalize zau p 1349=X at *;clear hd;have hmin:min (86400:Int) 86399=86399:=by decide
 go_enter func32,ntmps32;go_wp2_with fail;refine(HM.out _).mono ?_;rintro e w1 ⟨rfl,rfl⟩;go_wp2_with fail
 go_loopw [7,8] (fun m i wr=>(∃(k x:Nat),i=.int .i64 k/\k<1350/\m=.int .u64 x/\x<18446744073709551616)/\wr=w) (fun _ i _=>(intOf i).toNat)
 case atStart=>
  refine⟨⟨1349,X,rfl,by decide,?_,l0⟩,rfl⟩
  simp[IntKind.wrap,IntKind.bits,IntKind.signed]
 case round=>
  obtain⟨⟨k,x,rfl,hk,rfl,hx⟩,rfl⟩:=hrel;have HLx:=waV (fun V=>HL.out x hx V)
  generalize Lib.bitLen (x:Int).toNat=B at *
  by_cases h0:x=0
  ·have t0:((x:Int)==0)=true:=by simp;omega
   by_cases hk0:k=0
   ·subst hk0;clear h0;go_wp2_with fail
    go_ret2
    exact⟨⟨_,_,rfl⟩,rfl⟩
   ·have n0:¬((k:Int) - 1<0):=by omega
    have hw1:IntKind.i64.wrap ((k:Int) - 1)=((k - 1:Nat):Int):=by rw[zcr (by omega) (by omega)];omega
    have n1:¬(((k - 1:Nat):Int)<0):=by omega
    have n2:(((k - 1:Nat):Int)<1350):=by omega
    have n3:(0:Int)<=((k - 1:Nat):Int):=by omega
    have c1:=HD.out.cells (k - 1) oQ;have hb2:=HD.out.lt;have hl1:=zbv p (k - 1);clear h0;go_wp2_with fail;go_roundw
    case rel=>exact⟨⟨k - 1,_,by go_num,by omega,rfl,hl1⟩,trivial⟩
    case measure=>simp [intOf];omega
  ·have t0:((x:Int)==0)=false:=by simp;omega
   clear h0;go_wp2_with fail;refine(HLx.out _).mono ?_;rintro e w1 ⟨rfl,rfl⟩;go_wp2_with fail
   go_ret2
   exact⟨⟨_,_,rfl⟩,rfl⟩
end Go.Proofs.YtllcdbgjeidlkaaGreatDoor
