/- A part of the proof: WTa5 -/
import Derived.Test.YtllcdbgjeidlkaaGreatDoorT36
import Derived.Test.YtllcdbgjeidlkaaGreatDoorT41
import Derived.Test.YtllcdbgjeidlkaaGreatDoorT32
set_option maxHeartbeats 80000000
set_option maxRecDepth 100000
set_option linter.unusedSimpArgs false
set_option linter.unusedVariables false
namespace Go.Proofs.YtllcdbgjeidlkaaGreatDoor
open Go.Proofs.Tryz
open Go.RowKit
attribute [local go_sem] Oper.semAt_some
theorem zry (D:List Value) (a0 b0 c0 d0 a b c d:Value) (o:Nat) (ho:o=D.length):((((D++[a0,b0,c0,d0]).set o a).set (o+1) b).set (o+2) c).set (o+3) d=D++[a,b,c,d]:=by
 subst ho;rw[List.set_append_right _ _ (waJ _),List.set_append_right _ _ (by omega),List.set_append_right _ _ (by omega),List.set_append_right _ _ (by omega)]
 simp
theorem zt2 {w:World} {B:Nat} {v:Value} {l:List It} (h:zaY w B v l) (hl:l.length≠0):∃g cap,v=.slice (some ⟨g,0,none⟩) l.length cap/\B<=g/\(∃cur,w.heap[g]?=some (.cells cur 64 (0,0)))/\(l.length:Int)<=cap/\
 (w.cell? ⟨g,(l.length - 1) * 4,none⟩=some (.int .i64 (zcw l).k)/\w.cell? ⟨g,(l.length - 1) * 4+1,none⟩=some (.int .i64 (zcw l).f)/\w.cell? ⟨g,(l.length - 1) * 4+2,none⟩=some (.int .i64 (zcw l).t)/\w.cell? ⟨g,(l.length - 1) * 4+3,none⟩=some (.int .i64 (zcw l).s))/\(∀j,w.frozen? ⟨g,j,none⟩=false)/\
 ∀X:World,X.heap=w.heap->∀i:It,zaY ((((X.setCell ⟨g,(l.length - 1) * 4,none⟩ (.int .i64 i.k)).setCell ⟨g,(l.length - 1) * 4+1,none⟩ (.int .i64 i.f)).setCell ⟨g,(l.length - 1) * 4+2,none⟩ (.int .i64 i.t)).setCell ⟨g,(l.length - 1) * 4+3,none⟩ (.int .i64 i.s)) B v (l.dropLast++[i]):=by
 have hne:l≠[]:=fun e=>hl (by rw[e];rfl)
 have e0:l.dropLast++[zcw l]=l:=by
  unfold zcw;rw[List.getLast?_eq_some_getLast hne,Option.getD_some];exact List.dropLast_concat_getLast hne
 obtain⟨h1,h2⟩:=h;rcases h2 with ⟨_,h2⟩|⟨g,cap,cur,hv,hB,hg,hn,hm,hs,ht⟩
 ·exact absurd h2 hl
 ·have hD:(l.dropLast.flatMap zdb).length=(l.length - 1) * 4:=by rw[zeZ zcG,List.length_dropLast]
  have hx:l.flatMap zdb=l.dropLast.flatMap zdb++zdb (zcw l):=by
   conv=>lhs;rw[<-e0]
   rw[List.flatMap_append];simp
  have hcell:∀j,j<4->w.cell? ⟨g,(l.length - 1) * 4+j,none⟩=(zdb (zcw l))[j]? :=fun j hj=>by
   rw[World.cell?_of_heap hg,<-Array.getElem?_toList];have h4:(l.length - 1) * 4+j<l.length * 4:=by omega
   rw[<-List.getElem?_take_of_lt h4,ht,hx,List.getElem?_append_right (by omega),hD,Nat.add_sub_cancel_left]
  refine⟨g,cap,hv,hB,⟨cur,hg⟩,by omega,⟨hcell 0 dQ,hcell 1 dQ,hcell 2 dQ,hcell 3 dQ⟩,fun j=>by simp[World.frozen?,hg],fun X hX i=>?_⟩
  have hgX:X.heap[g]?=some (.cells cur 64 (0,0)):=by rw[hX];exact hg
  refine⟨?_,.inr ⟨g,cap,_,?_,hB,zjz (zjz (zjz (zjz hgX))),?_,hm,?_,?_⟩⟩
  ·rw[zeZ zcG]
  ·rw[hv];congr 1;rw[waF,List.length_dropLast];simp;omega
  ·rw[waF,List.length_dropLast];simp;omega
  ·simpa using hs
  ·rw[show (l.dropLast++[i]).length=l.length by rw[waF,List.length_dropLast];simp;omega]
   simp only[Array.toList_setIfInBounds,List.take_set,ht];rw[hx,show zdb (zcw l)=[.int .i64 (zcw l).k,.int .i64 (zcw l).f,.int .i64 (zcw l).t,.int .i64 (zcw l).s] from rfl,zry _ _ _ _ _ _ _ _ _ _ hD.symm,List.flatMap_append]
   rfl
def zbS (o:List It) (d:Nat):List It:=if o.length≠0/\max (zcw o).f (zcw o).t=wrap64 ((d:Int) - 1) then o.dropLast++[⟨2,(zcw o).f,d,1⟩] else o++[⟨1,d,0,0⟩]
def zfW (l:List Nat):List It:=l.foldl zbS []
theorem zoN (l:List Nat) (x:Nat):zfW (l++[x])=zbS (zfW l) x:=by
 unfold zfW;rw[List.foldl_append];rfl
theorem zrz:∀l:List Nat,(zfW l).length<=l.length:=by
 have:∀(l:List Nat) (o:List It),(l.foldl zbS o).length<=o.length+l.length:=by
  intro l;induction l with
  |nil=>intro o;exact waJ _
  |cons a r ih=>
   intro o;refine waW (ih _) ?_;have:(zbS o a).length<=o.length+1:=by
    unfold zbS;split
    ·rw[waF,List.length_dropLast];simp
    ·rw[waF];simp
   simp only[waG];omega
 intro l;have:=this l [];simpa[zfW] using this
theorem zt3 (l:List Nat) (h:∀x∈l,x<64):zfW l=runF l:=by
 have:∀(l:List Nat) (o:List It),(∀x∈l,x<64)->l.foldl zbS o=l.foldl zen o:=by
  intro l;induction l with
  |nil=>intro o _;rfl
  |cons a r ih=>
   intro o h;have h1:=h a (by simp)
   have h2:zbS o a=zen o a:=by
    unfold zbS zen;rw[show wrap64 ((a:Int) - 1)=(a:Int) - 1 by unfold wrap64;omega]
   simp only[List.foldl_cons,h2];exact ih _ fun x hx=>h x (by simp[hx])
 exact this l [] h
theorem zhp {V V':World} {B bA box:Nat} {v:Value} {l:List It} (hrow:zaY V B v l) (hbx:Boxed V box 24 v) (hr:RlS (fun k=>k=box\/v.ownBlock=some k) V V') (hA:bA<B) (htz:0<B) (hAl:bA<V.heap.size) (hbA:bA≠box) (htb:0≠box):KpT bA (bA+1) V V'/\KeepsFrom B V V':=by
 have hb:=zdG hrow;have hnot:∀k,k<B->k≠box->¬(k=box\/v.ownBlock=some k):=fun k h1 h2 h3=>by
  rcases h3 with h3|h3
  ·exact h2 h3
  ·have:=(hb k h3).1;omega
 refine⟨⟨⟨hr.size,fun k h1 h2=>?_⟩,fun t j hj=>?_⟩,⟨hr.size,fun i o h1 h2 h3=>?_⟩⟩
 ·obtain rfl:k=bA:=by omega
  exact hr.block k hAl (hnot k hA hbA)
 ·exact hr.cell (t j hj) (hnot _ htz htb)
 ·refine(hr.block i (waL.1 h2).1 fun g=>?_).trans h2
  rcases g with g|g
  ·subst g;rw[show V.heap[i]?=_ from hbx] at h2;cases h2;cases h3
  ·rcases hrow.2 with ⟨rfl,_⟩|⟨q,cap,cur,rfl,_,hg,_⟩
   ·cases g
   ·obtain rfl:q=i:=by simpa[Value.ownBlock] using g
    rw[hg] at h2;cases h2;cases h3
theorem zfx (w:World) (a b c d:Value) (t:TypeId):∀j u,[a,b,c,d][j]?=some u->(w.alloc (.cells #[a,b,c,d] t)).cell? ((⟨w.heap.size,0,none⟩:Addr).add j)=some u:=by
 intro j u hj
 match j,hj with
 |0,hj=>cases hj;exact zaa rfl rfl
 |1,hj=>cases hj;exact zaa rfl rfl
 |2,hj=>cases hj;exact zaa rfl rfl
 |3,hj=>cases hj;exact zaa rfl rfl
 |n+4,hj=>simp at hj
theorem zrA (m:Nat) (hm:m<18446744073709551616) (w:World) (hw:Tz w):Calls prog 37 #[.int .u64 m] w (zdU (zeG m) w):=by
 have HA:=waV (fun V B (hc:V.cell? ⟨B,0,none⟩=some (.int .u64 (m:Nat)))=>wbP (n:=4).2 (zc2 m hm B 0 1 V hc))
 have HLe:=waV (fun V=>wbP (n:=4).2 (zfo (m:Int) V))
 have HW:=waV hw;have eg:∀args w,(callFunc 154 args).run prog w=.ok (.enter 154 args) w:=enters_of func154 kQ rfl;have htz:0<w.heap.size:=waR w _ (hw 0 dQ);obtain⟨i0,hi0,hz0',hz1',hz2⟩:=info_parts ziF;have HRl:Hid (zeG m=if zm5 (m:Int)=7 then [] else runF (zam m)):=rfl
 clear hw;refine(wbP (n:=5)).1 ?_;refine callsIn_of_wp_marks func37 rfl trivial ?_ rfl;simp only[ntmps37,wbQ,waG,List.length_nil,Nat.reduceAdd,Nat.reduceSub,wbR,wbS,List.push_toArray,List.append_toArray,wbN,wbT]
 gi_wp2_with fail
 apply zcg
 gi_wp2_with fail
 refine⟨trivial,?_⟩;refine(HLe.out _).mono ?_;rintro e w1 ⟨rfl,rfl⟩
 by_cases hp:zm5 (m:Int)=7
 ·have hE:zeG m=[]:=by rw[HRl.out,if_pos hp]
  have tp:(zm5 (m:Int)==7)=true:=by rw[hp];rfl
  have HE:=waV hE;clear hp hE HRl;generalize zm5 (m:Int)=pm at *
  gi_wp2_with fail
  exact⟨_,results_tmp rfl _ _ _,.slice none 0 0,rfl,by rw[HE.out];exact World.ownsRow_nil _ _ _ _,waC _ _⟩
 ·have hE:zeG m=zfW (zam m):=by rw[HRl.out,if_neg hp,zt3 _ fun x hx=>(zaN.1 hx).1]
  have tp:(zm5 (m:Int)==7)=false:=by rw[wbE];exact hp
  have HE:=waV hE;clear hp hE HRl;generalize zm5 (m:Int)=pm at *
  gi_wp2_with fail
  apply wpIn_label;simp only[Exit.then]
  have a0:((w.alloc (.cells #[.slice none 0 0] 24)).alloc (.cells #[.int .u64 (m:Nat)] 39)).cell? ⟨w.heap.size+1,0,none⟩=some (.int .u64 (m:Nat)):=by
   have h:w.heap.size+1=(w.alloc (.cells #[.slice none 0 0] 24)).heap.size:=by simp
   rw[h];exact zaa rfl rfl
  have hb0:Below w.heap.size w ((w.alloc (.cells #[.slice none 0 0] 24)).alloc (.cells #[.int .u64 (m:Nat)] 39)):=((waC _ w).alloc (waJ _) _).alloc (by simp) _
  have hz0:((w.alloc (.cells #[.slice none 0 0] 24)).alloc (.cells #[.int .u64 (m:Nat)] 39)).heap.size=w.heap.size+2:=by simp
  have x0:Boxed ((w.alloc (.cells #[.slice none 0 0] 24)).alloc (.cells #[.int .u64 (m:Nat)] 39)) w.heap.size 24 (.slice none 0 0):=(Boxed.new _ _ _).alloc _
  gi_wp2_with fail
  refine⟨trivial,?_⟩;generalize ((w.alloc (.cells #[.slice none 0 0] 24)).alloc (.cells #[.int .u64 (m:Nat)] 39))=W0 at *;refine(HA.out _ _ a0).mono ?_;rintro e w1 ⟨bA,rfl,cA,hlA,hq1⟩;have x1:=zaG hq1 x0;have hb1:Below w.heap.size w w1:=hb0.trans (hq1.mono oQ);have hT1:=HW.out.below hb1;have hz1:=hq1.size;have hbAl:=waR w1 _ cA;clear x0 a0 hb0 HLe HA
  gi_wp2_with fail
  refine wpIn_rangeFunc_ownH rfl oQ (gf:=154) (lb:=#[.pointer (some ⟨bA,0,none⟩)]) rfl trivial eg
   (zbD (fun k:Nat=>k) (zam m) (KpT bA (bA+1)) 4 bA m dQ (List.map_id _) hm (fun X Y hk hc=>(wbK (hk.kp.block bA (waJ _) oQ)).trans hc) (fun X Y hk ht=>hk.tz ht) w1 cA hT1)
   (fun h k=>h.trans k) (fun V l o o' hle hl ho _=>KpT.putObj o' oQ hl ho) (waC _ _) (fun _=>rfl)
   (fun pre V=>(∃v,Boxed V w.heap.size 24 v/\V.ownsRow w1.heap.size 64 4 v (zfW pre).length ((zfW pre).flatMap zdb)/\True)/\Below w.heap.size w V)
   (fun c pre V=>False)
   (OwnFrom.and (Own.from (holdsRow_own w1.heap.size w.heap.size 24 64 4 (fun pre:List Nat=>(zfW pre).length) (fun pre=>(zfW pre).flatMap zdb) (fun _ _=>True)) _) (ownFrom_below (waJ _) oQ))
   (fun c _ _ _ _ hs _ _=>hs)
   ⟨⟨_,x1,World.ownsRow_nil _ _ _ _,trivial⟩,hb1⟩
   (fun x a' V=>a'={tmps:=#[.int .u64 (m:Nat),undef,.slice none 0 0,.pointer (some ⟨w.heap.size,0,none⟩),.int .i64 (x:Int),undef,undef,undef,.int .u64 (m:Nat),.int .i64 pm,.bool false,.int .u64 (m:Nat),.slice (some ⟨w.heap.size+1,0,none⟩) 1 1,.func (.func 154) #[] #[.pointer (some ⟨bA,0,none⟩)],.int .i64 (x:Int),undef,undef,undef,undef,undef,undef,undef,undef,undef,undef,undef,undef,undef,undef,undef,undef,undef,undef,undef,undef,undef,undef,undef,undef,undef,undef,undef,undef,undef,undef,undef,undef,undef,undef,undef],defers:=[]})
   (fun _ _ _ _ _ _ hs _ _=>hs)
   ?assign ?body ?done ?stop
  case assign=>
   rintro l1 pre x V K hi hK
   gi_wp2_with fail
   exact hK _ _ (KeepsFrom.refl _ _) (KpT.refl _ _ _) hi rfl
  case body=>
   rintro l1 pre x a' V hl1 hle1 ⟨⟨v,hv,hrow,_⟩,hB⟩ rfl hlt;have hzV:w1.heap.size<=V.heap.size:=by
    obtain⟨r,hr⟩:=hle1;have:=(waL.1 hr).1;omega
   clear hle1;have HS:=waV (zoN pre x);have hlp:=zrz pre;have hO:zaY V w1.heap.size v (zfW pre):=hrow;generalize hF:zfW pre=F at *;clear hF
   by_cases hl0:F.length=0
   ·have eF:F=[]:=List.length_eq_zero_iff.1 hl0;subst eF;have HT:=waV (show zbS [] x=[⟨1,(x:Int),0,0⟩] by unfold zbS;rw[if_neg (fun h=>h.1 hl0)];rfl)
    obtain⟨A,c,rfl,hcA⟩:=hO.rd;have hcm:c<=maxLen:=hcA.2.1;have hrow0:V.ownsRow w1.heap.size 64 4 (.slice A 0 c) 0 []:=hrow;have hv0:Boxed V w.heap.size 24 (.slice A 0 c):=hv;have hO0:zaY V w1.heap.size (.slice A 0 c) []:=hrow;clear hrow hv hl0 hlp hO hcA;have hc:=hv0.cell
    gi_wp2_with (gi_at_builtin;refine wpListIn_append_own_at _ rfl _ _ 24 rfl w1.heap.size 64 i0 (.agg #[.int .i64 0,.int .i64 0,.int .i64 0,.int .i64 0]) 4 32 underlying24 hi0 hz0' hz1' hz2 rfl dQ _ _ _ rfl (hrow0.alloc _) ⟨V.heap.size,0,none⟩ 1 1 [.int .i64 1,.int .i64 (x:Int),.int .i64 0,.int .i64 0] rfl rfl (zfx _ _ _ _ _ _) (by simp[Value.oneCell']) (by unfold maxLen;omega) oQ (by simp;omega) ?_;intro v' w4 hown' hgrow _ hblk;obtain⟨g',cap',rfl⟩:=ownsRow_succ hown';obtain⟨hv4,hv5,hr5,_,_,hb5,hs5⟩:=zho hv0 hrow0 hgrow hown' hblk oQ hzV;obtain⟨hk5,hf5⟩:=zhp hO0 hv0 hs5 hbAl oQ oQ oQ oQ;have hc1:=hv4.cell;have hf1:=hv4.frozen;have hl4:=hv4.lt)
    exact⟨hf5,hk5,⟨_,hv5,by rw[HS.out,HT.out];exact hr5,trivial⟩,hB.trans (hb5 _ (by omega))⟩
   ·have hl1':F.length - 1<F.length:=by omega
    have hc:=hv.cell;obtain⟨g,cap,rfl,hBg,⟨cur,hg⟩,hlc,⟨hc0,hc1,hc2,hc3⟩,hfr,hset⟩:=zt2 hO hl0;have tl:((0:Int)<(F.length:Int)):=by omega
    have HRS:Hid (zbS F x=if max (zcw F).f (zcw F).t=wrap64 ((x:Int) - 1) then F.dropLast++[⟨2,(zcw F).f,x,1⟩] else F++[⟨1,x,0,0⟩]):=by
     unfold zbS
     by_cases hq:max (zcw F).f (zcw F).t=wrap64 ((x:Int) - 1)
     ·show _=_;rw[if_pos ⟨hl0,hq⟩,if_pos hq]
     ·show _=_;rw[if_neg (fun h=>hq h.2),if_neg hq]
    gi_wp2_with fail
    generalize (zcw F).f=fv at *;generalize (zcw F).t=tv at *;generalize hMM:max fv tv=MM at *;have hMx:(max fv tv=tv/\fv<tv)\/(max fv tv=fv/\¬fv<tv):=by omega
    have hO':Hid (zaY V w1.heap.size (.slice (some ⟨g,0,none⟩) F.length cap) F):=hO;have hv':Hid (Boxed V w.heap.size 24 (.slice (some ⟨g,0,none⟩) F.length cap)):=hv;have HB:=waV hB;have HSet:=waV hset;have HFr:=waV hfr;have HG:=waV hg;have HC4:=waV (And.intro hc0 (And.intro hc1 (And.intro hc2 hc3)));clear hc0 hc3 hset hc hO hrow hv hB hfr hg;refine zee [(23,.pointer (some ⟨g,(F.length - 1) * 4,none⟩)),(24,.pointer (some ⟨g,(F.length - 1) * 4,none⟩)),(25,.pointer (some ⟨g,(F.length - 1) * 4+1,none⟩)),(26,.int .i64 fv),(27,.pointer (some ⟨g,(F.length - 1) * 4,none⟩)),(28,.pointer (some ⟨g,(F.length - 1) * 4,none⟩)),(29,.pointer (some ⟨g,(F.length - 1) * 4+2,none⟩)),(30,.int .i64 tv),(31,.int .i64 MM),(7,.int .i64 MM)] V.drew ?ways ?on
    case ways=>
     clear hMx HRS;rw[<-hMM];clear hMM;refine zfv 9 (fun w'=>Hid (w'.cell? ⟨g,(F.length - 1) * 4+1,none⟩=some (.int .i64 fv)/\w'.cell? ⟨g,(F.length - 1) * 4+2,none⟩=some (.int .i64 tv))) kQ kQ (by rintro ⟨a,w,h⟩;cases h.1) ?_
     have hHeld:Hid (V.drew.cell? ⟨g,(F.length - 1) * 4+1,none⟩=some (.int .i64 fv)/\V.drew.cell? ⟨g,(F.length - 1) * 4+2,none⟩=some (.int .i64 tv)):=⟨hc1,hc2⟩;generalize hVd:V.drew=Vd at *;clear hc1 hc2;refine(kP 0 23 (h:=(kP 1 24 (h:=(kP 2 25 (h:=(kR 3 26 (fun w_ hSw_=>hSw_.out.1) (h:=(kP 4 27 (h:=(kP 5 28 (h:=(kP 6 29 (h:=(kR 7 30 (fun w_ hSw_=>hSw_.out.2) (h:=?_))))))))))))))))
     simp only[Act.put,zbj,zbk,zbl];refine zac (i:=8) kQ fun o_ ho_ K_ hK_=>?_
     obtain rfl:=waB ho_;have HK_:=waV hK_;clear hK_ ho_;go_wp2_with fail;refine HK_.out _ _ hHeld ?_;clear HK_;refine zaq (j:=1) dQ (.inr rfl) dQ kQ ?_;simp only[wbQ,waG,List.length_nil,Nat.reduceAdd,Nat.reduceSub,waZ,wbA];go_wp2_with fail;simp only[zdO,List.foldl,Act.put,wbU,wbW,wbV]
    case on=>
     have c1:=hv'.out.cell;simp only[zdO,List.foldl,Act.put,wbU,wbW,wbV]
     by_cases hq:MM=wrap64 ((x:Int) - 1)
     ·have hq1:(MM==wrap64 ((x:Int) - 1))=true:=by rw[hq];exact beq_self_eq_true _
      have HTh:Hid (V.drew.there g ((F.length - 1) * 4) 4):=by
       intro j hj;refine⟨?_,HFr.out _⟩;obtain rfl|rfl|rfl|rfl:j=0\/j=1\/j=2\/j=3:=by omega
       ·exact(by show(V.cell? _).isSome=true;rw[show V.cell? ⟨g,(F.length - 1) * 4+0,none⟩=_ from HC4.out.1];rfl)
       ·exact(by show(V.cell? _).isSome=true;rw[HC4.out.2.1];rfl)
       ·exact(by show(V.cell? _).isSome=true;rw[HC4.out.2.2.1];rfl)
       ·exact(by show(V.cell? _).isSome=true;rw[HC4.out.2.2.2];rfl)
      have HEnd:Hid (∀Vd,V.drew=Vd->KeepsFrom w1.heap.size V (Vd.setCells g ((F.length - 1) * 4) [.int .i64 2,.int .i64 fv,.int .i64 (x:Int),.int .i64 1])/\KpT bA (bA+1) V (Vd.setCells g ((F.length - 1) * 4) [.int .i64 2,.int .i64 fv,.int .i64 (x:Int),.int .i64 1])/\Boxed (Vd.setCells g ((F.length - 1) * 4) [.int .i64 2,.int .i64 fv,.int .i64 (x:Int),.int .i64 1]) w.heap.size 24 (.slice (some ⟨g,0,none⟩) F.length cap)/\zaY (Vd.setCells g ((F.length - 1) * 4) [.int .i64 2,.int .i64 fv,.int .i64 (x:Int),.int .i64 1]) w1.heap.size (.slice (some ⟨g,0,none⟩) F.length cap) (F.dropLast++[⟨2,fv,x,1⟩])/\Below w.heap.size w (Vd.setCells g ((F.length - 1) * 4) [.int .i64 2,.int .i64 fv,.int .i64 (x:Int),.int .i64 1])):=fun Vd hVd=>by
       subst hVd;have hr0:RlS (·=g) V (V.drew.setCells g ((F.length - 1) * 4) [.int .i64 2,.int .i64 fv,.int .i64 (x:Int),.int .i64 1]):=zc7 _ _ _ (RlS.refl _ _).drew;have hr1:RlS (fun k=>k=w.heap.size\/(Value.slice (some ⟨g,0,none⟩) F.length cap).ownBlock=some k) V (V.drew.setCells g ((F.length - 1) * 4) [.int .i64 2,.int .i64 fv,.int .i64 (x:Int),.int .i64 1]):=⟨hr0.os,hr0.tape,hr0.output,hr0.size,fun k hk hn=>hr0.block k hk (fun e=>hn (.inr (by rw[show k=g from e];rfl)))⟩
       obtain⟨k1,k2⟩:=zhp hO'.out hv'.out hr1 hbAl oQ oQ oQ oQ;exact⟨k2,k1,(hr0.block _ hv'.out.lt oQ).trans hv'.out,HSet.out V.drew rfl ⟨2,fv,x,1⟩,HB.out.trans ⟨hr0.os,hr0.tape,hr0.output,hr0.size,fun k hk=>hr0.block k (by have:=HB.out.size;omega) (fun e=>by have:k=g:=e;omega)⟩⟩
      have d0:V.drew.cell? ⟨g,(F.length - 1) * 4,none⟩=some _:=HC4.out.1;have d1:V.drew.cell? ⟨g,(F.length - 1) * 4+1,none⟩=some (.int .i64 fv):=HC4.out.2.1;have d2:V.drew.cell? ⟨g,(F.length - 1) * 4+2,none⟩=some _:=HC4.out.2.2.1;have d3:V.drew.cell? ⟨g,(F.length - 1) * 4+3,none⟩=some _:=HC4.out.2.2.2;have y0:V.drew.frozen? ⟨g,(F.length - 1) * 4,none⟩=false:=HFr.out _;have y1:V.drew.frozen? ⟨g,(F.length - 1) * 4+1,none⟩=false:=HFr.out _;have y2:V.drew.frozen? ⟨g,(F.length - 1) * 4+2,none⟩=false:=HFr.out _;have y3:V.drew.frozen? ⟨g,(F.length - 1) * 4+3,none⟩=false:=HFr.out _;have HQ:=waV hq;generalize hVd:V.drew=Vd at *;have HE5:=waV (HEnd.out Vd rfl);clear hq hc1 hc2 HEnd hVd
      gi_wp2_with (first|(refine zdF (by rintro ⟨a,w,h⟩;exact h) _ _ _ rfl ?_;refine zc1 rfl 64 _ _ rfl #[.int .i64 2,.int .i64 fv,.int .i64 (x:Int),.int .i64 1] g ((F.length - 1) * 4) rfl rfl (by kernel_rfl) rfl HTh.out ?_;go_wp2_with fail)|fail)
      exact⟨HE5.out.1,HE5.out.2.1,⟨_,HE5.out.2.2.1,by rw[HS.out,HRS.out,if_pos HQ.out];exact HE5.out.2.2.2.1⟩,HE5.out.2.2.2.2⟩
     ·have hq1:(MM==wrap64 ((x:Int) - 1))=false:=by rw[wbE];exact hq
      have HQ:=waV hq;have hrow0:V.drew.ownsRow w1.heap.size 64 4 (.slice (some ⟨g,0,none⟩) F.length cap) F.length (F.flatMap zdb):=hO'.out;have hv0:Boxed V.drew w.heap.size 24 (.slice (some ⟨g,0,none⟩) F.length cap):=hv'.out;have hzV0:w1.heap.size<=V.drew.heap.size:=hzV;have HR5:Hid (∀V5,RlS (fun k=>k=w.heap.size\/(Value.slice (some ⟨g,0,none⟩) F.length cap).ownBlock=some k) V.drew V5->RlS (fun k=>k=w.heap.size\/(Value.slice (some ⟨g,0,none⟩) F.length cap).ownBlock=some k) V V5):=fun V5 h=>⟨h.os,h.tape,h.output,h.size,h.block⟩
      have HB5:Hid (∀V5,Below w.heap.size V.drew V5->Below w.heap.size w V5):=fun V5 h=>HB.out.trans ⟨h.os,h.tape,h.output,h.size,h.block⟩
      generalize V.drew=Vd at *;have hc:=hv0.cell;clear hq hc1 hc2 c1
      gi_wp2_with (gi_at_builtin;refine wpListIn_append_own_at _ rfl _ _ 24 rfl w1.heap.size 64 i0 (.agg #[.int .i64 0,.int .i64 0,.int .i64 0,.int .i64 0]) 4 32 underlying24 hi0 hz0' hz1' hz2 rfl dQ _ _ _ rfl (hrow0.alloc _) ⟨Vd.heap.size,0,none⟩ 1 1 [.int .i64 1,.int .i64 (x:Int),.int .i64 0,.int .i64 0] rfl rfl (zfx _ _ _ _ _ _) (by simp[Value.oneCell']) (by unfold maxLen;omega) oQ (by simp;omega) ?_;intro v' w4 hown' hgrow _ hblk;obtain⟨g',cap',rfl⟩:=ownsRow_succ hown';obtain⟨hv4,hv5,hr5,_,_,hb5,hs5⟩:=zho hv0 hrow0 hgrow hown' hblk oQ hzV0;obtain⟨hk5,hf5⟩:=zhp hO'.out hv'.out (HR5.out _ hs5) hbAl oQ oQ oQ oQ;have hc1:=hv4.cell;have hf1:=hv4.frozen;have hl4:=hv4.lt)
      exact⟨hf5,hk5,⟨_,hv5,by rw[HS.out,HRS.out,if_neg HQ.out,waF,List.flatMap_append];exact hr5⟩,HB5.out _ (hb5 _ (by omega))⟩
  case done=>
   rintro D zs V hD rfl ⟨⟨v,hv,hrow,_⟩,hB⟩ hKd;have c0:=hv.cell
   gi_wp2_with fail
   refine⟨by simp,.inl ⟨_,_,rfl,run_takeDeferred hKd,?_⟩⟩
   have hr:Rl 0 0 w.heap.size V (V.putObj D (.deferred none)):=(Rl.refl _ _ _ V).put _ hKd rfl oQ;have h2:=zeq hrow hr;exact⟨_,results_tmp rfl _ _ _,v,rfl,by rw[HE.out];exact zar h2 (by omega),za5 hB hr (.inr rfl) (waJ _) (waJ _)⟩
  case stop=>
   rintro D c pre V _ _ h _;exact h.elim
end Go.Proofs.YtllcdbgjeidlkaaGreatDoor
