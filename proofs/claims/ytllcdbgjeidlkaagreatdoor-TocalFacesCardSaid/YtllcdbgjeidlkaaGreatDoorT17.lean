/- A part of the proof: WLap5 -/
import Derived.Test.YtllcdbgjeidlkaaGreatDoorT16
import Derived.Test.YtllcdbgjeidlkaaGreatDoorT04
import Derived.Maps.Keyed
import Derived.DeepKeys5
import Derived.LaidEqlPtr
import Derived.RangeFuncRecord
set_option maxHeartbeats 80000000
set_option maxRecDepth 100000
set_option linter.unusedSimpArgs false
set_option linter.unusedVariables false
namespace Go.Proofs.YtllcdbgjeidlkaaGreatDoor
open Go.Proofs.Tryz
open Go.RowKit
theorem zsZ {c:Cl} {x:LSt} (h:¬(x.act=true/\0<=x.ph/\zeI c zbn=true)) (s:Int):zfK c x s=false:=by
 unfold zfK;rw[waO h];rfl
theorem zqf {c:Cl} {x:LSt} (h:x.act=true/\0<=x.ph/\zeI c zbn=true) (h2:¬(0<zap c.u/\(1<c.s\/0<x.ph))) (k:Nat):zgU c x k=zfK c x (k:Int):=by
 unfold zgU zfK;rw[waP h,waO h2];simp
theorem zs0 {c:Cl} {x:LSt} (h:x.act=true/\0<=x.ph/\zeI c zbn=true) (h2:0<zap c.u/\(1<c.s\/0<x.ph)) (hz:zap c.u=1\/zap c.u=60\/zap c.u=3600) {k:Nat} (hk:k<86400):zwM c x (zap c.u) (86400 / zap c.u) k=zfK c x (k:Int):=by
 unfold zwM zfK;rw[waP h,waP h2,Bool.true_and,Bool.not_true,Bool.false_or,Bool.and_assoc];congr 1;congr 1;have l:(k:Int) / zap c.u<86400 / zap c.u:=by rcases hz with e|e|e<;>rw [e]<;>omega
 rw[wbH];exact⟨fun h=>⟨h.1,h.2.2⟩,fun h=>⟨h.1,l,h.2⟩⟩
structure SecI (cs:Array Value) (gc:Nat->Value) (xv:Array Value) (u z:Int) (R:Nat->Bool) (w V':World) (l0 l1 l2 l3 l4 l5 l6:Bool) (v35 v36 v37 v38 v39 v40 v4:Value):Prop where
 below:Below w.heap.size w V'
 arr:Arr V' w.heap.size 30 gc
 xs:∀j v,xv[j]?=some v->V'.cell? ⟨w.heap.size+1,j,none⟩=some v
 k0:l0=true->v35=.agg cs
 k1:l1=true->v36=.agg xv
 k2:l2=true->v37=.pointer (some ⟨w.heap.size,25,none⟩)
 k3:l3=true->v38=.int .i64 u
 k4:l4=true->v39=.int .i64 z
 k5:l5=true->∃b,v40=.pointer (some ⟨b,0,none⟩)/\w.heap.size<=b/\DiscAt V' b R
 k6:l6=true->l5=true/\v4=v40
 zx:w.heap.size+1<V'.heap.size
theorem SecI.mono {cs:Array Value} {gc:Nat->Value} {xv:Array Value} {u z:Int} {R:Nat->Bool} {w V' W:World} {l0 l1 l2 l3 l4 l5 l6:Bool} {v35 v36 v37 v38 v39 v40 v4:Value} (H:SecI cs gc xv u z R w V' l0 l1 l2 l3 l4 l5 l6 v35 v36 v37 v38 v39 v40 v4) (hq:Below V'.heap.size V' W):
 SecI cs gc xv u z R w W l0 l1 l2 l3 l4 l5 l6 v35 v36 v37 v38 v39 v40 v4:=
 ⟨zaf H.below hq H.below.size,Arr.below H.arr (Arr.lt H.arr dQ) hq,fun j v hj=>((zad hq).1 _ _ H.zx).trans (H.xs j v hj),H.k0,H.k1,H.k2,H.k3,H.k4,fun h=>by obtain⟨b,h1,h2,h3⟩:=H.k5 h;exact⟨b,h1,h2,h3.below hq⟩,H.k6,waD H.zx hq.size⟩
theorem zlw (c:Cl) (hc:zbC c) (hs2:c.s<=9223372036854775807) (x:LSt) (hp1:x.ph<=9223372036854775807) (w:World) (hw:Tz w):Calls prog 238 #[.agg (clA c),zdQ x] w (zgT (fun k=>zfK c x (k:Int)) w):=by
 have HM:=waV (fun W=>zgI c W)
 have HZ:=waV (fun V=>zd5 c.u V)
 have HD:=waV (fun V=>zi4 0 V)
 have hzc:=zgJ c.u;have HX:=waV (zgH w c 60);have HI:=waV (zbV c);have HA:=waV (fun w b h=>@zvu c w b h)
 have g25:gC c 25=.int .i64 c.u:=rfl;have g26:gC c 26=.int .i64 c.s:=rfl;have h1c:(Value.agg (clA c)).oneCell'=false:=rfl;have HPl:Hid ((x.act=true/\0<=x.ph/\zeI c zbn=true)->¬(0<zap c.u/\(1<c.s\/0<x.ph))->∀V,Below w.heap.size w V->Calls prog 270 #[.agg (clA c),zdQ x] V (zgT (fun k=>zfK c x (k:Int)) V)):=fun h1 h2 V hV=>by
  have h:=zqa c hc x V (hw.below hV)
  rwa [show zgU c x=fun(k:Nat)=>zfK c x (k:Int) from funext fun k=>zqf h1 h2 k] at h
 have HSt:Hid ((x.act=true/\0<=x.ph/\zeI c zbn=true)->(0<zap c.u/\(1<c.s\/0<x.ph))->∀V,Below w.heap.size w V->Calls prog 269 #[.agg (clA c),zdQ x,.int .i64 (zap c.u)] V (zgT (fun k=>zfK c x (k:Int)) V)):=fun h1 h2 V hV=>by
  have hz:zap c.u=1\/zap c.u=60\/zap c.u=3600:=by rcases hzc with h|h|h|h<;>omega
  refine(zlv c hc x (zap c.u) hz (zgK h1.2.2).1 hs2 h1.2.1 hp1 V (hw.below hV)).mono ?_;rintro e w' ⟨b,rfl,h3,h4,h5⟩;exact⟨b,rfl,h3,h4.congr (fun k hk=>zs0 h1 h2 hz hk),h5⟩
 have HId:Hid (¬(x.act=true/\0<=x.ph/\zeI c zbn=true)->(fun k:Nat=>zfK c x (k:Int))=fun _=>false):=fun h=>funext fun k=>zsZ h _
 obtain⟨xa,xf,xu,xp⟩:=x;unfold zdQ at *;dsimp only at HPl HSt HId hp1 ⊢;generalize (fun k:Nat=>zfK c ⟨xa,xf,xu,xp⟩ (k:Int))=R at *
 generalize zeI c zbn=B at *;generalize zap c.u=z at *;generalize gC c=gc at *;generalize clA c=cs at *;generalize c.s=sp at *;generalize c.u=u at *;clear hw hc;have hW0:SecI cs gc #[.bool xa,.int .i64 xf,.int .i64 xu,.int .i64 xp] u z R w ((w.alloc (.cells cs 60)).alloc (.cells #[.bool xa,.int .i64 xf,.int .i64 xu,.int .i64 xp] 224)) false false false false false false false undef undef undef undef undef undef undef:=by
  have hs:(w.alloc (.cells cs 60)).heap.size=w.heap.size+1:=by simp
  refine⟨((waC _ w).alloc (waJ _) _).alloc (by simp) _,Arr.below HX.out (Arr.lt HX.out dQ) ((waC _ _).alloc (waJ _) _),fun j v hv=>?_,by simp,by simp,by simp,by simp,by simp,by simp,by simp,by simp⟩
  rw[<-hs];exact zaa rfl hv
 have H0:=waV hW0;clear hW0 HX
 by_cases hok:xa=true/\0<=xp/\B=true
 ·obtain⟨rfl,hxp,rfl⟩:=hok;have HPa:=waV (HPl.out ⟨rfl,hxp,rfl⟩);have HSa:=waV (HSt.out ⟨rfl,hxp,rfl⟩);clear HId HD HPl HSt;have hxn:¬xp<0:=by omega
  by_cases hc:0<z/\(1<sp\/0<xp)
  ·have HSb:=waV (HSa.out hc);clear HPa HSa;have hz0:=hc.1;go_enter func238,ntmps238
   go_wp2_with (first|(refine zag (by rfl) 60 _ rfl cs w.heap.size 0 rfl underlying60 rfl HI.out (zdM (HA.out _ _ H0.out.arr)) ?_)|fail)
   refine(HM.out _).mono ?_;rintro e w3 ⟨rfl,hq3⟩;have H3:=waV (H0.out.mono hq3);clear hq3 H0;have x3:=H3.out.xs 3 _ rfl;have c25:w3.cell? ⟨w.heap.size,25,none⟩=some (.int .i64 u):=(H3.out.arr.1 25 (by decide)).trans (by rw[g25])
   have c26:w3.cell? ⟨w.heap.size,26,none⟩=some (.int .i64 sp):=(H3.out.arr.1 26 (by decide)).trans (by rw[g26])
   go_wp2_with fail;refine(HZ.out _).mono ?_;rintro e w4 ⟨rfl,hq4⟩;have H4:=waV (H3.out.mono hq4);clear hq4 H3 x3 c25 c26;have x0:=H4.out.xs 0 _ rfl;have x1:=H4.out.xs 1 _ rfl;have x2:=H4.out.xs 2 _ rfl;have x3:=H4.out.xs 3 _ rfl;have c25:w4.cell? ⟨w.heap.size,25,none⟩=some (.int .i64 u):=(H4.out.arr.1 25 (by decide)).trans (by rw[g25])
   have c26:w4.cell? ⟨w.heap.size,26,none⟩=some (.int .i64 sp):=(H4.out.arr.1 26 (by decide)).trans (by rw[g26])
   by_cases h1s:1<sp
   case' neg=>have h2s:0<xp:=by omega
   all_goals
    go_wp2;refine zfd kQ kQ (I:=fun L a V=>∃(l0 l1 l2 l3 l4 l5 l6:Bool) (v35 v36 v37 v38 v39 v40 v4:Value) (uu:Nat->Value),L=#[l0,l1,l2,l3,l4,l5,l6]/\a={tmps:=List.toArray (.agg cs::.agg #[.bool true,.int .i64 xf,.int .i64 xu,.int .i64 xp]::.pointer (some ⟨w.heap.size,0,none⟩)::.pointer (some ⟨w.heap.size+1,0,none⟩)::v4::uu 5::uu 6::uu 7::uu 8::uu 9::uu 10::uu 11::uu 12::uu 13::uu 14::uu 15::uu 16::uu 17::uu 18::uu 19::uu 20::uu 21::uu 22::uu 23::uu 24::uu 25::uu 26::uu 27::uu 28::uu 29::uu 30::uu 31::uu 32::uu 33::uu 34::v35::v36::v37::v38::v39::v40::uu 41::uu 42::uu 43::[]),defers:=[]}/\Hid (SecI cs gc #[.bool true,.int .i64 xf,.int .i64 xu,.int .i64 xp] u z R w V l0 l1 l2 l3 l4 l5 l6 v35 v36 v37 v38 v39 v40 v4)) ?size ?start ?step ?done
    case size=>
     rintro L a V ⟨l0,l1,l2,l3,l4,l5,l6,v35,v36,v37,v38,v39,v40,v4,uu,rfl,_⟩;rfl
    case start=>exact⟨false,false,false,false,false,false,false,_,_,_,_,_,_,_,(fun i=>(List.toArray (undef::undef::undef::undef::undef::_::_::_::_::_::_::_::_::_::_::_::_::_::_::_::_::_::_::_::_::_::_::_::_::_::_::_::_::_::_::undef::undef::undef::undef::undef::undef::_::_::_::[])).getD i undef),rfl,rfl,⟨H4.out.below.drew,H4.out.arr,H4.out.xs,by simp,by simp,by simp,by simp,by simp,by simp,by simp,H4.out.zx⟩⟩
    case step=>
     rintro L a V i o ⟨l0,l1,l2,l3,l4,l5,l6,v35,v36,v37,v38,v39,v40,v4,uu,rfl,rfl,H⟩ ho h2 h3;have hi7:i<7:=(waL.1 ho).1;obtain rfl|rfl|rfl|rfl|rfl|rfl|rfl:i=0\/i=1\/i=2\/i=3\/i=4\/i=5\/i=6:=by omega
     ·have e0:l0=false:=h2;subst e0;obtain rfl:=waB ho;clear h2 h3 ho;refine za3 rfl fun K' hK=>?_
      have HK:=waV hK;clear hK
      go_wp2_with (first|(refine zag (by rfl) 60 _ rfl cs w.heap.size 0 rfl underlying60 rfl HI.out (zdM (HA.out _ _ H.out.arr)) ?_)|fail)
      exact HK.out _ _ ⟨true,l1,l2,l3,l4,l5,l6,_,_,_,_,_,_,_,uu,rfl,rfl,{H.out with k0:=fun _=>rfl}⟩
     ·have e0:l1=false:=h2;subst e0;obtain rfl:=waB ho;clear h2 h3 ho;refine za3 rfl fun K' hK=>?_
      have HK:=waV hK;clear hK;have q0:=H.out.xs 0 _ rfl;have q1:=H.out.xs 1 _ rfl;have q2:=H.out.xs 2 _ rfl;have q3:=H.out.xs 3 _ rfl;go_wp2;exact HK.out _ _ ⟨l0,true,l2,l3,l4,l5,l6,_,_,_,_,_,_,_,uu,rfl,rfl,{H.out with k1:=fun _=>rfl}⟩
     ·have e0:l2=false:=h2;subst e0;obtain rfl:=waB ho;clear h2 h3 ho;refine za3 rfl fun K' hK=>?_
      have HK:=waV hK;clear hK;go_wp2;exact HK.out _ _ ⟨l0,l1,true,l3,l4,l5,l6,_,_,_,_,_,_,_,uu,rfl,rfl,{H.out with k2:=fun _=>rfl}⟩
     ·have e0:l3=false:=h2;subst e0;obtain rfl:=waB ho;have d2:l2=true:=h3 ⟨2,.data⟩ (by simp) rfl
      obtain rfl:=H.out.k2 d2;clear h2 h3 ho;refine za3 rfl fun K' hK=>?_
      have HK:=waV hK;clear hK;have q25:V.cell? ⟨w.heap.size,25,none⟩=some (.int .i64 u):=(H.out.arr.1 25 (by decide)).trans (by rw[g25])
      go_wp2;exact HK.out _ _ ⟨l0,l1,l2,true,l4,l5,l6,_,_,_,_,_,_,_,uu,rfl,rfl,{H.out with k3:=fun _=>rfl}⟩
     ·have e0:l4=false:=h2;subst e0;obtain rfl:=waB ho;have d3:l3=true:=h3 ⟨3,.data⟩ (by simp) rfl
      obtain rfl:=H.out.k3 d3;clear h2 h3 ho;refine za3 rfl fun K' hK=>?_
      have HK:=waV hK;clear hK
      go_wp2_with (go_at_call 137;refine(HZ.out _).mono ?_;rintro e w5 ⟨rfl,hq5⟩)
      have HM5:=H.out.mono hq5;exact HK.out _ _ ⟨l0,l1,l2,l3,true,l5,l6,_,_,_,_,_,_,_,uu,rfl,rfl,{HM5 with k4:=fun _=>rfl}⟩
     ·have e0:l5=false:=h2;subst e0;obtain rfl:=waB ho;have d0:l0=true:=h3 ⟨0,.data⟩ (by simp) rfl
      obtain rfl:=H.out.k0 d0;have d1:l1=true:=h3 ⟨1,.data⟩ (by simp) rfl
      obtain rfl:=H.out.k1 d1;have d4:l4=true:=h3 ⟨4,.data⟩ (by simp) rfl
      obtain rfl:=H.out.k4 d4;clear h2 h3 ho;refine za3 rfl fun K' hK=>?_
      have HK:=waV hK;clear hK
      go_wp2_with (go_at_call 269;refine(HSb.out _ H.out.below).mono ?_;rintro e w5 ⟨b,rfl,hb1,hb2,hb3⟩)
      have HM5:=H.out.mono hb3;exact HK.out _ _ ⟨l0,l1,l2,l3,l4,true,l6,_,_,_,_,_,_,_,uu,rfl,rfl,{HM5 with k5:=fun _=>⟨b,rfl,waW H.out.below.size hb1,hb2⟩,k6:=fun h=>absurd (H.out.k6 h).1 dQ}⟩
     ·have e0:l6=false:=h2;subst e0;obtain rfl:=waB ho;have d5:l5=true:=h3 ⟨5,.data⟩ (by simp) rfl
      clear h2 h3 ho;refine za3 rfl fun K' hK=>?_
      have HK:=waV hK;clear hK;go_wp2;exact HK.out _ _ ⟨l0,l1,l2,l3,l4,l5,true,_,_,_,_,_,_,_,uu,rfl,rfl,{H.out with k6:=fun _=>⟨d5,rfl⟩}⟩
    case done=>
     rintro L a V ⟨l0,l1,l2,l3,l4,l5,l6,v35,v36,v37,v38,v39,v40,v4,uu,rfl,rfl,H⟩ hdn;have d0:l0=true:=hdn 0 dQ;have d1:l1=true:=hdn 1 dQ;have d2:l2=true:=hdn 2 dQ;have d3:l3=true:=hdn 3 dQ;have d4:l4=true:=hdn 4 dQ;have d5:l5=true:=hdn 5 dQ;have d6:l6=true:=hdn 6 dQ;subst d0 d1 d2 d3 d4 d5 d6;obtain⟨b,hb0,hb1,hb2⟩:=H.out.k5 rfl;have hv4:=(H.out.k6 rfl).2;have hbw:=H.out.below;subst hb0;subst hv4;clear H hdn;go_wp2;go_ret;exact⟨b,rfl,hb1,hb2,hbw⟩
  ·have HPb:=waV (HPa.out hc);clear HSa HPa;go_enter func238,ntmps238
   go_wp2_with (first|(refine zag (by rfl) 60 _ rfl cs w.heap.size 0 rfl underlying60 rfl HI.out (zdM (HA.out _ _ H0.out.arr)) ?_)|fail)
   refine(HM.out _).mono ?_;rintro e w3 ⟨rfl,hq3⟩;have H3:=waV (H0.out.mono hq3);clear hq3 H0;have x3:=H3.out.xs 3 _ rfl;have c25:w3.cell? ⟨w.heap.size,25,none⟩=some (.int .i64 u):=(H3.out.arr.1 25 (by decide)).trans (by rw[g25])
   have c26:w3.cell? ⟨w.heap.size,26,none⟩=some (.int .i64 sp):=(H3.out.arr.1 26 (by decide)).trans (by rw[g26])
   go_wp2_with fail;refine(HZ.out _).mono ?_;rintro e w4 ⟨rfl,hq4⟩;have H4:=waV (H3.out.mono hq4);clear hq4 H3 x3 c25 c26;have x0:=H4.out.xs 0 _ rfl;have x1:=H4.out.xs 1 _ rfl;have x2:=H4.out.xs 2 _ rfl;have x3:=H4.out.xs 3 _ rfl;have c25:w4.cell? ⟨w.heap.size,25,none⟩=some (.int .i64 u):=(H4.out.arr.1 25 (by decide)).trans (by rw[g25])
   have c26:w4.cell? ⟨w.heap.size,26,none⟩=some (.int .i64 sp):=(H4.out.arr.1 26 (by decide)).trans (by rw[g26])
   by_cases hz:0<z
   case' pos=>
    have n1:¬1<sp:=fun h=>hc ⟨hz,.inl h⟩
    have n2:¬0<xp:=fun h=>hc ⟨hz,.inr h⟩
   all_goals
    go_wp2_with (first|(refine zag (by rfl) 60 _ rfl cs w.heap.size 0 rfl underlying60 rfl HI.out (zdM (HA.out _ _ H4.out.arr)) ?_)|fail)
    refine(HPb.out _ H4.out.below).mono ?_;rintro e w5 ⟨b,rfl,hb1,hb2,hb3⟩;go_wp2;go_ret;exact⟨b,rfl,waW H4.out.below.size hb1,hb2,zaf H4.out.below hb3 H4.out.below.size⟩
 ·have HR:=waV (HId.out hok);clear HId HPl HSt;cases xa with
  |false=>
   go_enter func238,ntmps238;go_wp2_with fail;refine(HD.out _).mono ?_;rintro e w2 ⟨rfl,hd,hq⟩;rw[World.size_alloc,World.size_alloc] at hd;go_wp2;go_ret;exact⟨_,rfl,by omega,by rw[HR.out];exact hd,zaf H0.out.below hq H0.out.below.size⟩
  |true=>
   by_cases hxp:xp<0
   ·go_enter func238,ntmps238;go_wp2_with fail;refine(HD.out _).mono ?_;rintro e w2 ⟨rfl,hd,hq⟩;rw[World.size_alloc,World.size_alloc] at hd;go_wp2;go_ret;exact⟨_,rfl,by omega,by rw[HR.out];exact hd,zaf H0.out.below hq H0.out.below.size⟩
   ·cases B with
    |true=>exact absurd ⟨rfl,by omega,rfl⟩ hok
    |false=>
     go_enter func238,ntmps238
     go_wp2_with (first|(refine zag (by rfl) 60 _ rfl cs w.heap.size 0 rfl underlying60 rfl HI.out (zdM (HA.out _ _ H0.out.arr)) ?_)|fail)
     refine(HM.out _).mono ?_;rintro e w3 ⟨rfl,hq3⟩;have H3:=waV (H0.out.mono hq3);clear hq3;go_wp2_with fail;refine(HD.out _).mono ?_;rintro e w2 ⟨rfl,hd,hq⟩;go_wp2;go_ret;exact⟨_,rfl,waW H3.out.below.size (waJ _),by rw[HR.out];exact hd,zaf H3.out.below hq H3.out.below.size⟩
end Go.Proofs.YtllcdbgjeidlkaaGreatDoor
namespace Go.Proofs.YtllcdbgjeidlkaaGreatDoor
open Go.Proofs.Tryz
open Go.RowKit
open Go.Maps
section
variable {P : Program}
structure KeyRun (P:Program) (k:TypeId) (w:World) (S:Value->Prop):Prop where
 check:∀em v,S v->(Instr.checkKey em 10000 k v).run P w=.ok () w
 find:∀x,S x->∀es:List MapEntry,(∀e∈es,S e.key)->((Instr.findKey k x es).run P w=.ok none w/\∀e∈es,e.key≠x)\/∃j e,(Instr.findKey k x es).run P w=.ok (some (j,e.val)) w/\es[j]?=some e/\e.key=x
theorem KeyRun.of_keyed {k:TypeId} (K:Keyed P k) (w:World):KeyRun P k w (fun v=>∃l,keyOf P k v=some l):=
 ⟨fun em v ⟨l,h⟩=>K.check w em h,fun x ⟨l,h⟩ es hes=>K.find w h es hes⟩
theorem zdk {w:World} {b c:Nat} {es:Array MapEntry} (h:w.heap[b]?=some (.map es c)):(getObj b).run P w=.ok (.map es c) w:=by simp[getObj,Sem.run,h]
theorem zh9 {w:World} {b c:Nat} {es:Array MapEntry} (o:Obj) (h:w.heap[b]?=some (.map es c)):(setObj b o).run P w=.ok () (w.putObj b o):=by simp[setObj,Sem.run,h,World.putObj]
theorem zbo {w:World} {b c:Nat} {es:Array MapEntry} {T k e:TypeId} {z x:Value} {S:Value->Prop} (hT:P.underlying T=some (.map k e)) (hz:(zeroValue e).run P w=.ok z w) (hb:w.heap[b]?=some (.map es c))
 (K:KeyRun P k w S) (hx:S x) (hes:∀q∈es.toList,S q.key):
 (∃q∈es.toList,q.key=x/\∀ok,(Instr.lookup T (.map (some b)) x ok).run P w=.ok (if ok then .tuple #[q.val,.bool true] else q.val) w)\/
   ((∀q∈es.toList,q.key≠x)/\∀ok,(Instr.lookup T (.map (some b)) x ok).run P w=.ok (if ok then .tuple #[z,.bool false] else z) w):=by
 have hc:=K.check es.isEmpty x hx;rcases K.find x hx es.toList hes with ⟨h1,h2⟩|⟨j,q,h1,h2,h3⟩
 ·refine .inr ⟨h2,fun ok=>?_⟩
  unfold Instr.lookup;cases ok<;>simp [Sem.run_bind,run_underlying hT,Result.andThen,zdk hb,hc,h1,hz]
 ·refine .inl ⟨q,List.mem_of_getElem? h2,h3,fun ok=>?_⟩
  unfold Instr.lookup;cases ok<;>simp [Sem.run_bind,run_underlying hT,Result.andThen,zdk hb,hc,h1]
theorem zb3 {w:World} {b c:Nat} {es:Array MapEntry} {T k e:TypeId} {x v:Value} {S:Value->Prop} (hT:P.underlying T=some (.map k e)) (hb:w.heap[b]?=some (.map es c))
 (K:KeyRun P k w S) (hx:S x) (hes:∀q∈es.toList,S q.key) (hno:∀q∈es.toList,q.key≠x):
 (Instr.mapUpdate T (.map (some b)) x v).run P w=.ok () (w.putObj b (.map (es.push {key:=x,val:=v,born:=c}) (c+1))):=by
 have hc:=K.check false x hx;rcases K.find x hx es.toList hes with ⟨h1,h2⟩|⟨j,q,h1,h2,h3⟩
 ·unfold Instr.mapUpdate;simp only[Sem.run_bind,run_underlying hT,Result.andThen,zdk hb,hc,h1,zh9 _ hb]
 ·exact absurd h3 (hno q (List.mem_of_getElem? h2))
theorem zc4 {w:World} {b c:Nat} {es:Array MapEntry} {T U k e:TypeId} (hT:P.underlying T=some (.map k e)) (hb:w.heap[b]?=some (.map es c)):
 (Builtin.clear_ #[T] U #[.map (some b)]).run P w=.ok (.tuple #[]) (w.putObj b (.map #[] c)):=by
 unfold Builtin.clear_;simp only[List.getElem?_toArray,List.getElem?_cons_zero];simp only[Sem.run_bind,run_underlying hT,Result.andThen,zdk hb,zh9 _ hb,Sem.run_pure]
def zf3 (w:World) (v:Value):Prop:=∃b cs t,v=.pointer (some ⟨b,0,none⟩)/\w.heap[b]?=some (.cells cs t (0,0))
theorem zjb {w:World} {tp te:TypeId} {j:TypeInfo} (hp:P.underlying tp=some (.pointer te)) (hte:P.info? te=some j) (hsz:j.size≠0) {x y:Value} (hx:zf3 w x) (hy:zf3 w y):
 ∃r:Bool,(Op.equal tp x y).run P w=.ok r w/\(r=true↔y=x):=by
 obtain⟨b,cs,t,rfl,hb⟩:=hx;obtain⟨b',cs',t',rfl,hb'⟩:=hy
 by_cases e:b=b'
 ·subst e;refine⟨true,?_,by simp⟩
  have h:∀d:Nat,(Op.equalIn (d+1) tp (.pointer (some ⟨b,0,none⟩)) (.pointer (some ⟨b,0,none⟩))).run P w=.ok true w:=fun d=>by
   simp[Op.equalIn,run_underlying hp,sizeOf,typeInfo,hte,run_sameAddr_same]
  simp[Op.equal,Op.maxDepth,h 9999]
 ·refine⟨false,?_,⟨(fun h=>by cases h),(fun h=>by injection h with h;injection h with h;injection h with h;exact absurd h.symm e)⟩⟩
  have hne:(⟨b,0,none⟩:Addr)≠⟨b',0,none⟩:=fun h=>by injection h with h;exact e h
  have h:∀d:Nat,(Op.equalIn (d+1) tp (.pointer (some ⟨b,0,none⟩)) (.pointer (some ⟨b',0,none⟩))).run P w=.ok false w:=fun d=>by
   simp[Op.equalIn,run_underlying hp,sizeOf,typeInfo,hte,hsz,run_sameAddr_other w hne hb hb']
  simp[Op.equal,Op.maxDepth,h 9999]
theorem zfO {w:World} {k:TypeId} {S:Value->Prop} (heq:∀{x y:Value},S x->S y->∃r:Bool,(Op.equal k x y).run P w=.ok r w/\(r=true↔y=x)) {x:Value} (hx:S x):
 ∀(es:List MapEntry) (i:Nat),(∀e∈es,S e.key)->((Instr.findAsking k x es i).run P w=.ok none w/\∀e∈es,e.key≠x)\/∃j e,(Instr.findAsking k x es i).run P w=.ok (some (i+j,e.val)) w/\es[j]?=some e/\e.key=x
 |[],i,_=>.inl ⟨rfl,fun e h=>by cases h⟩
 |e::es,i,h=>by
  obtain⟨r,hr,hi⟩:=heq hx (h e (by simp))
  cases r with
  |true=>
   refine .inr ⟨0,e,?_,rfl,hi.1 rfl⟩;unfold Instr.findAsking;simp[Sem.run_bind,hr,Result.andThen]
  |false=>
   rcases zfO heq hx es (i+1) (fun e he=>h e (by simp[he])) with ⟨h1,h2⟩|⟨j,q,h1,h2,h3⟩
   ·refine .inl ⟨?_,fun q hq=>?_⟩
    ·unfold Instr.findAsking;simp[Sem.run_bind,hr,Result.andThen,h1]
    ·rcases List.mem_cons.1 hq with rfl|hq
     ·intro e2;have:=hi.2 e2;cases this
     ·exact h2 q hq
   ·refine .inr ⟨j+1,q,?_,by simpa using h2,h3⟩
    unfold Instr.findAsking;simp only[Sem.run_bind,hr,Result.andThen];simp[h1];omega
theorem KeyRun.ptr {k te:TypeId} {j:TypeInfo} (hp:P.underlying k=some (.pointer te)) (hte:P.info? te=some j) (hsz:j.size≠0) (w:World):KeyRun P k w (zf3 w):=by
 refine⟨fun em v ⟨b,cs,t,hv,_⟩=>?_,fun x hx es hes=>?_⟩
 ·subst hv;show(Instr.checkKey em (9999+1) k _).run P w=_;unfold Instr.checkKey;simp only[Sem.run_bind,run_underlying hp,Result.andThen];rfl
 ·have h0:∀d:TypeDesc,d=.pointer te->∀es:List MapEntry,(∀e∈es,zf3 w e.key)->∀i,Instr.findNow d x es i=none\/(es=[]/\Instr.findNow d x es i=some none):=by
   intro d hd es hes i;cases es with
   |nil=>exact .inr ⟨rfl,rfl⟩
   |cons e es=>
    left;obtain⟨b,cs,t,hx1,_⟩:=hx;obtain⟨b',cs',t',hk1,_⟩:=hes e (by simp)
    subst hd;simp[Instr.findNow,Instr.sameNow,hx1,hk1]
  have hf:(Instr.findKey k x es).run P w=(Instr.findAsking k x es).run P w:=by
   unfold Instr.findKey;simp only[Sem.run_bind,run_underlying hp,Result.andThen];rcases h0 _ rfl es hes 0 with h|⟨rfl,h⟩
   ·rw[h]
   ·rw[h];rfl
  rw[hf];rcases zfO (fun hx hy=>zjb hp hte hsz hx hy) hx es 0 hes with h|⟨j,q,h1,h2,h3⟩
  ·exact .inl h
  ·exact .inr ⟨j,q,by rw[waH] at h1;exact h1,h2,h3⟩
end
end Go.Proofs.YtllcdbgjeidlkaaGreatDoor
namespace Go.Proofs.YtllcdbgjeidlkaaGreatDoor
open Go.Proofs.Tryz
def stG (x:Nat->LSt) (j:Nat):Value:=if j%4=0 then .bool (x (j / 4)).act else if j%4=1 then .int .i64 (x (j / 4)).fr else if j%4=2 then .int .i64 (x (j / 4)).un else .int .i64 (x (j / 4)).ph
def zb4 (x:Nat->LSt):Array Value:=(Array.range 32).map (stG x)
def zbW (x:Nat->LSt):Value:=.agg (zb4 x)
theorem zaS (x:Nat->LSt):(zb4 x).size=32:=by simp[zb4]
theorem zc5 (x:Nat->LSt) (j:Nat) (h:j<32):(zb4 x)[j]?=some (stG x j):=by simp[zb4,h]
theorem zqg {x y:Nat->LSt} (h:zb4 x=zb4 y):∀i,i<8->x i=y i:=fun i hi=>by
 have g:∀j,j<32->stG x j=stG y j:=fun j hj=>by
  have e1:=zc5 x j hj;rw[h,zc5 y j hj] at e1;exact(waB e1).symm
 have a0:=g (4 * i) oQ;have a1:=g (4 * i+1) oQ;have a2:=g (4 * i+2) oQ;have a3:=g (4 * i+3) oQ;unfold stG at a0 a1 a2 a3;rw[show (4 * i)%4=0 by omega,show 4 * i / 4=i by omega] at a0
 rw[show (4 * i+1)%4=1 by omega,show(4 * i+1) / 4=i by omega] at a1
 rw[show (4 * i+2)%4=2 by omega,show(4 * i+2) / 4=i by omega] at a2
 rw[show (4 * i+3)%4=3 by omega,show(4 * i+3) / 4=i by omega] at a3
 simp at a0 a1 a2 a3;cases hx:x i;cases hy:y i;rw[hx,hy] at a0 a1 a2 a3
 simp_all
structure RollD where
 b:Nat
 bl:Nat
 bp:Nat
 km:Nat
 pm:Nat->Nat
 A:Option Addr
 cc:Nat
 Al:Option Addr
 cl:Nat
 Ap:Option Addr
 cp:Nat
 g:Nat->Nat
 lb:Nat->Array Value
 gl:Nat->Nat
 gh:Nat->Nat
def RollD.mv (d:RollD) (n k:Nat):Prop:=k=d.b\/k=d.km\/∃i,i<n/\k=d.pm i
structure RollF (W:World) (d:RollD) (L:List Cl) (lo hi:Nat):Prop where
 n8:L.length<=8
 set:zeJ L=true
 bits:∀c,c∈L->zbC c/\c.s<=9223372036854775807
 lb0:lo<=d.b/\d.b<hi
 lk:lo<=d.km/\d.km<hi
 lp:∀i,i<L.length->lo<=d.pm i/\d.pm i<hi
 hw:hi<=W.heap.size
 c0:W.cell? ⟨d.b,0,none⟩=some (.slice d.A L.length d.cc)
 c1:W.cell? ⟨d.b,1,none⟩=some (.slice d.Al L.length d.cl)
 c2:W.cell? ⟨d.b,2,none⟩=some (.map (some d.km))
 c3:W.cell? ⟨d.b,3,none⟩=some (.slice d.Ap L.length d.cp)
 fz:∀j,W.frozen? ⟨d.b,j,none⟩=false
 rd:zbh W d.A L.length L
 rA:∀x,0<L.length->d.A=some x->lo<=x.block/\x.block<hi/\¬d.mv L.length x.block
 al:0<L.length->d.Al=some ⟨d.bl,0,none⟩/\lo<=d.bl/\d.bl<hi/\¬d.mv L.length d.bl
 ap:0<L.length->d.Ap=some ⟨d.bp,0,none⟩/\lo<=d.bp/\d.bp<hi/\¬d.mv L.length d.bp
 fn:∀i,i<L.length->W.cell? ⟨d.bl,i,none⟩=some (.func (.func (d.g i)) #[] (d.lb i))/\(∀args w,(callFunc (d.g i) args).run prog w=.ok (.enter (d.g i) args) w)/\zgN (d.g i) (d.lb i) (zeE L i) (d.gl i) (d.gh i) W/\lo<=d.gl i/\d.gh i<=hi/\∀k,d.mv L.length k->k<d.gl i\/d.gh i<=k
 pc:∀i,i<L.length->W.cell? ⟨d.bp,i,none⟩=some (.map (some (d.pm i)))
 pne:∀i j,i<L.length->j<L.length->d.pm i=d.pm j->i=j
 kne:d.km≠d.b/\(∀i,i<L.length->d.pm i≠d.b/\d.pm i≠d.km)
end Go.Proofs.YtllcdbgjeidlkaaGreatDoor
namespace Go.Proofs.YtllcdbgjeidlkaaGreatDoor
open Go.Proofs.Tryz
open Go.RowKit
open Go.Maps
structure WfS (x:LSt):Prop where
 f0:-9223372036854775808<=x.fr
 f1:x.fr<=9223372036854775807
 u0:-9223372036854775808<=x.un
 u1:x.un<=9223372036854775807
 p0:-9223372036854775808<=x.ph
 p1:x.ph<=9223372036854775807
theorem zuP:WfS stZ:=⟨by decide,by decide,by decide,by decide,by decide,by decide⟩
theorem zxq {c:Cl} {n:Int} (hs:c.s<=9223372036854775807):WfS (zlh c n):=by
 unfold zlh;split
 ·have hf:0<=zhD c n/\zhD c n<86400:=by unfold zhD;split<;>omega
  have hu:0<=zeK c n/\zeK c n<86400:=by unfold zeK;split<;>omega
  have hp:0<=zbN c n/\zbN c n<=9223372036854775807:=by
   unfold zbN;split
   ·rename_i h;have h1:=Int.emod_nonneg (c.a / zap c.u - n * 86400 / zap c.u) (show c.s≠0 by omega)
    have h2:=Int.emod_lt_of_pos (c.a / zap c.u - n * 86400 / zap c.u) (show 0<c.s by omega)
    omega
   ·omega
  refine⟨?_,?_,?_,?_,?_,?_⟩<;>dsimp only<;>omega
 ·exact zuP
theorem zuQ {n:Int} (h0:-9223372036854775808<=n) (h1:n<=9223372036854775807):(Lit.int .i64 n).wf=true:=by
 have e1:IntKind.i64.min=-9223372036854775808:=by kernel_rfl
 have e2:IntKind.i64.max=9223372036854775807:=by kernel_rfl
 simp[Lit.wf];omega
theorem zmS {α β:Type} {f:α->Option β}:∀(l:List α),(∀a∈l,∃y,f a=some y)->∃ys,l.mapM f=some ys
 |[],_=>⟨[],rfl⟩
 |a::l,h=>by
  obtain⟨y,hy⟩:=h a (by simp)
  obtain⟨ys,hys⟩:=zmS l (fun b hb=>h b (by simp[hb]))
  exact⟨y::ys,by rw[List.mapM_cons,hy,hys];rfl⟩
theorem zqh (d:Nat) (b:Bool):prog.keyLits (d+1) 4 [.bool b]=some [.bool b]:=by
 unfold Program.keyLits;rw[underlying4]
theorem zmT (d:Nat) {n:Int} (h0:-9223372036854775808<=n) (h1:n<=9223372036854775807):prog.keyLits (d+1) 3 [.int .i64 n]=some [.int .i64 n]:=by
 unfold Program.keyLits;rw[underlying3];dsimp only;rw[if_pos ⟨rfl,zuQ h0 h1⟩]
theorem zn5 (d:Nat) {n:Int} (h0:-9223372036854775808<=n) (h1:n<=9223372036854775807):prog.keyLits (d+1) 2 [.int .i64 n]=some [.int .i64 n]:=by
 unfold Program.keyLits;rw[underlying2];dsimp only;rw[if_pos ⟨rfl,zuQ h0 h1⟩]
theorem zmU (d:Nat) {x:LSt} (h:WfS x):∃l,prog.keyLits (d+2) 224 [.bool x.act,.int .i64 x.fr,.int .i64 x.un,.int .i64 x.ph]=some l:=by
 have hc:prog.cellsOf 224=4:=by kernel_rfl
 have h1:prog.cellsOf 4=1:=by kernel_rfl
 have h2:prog.cellsOf 2=1:=by kernel_rfl
 have h3:prog.cellsOf 3=1:=by kernel_rfl
 unfold Program.keyLits;rw[underlying224];dsimp only;rw[hc,if_pos ⟨rfl,by kernel_rfl⟩]
 simp only[List.mapM_cons,List.mapM_nil,h1,h2,h3,List.drop,List.take,zqh d,zmT d h.f0 h.f1,zmT d h.u0 h.u1,zn5 d h.p0 h.p1];exact⟨_,rfl⟩
theorem zmV:∃m,prog.types.size+1=m+3:=⟨prog.types.size - 2,by have:2<=prog.types.size:=waA kQ;omega⟩
theorem zkl {x:LSt} (h:WfS x):∃l,keyOf prog 224 (zdQ x)=some l:=by
 have hk:prog.keyType 224=true:=by kernel_rfl
 have hf:(zdQ x).formed prog 224=true:=by
  have hc:prog.cellsOf 224=4:=by kernel_rfl
  simp[zdQ,Value.formed,underlying224,hc]
 obtain⟨m,hm⟩:=zmV;obtain⟨l,hl⟩:=zmU (m+1) h;unfold keyOf;rw[underlying224];dsimp only;rw[hk,hf,hm,show(zdQ x).cells.toList=[.bool x.act,.int .i64 x.fr,.int .i64 x.un,.int .i64 x.ph] from rfl,show m+3=m+1+2 from rfl,hl]
 exact⟨_,rfl⟩
theorem zg0 {x:Nat->LSt} (h:∀i,i<8->WfS (x i)):∃l,keyOf prog 240 (zbW x)=some l:=by
 have hk:prog.keyType 240=true:=by kernel_rfl
 have hc:prog.cellsOf 240=32:=by kernel_rfl
 have h4:prog.cellsOf 224=4:=by kernel_rfl
 have hf:(zbW x).formed prog 240=true:=by
  simp[zbW,Value.formed,underlying240,hc,zaS]
 obtain⟨m,hm⟩:=zmV;have hall:∃ys,((List.range 8).mapM fun i=>prog.keyLits (m+2) 224 (((zb4 x).toList.drop (i * prog.cellsOf 224)).take (prog.cellsOf 224)))=some ys:=by
  refine zmS _ fun i hi=>?_
  have hi8:=wbG.1 hi;obtain⟨l,hl⟩:=zmU m (h i hi8);refine⟨l,?_⟩;rw[h4,<-hl];refine congrArg (prog.keyLits (m+2) _) ?_;refine List.ext_getElem? fun j=>?_
  rw[List.getElem?_take]
  by_cases hj:j<4
  ·rw[if_pos hj,List.getElem?_drop,Array.getElem?_toList,zc5 _ _ (by omega)]
   unfold stG;rw[show (i * 4+j)%4=j by omega,show(i * 4+j) / 4=i by omega]
   obtain rfl|rfl|rfl|rfl:j=0\/j=1\/j=2\/j=3:=by omega
   all_goals rfl
  ·rw[if_neg hj,List.getElem?_eq_none (by simp;omega)]
 obtain⟨ys,hys⟩:=hall;unfold keyOf;rw[underlying240];dsimp only;rw[hk,hf,hm,show(zbW x).cells.toList=(zb4 x).toList from rfl,if_pos (show(true&&true)=true from rfl)]
 unfold Program.keyLits;rw[underlying240];dsimp only;rw[hc,if_pos (by rw[Array.length_toList,zaS]),hys]
 exact⟨_,rfl⟩
theorem zmW:laidOutB prog=true:=by kernel_rfl
theorem zkm:Keyed prog 224:=Keyed.of_law (deep_law_gate zmW (waA kQ) (waA kQ) kQ kQ)
theorem zg1:Keyed prog 240:=Keyed.of_law (deep_law_gate zmW (waA kQ) (waA kQ) kQ kQ)
end Go.Proofs.YtllcdbgjeidlkaaGreatDoor
