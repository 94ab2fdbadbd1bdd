/- A part of the proof: WCronread9 LCread LClow4 WTc9 WTcA RToc3 -/
import Derived.Test.YtadefhkaejjfmaaGreatDoorQ41
import Derived.Test.YtadefhkaejjfmaaGreatDoorQ30
import Derived.Test.YtadefhkaejjfmaaGreatDoorQ08
import Derived.Test.YtadefhkaejjfmaaGreatDoorQ40
import Derived.Test.YtadefhkaejjfmaaGreatDoorQ27
import Derived.Test.YtadefhkaejjfmaaGreatDoorQ39
set_option maxHeartbeats 80000000
set_option maxRecDepth 100000
set_option linter.unusedSimpArgs false
set_option linter.unusedVariables false
namespace Go.Proofs.YtadefhkaejjfmaaGreatDoor
open Go.Proofs.Tryz
open Go.RowKit
theorem zfR (l:Nat→List It) (t:Int):zr2 [zaD l] t=zgt l t:=by
 unfold zr2 ze2;simp[zgP,zsV]
theorem zoA {F G:Nat→List It} (h:∀k,k<5→F k=G k) (t:Int):zgt F t=zgt G t:=by
 unfold zgt;rw[h 0 (by decide),h 1 (by decide),h 2 (by decide),h 3 (by decide),h 4 (by decide)]
theorem znl (l:Nat→List It):chk l=(5,0)∧(∀k,k<5→zaJ k (l k)=0)∨(chk l).2≠0:=by
 by_cases h:∀k,k<5→zaJ k (l k)=0
 ·exact .inl ⟨ziM h,h⟩
 ·right;have h0:zaJ 0 (l 0)≠0∨zaJ 1 (l 1)≠0∨zaJ 2 (l 2)≠0∨zaJ 3 (l 3)≠0∨zaJ 4 (l 4)≠0:=by
   refine Classical.byContradiction fun hh=>h fun k hk=>?_
   simp only[not_or,Decidable.not_not] at hh;obtain⟨a0,a1,a2,a3,a4⟩:=hh;obtain rfl|rfl|rfl|rfl|rfl:k=0∨k=1∨k=2∨k=3∨k=4:=by omega
   all_goals assumption
  unfold chk zmj zmj zmj zmj zmj zmj;simp only[Nat.sub_self,Nat.reduceSub];split
  ·split
   ·split
    ·split
     ·split
      ·simp_all
      ·assumption
     ·assumption
    ·assumption
   ·assumption
  ·assumption
end Go.Proofs.YtadefhkaejjfmaaGreatDoor
namespace Go.Proofs.YtadefhkaejjfmaaGreatDoor
open Go.Proofs.Tryz
open Go.RowKit
open Go.Maps
theorem zoB {l:Nat→List It} {L:List Cl}:zkJ [zaD l] L↔zdj (zet l) (zak L):=by
 have e:∀n s,zak [zaD l] n s=zet l n s:=fun n s=>zfR l _
 constructor
 ·intro h n s h0 h1 hs;rw[←e];exact h n h0 h1 s hs
 ·intro h n h0 h1 s hs;rw[e];exact h n s h0 h1 hs
theorem zjI (l:Nat→List It):ze2 [zaD l]=true:=by unfold ze2;simp[zgP]
def ztT (l:Nat→List It) (P:Int→Nat→Bool) (w:World) (e:Ending) (w':World):Prop:=Below w.heap.size w w'∧∃b:Bool,e=.returned (.bool b)∧(b=true↔zcr l P)
theorem zoC (A:Nat→Option Addr) (n c:Nat→Nat) (l:Nat→List It) (A2:Option Addr) (n2 c2:Nat) (L:List Cl) (W:World) (hA:zbp W A n l) (hn:∀k,n k≤100000) (hnil:∀k,A k=none→n k=0)
 (hB:zbB W A2 n2 L) (hn2:n2≤8) (hnil2:A2=none→n2=0) (hbit2:∀c,c∈L→zcx c∧c.s≤9223372036854775807) (hset:ze2 L=true) (hw:Tz W):
 Calls prog 156 #[crV A n c,.slice A2 n2 c2] W (ztT l (zak L) W):=by
 have HOk:=waV (fun h V (hV:Below W.heap.size W V)=>zfP A n c l V (hA.below hV (waJ _)) hn hnil h)
 have HBad:=waV (fun h V (hV:Below W.heap.size W V)=>zfQ A n c l V (hA.below hV (waJ _)) (fun k=>waW (hn k) dQ) h)
 have HEq:=waV (fun b V (hV:Below W.heap.size W V) (hA1:zbB V (some ⟨b,0,none⟩) 1 [zaD l])=>ziy (some ⟨b,0,none⟩) A2 1 n2 1 c2 [zaD l] L V hA1 (by decide) (fun h=>(by cases h)) (fun c hc=>by rw[wbC.1 hc];exact⟨zhD l,show(1:Int)≤9223372036854775807 by decide⟩) (hB.below hV (waJ _)) (by omega) hnil2 hbit2 (hw.below hV))
 have he1:zcj 1 [zaD l]=0:=by unfold zcj;rw[if_neg (by decide),if_pos (zjI l)]
 have he2:zcj n2 L=0:=by unfold zcj;rw[if_neg (by omega),if_pos hset]
 have HE:Hid (erE (zcj 1 [zaD l]) (zcj n2 L)=0):=by show _=_;rw[he1,he2];rfl
 have HOr:=waV (znl l);clear hA hn hnil hB hn2 hnil2 hbit2 hset hw he1 he2;have hcr:crV A n c=.agg #[.slice (A 0) (n 0) (c 0),.slice (A 1) (n 1) (c 1),.slice (A 2) (n 2) (c 2),.slice (A 3) (n 3) (c 3),.slice (A 4) (n 4) (c 4)]:=rfl;rw[hcr];go_enter func156,ntmps156;go_wp2_with fail;have hb0:Below W.heap.size W (W.alloc (.cells #[.slice (A 0) (n 0) (c 0),.slice (A 1) (n 1) (c 1),.slice (A 2) (n 2) (c 2),.slice (A 3) (n 3) (c 3),.slice (A 4) (n 4) (c 4)] 60)):=(waC _ W).alloc (waJ _) _;generalize W.alloc (.cells #[.slice (A 0) (n 0) (c 0),.slice (A 1) (n 1) (c 1),.slice (A 2) (n 2) (c 2),.slice (A 3) (n 3) (c 3),.slice (A 4) (n 4) (c 4)] 60)=V0 at *;rcases HOr.out with ⟨hc,_⟩|hc
 ·refine(HOk.out (by rw[hc]) _ hb0).mono ?_
  rintro e w1 ⟨b,rfl,hr,hb1⟩;have hb01:=hb0.trans (hb1.mono hb0.size);have HQ:=waV (HEq.out b _ hb01 hr);have HC:=waV hc;clear hr hb1 hb0 hc HOr HOk HBad HEq;go_wp2_with fail;refine HQ.out.mono ?_;rintro e w2 ⟨hb2,y,f,t,rfl,hy⟩;have HY:=waV (hy HE.out);rw[HE.out];clear hy HQ;go_wp2_with fail;go_ret;refine⟨(hb01.trans (hb2.mono hb01.size)).alloc (waW hb01.size hb2.size) _,y,rfl,HY.out.trans (zoB.trans ⟨fun h=>⟨HC.out,h⟩,fun h=>h.2⟩)⟩
 ·refine(HBad.out hc _ hb0).mono ?_;rintro e w1 ⟨rfl,hb1⟩;have hne:((chk l).2==0)=false:=by rw[wbE];exact hc
  have HC:Hid (¬zcr l (zak L)):=fun h=>hc (congrArg Prod.snd h.1)
  clear hc HOr HOk HBad HEq;generalize (chk l).2=k at *;go_wp2_with fail;go_ret;exact⟨hb0.trans (hb1.mono hb0.size),false,rfl,fun h=>(by cases h),fun h=>absurd h HC.out⟩
def ztd (ok:Prop) (l:Nat→List It) (w:World) (e:Ending) (w':World):Prop:=Below w.heap.size w w'∧((¬ok∧e=.returned (.tuple #[.agg zbd,.bool false]))∨(ok∧∃v,e=.returned (.tuple #[v,.bool true])∧zaQ w' w.heap.size v l))
theorem zov.lb {P:Int→Nat→Bool} {w w':World} {e:Ending} (h:zov P w e w'):ztd (za8 (zaV P) (zbw P) (wkF P)=true) (zbS P) w e w':=by
 rcases h with ⟨hb,(⟨h1,h2⟩|h2)⟩
 ·exact⟨hb,.inl ⟨by rw[h1];decide,h2⟩⟩
 ·exact⟨hb,.inr h2⟩
theorem zaP {fn:Func} {p t:Tmp} (hf:fn.results=#[.cell p 60,.tmp t]) {tmps:Array Value} {W:World} {b:Nat} {v0 v1 v2 v3 v4 x:Value} (hp:tmps.getD p undef=.pointer (some ⟨b,0,none⟩)) (hx:tmps.getD t undef=x) (h:W.heap[b]?=some (.cells #[v0,v1,v2,v3,v4] 60 (0,0))):
 (results fn tmps).run prog W=.ok (.tuple #[.agg #[v0,v1,v2,v3,v4],x]) W:=by
 rw[zaz hf,hp,hx];have e:(asAddr (.pointer (some ⟨b,0,none⟩))).run prog W=.ok ⟨b,0,none⟩ W:=rfl;have hl:(loadVar 60 ⟨b,0,none⟩).run prog W=.ok (.agg #[v0,v1,v2,v3,v4]) W:=by
  have:=run_loadVar_mid (P:=prog) W b 0 60 [v0,v1,v2,v3,v4] _ (fun j v hj=>by rw[waH];exact zbE h j v (by simpa using hj)) underlying60 rfl (by kernel_rfl)
  simpa using this
 rw[e,Result.andThen_ok,hl,Result.andThen_ok]
theorem zaQ.five {w:World} {B:Nat} {v:Value} {l:Nat→List It} (h:zaQ w B v l):∃S0 n0 d0 S1 n1 d1 S2 n2 d2 S3 n3 d3 S4 n4 d4,v=.agg #[.slice S0 n0 d0,.slice S1 n1 d1,.slice S2 n2 d2,.slice S3 n3 d3,.slice S4 n4 d4]:=by
 obtain⟨v0,v1,v2,v3,v4,rfl,h0,h1,h2,h3,h4⟩:=h;obtain⟨S0,d0,rfl⟩:=zaC h0;obtain⟨S1,d1,rfl⟩:=zaC h1;obtain⟨S2,d2,rfl⟩:=zaC h2;obtain⟨S3,d3,rfl⟩:=zaC h3;obtain⟨S4,d4,rfl⟩:=zaC h4;exact⟨_,_,_,_,_,_,_,_,_,_,_,_,_,_,_,rfl⟩
theorem zaQ.rls {w w':World} {B b:Nat} {v:Value} {l:Nat→List It} {vs:Array Value} (h:zaQ w B v l) (hc:w.heap[b]?=some (.cells vs 60 (0,0))) (hr:RlS (·=b) w w'):zaQ w' B v l:=by
 obtain⟨v0,v1,v2,v3,v4,rfl,h0,h1,h2,h3,h4⟩:=h;have hS:=zbT hc;exact⟨_,_,_,_,_,rfl,zar h0 hr hS,zar h1 hr hS,zar h2 hr hS,zar h3 hr hS,zar h4 hr hS⟩
theorem zoD (P:Int→Nat→Bool) (g:Nat→Value) (hg:FaceOf P g) (ha:zfa P) (fb:Nat) (W:World) (hf:FaceAt W fb g) (hw:Tz W):
 Calls prog 152 #[.pointer (some ⟨fb,0,none⟩)] W (ztd (za8 (zaV P) (zbw P) (wkF P)=true) (zbS P) W):=by
 have HB:=waV (fun V (hV:Below W.heap.size W V)=>zrb P g hg ha V (hw.below hV))
 have HF:=waV hf;have HFi:=waV (zdD g);clear hw hg ha hf;obtain⟨cs,hcs⟩:∃cs,za5 g=cs:=⟨_,rfl⟩;have hL:∀V,Below W.heap.size W V→∀(j:Nat) v,cs[j]?=some v→V.cell? ⟨fb,0+j,none⟩=some v:=fun V hV=>by subst hcs;exact zcw (HF.out.below hV).lies
 have HLd:=waV (hL (W.alloc (.cells #[.slice none 0 0,.slice none 0 0,.slice none 0 0,.slice none 0 0,.slice none 0 0] 60)) ((waC _ W).alloc (waJ _) _));rw[hcs] at HB HFi;clear hcs hL;go_enter func152,ntmps152
 go_wp2_with (first|(refine zad (by rfl) 43 _ rfl cs fb 0 rfl underlying43 rfl HFi.out HLd.out ?_)|fail)
 have hb0:Below W.heap.size W (W.alloc (.cells #[.slice none 0 0,.slice none 0 0,.slice none 0 0,.slice none 0 0,.slice none 0 0] 60)):=(waC _ W).alloc (waJ _) _;have hc0:(W.alloc (.cells #[.slice none 0 0,.slice none 0 0,.slice none 0 0,.slice none 0 0,.slice none 0 0] 60)).heap[W.heap.size]?=some (.cells #[.slice none 0 0,.slice none 0 0,.slice none 0 0,.slice none 0 0,.slice none 0 0] 60 (0,0)):=World.alloc_heap_new W _
 (try clear HLd)
 generalize W.alloc (.cells #[.slice none 0 0,.slice none 0 0,.slice none 0 0,.slice none 0 0,.slice none 0 0] 60)=V0 at *;refine(HB.out _ hb0).mono ?_;rintro e w1 hR;obtain⟨hb1,hres⟩:=zov.lb hR;have HR1:=waV ((hb1.block _ (waL.1 hc0).1).trans hc0);have hb01:=hb0.trans (hb1.mono hb0.size);have hz0:=hb0.size;clear hR hb1 hc0 HB;obtain(⟨hk,rfl⟩|⟨hk,v,rfl,ho⟩):=hres
 ·have HK:=waV hk;clear hk;unfold zbd
  go_wp2_with (first|(refine zam rfl _ _ rfl HR1.out _ _ _ _ _ (by kernel_rfl) rfl rfl ?_;intro V8 hc8 hr8)|fail)
  refine waY (zaP rfl rfl rfl hc8) rfl ?_;exact⟨hr8.to_below' hb01,.inl ⟨HK.out,rfl⟩⟩
 ·have HK:=waV hk;obtain⟨S0,n0,d0,S1,n1,d1,S2,n2,d2,S3,n3,d3,S4,n4,d4,rfl⟩:=ho.five;have HO:=waV ho;clear hk ho
  go_wp2_with (first|(refine zam rfl _ _ rfl HR1.out _ _ _ _ _ (by kernel_rfl) rfl rfl ?_;intro V8 hc8 hr8)|fail)
  refine waY (zaP rfl rfl rfl hc8) rfl ?_;exact⟨hr8.to_below' hb01,.inr ⟨HK.out,_,rfl,(HO.out.base hz0).rls HR1.out hr8⟩⟩
theorem zoE (A:Option Addr) (n cc:Nat) (L:List Cl) (bb:Nat) (W:World) (hc:W.cell? ⟨bb,0,none⟩=some (.slice A n cc)) (hA:zbB W A n L) (hn:n≤8) (hnil:A=none→n=0) (hbit:∀c,c∈L→zcx c∧c.s≤9223372036854775807) (hset:ze2 L=true) (hw:Tz W):
 Calls prog 154 #[.pointer (some ⟨bb,0,none⟩)] W (ztd (zfa (zak L)∧domW (zak L)≠0∧wkW (zak L)≠0) (zbN (zak L)) W):=by
 have HB:=waV (fun V (hV:Below W.heap.size W V)=>zmb A n cc L V (hA.below hV (waJ _)) hn hnil hbit hset (hw.below hV))
 have lb:=waR W _ hc;clear hA hn hnil hbit hset hw;go_enter func154,ntmps154;go_wp2_with fail;have hb0:Below W.heap.size W (W.alloc (.cells #[.slice none 0 0,.slice none 0 0,.slice none 0 0,.slice none 0 0,.slice none 0 0] 60)):=(waC _ W).alloc (waJ _) _;have hc0:(W.alloc (.cells #[.slice none 0 0,.slice none 0 0,.slice none 0 0,.slice none 0 0,.slice none 0 0] 60)).heap[W.heap.size]?=some (.cells #[.slice none 0 0,.slice none 0 0,.slice none 0 0,.slice none 0 0,.slice none 0 0] 60 (0,0)):=World.alloc_heap_new W _
 (try clear HLd)
 generalize W.alloc (.cells #[.slice none 0 0,.slice none 0 0,.slice none 0 0,.slice none 0 0,.slice none 0 0] 60)=V0 at *;refine(HB.out _ hb0).mono ?_;rintro e w1 hR;obtain⟨hb1,hres⟩:=(show ztd _ _ _ _ _ from hR)
 have HR1:=waV ((hb1.block _ (waL.1 hc0).1).trans hc0);have hb01:=hb0.trans (hb1.mono hb0.size);have hz0:=hb0.size;clear hR hb1 hc0 HB;obtain(⟨hk,rfl⟩|⟨hk,v,rfl,ho⟩):=hres
 ·have HK:=waV hk;clear hk;unfold zbd
  go_wp2_with (first|(refine zam rfl _ _ rfl HR1.out _ _ _ _ _ (by kernel_rfl) rfl rfl ?_;intro V8 hc8 hr8)|fail)
  refine waY (zaP rfl rfl rfl hc8) rfl ?_;exact⟨hr8.to_below' hb01,.inl ⟨HK.out,rfl⟩⟩
 ·have HK:=waV hk;obtain⟨S0,n0,d0,S1,n1,d1,S2,n2,d2,S3,n3,d3,S4,n4,d4,rfl⟩:=ho.five;have HO:=waV ho;clear hk ho
  go_wp2_with (first|(refine zam rfl _ _ rfl HR1.out _ _ _ _ _ (by kernel_rfl) rfl rfl ?_;intro V8 hc8 hr8)|fail)
  refine waY (zaP rfl rfl rfl hc8) rfl ?_;exact⟨hr8.to_below' hb01,.inr ⟨HK.out,_,rfl,(HO.out.base hz0).rls HR1.out hr8⟩⟩
end Go.Proofs.YtadefhkaejjfmaaGreatDoor
namespace Go.Proofs.YtadefhkaejjfmaaGreatDoor
open Go.Proofs.Tryz
section
variable {P : Int → Nat → Bool}
theorem zmd (P:Int→Nat→Bool):BdM 1 31 (domW P):=fun k hk hb=>by
 obtain⟨⟨n,h0,h1,_,e⟩,_⟩:=(zc1 hk).1 hb;have:=zcm h0 h1;omega
theorem zrf (P:Int→Nat→Bool):BdM 1 7 (wkW P):=fun k hk hb=>by
 obtain⟨h,_⟩:=(zc1 hk).1 hb;exact h
structure EithP (P:Int→Nat→Bool) (M D W:Int→Bool) (Mi Ho:Nat→Bool):Prop where
 eq:∀n s,0≤n→n<146097→s<86400→P n s=(decide (s%60=0)&&(Mi (s / 60%60)&&(Ho (s / 3600)&&(M (mD n)&&(D (dD n)||W (wdD n))))))
 wk:∃w,1≤w∧w≤7∧W w=true
theorem EithP.live {M D W:Int→Bool} {Mi Ho:Nat→Bool} (h:EithP P M D W Mi Ho) {n:Int} {s:Nat} (hl:zcY P n s):s%60=0∧Mi (s / 60%60)=true∧Ho (s / 3600)=true∧M (mD n)=true∧(D (dD n)=true∨W (wdD n)=true):=by
 obtain⟨a,b,c,d⟩:=hl;rw[h.eq n s a b c] at d;simpa only[waN,wbF,waM] using d
theorem EithP.day {M D W:Int→Bool} {Mi Ho:Nat→Bool} (h:EithP P M D W Mi Ho) (hn:zfa P) {n:Int} (h0:0≤n) (h1:n<146097) (hm:∃n',zbG P n'∧mD n'=mD n) (hd:D (dD n)=true∨W (wdD n)=true):zbG P n:=by
 obtain⟨n',⟨s,hl⟩,e⟩:=hm;obtain⟨a1,a2,a3,a4,_⟩:=h.live hl;rw[e] at a4;refine⟨s,h0,h1,hl.2.2.1,?_⟩;rw[h.eq n s h0 h1 hl.2.2.1,a2,a3,a4,waP a1];simp[hd]
theorem EithP.wkW {M D W:Int→Bool} {Mi Ho:Nat→Bool} (h:EithP P M D W Mi Ho) (hn:zfa P) {w:Int} (w1:1≤w) (w7:w≤7) (hw:W w=true):zdW (wkW P) w=true:=by
 unfold zdW;refine(zc1 oQ).2 ⟨by omega,fun n h0 h1 hm e=>h.day hn h0 h1 hm (.inr ?_)⟩
 rw[e,show((w.toNat:Nat):Int)=w by omega];exact hw
theorem EithP.domW {M D W:Int→Bool} {Mi Ho:Nat→Bool} (h:EithP P M D W Mi Ho) (hn:zfa P) {d:Int} (d1:1≤d) (d2:d≤zcQ (zaV P)) (hd:D d=true):zdW (domW P) d=true:=by
 obtain⟨m,hm,hl⟩:=zjv d1 d2;obtain⟨hm64,hmb⟩:=zaR.1 hm;have hbm:=zfO P m hm64 hmb;have hle:=(zca (y:=2000) (m:=(m:Int)) oQ oQ).2;obtain⟨n,h0,h1,e1,e2,e3⟩:=zgN (m:=(m:Int)) (d:=d) (w:=1) oQ oQ d1 hl dQ dQ;unfold zdW;refine(zc1 oQ).2 ⟨⟨n,h0,h1,?_,by omega⟩,fun n h0 h1 hm e=>h.day hn h0 h1 hm (.inl ?_)⟩
 ·obtain⟨n',hl',e'⟩:=(zeP hm64).1 hmb;exact⟨n',hl',by rw[e',e1]⟩
 ·rw[e,show((d.toNat:Nat):Int)=d by omega];exact hd
theorem zk9 {M D W:Int→Bool} {Mi Ho:Nat→Bool} (h:EithP P M D W Mi Ho) (hn:zfa P) (hd:domW P≠0):wkW P≠0∧zcr (zbN P) P:=by
 obtain⟨w,w1,w7,hw⟩:=h.wk;have hwne:wkW P≠0:=za0 (h.wkW hn w1 w7 hw);refine⟨hwne,zhJ hn _ _ (zhK (zmd P) (zbU _) hd) (zgi (zrf P) (zbU _) hwne),fun n s h0 h1 hs=>?_⟩
 have hb:=zcm h0 h1;have hwb:=zct n;unfold zbN;rw[zh6 _ _ (zmd P) (zrf P) h0 h1 hs,waQ];simp only[waN,wbF,waM,zjE h0 h1];constructor
 ·rintro ⟨e0,e1,e2,hm,e3⟩;obtain⟨n1,s1,l1,e1⟩:=(zeQ oQ).1 e1;obtain⟨n2,s2,l2,e2⟩:=(zdF oQ).1 e2;have a1:=(h.live l1).2.1;have a2:=(h.live l2).2.2.1;rw[e1] at a1;rw[e2] at a2;have hl:zbG P n:=by
   unfold zdW at e3;rcases e3 with e3|e3
   ·exact((zc1 oQ).1 e3).2 n h0 h1 hm oQ
   ·exact((zc1 oQ).1 e3).2 n h0 h1 hm oQ
  obtain⟨s',hl'⟩:=hl;obtain⟨_,_,_,a4,a5⟩:=h.live hl';rw[h.eq n s h0 h1 hs,a1,a2,a4,waP e0];simp[a5]
 ·intro hp;have hl:zcY P n s:=⟨h0,h1,hs,hp⟩;obtain⟨a0,a1,a2,a3,a4⟩:=h.live hl;refine⟨a0,(zeQ oQ).2 ⟨n,s,hl,rfl⟩,(zdF oQ).2 ⟨n,s,hl,rfl⟩,⟨n,⟨s,hl⟩,rfl⟩,?_⟩;rcases a4 with a4|a4
  ·exact .inl (h.domW hn hb.2.2.1 (zjD ⟨n,⟨s,hl⟩,rfl⟩ h0 h1) a4)
  ·exact .inr (h.wkW hn hwb.1 hwb.2 a4)
theorem zrg {M D W:Int→Bool} {Mi Ho:Nat→Bool} (h:EithP P M D W Mi Ho) (hn:zfa P) (hd:∀d,1≤d→d≤zcQ (zaV P)→D d=false):ProdP P M (fun _=>true) W Mi Ho∧za8 (zaV P) (zbw P) (wkF P)=true:=by
 refine⟨⟨fun n s h0 h1 hs=>?_⟩,?_⟩
 ·have hb:=zcm h0 h1;rw[h.eq n s h0 h1 hs];cases hD:D (dD n) with
  |false=>rfl
  |true=>
   cases hx:(decide (s%60=0)&&(Mi (s / 60%60)&&(Ho (s / 3600)&&M (mD n)))) with
   |false=>
    have e:∀b:Bool,(decide (s%60=0)&&(Mi (s / 60%60)&&(Ho (s / 3600)&&(M (mD n)&&b))))=((decide (s%60=0)&&(Mi (s / 60%60)&&(Ho (s / 3600)&&M (mD n))))&&b):=fun b=>by simp only[Bool.and_assoc]
    rw[e,e,hx];rfl
   |true=>
    have hl:zcY P n s:=⟨h0,h1,hs,by
     rw[h.eq n s h0 h1 hs,hD];simpa only[Bool.true_or,Bool.and_true] using hx⟩
    have:=hd (dD n) hb.2.2.1 (zjD ⟨n,⟨s,hl⟩,rfl⟩ h0 h1);rw[hD] at this;cases this
 ·have ha:zsY (zaV P) (zbw P)=true:=by
   refine List.all_eq_true.2 fun k hk=>?_
   have hk:=wbG.1 hk
   by_cases hc:1≤k∧(k:Int)≤zcQ (zaV P)
   ·rw[waP hc];obtain⟨m,hm,hl⟩:=zjv (d:=(k:Int)) oQ hc.2;obtain⟨hm64,hmb⟩:=zaR.1 hm;have hbm:=zfO P m hm64 hmb;obtain⟨w,w1,w7,hw⟩:=h.wk;obtain⟨n,h0,h1,e1,e2,e3⟩:=zgN (m:=(m:Int)) (d:=(k:Int)) (w:=w) oQ oQ oQ hl w1 w7;obtain⟨n',hl',e'⟩:=(zeP hm64).1 hmb;have:=(zfN (P:=P) (show k<64 by omega)).2 ⟨n,h.day hn h0 h1 ⟨n',hl',by rw[e',e1]⟩ (.inr (by rw[e3];exact hw)),e2⟩
    rw[this];rfl
   ·rw[waO hc];rfl
  unfold za8;rw[ha];rfl
theorem zuZ {M D W:Int→Bool} {Mi Ho:Nat→Bool} (h:ProdP P M D W Mi Ho) (hn:zfa P) (hd:D 1=true∨W 7=true):za8 (zaV P) (zbw P) (wkF P)=true:=by
 obtain⟨n,s,hl⟩:=hn;obtain⟨a0,a1,a2,a3,a4,a5⟩:=h.live hl;have hb:=zcm hl.1 hl.2.1;have hw:=zct n;unfold za8;rcases hd with hd|hd
 ·obtain⟨n',h0,h1,e1,e2,e3⟩:=zgN (m:=mD n) (d:=1) (w:=wdD n) oQ oQ dQ oQ hw.1 hw.2;have:zbG P n':=⟨s,h0,h1,hl.2.2.1,by rw[h.eq n' s h0 h1 hl.2.2.1,e1,e2,e3,a1,a2,a3,a5,hd,waP a0];rfl⟩
  rw[(zfN (P:=P) (m:=1) (by decide)).2 ⟨n',this,e2⟩]
  simp
 ·obtain⟨n',h0,h1,e1,e2,e3⟩:=zgN (m:=mD n) (d:=dD n) (w:=7) oQ oQ oQ oQ dQ dQ;have:zbG P n':=⟨s,h0,h1,hl.2.2.1,by rw[h.eq n' s h0 h1 hl.2.2.1,e1,e2,e3,a1,a2,a3,a4,hd,waP a0];rfl⟩
  have h7:=(zjB (P:=P) (m:=7) dQ).2 ⟨n',this,e3⟩;rw[zcP _ 0 (by decide),if_pos rfl,h7]
  simp
end
theorem zoF {P:Int→Nat→Bool} (hn:¬zfa P):zcr zkW P:=by
 refine⟨by decide+kernel,fun n s h0 h1 hs=>?_⟩
 have hb:=zcm h0 h1;have hp:P n s=false:=by
  rw[Bool.eq_false_iff];exact fun h=>hn ⟨n,s,h0,h1,hs,h⟩
 rw[hp,zdE _ h0 h1 hs,show(zbF (zkW 2)||zbF (zkW 4))=true from rfl,if_pos rfl]
 have e1:inB (zkW 3) 1 12 (mD n)=decide (mD n=2):=by
  show([(⟨1,2,0,0⟩:It)].any (zeU 1 12 (mD n)))=_;rw[List.any_cons,List.any_nil,Bool.or_false];unfold zeU zqz;rw[show zbx ⟨1,2,0,0⟩ 1 12=true from by decide+kernel,Bool.true_and,wbH]
  simp only[bF,bT,bS];simp;omega
 have e2:inB (zkW 2) 1 31 (dD n)=decide (dD n=30):=by
  show([(⟨1,30,0,0⟩:It)].any (zeU 1 31 (dD n)))=_;rw[List.any_cons,List.any_nil,Bool.or_false];unfold zeU zqz;rw[show zbx ⟨1,30,0,0⟩ 1 31=true from by decide+kernel,Bool.true_and,wbH]
  simp only[bF,bT,bS];simp;omega
 rw[e1,e2]
 by_cases hm:mD n=2
 ·rw[hm] at hb;have h29:zbq 2000 2=29:=by decide
  rw[waO (show ¬dD n=30 by omega)]
  simp
 ·rw[waO hm];simp
theorem zrh (l:Nat→List It) (hs:(zbF (l 2)||zbF (l 4))=true):ProdP (zet l) (fun m=>inB (l 3) 1 12 m) (fun d=>inB (l 2) 1 31 d) (wkB l) (fun m=>inB (l 0) 0 59 (m:Int)) (fun h=>inB (l 1) 0 23 (h:Int)):=⟨fun n s h0 h1 h2=>by
 rw[zdE l h0 h1 h2,hs,if_pos rfl]⟩
theorem zri (l:Nat→List It) (hs:(zbF (l 2)||zbF (l 4))=false) (hf:zaJ 4 (l 4)=0):EithP (zet l) (fun m=>inB (l 3) 1 12 m) (fun d=>inB (l 2) 1 31 d) (wkB l) (fun m=>inB (l 0) 0 59 (m:Int)) (fun h=>inB (l 1) 0 23 (h:Int)):=⟨fun n s h0 h1 h2=>by
 rw[zdE l h0 h1 h2,hs,if_neg (by decide)],by
 rw[Bool.or_eq_false_iff] at hs;obtain⟨_,h4⟩:=hs;unfold zaJ at hf;split at hf
 ·cases hf
 ·split at hf
  ·cases hf
  ·split at hf
   ·cases hf
   ·rename_i hl _ ha;cases hl4:l 4 with
    |nil=>rw [hl4] at hl;exact absurd rfl hl
    |cons i r=>
     rw[hl4] at ha h4;have hi:=List.any_eq_false.1 (Bool.eq_false_iff.2 ha) i (by simp)
     simp only[wbF,not_or,Bool.not_eq_true,wbE,Bool.not_eq_false',Bool.not_eq_eq_eq_not] at hi;obtain⟨h3,hm⟩:=hi;have hm:zbx i (cLo 4) (cHi 4)=true:=by simpa using hm
     have hm:zbx i 0 7=true:=hm;have hk0:¬i.k=0:=of_decide_eq_false h4;obtain⟨_,_,_,hc⟩:=waA hm;have hf:0≤i.f∧i.f≤7:=by
      rcases hc with h|h|h|h<;>omega
     have hin:inB (l 4) 0 7 i.f=true:=by
      unfold inB;rw[hl4,List.any_cons,wbF];refine .inl ?_;unfold zeU zqz;rw[hm,Bool.true_and,waM];simp only[bF,bT,bS,if_neg hk0];refine⟨Int.le_refl _,?_,by simp⟩
      rcases hc with h|h|h|h
      ·exact absurd h.1 hk0
      ·rw[if_pos h.1];exact Int.le_refl _
      ·rw[if_neg (by omega),if_pos h.1];omega
      ·exact absurd h.1 h3
     by_cases h0:i.f=0
     ·refine⟨7,by decide,by decide,?_⟩
      rw[h0] at hin;unfold wkB;rw[hin];simp
     ·refine⟨i.f,by omega,by omega,?_⟩
      unfold wkB;rw[hin];rfl⟩
theorem ziF {l:List It} {lo hi:Int} (h:zbF l=true) (hf:∀i∈l,zbx i lo hi=true):inB l lo hi lo=true:=by
 cases l with
 |nil=>cases h
 |cons i r=>
  have hk:i.k=0:=waA h;have hm:=hf i (by simp)
  obtain⟨a,b,c,hc⟩:=waA hm;unfold inB;rw[List.any_cons,wbF];refine .inl ?_;unfold zeU zqz;rw[hm,Bool.true_and,waM];simp only[bF,bT,bS,if_pos hk];refine⟨Int.le_refl _,?_,by simp⟩
  rw[if_neg (by omega),if_neg (by omega)]
  exact b
theorem ziG {k:Nat} {l:List It} (h:zaJ k l=0):∀i∈l,zbx i (cLo k) (cHi k)=true:=by
 unfold zaJ at h;split at h
 ·cases h
 ·split at h
  ·cases h
  ·split at h
   ·cases h
   ·rename_i ha;intro i hi;have:=List.any_eq_false.1 (Bool.eq_false_iff.2 ha) i hi;simp only[wbF,not_or,Bool.not_eq_true] at this;simpa using this.2
theorem zla {l:Nat→List It} (hf:∀k,k<5→zaJ k (l k)=0) {P:Int→Nat→Bool} (hP:zdj (zet l) P) {r:Option (Nat→List It)} (hr:Rais P r):∃x,r=some x∧zcr x P:=by
 have hr':=hr.congr hP.symm
 suffices h:∃x,r=some x∧zcr x (zet l) by
  obtain⟨x,e,hc,hm⟩:=h;exact⟨x,e,hc,hm.trans hP⟩
 cases hr' with
 |empty h=>exact⟨_,rfl,zoF h⟩
 |both h1 h2 h3=>exact⟨_,rfl,h3⟩
 |either h1 h2 h3 h4 h5=>exact⟨_,rfl,h5⟩
 |none hn h2 h3=>
  exfalso;cases hs:(zbF (l 2)||zbF (l 4)) with
  |true=>
   have hp:=zrh l hs;have hok:=zuZ hp hn (by
    rw[wbF] at hs;rcases hs with hs|hs
    ·exact .inl (ziF hs (ziG (hf 2 (by decide))))
    ·refine .inr ?_;have h0:inB (l 4) 0 7 0=true:=ziF hs (ziG (hf 4 (by decide)))
     unfold wkB;rw[h0];simp)
   exact h2 ⟨hok,zgj hp hn hok⟩
  |false=>
   have he:=zri l hs (hf 4 dQ)
   by_cases hd:∃d,1≤d∧d≤zcQ (zaV (zet l))∧inB (l 2) 1 31 d=true
   ·obtain⟨d,d1,d2,hd⟩:=hd;have hD:domW (zet l)≠0:=za0 (he.domW hn d1 d2 hd);obtain⟨hw,hm⟩:=zk9 he hn hD;exact h3 ⟨hD,hw,hm⟩
   ·obtain⟨hp,hok⟩:=zrg he hn (fun d d1 d2=>by
     rw[Bool.eq_false_iff];exact fun h=>hd ⟨d,d1,d2,h⟩)
    exact h2 ⟨hok,zgj hp hn hok⟩
end Go.Proofs.YtadefhkaejjfmaaGreatDoor
