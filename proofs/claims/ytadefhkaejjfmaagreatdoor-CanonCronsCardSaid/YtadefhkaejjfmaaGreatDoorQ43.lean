/- A part of the proof: WTcB RLives36 WShow6 WShow7 -/
import Derived.Test.YtadefhkaejjfmaaGreatDoorQ42
import Derived.Scope
import Derived.LoopN
import Derived.Test.YtadefhkaejjfmaaGreatDoorQ33
import Derived.Test.YtadefhkaejjfmaaGreatDoorQ00
import Derived.Test.YtadefhkaejjfmaaGreatDoorQ30
set_option maxHeartbeats 80000000
set_option maxRecDepth 100000
set_option linter.unusedSimpArgs false
set_option linter.unusedVariables false
namespace Go.Proofs.YtadefhkaejjfmaaGreatDoor
open Go.Proofs.Tryz
open Go.RowKit
open Go.Maps
def zwb (n:Nat) (L:List Cl) (w:World) (e:Ending) (w':World):Prop:=Below w.heap.size w w'∧((zcj n L≠0∧e=.returned (.tuple #[.agg zbd,.int .i64 (zcj n L)]))∨(zcj n L=0∧((Rais (zak L) none∧e=.returned (.tuple #[.agg zbd,.int .i64 15]))∨∃l v,Rais (zak L) (some l)∧e=.returned (.tuple #[v,.int .i64 0])∧zaQ w' w.heap.size v l)))
theorem zte (P:Int→Nat→Bool) (k:Nat):(zbS P k).length≤100000:=by
 have h0:(zab 0 59 (zay (zcN P)) true).length≤63:=zaT (zng P) dQ dQ true;have h1:(zab 0 23 (zay (zbb P)) true).length≤63:=zaT (zjC P) dQ dQ true;have h3:(zab 1 12 (zay (zaV P)) true).length≤63:=zaT (zfO P) dQ dQ true;have h2:(zab 1 31 (zay (zbw P)) false).length≤63:=zaT (zk5 P) dQ dQ false;have h2':(zab 1 31 (zay (zdA (zbw P) 1)) false).length≤63:=zaT (zdk (j:=1) (zk5 P)) dQ dQ false;have h4:(zab 0 6 (zay (zcq (wkF P))) false).length≤63:=zaT (zgx (zou P)) dQ dQ false;have h4':(zab 0 6 (zay (zdA (zcq (wkF P)) 0)) false).length≤63:=zaT (zdk (j:=0) (zgx (zou P))) dQ dQ false;unfold zbS zde zbH zaZ
 (repeat' split)<;>(try simp only[waG,List.length_nil])<;>omega
theorem ziH (P:Int→Nat→Bool) (k:Nat):(zbN P k).length≤100000:=by
 have h0:(zab 0 59 (zay (zcN P)) true).length≤63:=zaT (zng P) dQ dQ true;have h1:(zab 0 23 (zay (zbb P)) true).length≤63:=zaT (zjC P) dQ dQ true;have h3:(zab 1 12 (zay (zaV P)) true).length≤63:=zaT (zfO P) dQ dQ true;have h2:(zab 1 31 (zay (domW P)) false).length≤63:=zaT (zmd P) dQ dQ false;have h4:(zab 0 6 (zay (zcq (wkW P))) false).length≤63:=zaT (zgx (zrf P)) dQ dQ false;unfold zbN zde
 (repeat' split)<;>omega
structure RaS (W V:World) (g:Nat→Value) (fb:Nat) (x:Value):Prop where
 f:FaceAt V fb g
 r:V.heap[W.heap.size+1]?=some (.cells #[.slice none 0 0,.slice none 0 0,.slice none 0 0,.slice none 0 0,.slice none 0 0] 60 (0,0))
 x:V.cell? ⟨W.heap.size,0,none⟩=some x
 be:Below W.heap.size W V
 n:W.heap.size+1<fb
theorem RaS.below {W V X:World} {g:Nat→Value} {fb:Nat} {x:Value} (h:RaS W V g fb x) (hb:Below V.heap.size V X):RaS W X g fb x:=
 ⟨h.f.below hb,(hb.block _ (waL.1 h.r).1).trans h.r,((zae hb).1 _ _ (waR V _ h.x)).trans h.x,h.be.trans (hb.mono h.be.size),h.n⟩
theorem zoG (A:Option Addr) (n cc:Nat) (L:List Cl) (W:World) (hA:zbB W A n L) (hn:n≤4294967296) (hnil:A=none→n=0) (hbit:∀c,c∈L→zcx c∧c.s≤9223372036854775807) (hw:Tz W):
 Calls prog 67 #[.slice A n cc] W (zwb n L W):=by
 have HOf:=waV (fun V (hV:Below W.heap.size W V)=>ziD A n cc L V (hA.below hV (waJ _)) hn hnil hbit (hw.below hV))
 have HNo:=waV (fun V=>zq1 V)
 have eg1:∀args w,(callFunc 152 args).run prog w=.ok (.enter 152 args) w:=enters_of func152 kQ rfl;have eg2:∀args w,(callFunc 154 args).run prog w=.ok (.enter 154 args) w:=enters_of func154 kQ rfl;go_enter func67,ntmps67;go_wp2_with fail;have hb0:Below W.heap.size W ((W.alloc (.cells #[.slice A n cc] 22)).alloc (.cells #[.slice none 0 0,.slice none 0 0,.slice none 0 0,.slice none 0 0,.slice none 0 0] 60)):=((waC _ W).alloc (waJ _) _).alloc (by simp) _
 have hc0:((W.alloc (.cells #[.slice A n cc] 22)).alloc (.cells #[.slice none 0 0,.slice none 0 0,.slice none 0 0,.slice none 0 0,.slice none 0 0] 60)).heap[W.heap.size+1]?=some (.cells #[.slice none 0 0,.slice none 0 0,.slice none 0 0,.slice none 0 0,.slice none 0 0] 60 (0,0)):=by
  have h:W.heap.size+1=(W.alloc (.cells #[.slice A n cc] 22)).heap.size:=by simp
  rw[h];exact World.alloc_heap_new _ _
 have xb:Boxed ((W.alloc (.cells #[.slice A n cc] 22)).alloc (.cells #[.slice none 0 0,.slice none 0 0,.slice none 0 0,.slice none 0 0,.slice none 0 0] 60)) W.heap.size 22 (.slice A n cc):=(Boxed.new _ _ _).alloc _;generalize ((W.alloc (.cells #[.slice A n cc] 22)).alloc (.cells #[.slice none 0 0,.slice none 0 0,.slice none 0 0,.slice none 0 0,.slice none 0 0] 60))=V0 at *;have lb0:=(waL.1 hc0).1;refine wp_scope_straight ?_;have x0:=xb.cell;go_wp2_with fail;refine(HOf.out _ hb0).mono ?_;rintro e w1 ⟨hb1,hres⟩;have hb01:=hb0.trans (hb1.mono hb0.size);have hc1:=(hb1.block _ lb0).trans hc0;have xb1:=zaB hb1 xb;clear x0;have hz1:=hb1.size;have HFn:Hid (FaceAt (w1.alloc (.cells (za5 (gZ false)) 43)) w1.heap.size (gZ false)):=FaceAt.new _ _ (zew false);have hbA:Below w1.heap.size w1 (w1.alloc (.cells (za5 (gZ false)) 43)):=(waC _ _).alloc (waJ _) _;have HMk:Hid (∀g' w2,FaceAt w2 w1.heap.size g'→RlS (·=w1.heap.size) (w1.alloc (.cells (za5 (gZ false)) 43)) w2→RaS W w2 g' w1.heap.size (.slice A n cc)):=fun g' w2 hf2 hr2=>
  ⟨hf2,(hr2.block _ (by simp;omega) (show ¬W.heap.size+1=w1.heap.size by omega)).trans ((Below.heap_alloc _ _ _ oQ).trans hc1),(zaF (zaB hbA xb1) hr2 (show ¬W.heap.size=w1.heap.size by omega)).cell,hr2.to_below' (hb01.trans (hbA.mono hb01.size)) hb01.size,by omega⟩
 clear hbA hc1 xb1 hb01 hb1 hb0 hc0 xb lb0 hz1;obtain(⟨hE,rfl⟩|⟨hE,g,rfl,hg⟩):=hres
 ·have HE:=waV hE;have hne:((zcj n L:Int)==0)=false:=by rw[wbE];exact hE
  have HQ:=waV (fun V (h:Below W.heap.size W V)=>(show zwb n L W (.returned (.tuple #[.agg zbd,.int .i64 (zcj n L)])) V from⟨h,.inl ⟨hE,rfl⟩⟩))
  clear hE HOf HNo hA hn hnil hbit hw;generalize zcj n L=er at *
  go_wp2_with (first|(refine zbc rfl _ _ rfl (gZ false) HFn.out (zew false) rfl rfl ?_;intro w2 hf2 hr2;have HS:=waV (HMk.out _ w2 hf2 hr2);clear hf2 hr2)|(refine zam rfl _ _ rfl HS.out.r _ _ _ _ _ (by kernel_rfl) rfl rfl ?_;intro V8 hc8 hr8)|fail)
  refine waY (zaP rfl rfl rfl hc8) rfl ?_;exact HQ.out _ (hr8.to_below' HS.out.be oQ)
 ·have h8:n≤8∧ze2 L=true:=by
   unfold zcj at hE;split at hE
   ·cases hE
   ·split at hE
    ·exact⟨by omega,by assumption⟩
    ·cases hE
  have hE':=waV hE;obtain⟨z,hz,hza⟩:=hg.d;have HG:=waV hg;have HZa:=waV hza;have h48:=fun(V:World) (h:RaS W V g w1.heap.size (.slice A n cc))=>h.f.cell (show 48<51 by decide)
  rw[hz] at h48;have H48:=waV h48;have H1:=waV (fun V (hV:RaS W V g w1.heap.size (.slice A n cc)) ha=>zoD (zak L) g hg ha w1.heap.size V hV.f (hw.below hV.be))
  have H2:=waV (fun V (hV:RaS W V g w1.heap.size (.slice A n cc))=>zoE A n cc L W.heap.size V hV.x (hA.below hV.be (waJ _)) h8.1 hnil hbit h8.2 (hw.below hV.be))
  have HMe:=waV (fun(l:Nat→List It) (v:Value) V (hV:RaS W V g w1.heap.size (.slice A n cc)) (hl:∀k,(l k).length≤100000) (ho:zaQ V W.heap.size v l)=>(show Calls prog 156 #[v,.slice A n cc] V (ztT l (zak L) V) by
   obtain⟨A',n',c',e,hr,hz',hn',_⟩:=ho.rd;rw[e];exact zoC A' n' c' l A n cc L V hr (fun k=>by rw[hn' k];split;exact hl k;exact waK _) hz' (hA.below hV.be (waJ _)) h8.1 hnil hbit h8.2 (hw.below hV.be)))
  have HA:=waV hA;have HBt:=waV hbit;have HT:=waV hw;clear hg hz hza h48 HOf hE hA hnil hbit hw hn
  by_cases e0:z=0
  ·have hna:¬zfa (zak L):=HZa.out.1 e0;subst e0
   go_wp2_with (first|(refine zbc rfl _ _ rfl g HFn.out HG.out.f rfl rfl ?_;intro w2 hf2 hr2;have HS:=waV (HMk.out _ w2 hf2 hr2);have f48:=H48.out _ HS.out;clear hf2 hr2)|fail)
   clear f48;have hz2:=HS.out.be.size;refine(HNo.out _).mono ?_;rintro e w3 ⟨v,rfl,ho,hb3⟩;replace HS:=waV (HS.out.below hb3);obtain⟨S0,n0,d0,S1,n1,d1,S2,n2,d2,S3,n3,d3,S4,n4,d4,rfl⟩:=ho.five;have HO:=waV (ho.base hz2);clear ho hb3
   go_wp2_with (first|(refine zam rfl _ _ rfl HS.out.r _ _ _ _ _ (by kernel_rfl) rfl rfl ?_;intro V8 hc8 hr8)|fail)
   refine waY (zaP rfl rfl rfl hc8) rfl ?_;exact⟨hr8.to_below' HS.out.be oQ,.inr ⟨hE'.out,.inr ⟨zkW,_,.empty hna,rfl,HO.out.rls HS.out.r hr8⟩⟩⟩
  ·have ez:((z:Int)==0)=false:=by rw[wbE];omega
   have han:Hid (zfa (zak L)):=Classical.not_not.1 fun h=>e0 (HZa.out.2 h)
   clear e0
   go_wp2_with (first|(refine zbc rfl _ _ rfl g HFn.out HG.out.f rfl rfl ?_;intro w2 hf2 hr2;have HS:=waV (HMk.out _ w2 hf2 hr2);have f48:=H48.out _ HS.out;clear hf2 hr2)|fail)
   clear f48;refine wp_label ?_;go_wp2_with fail;refine wp_loop_rounds 3 ?_;rw[rounds_succ];go_wp2_with fail;have c1:World.cell? (w2.alloc (.cells #[.func (.func 152) #[] #[.pointer (some ⟨w1.heap.size,0,none⟩)],.func (.func 154) #[] #[.pointer (some ⟨W.heap.size,0,none⟩)]] 256)) ⟨w2.heap.size,1,none⟩=some (.func (.func 154) #[] #[.pointer (some ⟨W.heap.size,0,none⟩)]):=zaa rfl rfl;replace HS:=waV (HS.out.below (X:=(w2.alloc (.cells #[.func (.func 152) #[] #[.pointer (some ⟨w1.heap.size,0,none⟩)],.func (.func 154) #[] #[.pointer (some ⟨W.heap.size,0,none⟩)]] 256))) ((waC _ w2).alloc (waJ _) _));generalize (w2.alloc (.cells #[.func (.func 152) #[] #[.pointer (some ⟨w1.heap.size,0,none⟩)],.func (.func 154) #[] #[.pointer (some ⟨W.heap.size,0,none⟩)]] 256))=V3 at *;generalize w2.heap.size=ab at *;have hz3:=HS.out.be.size;refine(H1.out _ HS.out han.out).mono ?_;rintro e w3 ⟨hb3,hres⟩;replace c1:=((zae hb3).1 _ _ (waR _ _ c1)).trans c1;replace HS:=waV (HS.out.below hb3);have lb1:=waR _ _ c1;clear hb3;obtain(⟨hk,rfl⟩|⟨hk,v,rfl,ho⟩):=hres
   ·have HF1:Hid (¬(za8 (zaV (zak L)) (zbw (zak L)) (wkF (zak L))=true∧zcr (zbS (zak L)) (zak L))):=fun h=>hk h.1
    unfold zbd;clear hk;go_wp2_with fail;replace HS:=waV (HS.out.below (X:=w3.alloc (.cells #[.slice none 0 0,.slice none 0 0,.slice none 0 0,.slice none 0 0,.slice none 0 0] 60)) ((waC _ w3).alloc (waJ _) _));replace c1:World.cell? (w3.alloc (.cells #[.slice none 0 0,.slice none 0 0,.slice none 0 0,.slice none 0 0,.slice none 0 0] 60)) ⟨ab,1,none⟩=some (.func (.func 154) #[] #[.pointer (some ⟨W.heap.size,0,none⟩)]):=(World.cell?_alloc_lt _ _ _ lb1).trans c1;generalize w3.alloc (.cells #[.slice none 0 0,.slice none 0 0,.slice none 0 0,.slice none 0 0,.slice none 0 0] 60)=V4 at *;rw[rounds_succ];go_wp2_with fail;have hz6:=HS.out.be.size;refine(H2.out _ HS.out).mono ?_;rintro e w6 ⟨hb6,hres⟩;replace HS:=waV (HS.out.below hb6);clear hb6 c1 lb1;obtain(⟨hk,rfl⟩|⟨hk,v,rfl,ho⟩):=hres
    ·have hR:Rais (zak L) none:=.none han.out HF1.out (fun h=>hk ⟨han.out,h.1,h.2.1⟩)
     have HR:=waV hR;have HSa:=waV (HS.out.below (X:=w6.alloc (.cells #[.slice none 0 0,.slice none 0 0,.slice none 0 0,.slice none 0 0,.slice none 0 0] 60)) ((waC _ w6).alloc (waJ _) _));unfold zbd;clear hk hR;go_wp2_with fail;rw[rounds_succ]
     go_wp2_with (first|(refine zam rfl _ _ rfl HSa.out.r _ _ _ _ _ (by kernel_rfl) rfl rfl ?_;intro V8 hc8 hr8)|fail)
     refine waY (zaP rfl rfl rfl hc8) rfl ?_;exact⟨hr8.to_below' HSa.out.be oQ,.inr ⟨hE'.out,.inl ⟨HR.out,rfl⟩⟩⟩
    ·have HK2:=waV hk;obtain⟨S0,n0,d0,S1,n1,d1,S2,n2,d2,S3,n3,d3,S4,n4,d4,rfl⟩:=ho.five;have HO:=waV (ho.base hz6);clear ho hk;have x0:=HS.out.x;have lb0:=waR _ _ x0;go_wp2_with fail;have hbX:Below (World.heap w6).size w6 (World.alloc w6 (.cells #[.slice S0 n0 d0,.slice S1 n1 d1,.slice S2 n2 d2,.slice S3 n3 d3,.slice S4 n4 d4] 60)):=(waC _ _).alloc (waJ _) _;have hC:(World.alloc w6 (.cells #[.slice S0 n0 d0,.slice S1 n1 d1,.slice S2 n2 d2,.slice S3 n3 d3,.slice S4 n4 d4] 60)).heap[(World.heap w6).size]?=some (.cells #[.slice S0 n0 d0,.slice S1 n1 d1,.slice S2 n2 d2,.slice S3 n3 d3,.slice S4 n4 d4] 60 (0,0)):=World.alloc_heap_new _ _
     (try replace c1:=((zae hbX).1 _ _ lb1).trans c1)
     replace HS:=waV (HS.out.below hbX);replace HO:=waV (zaQ.below HO.out hbX);clear x0 lb0 hbX
     (try clear lb1)
     generalize World.alloc w6 (.cells #[.slice S0 n0 d0,.slice S1 n1 d1,.slice S2 n2 d2,.slice S3 n3 d3,.slice S4 n4 d4] 60)=V5 at *;generalize (World.heap w6).size=b8 at *;refine(HMe.out (zbN (zak L)) _ _ HS.out (fun k=>(ziH _ k)) HO.out).mono ?_
     rintro e w7 ⟨hb7,bm,rfl,hbm⟩;replace hC:=(hb7.block _ (waL.1 hC).1).trans hC;have HLc:=waV (zcw (zbE hC))
     (try replace c1:=((zae hb7).1 _ _ (waR _ _ c1)).trans c1)
     (try have lb1:=waR _ _ c1)
     replace HS:=waV (HS.out.below hb7);replace HO:=waV (zaQ.below HO.out hb7);clear hb7;cases bm
     rotate_left
     ·have HR:Hid (Rais (zak L) (some (zbN (zak L)))):=.either han.out HF1.out HK2.out.2.1 HK2.out.2.2 (hbm.1 rfl);clear hbm
      go_wp2_with (first|(refine zad (by rfl) 60 _ rfl #[_,_,_,_,_] b8 0 rfl underlying60 rfl zaL HLc.out ?_)|(refine zam rfl _ _ rfl HS.out.r _ _ _ _ _ (by kernel_rfl) rfl rfl ?_;intro V8 hc8 hr8)|fail)
      refine waY (zaP rfl rfl rfl hc8) rfl ?_;exact⟨hr8.to_below' HS.out.be oQ,.inr ⟨hE'.out,.inr ⟨_,_,HR.out,rfl,HO.out.rls HS.out.r hr8⟩⟩⟩
     ·have HR:Hid (Rais (zak L) none):=.none han.out HF1.out (fun h=>Bool.noConfusion (hbm.2 h.2.2))
      clear hbm HO hC HLc HK2;go_wp2_with fail;rw[rounds_succ]
      go_wp2_with (first|(refine zam rfl _ _ rfl HS.out.r _ _ _ _ _ (by kernel_rfl) rfl rfl ?_;intro V8 hc8 hr8)|fail)
      refine waY (zaP rfl rfl rfl hc8) rfl ?_;exact⟨hr8.to_below' HS.out.be oQ,.inr ⟨hE'.out,.inl ⟨HR.out,rfl⟩⟩⟩
   ·have HK1:=waV hk;obtain⟨S0,n0,d0,S1,n1,d1,S2,n2,d2,S3,n3,d3,S4,n4,d4,rfl⟩:=ho.five;have HO:=waV (ho.base hz3);clear ho hk;have x0:=HS.out.x;have lb0:=waR _ _ x0;go_wp2_with fail;have hbX:Below (World.heap w3).size w3 (World.alloc w3 (.cells #[.slice S0 n0 d0,.slice S1 n1 d1,.slice S2 n2 d2,.slice S3 n3 d3,.slice S4 n4 d4] 60)):=(waC _ _).alloc (waJ _) _;have hC:(World.alloc w3 (.cells #[.slice S0 n0 d0,.slice S1 n1 d1,.slice S2 n2 d2,.slice S3 n3 d3,.slice S4 n4 d4] 60)).heap[(World.heap w3).size]?=some (.cells #[.slice S0 n0 d0,.slice S1 n1 d1,.slice S2 n2 d2,.slice S3 n3 d3,.slice S4 n4 d4] 60 (0,0)):=World.alloc_heap_new _ _
    (try replace c1:=((zae hbX).1 _ _ lb1).trans c1)
    replace HS:=waV (HS.out.below hbX);replace HO:=waV (zaQ.below HO.out hbX);clear x0 lb0 hbX
    (try clear lb1)
    generalize World.alloc w3 (.cells #[.slice S0 n0 d0,.slice S1 n1 d1,.slice S2 n2 d2,.slice S3 n3 d3,.slice S4 n4 d4] 60)=V5 at *;generalize (World.heap w3).size=b8 at *;refine(HMe.out (zbS (zak L)) _ _ HS.out (fun k=>(zte _ k)) HO.out).mono ?_
    rintro e w7 ⟨hb7,bm,rfl,hbm⟩;replace hC:=(hb7.block _ (waL.1 hC).1).trans hC;have HLc:=waV (zcw (zbE hC))
    (try replace c1:=((zae hb7).1 _ _ (waR _ _ c1)).trans c1)
    (try have lb1:=waR _ _ c1)
    replace HS:=waV (HS.out.below hb7);replace HO:=waV (zaQ.below HO.out hb7);clear hb7;cases bm
    rotate_left
    ·have HR:Hid (Rais (zak L) (some (zbS (zak L)))):=.both han.out HK1.out (hbm.1 rfl);clear hbm
     go_wp2_with (first|(refine zad (by rfl) 60 _ rfl #[_,_,_,_,_] b8 0 rfl underlying60 rfl zaL HLc.out ?_)|(refine zam rfl _ _ rfl HS.out.r _ _ _ _ _ (by kernel_rfl) rfl rfl ?_;intro V8 hc8 hr8)|fail)
     refine waY (zaP rfl rfl rfl hc8) rfl ?_;exact⟨hr8.to_below' HS.out.be oQ,.inr ⟨hE'.out,.inr ⟨_,_,HR.out,rfl,HO.out.rls HS.out.r hr8⟩⟩⟩
    ·have HF1:Hid (¬(za8 (zaV (zak L)) (zbw (zak L)) (wkF (zak L))=true∧zcr (zbS (zak L)) (zak L))):=fun h=>Bool.noConfusion (hbm.2 h.2)
     clear hbm HO hC HLc HK1;go_wp2_with fail;rw[rounds_succ];go_wp2_with fail;have hz6:=HS.out.be.size;refine(H2.out _ HS.out).mono ?_;rintro e w6 ⟨hb6,hres⟩;replace HS:=waV (HS.out.below hb6);clear hb6 c1 lb1;obtain(⟨hk,rfl⟩|⟨hk,v,rfl,ho⟩):=hres
     ·have hR:Rais (zak L) none:=.none han.out HF1.out (fun h=>hk ⟨han.out,h.1,h.2.1⟩)
      have HR:=waV hR;have HSa:=waV (HS.out.below (X:=w6.alloc (.cells #[.slice none 0 0,.slice none 0 0,.slice none 0 0,.slice none 0 0,.slice none 0 0] 60)) ((waC _ w6).alloc (waJ _) _));unfold zbd;clear hk hR;go_wp2_with fail;rw[rounds_succ]
      go_wp2_with (first|(refine zam rfl _ _ rfl HSa.out.r _ _ _ _ _ (by kernel_rfl) rfl rfl ?_;intro V8 hc8 hr8)|fail)
      refine waY (zaP rfl rfl rfl hc8) rfl ?_;exact⟨hr8.to_below' HSa.out.be oQ,.inr ⟨hE'.out,.inl ⟨HR.out,rfl⟩⟩⟩
     ·have HK2:=waV hk;obtain⟨S0,n0,d0,S1,n1,d1,S2,n2,d2,S3,n3,d3,S4,n4,d4,rfl⟩:=ho.five;have HO:=waV (ho.base hz6);clear ho hk;have x0:=HS.out.x;have lb0:=waR _ _ x0;go_wp2_with fail;have hbX:Below (World.heap w6).size w6 (World.alloc w6 (.cells #[.slice S0 n0 d0,.slice S1 n1 d1,.slice S2 n2 d2,.slice S3 n3 d3,.slice S4 n4 d4] 60)):=(waC _ _).alloc (waJ _) _;have hC:(World.alloc w6 (.cells #[.slice S0 n0 d0,.slice S1 n1 d1,.slice S2 n2 d2,.slice S3 n3 d3,.slice S4 n4 d4] 60)).heap[(World.heap w6).size]?=some (.cells #[.slice S0 n0 d0,.slice S1 n1 d1,.slice S2 n2 d2,.slice S3 n3 d3,.slice S4 n4 d4] 60 (0,0)):=World.alloc_heap_new _ _
      (try replace c1:=((zae hbX).1 _ _ lb1).trans c1)
      replace HS:=waV (HS.out.below hbX);replace HO:=waV (zaQ.below HO.out hbX);clear x0 lb0 hbX
      (try clear lb1)
      generalize World.alloc w6 (.cells #[.slice S0 n0 d0,.slice S1 n1 d1,.slice S2 n2 d2,.slice S3 n3 d3,.slice S4 n4 d4] 60)=V5 at *;generalize (World.heap w6).size=b8 at *;refine(HMe.out (zbN (zak L)) _ _ HS.out (fun k=>(ziH _ k)) HO.out).mono ?_
      rintro e w7 ⟨hb7,bm,rfl,hbm⟩;replace hC:=(hb7.block _ (waL.1 hC).1).trans hC;have HLc:=waV (zcw (zbE hC))
      (try replace c1:=((zae hb7).1 _ _ (waR _ _ c1)).trans c1)
      (try have lb1:=waR _ _ c1)
      replace HS:=waV (HS.out.below hb7);replace HO:=waV (zaQ.below HO.out hb7);clear hb7;cases bm
      rotate_left
      ·have HR:Hid (Rais (zak L) (some (zbN (zak L)))):=.either han.out HF1.out HK2.out.2.1 HK2.out.2.2 (hbm.1 rfl);clear hbm
       go_wp2_with (first|(refine zad (by rfl) 60 _ rfl #[_,_,_,_,_] b8 0 rfl underlying60 rfl zaL HLc.out ?_)|(refine zam rfl _ _ rfl HS.out.r _ _ _ _ _ (by kernel_rfl) rfl rfl ?_;intro V8 hc8 hr8)|fail)
       refine waY (zaP rfl rfl rfl hc8) rfl ?_;exact⟨hr8.to_below' HS.out.be oQ,.inr ⟨hE'.out,.inr ⟨_,_,HR.out,rfl,HO.out.rls HS.out.r hr8⟩⟩⟩
      ·have HR:Hid (Rais (zak L) none):=.none han.out HF1.out (fun h=>Bool.noConfusion (hbm.2 h.2.2))
       clear hbm HO hC HLc HK2;go_wp2_with fail;rw[rounds_succ]
       go_wp2_with (first|(refine zam rfl _ _ rfl HS.out.r _ _ _ _ _ (by kernel_rfl) rfl rfl ?_;intro V8 hc8 hr8)|fail)
       refine waY (zaP rfl rfl rfl hc8) rfl ?_;exact⟨hr8.to_below' HS.out.be oQ,.inr ⟨hE'.out,.inl ⟨HR.out,rfl⟩⟩⟩
end Go.Proofs.YtadefhkaejjfmaaGreatDoor
namespace Go.Proofs.YtadefhkaejjfmaaGreatDoor
open Go.Proofs.Tryz
def zdg (P:Int→Nat→Bool):Prop:=∀n s,0≤n→n<146097→s<86400→P n s=decide (s%60=0)
section
variable {P : Int → Nat → Bool}
theorem zlb {Q:Nat→Prop} {c:Nat} (hc:c<18446744073709551616) (h:∀k,k<64→(Q k↔c.testBit k=true)):mOf Q=c:=by
 refine Nat.eq_of_testBit_eq fun k=>?_
 rw[waQ,zf8]
 by_cases hk:k<64
 ·rw[←h k hk];exact⟨fun g=>g.2,fun g=>⟨hk,g⟩⟩
 ·rw[waX (waD (show c<2^64 from hc) (Nat.pow_le_pow_right (by decide) (by omega)))]
  exact⟨fun g=>absurd g.1 hk,fun g=>by cases g⟩
theorem zme (h:zdg P) {n:Int} {s:Nat} (h0:0≤n) (h1:n<146097) (hs:s<86400) (hm:s%60=0):zcY P n s:=⟨h0,h1,hs,by rw[h n s h0 h1 hs,waP hm]⟩
theorem zlc (h:zdg P) {n:Int} (h0:0≤n) (h1:n<146097):zbG P n:=⟨0,zme h h0 h1 dQ rfl⟩
theorem zwc (h:zdg P):zcN P=1152921504606846975:=zlb dQ fun k hk=>by
 rw[show (1152921504606846975:Nat)=2^60 - 1 from rfl,Nat.testBit_two_pow_sub_one,waM]
 constructor
 ·rintro ⟨n,s,_,e⟩;omega
 ·intro g;exact⟨0,60 * k,zme h dQ dQ oQ oQ,by omega⟩
theorem zu0 (h:zdg P):zbb P=16777215:=zlb dQ fun k hk=>by
 rw[show (16777215:Nat)=2^24 - 1 from rfl,Nat.testBit_two_pow_sub_one,waM]
 constructor
 ·rintro ⟨n,s,g,e⟩;have:=g.2.2.1;omega
 ·intro g;exact⟨0,3600 * k,zme h dQ dQ oQ oQ,by omega⟩
theorem ztU (h:zdg P):zaV P=8190:=zlb dQ fun k hk=>by
 have hb:∀k,k<64→((8190:Nat).testBit k=decide (1≤k∧k≤12)):=by decide
 rw[hb k hk,waM];constructor
 ·rintro ⟨n,⟨s,g⟩,e⟩;have:=za6 g.1 g.2.1;omega
 ·intro g;have hd:∀k:Nat,k<13→1≤k→mD (30 * (k:Int) - 15)=(k:Int):=by decide+kernel
  exact⟨30 * (k:Int) - 15,zlc h oQ oQ,hd k oQ g.1⟩
theorem ztV (h:zdg P):zbw P=4294967294:=zlb dQ fun k hk=>by
 have hb:∀k,k<64→((4294967294:Nat).testBit k=decide (1≤k∧k≤31)):=by decide
 rw[hb k hk,waM];constructor
 ·rintro ⟨n,⟨s,g⟩,e⟩;have:=za6 g.1 g.2.1;omega
 ·intro g;have hd:∀k:Nat,k<32→1≤k→dD ((k:Int) - 1)=(k:Int):=by decide+kernel
  exact⟨(k:Int) - 1,zlc h oQ oQ,hd k oQ g.1⟩
theorem zwd (h:zdg P):wkF P=254:=zlb dQ fun k hk=>by
 have hb:∀k,k<64→((254:Nat).testBit k=decide (1≤k∧k≤7)):=by decide
 rw[hb k hk,waM];constructor
 ·rintro ⟨n,⟨s,g⟩,e⟩;have:=zct n;omega
 ·intro g;have hd:∀k:Nat,k<8→1≤k→∃n:Nat,n<7∧wdD (n:Int)=(k:Int):=by decide+kernel
  obtain⟨n,h7,e⟩:=hd k oQ g.1;exact⟨n,zlc h oQ oQ,e⟩
theorem zu1 (h:zdg P):za8 (zaV P) (zbw P) (wkF P)=true:=by
 rw[ztU h,ztV h,zwd h];decide+kernel
theorem zu2 (h:zdg P) {r:Option (Nat→List It)} (hr:Rais P r):r=some (zbS P):=by
 have hp:ProdP P (fun _=>true) (fun _=>true) (fun _=>true) (fun _=>true) (fun _=>true):=⟨fun n s h0 h1 hs=>by rw[h n s h0 h1 hs];simp⟩
 have ha:zfa P:=⟨0,zlc h dQ dQ⟩;exact hr.det (.both ha (zu1 h) (zgj hp ha (zu1 h)))
theorem znm (h:zdg P):∀k,k<5→zbS P k=[⟨0,0,0,1⟩]:=by
 unfold zbS;rw[ztU h,ztV h,zwd h,zwc h,zu0 h];decide+kernel
end
end Go.Proofs.YtadefhkaejjfmaaGreatDoor
namespace Go.Proofs.YtadefhkaejjfmaaGreatDoor
open Go.Proofs.Tryz
open Go.RowKit
theorem ziI {l:List It} (h:∀it∈l,it.wf):(zdB l).length≤l.length * 101:=by
 have:=znd (l.map zhF) [44] 100 (by
  intro x hx;obtain⟨i,hi,rfl⟩:=List.mem_map.1 hx;exact zqW (h i hi))
 simpa[zdB] using this
theorem zhO {l:List It} (h:∀it∈l,it.wf) (k:Nat) (hk:k≤l.length) (hl:l.length≤1000):(zdB (l.take k)).length≤101000:=by
 have:=ziI (l:=l.take k) (fun it hit=>h it (List.mem_of_mem_take hit))
 rw[List.length_take_of_le hk] at this;omega
theorem ztf:(prog.info? 9).map (fun i=>(i.zero,i.size,i.bytes))=some (some (.string ⟨#[]⟩),1,16):=by kernel_rfl
abbrev zmf (w:World) (B:Nat) (v:Value) (l:List ByteArray):Prop:=w.ownsRow B 9 1 v l.length (l.map Value.string)
theorem zoH (sep:ByteArray) (v:Value) (L:List ByteArray) (B:Nat) (w:World) (h:zmf w B v L) (hN:L.length≤1000000) (hlen:(Lib.join (L.map (·.data.toList)) sep.data.toList).length≤140737488355328):
 Calls prog 135 #[.string sep,v] w (Ret (.string (zcS (Lib.join (L.map (·.data.toList)) sep.data.toList))) w):=by
 have HO:=h;rcases h.2 with ⟨rfl,h0⟩|⟨g,cap,cur,rfl,hB,hg,hnc,hcm,hcs,htake⟩
 ·obtain rfl:L=[]:=List.length_eq_zero_iff.1 h0;have H:=waV (Tryz.strings_Join_none none 0 sep w);go_enter func135,ntmps135;go_wp2_with fail;refine H.out.mono ?_;rintro e w1 ⟨rfl,rfl⟩;go_wp2;go_ret;exact⟨rfl,waC _ _⟩
 ·refine zgf sep g 0 cap L w (fun j x hx=>?_) (waL.1 hg).1 oQ hnc hlen
  have h1:=HO.cells (g:=g) rfl j (.string x) (by rw[List.getElem?_map,hx];rfl)
  rwa [show (⟨g,0,none⟩:Addr).add j=⟨g,0+j,none⟩ from by unfold Addr.add;split<;>simp_all] at h1
def zdG (l:List It):List ByteArray:=l.map fun i=>zcS (zhF i)
theorem ziJ (l:List It):(zdG l).length=l.length:=by simp[zdG]
theorem zhP (l:List It):Lib.join ((zdG l).map (·.data.toList)) [44]=zdB l:=by
 unfold zdG zdB;rw[List.map_map];congr 1
theorem zoI (A:Option Addr) (n c:Nat) (l:List It) (w:World) (hA:zcH w A n l) (hn:n≤1000) (hwf:∀it∈l,it.wf) (hw:Pow w):
 Calls prog 133 #[.slice A n c] w (Ret (.string (zcS (zdB l))) w):=by
 obtain⟨i0,hi0,hz0,hz1,hz2⟩:=info_parts ztf;have HI0:=waV hi0;have HZ0:=waV hz0;have HZ1:=waV hz1;have HZ2:=waV hz2;clear hi0 hz0 hz1 hz2;have HL:Hid (l.length=n):=hA.1;have HWF:=waV hwf;have HP:=waV (fun W (hb:Below w.heap.size w W)=>zc0 hw hb)
 clear hwf hw;go_enter func133,ntmps133;go_wp2
 go_loopw [3,8] (fun v i wr=>∃(vo:Value) (k:Nat),vo=v∧k≤n∧i=.int .i64 k∧Hid (zmf wr w.heap.size vo (zdG (l.take k)))∧Below w.heap.size w wr) (fun _ i _=>n - (intOf i).toNat)
 case atStart=>exact⟨_,0,rfl,waK _,rfl,World.ownsRow_nil _ _ _ _,waC _ _⟩
 case round=>
  obtain⟨vo,k,rfl,hk,rfl,HO,hb⟩:=hrel;have hsz:=hb.size
  by_cases hlt:k<n
  ·obtain⟨b,o,it,rfl,hbl,hx,c0,c1,c2,c3⟩:=zcH.at_ (hA.below hb (waJ _)) hlt
   have hlt':(k:Int)<(n:Int):=by omega
   have hit:it.wf:=HWF.out _ (List.mem_of_getElem? hx);have HI:=waV (fun W (hb1:Below w.heap.size w W)=>zqX it hit W (HP.out _ hb1))
   have HS1:Hid (zdG (l.take (k+1))=zdG (l.take k)++[zcS (zhF it)]):=by
    show _=_;rw[List.take_add_one,hx];simp[zdG]
   have hkl:(zdG (l.take k)).length=k:=by rw[ziJ,List.length_take_of_le (by rw[HL.out];exact hk)]
   clear hx hit;obtain⟨T,hT⟩:∃T,T=zcS (zhF it):=⟨_,rfl⟩;rw[←hT] at HI HS1;clear hT;obtain⟨X0,hX0⟩:∃X,X=zdG (l.take k):=⟨_,rfl⟩;obtain⟨X1,hX1⟩:∃X,X=zdG (l.take (k+1)):=⟨_,rfl⟩;rw[←hX0] at HO HS1 hkl;rw[←hX1] at HS1;have HX1:=waV hX1;have HKL:=waV hkl;clear hX0 hX1 hkl;go_wp2_with fail;refine(HI.out _ (by exact zaI)).mono ?_
   rintro e w2 ⟨rfl,hb2⟩;have hb3:Below wr.heap.size wr w2:=((waC _ wr).alloc (waJ _) _).trans (hb2.mono (by simp))
   have hsz3:=hb3.size;have hbx:Below w.heap.size w w2:=zai hb hb3 hsz;have hi0:=HI0.out;have hz0:=HZ0.out;have hz1:=HZ1.out;have hz2:=HZ2.out
   go_wp2_with (at_builtin;refine wpList_append_own _ rfl _ _ 147 rfl w.heap.size 9 i0 _ 1 16 underlying147 hi0 hz0 hz1 hz2 rfl dQ _ X0.length _ rfl (zaf HO.out ?cB) ⟨w2.heap.size,0,none⟩ 1 1 [.string T] rfl rfl ?c1 ?c2 ?c3 ?c4 ?c5 ?c6)
   case cB=>exact hb3.alloc hsz3 _
   case c1=>
    intro j' u hu;rcases j' with _|j'
    ·simp at hu;subst hu;exact zaa rfl rfl
    ·simp at hu
   case c2=>intro u hu;simp at hu;subst hu;rfl
   case c3=>rw [HKL.out];simp only[maxLen];omega
   case c4=>rw [HKL.out];omega
   case c5=>simp;omega
   case c6=>
    intro v' w' hown hg _;have HV:Hid (zmf w' w.heap.size v' X1):=by
     show World.ownsRow _ _ _ _ _ _ _;rw[HS1.out,waF,List.map_append];exact hown
    have hbn:Below w.heap.size w w':=by
     refine Below.grown (hbx.alloc oQ _) hg (by simp;omega) ?_
     intro b hb';rcases zbt HO.out with ⟨h1,_⟩|⟨g,cap,h1,h2,h3⟩
     ·rw[h1] at hb';simp[Value.ownBlock] at hb'
     ·rw[h1] at hb';simp[Value.ownBlock] at hb';subst hb';exact h2
    clear hown hg hi0 hz0 hz1 hz2;go_wp2;go_roundw
    case rel=>exact⟨_,k+1,rfl,by omega,by go_num,by rw[←HX1.out];exact HV.out,hbn⟩
    case measure=>simp [intOf];omega
  ·obtain rfl:k=n:=by omega
   have HE:Hid (l.take k=l):=List.take_of_length_le (by rw[HL.out];exact waJ _)
   have HJ:=waV (zoH ⟨#[44]⟩ vo _ _ wr HO.out (by rw[ziJ,HE.out,HL.out];omega) (by
    have:=zhP (l.take k);show(Lib.join ((zdG (l.take k)).map (·.data.toList)) [44]).length≤_;rw[this];have:=zhO HWF.out k (by rw[HL.out];exact waJ _) (by rw[HL.out];exact hn)
    omega))
   have HF:Hid (Lib.join ((zdG (l.take k)).map (·.data.toList)) [44]=zdB l):=by
    show _=_;rw[zhP,HE.out]
   go_wp2_with fail;refine HJ.out.mono ?_;rintro e w1 ⟨rfl,hb1⟩;go_wp2;go_ret;exact⟨by rw[←HF.out];rfl,zai hb hb1 hsz⟩
def zoJ (l:Nat→List It) (k j:Nat):Value:=.string (if j<k then zcS (zdB (l j)) else⟨#[]⟩)
def zeR (l:Nat→List It):List ByteArray:=(List.range 5).map fun j=>zcS (zdB (l j))
theorem zfS (l:Nat→List It):Lib.join ((zeR l).map (·.data.toList)) [32]=zk1 (zev l):=by
 unfold zeR zk1 zev;rw[List.map_map,List.map_map];congr 1
theorem zrj {l:Nat→List It} (h:∀k,∀it∈l k,it.wf) (hn:∀k,k<5→(l k).length≤1000):(zk1 (zev l)).length≤600000:=by
 have:=znd ((zev l).map zdB) [32] 101000 (by
  intro x hx;obtain⟨y,hy,rfl⟩:=List.mem_map.1 hx;obtain⟨k,hk,rfl⟩:=List.mem_map.1 hy;have h1:=ziI (h k);have h2:=hn k (wbG.1 hk);omega)
 unfold zk1;have e:((zev l).map zdB).length=5:=rfl;rw[e] at this;simp at this;omega
theorem zu3 (A:Nat→Option Addr) (n c:Nat→Nat) (l:Nat→List It) (w:World) (hA:zbp w A n l) (hn:∀k,n k≤200) (hnil:∀k,A k=none→n k=0) (hwf:∀k,∀it∈l k,it.wf) (hw:Pow w) (hc:chk l=(5,0)):
 Calls prog 56 #[crV A n c] w (Ret (.tuple #[.string (zcS (zk1 (zev l))),.int .i64 0]) w):=by
 have HC:=waV (fun W (hb:Below w.heap.size w W)=>zhx A n c l W (hA.below hb (waJ _)) (fun k=>by have:=hn k;omega))
 rw[hc] at HC;have HF:=waV (fun k hk W (hb:Below w.heap.size w W)=>zm9 k hk A n c l W (hA.below hb (waJ _)) (by have:=hn k;omega) (hnil k))
 have HT:=waV (fun k (hk:k<5) A' c' W (hr:zcH W A' (n k) (l k)) (hb:Below w.heap.size w W)=>zoI A' (n k) c' (l k) W hr (by have:=hn k;omega) (hwf k) (zc0 hw hb))
 have HLen:Hid ((zk1 (zev l)).length≤600000):=zrj hwf (fun k hk=>by rw[(hA k hk).1];have:=hn k;omega)
 clear hA hn hnil hwf hw hc;go_enter func56,ntmps56;go_wp2_with fail;refine(HC.out _ (by exact zaI)).mono ?_
 rintro e w1 ⟨rfl,hb1⟩;have hb2:Below w.heap.size w w1:=((waC _ w).alloc (waJ _) _).trans (hb1.mono (by simp))
 have hz1:w.heap.size<w1.heap.size:=by have:=hb1.size;simp at this;omega
 obtain⟨hq1,hq2⟩:=zae hb1;have HL:Hid (zbf w1 w.heap.size 0 A n c):=⟨by rw[hq1 _ _ (by simp)];simp[go_sem],by rw[hq1 _ _ (by simp)];simp[go_sem],by rw[hq1 _ _ (by simp)];simp[go_sem],by rw[hq1 _ _ (by simp)];simp[go_sem],by rw[hq1 _ _ (by simp)];simp[go_sem]⟩
 clear hb1 hq1 hq2;go_wp2_with fail;have HO0:=waV (zd6 w1 #[.string ⟨#[]⟩,.string ⟨#[]⟩,.string ⟨#[]⟩,.string ⟨#[]⟩,.string ⟨#[]⟩] 231 (zoJ l 0) (by
  intro j hj;obtain rfl|rfl|rfl|rfl|rfl:j=0∨j=1∨j=2∨j=3∨j=4:=by simp at hj;omega
  all_goals rfl))
 obtain⟨B,hB⟩:∃B,B=w1.heap.size:=⟨_,rfl⟩;rw[←hB] at HO0;have HB:=waV hB
 go_loopw [16] (fun i wr=>∃k:Nat,k≤5∧i=.int .i64 k∧Hid (Arr wr w1.heap.size 5 (zoJ l k))∧Hid (zbf wr w.heap.size 0 A n c)∧Below w.heap.size w wr) (fun i _=>5 - (intOf i).toNat)
 case atStart=>exact⟨0,by omega,rfl,by rw[hB] at HO0;exact HO0.out,zbf.below HL.out (fun o=>((waC _ w1).alloc (waJ _) _).cell (p:=⟨_,o,none⟩) hz1),hb2.alloc hb2.size _⟩
 case round=>
  obtain⟨k,hk,rfl,HO,HLr,hb⟩:=hrel;have hsz:=hb.size;have hlt1:=HO.out.lt dQ
  by_cases h5:k<5
  ·have h5':(k:Int)<5:=by omega
   have hk0:(0:Int)≤(k:Int):=by omega
   obtain⟨c0,c1,c2,c3,c4⟩:=HLr.out;simp only[waH] at c1 c2 c3 c4;go_wp2_with fail;refine(HF.out k h5 _ hb).mono ?_;rintro e w2 ⟨A',c',rfl,hr,hb3⟩;have hb4:=zai hb hb3 hsz;have hz4:=hb4.size;have HO2:=waV (HO.out.below hlt1 hb3);have HL2:=waV (zbf.below HLr.out (fun o=>hb3.cell (p:=⟨_,o,none⟩) (waD hz1 (Nat.le_of_lt hlt1))))
   have hlt2:=waD hlt1 hb3.size;clear c0 c1 c2 c3 c4;go_wp2_with fail;refine(HT.out k h5 _ _ _ hr hb4).mono ?_;rintro e w3 ⟨rfl,hb5⟩;have hb6:=zai hb4 hb5 hz4;have HO3:=waV (HO2.out.below hlt2 hb5);have HL3:=waV (zbf.below HL2.out (fun o=>hb5.cell (p:=⟨_,o,none⟩) (waD hz1 (Nat.le_of_lt hlt2))))
   have ck:=HO3.out.1 k h5;have fk:=HO3.out.2 k;clear hb3 hb5 hr;obtain⟨T,hT⟩:∃T,T=zcS (zdB (l k)):=⟨_,rfl⟩;rw[←hT];have HTk:=waV hT;clear hT;unfold zoJ at ck;go_wp2;go_roundw
   case rel=>
    refine⟨k+1,by omega,by go_num,?_,?_,hb6.setCell (by simp;omega) _⟩
    ·exact HO3.out.set k h5 _ (by unfold zoJ;rw[if_pos (by omega),HTk.out]) (fun j hj hne=>by
      unfold zoJ
      by_cases h:j<k
      ·rw[if_pos h,if_pos (by omega)]
      ·rw[if_neg h,if_neg (by omega)])
    ·exact zbf.below HL3.out (fun o=>waU _ _ _ _ (by intro e2;injection e2 with e3;omega))
   case measure=>simp [intOf];omega
  ·obtain rfl:k=5:=by omega
   have HJ:=waV (zgf ⟨#[32]⟩ w1.heap.size 0 5 (zeR l) wr (fun j x hx=>by
    have hj:j<5:=(waI.1 hx).1;have h1:=HO.out.1 j hj;rw[waH,h1];unfold zeR at hx;rw[List.getElem?_map,List.getElem?_range hj] at hx;simp only[Option.map_some,Option.some.injEq] at hx;rw[←hx];unfold zoJ;rw[if_pos hj]) hlt1 (show 5≤140737488355328 by omega) (waJ 5) (by
     have:=zfS l;show(Lib.join ((zeR l).map (·.data.toList)) [32]).length≤_;rw[this];have:=HLen.out;omega))
   have HF2:Hid (Lib.join ((zeR l).map (·.data.toList)) [32]=zk1 (zev l)):=zfS l;go_wp2_with fail;refine HJ.out.mono ?_;rintro e w2 ⟨rfl,hb3⟩;go_wp2
   go_ret2
   exact⟨by rw[←HF2.out];rfl,zai hb hb3 hsz⟩
end Go.Proofs.YtadefhkaejjfmaaGreatDoor
