/- A part of the proof: WMeet6 -/
import Derived.Test.YtllcdbgjeidlkaaGreatDoorT26
set_option maxHeartbeats 80000000
set_option maxRecDepth 100000
set_option linter.unusedSimpArgs false
set_option linter.unusedVariables false
namespace Go.Proofs.YtllcdbgjeidlkaaGreatDoor
open Go.Proofs.Tryz
open Go.RowKit
open Go.Maps
theorem ztd (s:Int) (w:World):Calls prog 68 #[.pointer none,.int .i64 s] w (Ret (.bool false) w):=by
 go_enter func68,ntmps68;go_wp2_with fail;go_ret;exact⟨rfl,waC _ _⟩
theorem zqF {w:World} {D:Nat} {v:Value} {p:Nat->Bool} (h:zbp w D v p) (s:Nat) (hs:s<86400):Calls prog 68 #[v,.int .i64 s] w (Ret (.bool (p s)) w):=by
 rcases h with ⟨rfl,h⟩|⟨b,rfl,_,hd⟩
 ·rw[h s hs];exact ztd _ _
 ·refine(zmH b s p hs w hd).mono ?_;rintro e w' ⟨rfl,rfl⟩;exact⟨rfl,waC _ _⟩
def zvW (L1 L2:List Cl):Prop:=∀n,0<=n->n<146097->zgY (zay L1 n) (zay L2 n)
theorem zqG (f u:Int):zao f u<=12622780799:=by unfold zao;(repeat' split)<;>omega
theorem znc {L:List Cl} {n:Int} {s:Nat} (h0:0<=n) (h1:n<146097) (hs:s<86400) (h:zay L n s=true):zqD (hF L) (hU L) n=true/\hF L / 86400<=n/\n<=hU L / 86400/\¬hU L<0:=by
 obtain⟨a1,a2,a3⟩:=zm3 h;have a1:hF L<=n * 86400+(s:Int):=a1;have a2:n * 86400+(s:Int)<=hU L:=a2;have a3:¬hU L<0:=a3;refine⟨?_,by omega,by omega,a3⟩
 have hin:zjF (hF L) n<=n * 86400+(s:Int)/\n * 86400+(s:Int)<=zi2 (hU L) n:=by
  generalize hF L=a at *;generalize hU L=b at *;have d0:zr2 n=n * 86400:=if_pos ⟨h0,h1⟩;have d1:zr3 n=n * 86400+86399:=if_pos ⟨h0,h1⟩;unfold zjF zi2 mxI mnI;rw[d0,d1];constructor
  ·split<;>omega
  ·split<;>omega
 have hh:=((zvn (f:=zjF (hF L) n) (u:=zi2 (hU L) n) (t:=n * 86400+(s:Int))).2 ⟨hin.1,hin.2,by omega,by omega⟩).2
 unfold zqD;rw[waO (by omega)];rfl
theorem zxw {L1 L2:List Cl} {n:Int} (h:(hF L1 / 86400<=n/\n<=hU L1 / 86400/\¬hU L1<0)\/(hF L2 / 86400<=n/\n<=hU L2 / 86400/\¬hU L2<0)):zhu (hF L1) (hU L1) (hF L2) (hU L2) 2<=n/\n<=zhv (hF L1) (hU L1) (hF L2) (hU L2) 2:=by
 have e1:∀L,zaw (hF L) (hU L)=hF L:=fun L=>zfQ _ _
 have e2:∀L,zao (hF L) (hU L)=hU L:=fun L=>zdl _ _
 show zeR (zeR 146097 (hF L1) (hU L1)) (hF L2) (hU L2)<=n/\n<=zeS (zeS (-1) (hF L1) (hU L1)) (hF L2) (hU L2);unfold zeR zeS;rw[e1,e2,e1,e2];clear e1 e2;generalize hF L1=a1 at *;generalize hU L1=b1 at *;generalize hF L2=a2 at *;generalize hU L2=b2 at *;rcases h with ⟨h1,h2,h3⟩|⟨h1,h2,h3⟩
 ·rw[if_neg h3,if_neg h3]
  (repeat' split)<;>omega
 ·rw[if_neg h3,if_neg h3]
  (repeat' split)<;>omega
def zqH (op:Bool->Bool->Bool) (L1 L2:List Cl):Prop:=∀n,0<=n->n<146097->zcO (fun s=>op (zay L1 n s) (zay L2 n s)) 0
theorem zoe {op:Bool->Bool->Bool} (hff:op false false=false) {L1 L2:List Cl} (h:∀n,n∈zcX (mxI (zhu (hF L1) (hU L1) (hF L2) (hU L2) 2) 0) (mnI (zhv (hF L1) (hU L1) (hF L2) (hU L2) 2) 146096)->inW (hF L1) (hU L1) (hF L2) (hU L2) n=true->zwO op L1 L2 n):zqH op L1 L2:=fun n h0 h1 s hz hs=>by
 show op (zay L1 n s) (zay L2 n s)=false
 by_cases hk:zay L1 n s=true\/zay L2 n s=true
 ·have hw:inW (hF L1) (hU L1) (hF L2) (hU L2) n=true/\((hF L1 / 86400<=n/\n<=hU L1 / 86400/\¬hU L1<0)\/(hF L2 / 86400<=n/\n<=hU L2 / 86400/\¬hU L2<0)):=by
   unfold inW;rcases hk with hk|hk
   ·obtain⟨a1,a2⟩:=znc h0 h1 hs hk;exact⟨by rw[a1];rfl,.inl a2⟩
   ·obtain⟨a1,a2⟩:=znc h0 h1 hs hk;exact⟨by rw[a1,Bool.or_true],.inr a2⟩
  obtain⟨a1,a2⟩:=zxw hw.2;refine h n (zcu.2 ⟨?_,?_⟩) hw.1 s hz hs
  ·unfold mxI;split<;>omega
  ·unfold mnI;split<;>omega
 ·cases h1':zay L1 n s with
  |true=>exact absurd (.inl h1') hk
  |false=>
   cases h2':zay L2 n s with
   |true=>exact absurd (.inr h2') hk
   |false=>exact hff
theorem zte {op:Bool->Bool->Bool} {L1 L2:List Cl} {n:Int} {s:Nat} (h0:0<=n) (h1:n<146097) (h:zea (fun s=>op (zay L1 n s) (zay L2 n s)) 0 s):¬zqH op L1 L2:=fun k=>by
 obtain⟨hs,hz,hx,_⟩:=h;rw[k n h0 h1 s hz hs] at hx;cases hx
theorem zqI {L1 L2:List Cl}:zqH xorB L1 L2↔zvW L1 L2:=by
 constructor
 ·intro h n h0 h1 s hs;have:=h n h0 h1 s (waK _) hs;have e:(zay L1 n s^^zay L2 n s)=false:=this
  revert e
  cases zay L1 n s<;>cases zay L2 n s<;>decide
 ·intro h n h0 h1 s _ hs;show(zay L1 n s^^zay L2 n s)=false;rw[h n h0 h1 s hs,Bool.xor_self]
def zjg (L1 L2:List Cl):Prop:=∀n,0<=n->n<146097->∀s,s<86400->zay L1 n s=true->zay L2 n s=true
abbrev zqJ:Bool->Bool->Bool:=fun a b=>a&&!b
theorem zlE {L1 L2:List Cl}:zqH zqJ L1 L2↔zjg L1 L2:=by
 constructor
 ·intro h n h0 h1 s hs;have:=h n h0 h1 s (waK _) hs;have e:(zay L1 n s&&!zay L2 n s)=false:=this
  revert e
  cases zay L1 n s<;>cases zay L2 n s<;>decide
 ·intro h n h0 h1 s _ hs;show(zay L1 n s&&!zay L2 n s)=false;have:=h n h0 h1 s hs
  revert this
  cases zay L1 n s<;>cases zay L2 n s<;>decide
def erE (a b:Int):Int:=if a=0 then b else a
def zxx (n1 n2:Nat) (L1 L2:List Cl) (W:World) (e:Ending) (W':World):Prop:=
 Below W.heap.size W W'/\∃(y f:Bool) (t:Int),e=.returned (.tuple #[.agg #[.bool y,.int .i64 t,.bool f],.int .i64 (erE (zbI n1 L1) (zbI n2 L2))])/\(erE (zbI n1 L1) (zbI n2 L2)=0->(y=true↔zvW L1 L2))
def zvX (op:Bool->Bool->Bool) (n1 n2:Nat) (L1 L2:List Cl) (W:World) (e:Ending) (W':World):Prop:=
 Below W.heap.size W W'/\∃(y f:Bool) (t:Int),e=.returned (.tuple #[.agg #[.bool y,.int .i64 t,.bool f],.int .i64 (erE (zbI n1 L1) (zbI n2 L2))])/\(erE (zbI n1 L1) (zbI n2 L2)=0->(y=true↔zqH op L1 L2))
theorem zky:zqs 26 xorB:=⟨enters_of func26 kQ rfl,fun va vb p q w hw ha hb=>zh7 va vb p q w hw ha hb⟩
theorem RlS.to_below {S:Nat->Prop} {W V:World} {B:Nat} (h:RlS S W V) (hS:∀k,S k->B<=k) (hB:B<=W.heap.size):Below B W V:=⟨h.os,h.tape,h.output,h.size,fun k hk=>h.block k oQ (fun g=>by have:=hS k g;omega)⟩
theorem MeetAt.mge {W:World} {x:AskD} {L1 L2:List Cl} {h:Bool->Bool->Bool} {f1 u1 f2 u2:Int} {B:Nat} (k:MeetAt W x L1 L2 h f1 u1 f2 u2) (h1:B<=x.b) (h2:B<=x.fm) (h3:B<=x.lo1) (h4:B<=x.lo2):∀j,x.mv L1.length L2.length j->B<=j:=by
 rintro j (rfl|rfl|g|g)
 ·exact h1
 ·exact h2
 ·have:=k.r1.f.mb j g;omega
 ·have:=k.r2.f.mb j g;omega
theorem zha (op:Bool->Bool->Bool) (hff:op false false=false) (A1 A2:Option Addr) (n1 n2 k1 k2 g:Nat) (L1 L2:List Cl) (W:World) (hA1:zbh W A1 n1 L1) (hn1:n1<=4294967296) (hl1:A1=none->n1=0) (hbit1:∀c,c∈L1->zbC c/\c.s<=9223372036854775807)
 (hA2:zbh W A2 n2 L2) (hn2:n2<=4294967296) (hl2:A2=none->n2=0) (hbit2:∀c,c∈L2->zbC c/\c.s<=9223372036854775807) (hw:Tz W) (hf:zqs g op):
 Calls prog 25 #[.slice A1 n1 k1,.slice A2 n2 k2,.func (.func g) #[] #[]] W (zvX op n1 n2 L1 L2 W):=by
 have HBeg:=waV (fun V (hV:Below W.heap.size W V)=>zqE A1 A2 n1 n2 k1 k2 g L1 L2 op V (hA1.below hV (waJ _)) hn1 hl1 hbit1 (hA2.below hV (waJ _)) hn2 hl2 hbit2 (hw.below hV) hf)
 have HFi:=waV (fun V x (hV:MeetAt V x L1 L2 op (hF L1) (hU L1) (hF L2) (hU L2))=>zod op x L1 L2 (hF L1) (hU L1) (hF L2) (hU L2) V hV)
 clear hA1 hA2 hn1 hn2 hl1 hl2 hbit1 hbit2 hw hf;go_enter func25,ntmps25;go_wp2_with fail;have hb0:Below W.heap.size W (W.alloc (.cells #[.bool false,.int .i64 0,.bool false] 36)):=(waC _ W).alloc (waJ _) _;have hz0:(W.alloc (.cells #[.bool false,.int .i64 0,.bool false] 36)).heap.size=W.heap.size+1:=by simp
 have bx0:(W.alloc (.cells #[.bool false,.int .i64 0,.bool false] 36)).heap[W.heap.size]?=some (.cells #[.bool false,.int .i64 0,.bool false] 36):=World.alloc_heap_new W _;generalize (W.alloc (.cells #[.bool false,.int .i64 0,.bool false] 36))=W0 at *;refine(HBeg.out _ hb0).mono ?_;rintro e w1 ⟨hb1,hres⟩;have hz:=hb0.size;have bx1:=(hb1.block _ (waL.1 bx0).1).trans bx0;have hb01:=hb0.trans (hb1.mono hz);have lb1:=(waL.1 bx1).1;have c0:w1.cell? ⟨W.heap.size,0,none⟩=some (.bool false):=by simp[World.cell?,bx1]
 have c1:w1.cell? ⟨W.heap.size,1,none⟩=some (.int .i64 0):=by simp[World.cell?,bx1]
 have c2:w1.cell? ⟨W.heap.size,2,none⟩=some (.bool false):=by simp[World.cell?,bx1]
 have fz:∀j,w1.frozen? ⟨W.heap.size,j,none⟩=false:=fun j=>by simp[World.frozen?,bx1]
 obtain(⟨he,rfl⟩|⟨he1,he,rfl⟩|⟨he1,he2,x,rfl,hxg,hx1,hx2,hxD,hx3,hx4,hM⟩):=hres
 ·generalize hE:zbI n1 L1=E at *;have hf0:=fz 0;have hf1:=fz 1;have hf2:=fz 2;have hE':Hid (erE (zbI n1 L1) (zbI n2 L2)=E):=by show _=_;unfold erE;rw[if_neg (by rw[hE];exact he),hE]
  go_wp2_with fail
  (try simp only[Exit.inBlock,Exit.then])
  refine waY (v:=.tuple #[.agg #[.bool false,.int .i64 0,.bool false],.int .i64 E]) (by rw[zaD rfl];go_simp) rfl ?_
  have hbE:=Below.setCell (p:=⟨W.heap.size,2,none⟩) (Below.setCell (p:=⟨W.heap.size,1,none⟩) (Below.setCell (p:=⟨W.heap.size,0,none⟩) (by assumption:Below W.heap.size W _) (waJ _) (.bool false)) (waJ _) (.int .i64 0)) (waJ _) (.bool false)
  exact⟨hbE,false,false,0,by rw[hE'.out],fun h=>absurd (hE'.out.symm.trans h) he⟩
 ·generalize hE:zbI n2 L2=E at *;have hf0:=fz 0;have hf1:=fz 1;have hf2:=fz 2;have hE':Hid (erE (zbI n1 L1) (zbI n2 L2)=E):=by show _=_;unfold erE;rw[if_pos he1,hE]
  go_wp2_with fail
  (try simp only[Exit.inBlock,Exit.then])
  refine waY (v:=.tuple #[.agg #[.bool false,.int .i64 0,.bool false],.int .i64 E]) (by rw[zaD rfl];go_simp) rfl ?_
  have hbE:=Below.setCell (p:=⟨W.heap.size,2,none⟩) (Below.setCell (p:=⟨W.heap.size,1,none⟩) (Below.setCell (p:=⟨W.heap.size,0,none⟩) (by assumption:Below W.heap.size W _) (waJ _) (.bool false)) (waJ _) (.int .i64 0)) (waJ _) (.bool false)
  rw[<-hE] at hE';exact⟨hbE,false,false,0,by rw[hE'.out,hE],fun h=>absurd (hE.symm.trans (hE'.out.symm.trans h)) he⟩
 ·have hE':Hid (erE (zbI n1 L1) (zbI n2 L2)=0):=by show _=_;unfold erE;rw[if_pos he1,he2]
  have HM:=waV hM;have hFi:=waV (HFi.out w1 x hM);have hge:=hM.mge (show W.heap.size+1<=x.b by omega) oQ oQ oQ
  have hDw:=hM.r1.dw;clear hM;go_wp2_with fail;refine hFi.out.mono ?_;rintro e w2 ⟨hres,hM2,hr2⟩;have nb:¬x.mv L1.length L2.length W.heap.size:=fun g=>by have:=hge _ g;omega
  have hb2:Below W.heap.size W w2:=hb01.trans (hr2.to_below (fun k g=>by have:=hge k g;omega) oQ)
  have lb2:W.heap.size<w2.heap.size:=waD lb1 hr2.size;have c0:=hr2.cell c0 nb;have c1:=hr2.cell c1 nb;have c2:=hr2.cell c2 nb;have fz:∀j,w2.frozen? ⟨W.heap.size,j,none⟩=false:=fun j=>(zaX hr2 lb1 nb).trans (fz j)
  have hf0:=fz 0;have hf1:=fz 1;have hf2:=fz 2;clear bx1 lb1 hb1 hr2 hFi HFi HBeg bx0 hb0 hb01;obtain(⟨n,s,rfl,h0,h1,hn⟩|⟨rfl,hn⟩):=hres
  ·have hS:=waV (zte h0 h1 hn);have hs8:=hn.1;have hD:=waV (fun V hV=>zs2 x.d1 L1 x.lo1 x.hi1 x.D V hV n h0 h1)
   have HM2:=waV hM2;have q0:=hM2.c0;have lbx:=waR w2 _ q0;have d0:(n * 86400+(s:Int)) / 86400=n:=by omega
   have d1:(n * 86400+(s:Int))%86400=(s:Int):=by omega
   clear hn hM2;go_wp2_with fail;refine(hD.out w2 HM2.out.r1).mono ?_;rintro e w3 ⟨v,rfl,hd,hR3,hr3⟩;have nb1:¬x.d1.mv L1.length W.heap.size:=fun g=>nb (.inr (.inr (.inl g)))
   have hb3:Below W.heap.size W w3:=hb2.trans (hr3.to_below (fun k g=>by have:=hge k (.inr (.inr (.inl g)));omega) oQ)
   have c03:=hr3.cell c0 nb1;have c13:=hr3.cell c1 nb1;have c23:=hr3.cell c2 nb1;have fz3:∀j,w3.frozen? ⟨W.heap.size,j,none⟩=false:=fun j=>(zaX hr3 lb2 nb1).trans (fz j)
   have lb3:W.heap.size<w3.heap.size:=waD lb2 hr3.size;have hH:=waV (zqF hd s hs8);clear c0 c1 c2 fz hf0 hf1 hf2 hd hR3 hr3 q0 HM2 HM hD hb2;generalize zay L1 n s=B at *;go_wp2_with fail;refine hH.out.mono ?_;rintro e w4 ⟨rfl,hq4⟩;have hb4:Below W.heap.size W w4:=hb3.trans (hq4.mono oQ);have c04:=((zad hq4).1 _ _ lb3).trans c03;have c14:=((zad hq4).1 _ _ lb3).trans c13;have c24:=((zad hq4).1 _ _ lb3).trans c23;have fz4:∀j,w4.frozen? ⟨W.heap.size,j,none⟩=false:=fun j=>(zaX ((RlS.refl (fun _=>False) w3).below hq4 (waJ _)) lb3 (fun g=>g)).trans (fz3 j)
   have hf0:=fz4 0;have hf1:=fz4 1;have hf2:=fz4 2;have lb4:=waD lb3 hq4.size;clear c03 c13 c23 fz3 hq4 hb3;go_wp2_with fail
   (try simp only[Exit.inBlock,Exit.then])
   refine waY (v:=.tuple #[.agg #[.bool false,.int .i64 (n * 86400+(s:Int)),.bool B],.int .i64 0]) (by rw[zaD rfl];go_simp) rfl ?_
   have hbE:=Below.setCell (p:=⟨W.heap.size,2,none⟩) (Below.setCell (p:=⟨W.heap.size,1,none⟩) (Below.setCell (p:=⟨W.heap.size,0,none⟩) (by assumption:Below W.heap.size W _) (waJ _) (.bool false)) (waJ _) (.int .i64 (n * 86400+(s:Int)))) (waJ _) (.bool B)
   exact⟨hbE,false,B,_,by rw[hE'.out],fun _=>⟨fun h=>(by cases h),fun h=>absurd h hS.out⟩⟩
  ·have hS:=waV (zoe hff hn);clear hn;go_wp2_with fail
   (try simp only[Exit.inBlock,Exit.then])
   refine waY (v:=.tuple #[.agg #[.bool true,.int .i64 0,.bool false],.int .i64 0]) (by rw[zaD rfl];go_simp) rfl ?_
   have hbE:=Below.setCell (p:=⟨W.heap.size,2,none⟩) (Below.setCell (p:=⟨W.heap.size,1,none⟩) (Below.setCell (p:=⟨W.heap.size,0,none⟩) (by assumption:Below W.heap.size W _) (waJ _) (.bool true)) (waJ _) (.int .i64 0)) (waJ _) (.bool false)
   exact⟨hbE,true,false,0,by rw[hE'.out],fun _=>⟨fun _=>hS.out,fun _=>rfl⟩⟩
theorem zof (A1 A2:Option Addr) (n1 n2 k1 k2:Nat) (L1 L2:List Cl) (W:World) (hA1:zbh W A1 n1 L1) (hn1:n1<=4294967296) (hl1:A1=none->n1=0) (hbit1:∀c,c∈L1->zbC c/\c.s<=9223372036854775807)
 (hA2:zbh W A2 n2 L2) (hn2:n2<=4294967296) (hl2:A2=none->n2=0) (hbit2:∀c,c∈L2->zbC c/\c.s<=9223372036854775807) (hw:Tz W):
 Calls prog 11 #[.slice A1 n1 k1,.slice A2 n2 k2] W (zxx n1 n2 L1 L2 W):=by
 have HV:=waV (fun V (hV:Below W.heap.size W V)=>zha xorB rfl A1 A2 n1 n2 k1 k2 26 L1 L2 V (hA1.below hV (waJ _)) hn1 hl1 hbit1 (hA2.below hV (waJ _)) hn2 hl2 hbit2 (hw.below hV) zky)
 clear hA1 hA2 hn1 hn2 hl1 hl2 hbit1 hbit2 hw;go_enter func11,ntmps11;go_wp2_with fail;have hb0:Below W.heap.size W (W.alloc (.cells #[.bool false,.int .i64 0,.bool false] 36)):=(waC _ W).alloc (waJ _) _;have hz0:(W.alloc (.cells #[.bool false,.int .i64 0,.bool false] 36)).heap.size=W.heap.size+1:=by simp
 have bx0:(W.alloc (.cells #[.bool false,.int .i64 0,.bool false] 36)).heap[W.heap.size]?=some (.cells #[.bool false,.int .i64 0,.bool false] 36):=World.alloc_heap_new W _;generalize (W.alloc (.cells #[.bool false,.int .i64 0,.bool false] 36))=W0 at *;refine(HV.out _ hb0).mono ?_;rintro e w1 ⟨hb1,y,f,t,rfl,hy⟩;have bx1:=(hb1.block _ (waL.1 bx0).1).trans bx0;have hb01:=hb0.trans (hb1.mono oQ);have lb1:=(waL.1 bx1).1;have c0:w1.cell? ⟨W.heap.size,0,none⟩=some (.bool false):=by simp[World.cell?,bx1]
 have c1:w1.cell? ⟨W.heap.size,1,none⟩=some (.int .i64 0):=by simp[World.cell?,bx1]
 have c2:w1.cell? ⟨W.heap.size,2,none⟩=some (.bool false):=by simp[World.cell?,bx1]
 have hf0:w1.frozen? ⟨W.heap.size,0,none⟩=false:=by simp[World.frozen?,bx1]
 have hf1:w1.frozen? ⟨W.heap.size,1,none⟩=false:=by simp[World.frozen?,bx1]
 have hf2:w1.frozen? ⟨W.heap.size,2,none⟩=false:=by simp[World.frozen?,bx1]
 have HY:=waV hy;clear bx1 bx0 hb1 hb0 hy HV;generalize hE:erE (zbI n1 L1) (zbI n2 L2)=E at *;go_wp2_with fail
 (try simp only[Exit.inBlock,Exit.then])
 refine waY (v:=.tuple #[.agg #[.bool y,.int .i64 t,.bool f],.int .i64 E]) (by rw[zaD rfl];go_simp) rfl ?_
 have hbE:=Below.setCell (p:=⟨W.heap.size,2,none⟩) (Below.setCell (p:=⟨W.heap.size,1,none⟩) (Below.setCell (p:=⟨W.heap.size,0,none⟩) (by assumption:Below W.heap.size W _) (waJ _) (.bool y)) (waJ _) (.int .i64 t)) (waJ _) (.bool f)
 subst hE;exact⟨hbE,y,f,t,rfl,fun h=>(HY.out h).trans zqI⟩
end Go.Proofs.YtllcdbgjeidlkaaGreatDoor
namespace Go.Proofs.YtllcdbgjeidlkaaGreatDoor
open Go.Proofs.Tryz
open Go.RowKit
open Go.Maps
attribute [local go_sem] Oper.semAt_some
theorem znd (d:RollD) (L:List Cl) (lo hi D:Nat) (W:World) (hR:RollAt W d L lo hi D) (f t:Int):
 Calls prog 30 #[.pointer (some ⟨d.b,0,none⟩),.int .i64 f,.int .i64 t] W (zxs d L f t W):=by
 have HB:=waV (fun V (hV:Below W.heap.size W V)=>zkp d L lo hi D V (hR.below hV) f t)
 clear hR;go_enter func30,ntmps30;go_wp2_with fail;have hb0:Below W.heap.size W (((W.alloc (.cells #[.pointer (some ⟨d.b,0,none⟩)] 71)).alloc (.cells #[.int .i64 f] 2)).alloc (.cells #[.int .i64 t] 2)):=(((waC _ W).alloc (waJ _) _).alloc (by simp) _).alloc (by simp;omega) _
 have hz0:(((W.alloc (.cells #[.pointer (some ⟨d.b,0,none⟩)] 71)).alloc (.cells #[.int .i64 f] 2)).alloc (.cells #[.int .i64 t] 2)).heap.size=W.heap.size+3:=by simp
 have x0:Boxed (((W.alloc (.cells #[.pointer (some ⟨d.b,0,none⟩)] 71)).alloc (.cells #[.int .i64 f] 2)).alloc (.cells #[.int .i64 t] 2)) W.heap.size 71 (.pointer (some ⟨d.b,0,none⟩)):=((Boxed.new _ _ _).alloc _).alloc _;have x1:Boxed (((W.alloc (.cells #[.pointer (some ⟨d.b,0,none⟩)] 71)).alloc (.cells #[.int .i64 f] 2)).alloc (.cells #[.int .i64 t] 2)) (W.heap.size+1) 2 (.int .i64 f):=by
  have h:W.heap.size+1=(W.alloc (.cells #[.pointer (some ⟨d.b,0,none⟩)] 71)).heap.size:=by simp
  rw[h];exact(Boxed.new _ _ _).alloc _
 have x2:Boxed (((W.alloc (.cells #[.pointer (some ⟨d.b,0,none⟩)] 71)).alloc (.cells #[.int .i64 f] 2)).alloc (.cells #[.int .i64 t] 2)) (W.heap.size+1+1) 2 (.int .i64 t):=by
  have h:W.heap.size+1+1=((W.alloc (.cells #[.pointer (some ⟨d.b,0,none⟩)] 71)).alloc (.cells #[.int .i64 f] 2)).heap.size:=by simp
  rw[h];exact Boxed.new _ _ _
 generalize (((W.alloc (.cells #[.pointer (some ⟨d.b,0,none⟩)] 71)).alloc (.cells #[.int .i64 f] 2)).alloc (.cells #[.int .i64 t] 2))=W0 at *;refine(HB.out _ hb0).mono ?_;rintro e w1 ⟨rfl,hb1⟩;have x0:=zaG hb1 x0;have x1:=zaG hb1 x1;have x2:=zaG hb1 x2;have hb01:=hb0.trans (hb1.mono oQ);have c1:=x1.cell;have c2:=x2.cell;have f1:=x1.frozen;have f2:=x2.frozen;have l1:=x1.lt;have l2:=x2.lt;go_wp2_with fail;go_ret;exact⟨W.heap.size+1,W.heap.size+1+1,W.heap.size,rfl,by omega,by omega,waJ _,((x1.set _).other oQ _).cell,((x2.other oQ _).set _).cell,((x0.other oQ _).other oQ _).cell,(hb01.setCell (p:=⟨W.heap.size+1,0,none⟩) (by show W.heap.size<=W.heap.size+1;omega) _).setCell (p:=⟨W.heap.size+1+1,0,none⟩) (by show W.heap.size<=W.heap.size+1+1;omega) _⟩
end Go.Proofs.YtllcdbgjeidlkaaGreatDoor
namespace Go.Proofs.YtllcdbgjeidlkaaGreatDoor
open Go.Proofs.Tryz
open Go.RowKit
open Go.Maps
attribute [local go_sem] Oper.semAt_some
theorem zqK {S:Nat->Prop} {lo hi B:Nat} {W V:World} (h:RlS S W V) (hS:∀k,S k->lo<=k/\k<hi):Rl lo hi B W V:=
 ⟨h.os,h.tape,h.output,h.size,fun k o hk h1 _=>(h.block k (waL.1 hk).1 (fun g=>by have:=hS k g;omega)).trans hk⟩
theorem Rl.of00 {lo hi B B':Nat} {X Y:World} (h:Rl 0 0 B X Y) (hB:B'<=B):Rl lo hi B' X Y:=⟨h.os,h.tape,h.output,h.size,fun k o hk _ h2=>h.block k o hk (.inr (waK _)) (h2.imp (fun g=>by omega) id)⟩
theorem zlF {β:Type} {R:β->Prop} (q:β->Bool) (pre:List {x // R x}) (x:{x // R x}):((pre++[x]).map Subtype.val).filter q=(pre.map Subtype.val).filter q++(if q x.1=true then [x.1] else []):=by
 rw[List.map_append,List.filter_append,List.map_singleton];cases h:q x.1<;>simp [h]
theorem zog {β:Type} {R:β->Prop} (q:β->Bool) (pre:List {x // R x}):((pre.map Subtype.val).filter q).length<=pre.length:=by
 have:=List.length_filter_le q (pre.map Subtype.val);rw[List.length_map] at this;exact this
theorem ztf {L:List Cl} {a z:Int}:(((zcX a z).attach).map Subtype.val).filter (zg7 L)=zhF L a z:=by
 rw[List.attach_map_subtype_val];rfl
theorem ztg {p:Nat->Bool} (h:zs3 p=true):¬∀s,s<86400->p s=false:=fun k=>by
 rw[zfP k] at h;cases h
theorem zkz (M:Nat->Prop) (n:Nat) (d:RollD) (L:List Cl) (lo hi D b1 b2 b3:Nat) (a z:Int) (hMb:M d.b) (n3:¬M b3) (ha:a<=9223372036854775807) (hz:-9223372036854775808<=z) (hbe:b3<lo\/hi<=b3):
 zxj Fence.wide n prog 79 #[.pointer (some ⟨b1,0,none⟩),.pointer (some ⟨b2,0,none⟩),.pointer (some ⟨b3,0,none⟩)] (fun x:Int×Nat=> #[shV x.1,.pointer (some ⟨x.2,0,none⟩)])
  (fun x W=>0<=x.1/\x.1<146097/\RollAt W d L lo hi D/\D<=x.2/\DiscAt W x.2 (zay L x.1)) (KpR M d L lo hi D) (fun xs=>xs.map Prod.fst=zhF L (mxI a 0) (mnI z 146096)) (fun _=>True) 146098 lo hi
  (fun W=>(∀k,M k->k<W.heap.size)/\RollAt W d L lo hi D/\W.cell? ⟨b1,0,none⟩=some (.int .i64 a)/\W.cell? ⟨b2,0,none⟩=some (.int .i64 z)/\W.cell? ⟨b3,0,none⟩=some (.pointer (some ⟨d.b,0,none⟩))):=by
 intro l J Jx W ⟨hM,hR,hc1,hc2,hc3⟩ hJ hJx hY h0;have HG:=waV (fun f u V=>wbP (n:=19).2 (zkr f u V))
 have HAt:=waV (fun l' V (hV:RollAt V d L lo hi D) n h0 h1=>zat (m:=17) (l':=l') (zm2 d L lo hi D V hV n h0 h1))
 have HSm:=waV (fun l' v p V (hd:zdN V v p) (hw:Tz V)=>zat (m:=17) (l':=l') (zqq v p V hd hw))
 have HY:=waV hY;clear hY;have nM:∀k,W.heap.size<=k->¬M k:=fun k h1 h2=>by have:=hM k h2;omega
 have hDW:=hR.dw;have HR:=waV hR;have HJ:=waV h0;clear hR h0
 suffices hs20:CallsIn Fence.wide 20 prog 79 (#[.func (.yield l) #[] #[]]++ #[.pointer (some ⟨b1,0,none⟩),.pointer (some ⟨b2,0,none⟩),.pointer (some ⟨b3,0,none⟩)]) W fun e W'=>(∃v,e=.returned v)/\((∃xs,xs.map Prod.fst=zhF L (mxI a 0) (mnI z 146096)/\J xs W')\/(∃pre,True/\Jx pre W')) from wbP.2 (wbP.1 hs20)
 refine callsIn_of_wp_marks func79 rfl trivial ?_ rfl;simp only[ntmps79,wbQ,waG,List.length_nil,Nat.reduceAdd,Nat.reduceSub,wbR,wbS,List.push_toArray,List.append_toArray,wbN,wbT]
 gi_wp2_with fail
 apply zcg;apply wpIn_seq;apply wpIn_label;simp only[Exit.then]
 have hb0:Below W.heap.size W (W.alloc (.cells #[.func (.yield l) #[] #[]] 155)):=(waC _ W).alloc (waJ _) _;have y0:Boxed (W.alloc (.cells #[.func (.yield l) #[] #[]] 155)) W.heap.size 155 (.func (.yield l) #[] #[]):=Boxed.new _ _ _;have hz0:(W.alloc (.cells #[.func (.yield l) #[] #[]] 155)).heap.size=W.heap.size+1:=by simp
 generalize (W.alloc (.cells #[.func (.yield l) #[] #[]] 155))=W0 at *;have e1:=((zad hb0).1 _ _ (waR W _ hc1)).trans hc1;have e2:=((zad hb0).1 _ _ (waR W _ hc2)).trans hc2;have e3:=((zad hb0).1 _ _ (waR W _ hc3)).trans hc3
 gi_wp2_with fail
 refine⟨trivial,?_⟩;refine(HG.out _ _ _).mono ?_;rintro e w2 ⟨q1,q2,rfl,hl1,hl2,hne,hd1,hd2,hb2⟩;have hbW2:Below W.heap.size W w2:=hb0.trans (hb2.mono hb0.size);have hz2:=hb2.size;have y2:=zaG hb2 y0;have cy2:=y2.cell;have c32:=((zad hb2).1 _ _ (waR W0 _ e3)).trans e3;have lq1:W.heap.size+1<=q1:=by omega
 have lq2:W.heap.size+1<=q2:=by omega
 have hR2:=waV (HR.out.below hbW2);have hJ2:=waV (hJ _ _ _ HJ.out ((Rl.refl lo hi W.heap.size W).below hbW2));have eg:∀args w,(callFunc 144 args).run prog w=.ok (.enter 144 args) w:=enters_of func144 kQ rfl;clear HJ HR e1 e2 e3 y0 hb0 hc1 hc2 hc3
 gi_wp2_with fail
 refine wpIn_rangeFunc_ownH rfl oQ (gf:=144) (lb:=#[.pointer (some ⟨q1,0,none⟩),.pointer (some ⟨q2,0,none⟩)]) rfl trivial eg
  (zg6 (KpM M) 19 q1 q2 (mxI a 0) (mnI z 146096) dQ mx0 (by unfold mxI;split<;>omega) (by unfold mnI;split<;>omega) mn1 (fun _ _ hk hc=>hk.cell hc (nM _ oQ)) w2 hd1 hd2)
  (fun h k=>h.trans k) (fun V l o o' _ hl ho _=>KpM.putObj o' hl ho) (waC _ _) (fun _=>rfl)
  (fun pre V=>((∃xs:List (Int×Nat),xs.map Prod.fst=(pre.map Subtype.val).filter (zg7 L)/\J xs V)/\RollAt V d L lo hi D)/\KpM M w2 V)
  (fun c pre V=>c=.exit 0/\∃xs:List (Int×Nat),Jx xs V)
  (OwnFrom.and (zaM (lo:=0) (hi:=0) (fun _ X Y hs hr=>⟨hs.1.imp fun xs h=>⟨h.1,hJ _ X Y h.2 (hr.of00 oQ)⟩,hs.2.rl00 hr oQ⟩)) zcN)
  (fun c=>zaM (lo:=0) (hi:=0) (fun _ X Y hs hr=>⟨hs.1,hs.2.imp fun xs h=>hJx _ X Y h (hr.of00 oQ)⟩))
  ⟨⟨⟨[],rfl,hJ2.out⟩,hR2.out⟩,KpM.refl _ _⟩
  (fun x a' V=>∃Bs,w2.heap.size<=Bs/\V.heap[Bs]?=some (.cells (shA x.1) 81)/\a'={tmps:=#[.func (.yield l) #[] #[],.pointer (some ⟨b1,0,none⟩),.pointer (some ⟨b2,0,none⟩),.pointer (some ⟨b3,0,none⟩),.pointer (some ⟨W.heap.size,0,none⟩),.pointer (some ⟨Bs,0,none⟩),undef,.int .i64 a,.int .i64 z,.func (.func 144) #[] #[.pointer (some ⟨q1,0,none⟩),.pointer (some ⟨q2,0,none⟩)],shV x.1,undef,undef,undef,undef,undef,undef,undef,undef,undef,undef,undef],defers:=[]})
  (fun x a' _ X Y row hs hg hr=>by
    obtain⟨Bs,e1,e2,e3⟩:=hs;refine⟨Bs,e1,(hg.block Bs (waL.1 e2).1 (fun e=>?_)).trans e2,e3⟩
    obtain⟨_,o,ho,hc⟩:=hr Bs e.symm;rw[e2] at ho;cases ho;cases hc)
  ?assign ?body ?done ?stop
 case assign=>
  rintro l1 pre x V K ⟨⟨⟨xs,hxs,hjx⟩,hrx⟩,hkx⟩ hK;obtain⟨v0,v1,v2,v3,v4,v5,v6,v7,v8,v9,hv⟩:=zfS x.1;have hA:shA x.1=#[.int .i64 v0,.int .i64 v1,.int .i64 v2,.int .i64 v3,.int .i64 v4,.int .i64 v5,.int .i64 v6,.int .i64 v7,.int .i64 v8,.int .i64 v9]:=by have:=(zfR x.1).symm.trans hv;injection this
  have HK:=waV hK;have HJx:=waV hjx;have HRx:=waV hrx;clear hK hjx hrx;rw[hv] at HK ⊢;rw[hA] at HK;have hsz:=hkx.size
  gi_wp2
  have hb:=(waC _ V).alloc (waJ _) (.cells #[.int .i64 v0,.int .i64 v1,.int .i64 v2,.int .i64 v3,.int .i64 v4,.int .i64 v5,.int .i64 v6,.int .i64 v7,.int .i64 v8,.int .i64 v9] 81);exact HK.out _ _ ((KeepsOthers.alloc _ _).from _) ((KpM.refl _ V).alloc _) ⟨⟨⟨xs,hxs,hJ _ _ _ HJx.out ((Rl.refl lo hi W.heap.size V).below hb)⟩,HRx.out.below hb⟩,hkx.alloc _⟩ ⟨V.heap.size,hsz,World.alloc_heap_new V _,rfl⟩
 case body=>
  rintro l1 pre x a' V hl1 ⟨r1,hr1⟩ ⟨⟨⟨xs,hxs,hjx⟩,hrx⟩,hkx⟩ ⟨Bs,hBs,hbs,rfl⟩ hlt;obtain⟨v0,v1,v2,v3,v4,v5,v6,v7,v8,v9,hv⟩:=zfS x.1;have hA:shA x.1=#[.int .i64 v0,.int .i64 v1,.int .i64 v2,.int .i64 v3,.int .i64 v4,.int .i64 v5,.int .i64 v6,.int .i64 v7,.int .i64 v8,.int .i64 v9]:=by have:=(zfR x.1).symm.trans hv;injection this
  have hn0:0<=x.1:=by have:=zcu.1 x.2;have:=@mx0 a;omega
  have hn1:x.1<146097:=by have:=zcu.1 x.2;have:=@mn1 z;omega
  have hlive:=zlF (zg7 L) pre x;have hlen:=zog (zg7 L) pre;rw[<-hxs,List.length_map] at hlen;have HAx:=waV (HAt.out l1 V hrx x.1 hn0 hn1);have HYx:=waV (fun q W1 (hj:J xs W1) h=>HY.out xs (x.1,q) W1 hj ⟨hn0,hn1,h⟩ oQ)
  have HLive:=waV hlive;have HXs:=waV hxs;clear hlive hxs;dsimp only at HYx;rw[hv] at HAx HYx ⊢;rw[hA] at hbs;have hsz:=hkx.size;have c3V:=hkx.cell c32 n3;have cyV:=hkx.cell cy2 (nM _ (waJ _));have nBs:∀j,d.mv L.length j->j<W.heap.size:=fun j g=>by have:=hrx.f.mb j g;have:=hrx.hiD;omega
  have nlo:∀j,d.mv L.length j->lo<=j/\j<hi:=fun j g=>hrx.f.mb j g
  have hmb:=hrx.f.lb0;have hhD:=hrx.hiD;have e0:V.cell? ⟨Bs,0,none⟩=some (.int .i64 v0):=by simp[World.cell?,hbs]
  have e1:V.cell? ⟨Bs,1,none⟩=some (.int .i64 v1):=by simp[World.cell?,hbs]
  have e2:V.cell? ⟨Bs,2,none⟩=some (.int .i64 v2):=by simp[World.cell?,hbs]
  have e3:V.cell? ⟨Bs,3,none⟩=some (.int .i64 v3):=by simp[World.cell?,hbs]
  have e4:V.cell? ⟨Bs,4,none⟩=some (.int .i64 v4):=by simp[World.cell?,hbs]
  have e5:V.cell? ⟨Bs,5,none⟩=some (.int .i64 v5):=by simp[World.cell?,hbs]
  have e6:V.cell? ⟨Bs,6,none⟩=some (.int .i64 v6):=by simp[World.cell?,hbs]
  have e7:V.cell? ⟨Bs,7,none⟩=some (.int .i64 v7):=by simp[World.cell?,hbs]
  have e8:V.cell? ⟨Bs,8,none⟩=some (.int .i64 v8):=by simp[World.cell?,hbs]
  have e9:V.cell? ⟨Bs,9,none⟩=some (.int .i64 v9):=by simp[World.cell?,hbs]
  have HJV:=waV hjx;have HRV:=waV hrx;clear hjx hrx
  gi_wp2_with fail
  refine⟨trivial,?_⟩;refine HAx.out.mono ?_;rintro e w3 ⟨v,rfl,hd,hR3,hr3⟩;have hk3:KpM M V w3:=KpM.of_roll HRV.out hr3 hMb;have hj3:J xs w3:=hJ _ _ _ HJV.out (zqK hr3 nlo);have hf3:KeepsFrom W.heap.size V w3:=⟨hr3.size,fun i o h1 h2 _=>(hr3.block i (waL.1 h2).1 (fun g=>by have:=nBs i g;omega)).trans h2⟩
  have hbs3:=(hr3.block Bs (waL.1 hbs).1 (fun g=>by have:=nBs Bs g;omega)).trans hbs
  have cy3:=hk3.cell cyV (nM _ (waJ _));have hdv:zdN w3 v (zay L x.1):=Or.imp id (fun⟨b,h1,_,h3⟩=>⟨b,h1,h3⟩) hd
  have HS3:=waV (HSm.out l1 v (zay L x.1) w3 hdv hR3.tz);have HR3:=waV hR3;have HJ3:=waV hj3;clear e0 e1 e2 e3 e4 e5 e6 e7 e8 e9 hdv hR3 hj3 hr3 hbs c3V HAx HJV HRV;cases hany:zs3 (zay L x.1) with
  |false=>
   rw[hany] at HS3;have HP:Hid (xs.map Prod.fst=((pre++[x]).map Subtype.val).filter (zg7 L)):=by
    have h:zg7 L x.1=false:=hany;show _=_;rw[HLive.out,h,HXs.out];simp
   clear hd hbs3
   gi_wp2_with fail
   refine⟨trivial,?_⟩;refine HS3.out.mono ?_;rintro e w4 ⟨rfl,rfl⟩
   gi_wp2_with fail
   exact⟨zan hf3 oQ,hk3,⟨⟨xs,HP.out,HJ3.out⟩,HR3.out⟩,hkx.trans hk3⟩
  |true=>
   rw[hany] at HS3;rcases hd with ⟨_,hno⟩|⟨q,rfl,hq,hdq⟩
   ·exact absurd hno (ztg hany)
   have HP:Hid ((xs++[(x.1,q)]).map Prod.fst=((pre++[x]).map Subtype.val).filter (zg7 L)):=by
    have h:zg7 L x.1=true:=hany;show _=_;rw[HLive.out,h,<-HXs.out];simp
   obtain⟨fn,tmps,assign,body,hy,hRd⟩:=HYx.out q w3 HJ3.out ⟨HR3.out,hq,hdq⟩;have HRd:=waV hRd;have f0:w3.cell? ⟨Bs,0,none⟩=some (.int .i64 v0):=by simp[World.cell?,hbs3]
   have f1:w3.cell? ⟨Bs,1,none⟩=some (.int .i64 v1):=by simp[World.cell?,hbs3]
   have f2:w3.cell? ⟨Bs,2,none⟩=some (.int .i64 v2):=by simp[World.cell?,hbs3]
   have f3:w3.cell? ⟨Bs,3,none⟩=some (.int .i64 v3):=by simp[World.cell?,hbs3]
   have f4:w3.cell? ⟨Bs,4,none⟩=some (.int .i64 v4):=by simp[World.cell?,hbs3]
   have f5:w3.cell? ⟨Bs,5,none⟩=some (.int .i64 v5):=by simp[World.cell?,hbs3]
   have f6:w3.cell? ⟨Bs,6,none⟩=some (.int .i64 v6):=by simp[World.cell?,hbs3]
   have f7:w3.cell? ⟨Bs,7,none⟩=some (.int .i64 v7):=by simp[World.cell?,hbs3]
   have f8:w3.cell? ⟨Bs,8,none⟩=some (.int .i64 v8):=by simp[World.cell?,hbs3]
   have f9:w3.cell? ⟨Bs,9,none⟩=some (.int .i64 v9):=by simp[World.cell?,hbs3]
   clear hRd hbs3 HYx hdq
   gi_wp2_with fail
   refine⟨trivial,?_⟩;refine HS3.out.mono ?_;rintro e w4 ⟨rfl,rfl⟩
   gi_wp2_with fail
   refine(zc3 (l':=l1) HRd.out).mono ?_;rintro e W4 (⟨rfl,hj4,hk4,hf4⟩|⟨rfl,hj4,hf4⟩)
   ·have HJ4:=waV hj4;have HR4:=waV (hk4.r HR3.out);clear hj4 hy
    gi_wp2_with fail
    exact⟨zan (hf3.trans hf4) oQ,hk3.trans hk4.k,⟨⟨_,HP.out,HJ4.out⟩,HR4.out⟩,(hkx.trans hk3).trans hk4.k⟩
   ·have HJ4:=waV hj4;clear hj4 hy
    gi_wp2_with fail
    exact⟨zan (hf3.trans hf4) oQ,rfl,_,HJ4.out⟩
 case done=>
  rintro D' ys V hD rfl ⟨⟨⟨xs,hxs,hjx⟩,hrx⟩,hkx⟩ hKd;rw[ztf] at hxs;have HJV:=waV (hJ _ _ _ hjx ((Rl.refl lo hi W.heap.size V).put (.deferred none) hKd rfl oQ));clear hjx hrx
  gi_wp2_with fail
  refine⟨by simp,.inl ⟨_,_,rfl,run_takeDeferred hKd,?_⟩⟩
  exact⟨_,results_none rfl _ _ _,⟨_,rfl⟩,.inl ⟨xs,hxs,HJV.out⟩⟩
 case stop=>
  rintro D' c pre V hD _ ⟨rfl,xs,hjx⟩ hKd;have HJV:=waV (hJx _ _ _ hjx ((Rl.refl lo hi W.heap.size V).put (.deferred none) hKd rfl oQ));clear hjx
  gi_wp2_with fail
  refine⟨by simp,.inl ⟨_,_,rfl,run_takeDeferred hKd,?_⟩⟩
  exact⟨_,results_none rfl _ _ _,⟨_,rfl⟩,.inr ⟨xs,trivial,HJV.out⟩⟩
end Go.Proofs.YtllcdbgjeidlkaaGreatDoor
namespace Go.Proofs.YtllcdbgjeidlkaaGreatDoor
open Go.Proofs.Tryz
open Go.RowKit
open Go.Maps
structure SeenE (W:World) (P:Nat->Prop) (es:List MapEntry):Prop where
 one:zfm es
 all:∀q∈es,∃b,q.key=.pointer (some ⟨b,0,none⟩)/\q.val=.bool true/\P b/\∃p,DiscAt W b p
theorem SeenE.nil (W:World) (P:Nat->Prop):SeenE W P []:=⟨(fun q hq=>by cases hq),fun q hq=>by cases hq⟩
theorem SeenE.imp {W V:World} {P Q:Nat->Prop} {es:List MapEntry} (h:SeenE W P es) (hP:∀b,P b->Q b) (hd:∀e p,DiscAt W e p->DiscAt V e p):SeenE V Q es:=⟨h.one,fun q hq=>by
 obtain⟨b,h1,h2,h3,p,h4⟩:=h.all q hq;exact⟨b,h1,h2,hP b h3,p,hd b p h4⟩⟩
theorem SeenE.keys {W:World} {P:Nat->Prop} {es:List MapEntry} (h:SeenE W P es):∀q∈es,zf3 W q.key:=fun q hq=>by
 obtain⟨b,h1,_,_,p,h4⟩:=h.all q hq;obtain⟨cs,hc⟩:=h4.obj;exact⟨b,cs,_,h1,hc⟩
theorem SeenE.push {W:World} {P:Nat->Prop} {es:Array MapEntry} (h:SeenE W P es.toList) {b n:Nat} {p:Nat->Bool} (hno:∀q∈es.toList,q.key≠.pointer (some ⟨b,0,none⟩)) (hP:P b) (hd:DiscAt W b p):SeenE W P (es.push {key:=.pointer (some ⟨b,0,none⟩),val:=.bool true,born:=n}).toList:=⟨h.one.push hno,fun q hq=>by
 rw[Array.toList_push,wbB,wbC] at hq;rcases hq with hq|rfl
 ·exact h.all q hq
 ·exact⟨b,rfl,rfl,hP,p,hd⟩⟩
structure FreshAt (W:World) (kb m:Nat) (P:Nat->Prop):Prop where
 c:W.cell? ⟨kb,0,none⟩=some (.map (some m))
 f:∃es k,W.heap[m]?=some (.map es k)/\SeenE W P es.toList
theorem FreshAt.ne {W:World} {kb m:Nat} {P:Nat->Prop} (h:FreshAt W kb m P):kb≠m:=by
 rintro rfl;obtain⟨es,k,hm,_⟩:=h.f;have:=h.c;simp[World.cell?,hm] at this
theorem FreshAt.imp {W V:World} {kb m:Nat} {P:Nat->Prop} {S:Nat->Prop} (h:FreshAt W kb m P) (hr:RlS S W V) (h1:¬S kb) (h2:¬S m) (hd:∀e p,DiscAt W e p->DiscAt V e p):FreshAt V kb m P:=⟨hr.cell h.c h1,by
 obtain⟨es,k,hm,hs⟩:=h.f;exact⟨es,k,(hr.block _ (waL.1 hm).1 h2).trans hm,hs.imp (fun _ h=>h) hd⟩⟩
theorem FreshAt.put {W:World} {kb m:Nat} {P Q:Nat->Prop} (h:FreshAt W kb m P) (es:Array MapEntry) (k:Nat) (hs:SeenE W Q es.toList):FreshAt (W.putObj m (.map es k)) kb m Q:=by
 have hr:RlS (·=m) W (W.putObj m (.map es k)):=(RlS.refl _ W).put _ _ rfl;obtain⟨es0,k0,hm,_⟩:=h.f;refine⟨hr.cell h.c h.ne,es,k,World.putObj_heap_same (waL.1 hm).1,hs.imp (fun _ h=>h) fun e p g=>?_⟩
 refine g.rls hr ?_;rintro rfl;obtain⟨cs,hc⟩:=g.obj;rw[hm] at hc;cases hc
def RetIs (kb m q:Nat) (P:Nat->Prop) (W:World) (e:Ending) (W':World):Prop:=
 RlS (·=m) W W'/\((e=.returned (.bool false)/\P q/\FreshAt W' kb m P)\/(e=.returned (.bool true)/\FreshAt W' kb m (fun x=>P x\/x=q)))
theorem zie (kb m q:Nat) (P:Nat->Prop) (p:Nat->Bool) (W:World) (h:FreshAt W kb m P) (hd:DiscAt W q p):
 Calls prog 139 #[.pointer (some ⟨q,0,none⟩),.pointer (some ⟨kb,0,none⟩)] W (RetIs kb m q P W):=by
 have HT:Hid (prog.underlying 229=some (.map 82 4)):=underlying229;have HK:Hid (∀V,KeyRun prog 82 V (zf3 V)):=fun V=>by
  obtain⟨j,hte⟩:=info_of_underlying underlying162;refine KeyRun.ptr underlying82 hte ?_ V;have h:(prog.info? 162).map (·.size)=some 1350:=by kernel_rfl
  rw[hte] at h;have h:j.size=1350:=waB h;omega
 have hx:zf3 W (.pointer (some ⟨q,0,none⟩)):=by
  obtain⟨cs,hc⟩:=hd.obj;exact⟨q,cs,_,rfl,hc⟩
 have HX:=waV hx;obtain⟨es,ck,hE,hes⟩:=h.f;have c0:=h.c;have HFr:=waV h;have HD:=waV hd;have lk:=waR W _ c0;have lm:=(waL.1 hE).1;rcases zbo (z:=.bool false) HT.out rfl hE (HK.out W) hx hes.keys with ⟨y,hy,hk,hl0⟩|⟨hno,hl0⟩
 ·have HN:Hid (P q/\y.val=.bool true):=by
   obtain⟨b,h1,h2,h3,_⟩:=hes.all y hy;rw[hk] at h1;cases h1;exact⟨h3,h2⟩
  have hl:=hl0 false;rw[if_neg (by decide),HN.out.2] at hl
  clear hx hes hk hy h hd HT HK hl0;go_enter func139,ntmps139;go_wp2_with fail;go_ret;exact⟨RlS.refl _ _,.inl ⟨rfl,HN.out.1,HFr.out⟩⟩
 ·have hl:=hl0 false;rw[if_neg (by decide)] at hl
  have HNo:=waV hno;have HEs:=waV hes;clear hno hes h hd hl0;have hln:(Builtin.len_ #[229] 3 #[.map (some m)]).run prog W=.ok (.int .i64 (es.size:Int)) W:=zex HT.out hE;have hcr:(Builtin.clear_ #[229] 0 #[.map (some m)]).run prog W=.ok (.tuple #[]) (W.putObj m (.map #[] ck)):=zc4 HT.out hE
  by_cases h6:es.size=512
  ·rw[h6] at hln;have hu:(Instr.mapUpdate 229 (.map (some m)) (.pointer (some ⟨q,0,none⟩)) (.bool true)).run prog (W.putObj m (.map #[] ck))=.ok () ((W.putObj m (.map #[] ck)).putObj m (.map ((#[]:Array MapEntry).push {key:=.pointer (some ⟨q,0,none⟩),val:=.bool true,born:=ck}) (ck+1))):=by
    have hK0:SeenE W P (#[]:Array MapEntry).toList:=SeenE.nil _ _;have hF:=HFr.out.put (Q:=P) #[] ck hK0;have hE5:(W.putObj m (.map #[] ck)).heap[m]?=some (.map #[] ck):=World.putObj_heap_same lm;refine zb3 HT.out hE5 (HK.out _) ?_ (fun q hq=>by cases hq) (fun q hq=>by cases hq)
    obtain⟨cs,hc⟩:=HD.out.obj;exact⟨q,cs,_,rfl,(World.putObj_heap_other (by rintro rfl;rw[hE] at hc;cases hc)).trans hc⟩
   have c1:(W.putObj m (.map #[] ck)).cell? ⟨kb,0,none⟩=some (.map (some m)):=(HFr.out.put (Q:=P) #[] ck (SeenE.nil _ _)).c;have HE1:Hid (FreshAt ((W.putObj m (.map #[] ck)).putObj m (.map ((#[]:Array MapEntry).push {key:=.pointer (some ⟨q,0,none⟩),val:=.bool true,born:=ck}) (ck+1))) kb m (fun x=>P x\/x=q)):=by
    have hF:=HFr.out.put (Q:=fun x=>P x\/x=q) #[] ck (SeenE.nil _ _)
    refine hF.put _ _ ((SeenE.nil _ _).push (es:=#[]) (fun q hq=>by cases hq) (.inr rfl) (p:=p) ?_)
    refine HD.out.rls ((RlS.refl (·=m) W).put m _ rfl) ?_;rintro rfl;obtain⟨cs,hc⟩:=HD.out.obj;rw[hE] at hc;cases hc
   clear HT HK HX hx hE HEs HNo;go_enter func139,ntmps139;go_wp2_with fail;go_ret;exact⟨((RlS.refl (·=m) W).put m _ rfl).put m _ rfl,.inr ⟨rfl,HE1.out⟩⟩
  ·have h6':¬(es.size:Int)=512:=by omega
   have hu:=zb3 (v:=.bool true) HT.out hE (HK.out W) hx HEs.out.keys HNo.out;have HE1:Hid (FreshAt (W.putObj m (.map (es.push {key:=.pointer (some ⟨q,0,none⟩),val:=.bool true,born:=ck}) (ck+1))) kb m (fun x=>P x\/x=q)):=
    HFr.out.put _ _ ((HEs.out.imp (Q:=fun x=>P x\/x=q) (fun _ h=>.inl h) (fun _ _ h=>h)).push HNo.out (.inr rfl) HD.out)
   clear HT HK HX hx hE HEs HNo hcr;go_enter func139,ntmps139;go_wp2_with fail;go_ret;exact⟨(RlS.refl (·=m) W).put m _ rfl,.inr ⟨rfl,HE1.out⟩⟩
def zth (W:World) (e:Ending) (W':World):Prop:=
 ∃kb m,e=.returned (.func (.func 139) #[] #[.pointer (some ⟨kb,0,none⟩)])/\W.heap.size<=kb/\W.heap.size<=m/\FreshAt W' kb m (fun _=>False)/\W'.frozen? ⟨kb,0,none⟩=false/\Below W.heap.size W W'
theorem zkA (W:World):Calls prog 72 #[] W (zth W):=by
 have hmm:=@run_makeMap prog;go_enter func72,ntmps72;go_wp2_with fail;go_ret;have h1:(W.alloc (.map #[] 0)).heap.size=W.heap.size+1:=by simp
 refine⟨W.heap.size+1,W.heap.size,by rw[<-h1];rfl,by omega,waJ _,⟨?_,#[],0,(Below.heap_alloc _ _ _ (by simp)).trans (World.alloc_heap_new W _),SeenE.nil _ _⟩,?_,((waC _ W).alloc (waJ _) _).alloc (by simp) _⟩
 ·rw[<-h1];exact zaa rfl rfl
 ·unfold World.frozen?;rw[<-h1,World.alloc_heap_new];simp
end Go.Proofs.YtllcdbgjeidlkaaGreatDoor
