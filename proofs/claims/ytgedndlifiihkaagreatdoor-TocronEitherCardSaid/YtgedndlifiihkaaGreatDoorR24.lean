/- A part of the proof: WRoll7b WRoll7 WMeet3 WMeet4 -/
import Derived.Test.YtgedndlifiihkaaGreatDoorR23
import Derived.Test.YtgedndlifiihkaaGreatDoorR16
import Derived.Test.YtgedndlifiihkaaGreatDoorR14
import Derived.Carry
import Derived.Laws.Tables
import Derived.Test.YtgedndlifiihkaaGreatDoorR12
set_option maxHeartbeats 80000000
set_option maxRecDepth 100000
set_option linter.unusedSimpArgs false
set_option linter.unusedVariables false
namespace Go.Proofs.YtgedndlifiihkaaGreatDoor
open Go.Proofs.Tryz
open Go.RowKit
open Go.Maps
theorem zfH {w:World} {B n k:Nat} {v:Value} {t:TypeId} {xs:List Value} (h:w.ownsRow B t k v n xs):∃A c,v=.slice A n c∧∀(_:0<n),∃g,A=some ⟨g,0,none⟩∧B≤g∧g<w.heap.size∧v.ownBlock=some g∧∀(j:Nat) u,xs[j]?=some u→w.cell? ⟨g,j,none⟩=some u:=by
 rcases h.2 with ⟨rfl,rfl⟩|⟨g,cap,cur,rfl,h1,h2,_⟩
 ·exact⟨none,0,rfl,fun hp=>absurd hp dQ⟩
 ·refine⟨some ⟨g,0,none⟩,cap,rfl,fun _=>⟨g,rfl,h1,(waL.1 h2).1,rfl,fun j u hu=>?_⟩⟩
  have h3:=h.cells (g:=g) rfl j u hu
  rwa [show (⟨g,0,none⟩:Addr).add j=⟨g,j,none⟩ from by unfold Addr.add;split<;>simp_all] at h3
theorem zqv {W0 W:World} {b km:Nat} {A:Option Addr} {n cc:Nat} {L:List Cl} {d:NewD} {vl vp:Value} (hs:NewS W0 b km A n L n n d W) (hr:NewR b km A n cc n n d vl vp W) (h8:n≤8) (hset:zeW L=true) (hbit:∀c,c∈L→zcz c∧c.s≤9223372036854775807) (hw:Tz W) (htz:0<W0.heap.size):
 ∃rd:RollD,rd.b=b∧∀(V:World) (D:Nat) (S:Nat→Prop),RlS S W V→(∀k,S k→k<W0.heap.size∧k≠0)→W.heap.size≤D→D≤V.heap.size→RollAt V rd L W0.heap.size W.heap.size D:=by
 obtain rfl:L.length=n:=hs.rd.1;obtain⟨Al,cl,rfl,hal⟩:=zfH hr.ol;obtain⟨Ap,cp,rfl,hap⟩:=zfH hr.op;obtain⟨k0,k1,k2⟩:=hs.km0;have mv:∀k,(k=b∨k=km∨∃i,i<L.length∧k=d.pm i)→W0.heap.size≤k∧k<W.heap.size:=by
  rintro k (rfl|rfl|⟨i,hi,rfl⟩)
  ·omega
  ·omega
  ·obtain⟨p1,p2⟩:=hs.pe i hi;have:=(waL.1 p1).1;omega
 have hbl:∃bl,0<L.length→Al=some ⟨bl,0,none⟩∧b+1≤bl∧bl<W.heap.size∧(∀(j:Nat) u,(fnL d L.length)[j]?=some u→W.cell? ⟨bl,j,none⟩=some u):=by
  by_cases hp:0<L.length
  ·obtain⟨g,e,h1,h2,_,h3⟩:=hal hp;exact⟨g,fun _=>⟨e,h1,h2,h3⟩⟩
  ·exact⟨0,fun h=>absurd h hp⟩
 have hbp:∃bp,0<L.length→Ap=some ⟨bp,0,none⟩∧b+1≤bp∧bp<W.heap.size∧(∀(j:Nat) u,(pmL d L.length)[j]?=some u→W.cell? ⟨bp,j,none⟩=some u):=by
  by_cases hp:0<L.length
  ·obtain⟨g,e,h1,h2,_,h3⟩:=hap hp;exact⟨g,fun _=>⟨e,h1,h2,h3⟩⟩
  ·exact⟨0,fun h=>absurd h hp⟩
 obtain⟨bl,hbl⟩:=hbl;obtain⟨bp,hbp⟩:=hbp;have ncell:∀{B o:Nat} {v:Value},b+1≤B→W.cell? ⟨B,o,none⟩=some v→¬(B=b∨B=km∨∃i,i<L.length∧B=d.pm i):=by
  rintro B o v hB hc (rfl|rfl|⟨i,hi,rfl⟩)
  ·omega
  ·omega
  ·exact zcu hc (hs.pe i hi).1 rfl
 let rd:RollD:={b:=b,bl:=bl,bp:=bp,km:=km,pm:=d.pm,A:=A,cc:=cc,Al:=Al,cl:=cl,Ap:=Ap,cp:=cp,g:=d.g,lb:=d.lb,gl:=d.gl,gh:=d.gh}
 have hf:RollF W rd L W0.heap.size W.heap.size:=
  {n8:=h8,set:=hset,bits:=hbit,lb0:=⟨by show W0.heap.size≤b;omega,k2⟩,lk:=⟨k0,by show km<_;omega⟩,lp:=fun i hi=>mv _ (.inr (.inr ⟨i,hi,rfl⟩)),hw:=waJ _,
   c0:=hr.c0,c1:=hr.c1,c2:=hr.c2,c3:=hr.c3,fz:=hr.fz,rd:=hs.rd,
   rA:=fun x hp hx=>by
    obtain⟨h1,h2⟩:=hs.rA x hp hx;refine⟨h1,by omega,?_⟩
    rintro (e|e|⟨i,hi,e⟩)
    ·have:x.block=b:=e;omega
    ·have:x.block=km:=e;omega
    ·have:x.block=d.pm i:=e;have:=(hs.pe i hi).2;omega
   al:=fun hp=>by
    obtain⟨e,h1,h2,h3⟩:=hbl hp;refine⟨e,by show W0.heap.size≤bl;omega,h2,?_⟩
    exact ncell h1 (h3 0 (.func (.func (d.g 0)) #[] (d.lb 0)) (by simp[fnL,hp]))
   ap:=fun hp=>by
    obtain⟨e,h1,h2,h3⟩:=hbp hp;refine⟨e,by show W0.heap.size≤bp;omega,h2,?_⟩
    exact ncell h1 (h3 0 (.map (some (d.pm 0))) (by simp[pmL,hp]))
   fn:=fun i hi=>by
    obtain⟨f1,f2,f3,f4⟩:=hs.fn i hi;obtain⟨_,_,_,h3⟩:=hbl oQ;refine⟨h3 i (.func (.func (d.g i)) #[] (d.lb i)) (by simp[fnL,hi]),f1,f2,by show W0.heap.size≤d.gl i;omega,f4,?_⟩
    rintro k (h|h|⟨j,hj,h⟩)
    ·have h:k=b:=h;exact .inl (by show k<d.gl i;omega)
    ·have h:k=km:=h;exact .inl (by show k<d.gl i;omega)
    ·have h:k=d.pm j:=h;rw[h];exact hs.pg j hj i hi
   pc:=fun i hi=>by
    obtain⟨_,_,_,h3⟩:=hbp oQ;exact h3 i (.map (some (d.pm i))) (by simp[pmL,hi])
   pne:=hs.pne
   kne:=⟨by show km≠b;omega,fun i hi=>⟨by have:=(hs.pe i hi).2;show d.pm i≠b;omega,by have:=(hs.pe i hi).2;show d.pm i≠km;omega⟩⟩}
 refine⟨rd,rfl,fun V D S hrl hS h1 h2=>?_⟩
 have nS:∀k,W0.heap.size≤k→¬S k:=fun k hk g=>by have:=(hS k g).1;omega
 have hz:=waR W _ hr.c0;refine⟨hf.apart hrl (fun k g=>.inl (hS k g).1),⟨fun i hi=>⟨#[],0,?_,PartE.nil _ _ _ _⟩,⟨#[],0,(hrl.block km oQ (nS km oQ)).trans hs.hk,KnownE.nil _ _ _⟩,fun a ha=>⟨.pointer none,hrl.cell (hr.cw a ha) (nS b oQ),.inl rfl⟩,⟨0,hrl.cell hr.cm (nS b oQ)⟩⟩,h1,h2,hw.rls hrl (fun g=>(hS _ g).2 rfl),htz⟩
 have hp:=hs.pe i hi;exact(hrl.block _ (waL.1 hp.1).1 (nS (d.pm i) oQ)).trans hp.1
noncomputable def zdz (A:Option Addr) (n c M:Nat):Array Value:=(Tryz.zeroCells184.setIfInBounds 0 (.slice A n c)).setIfInBounds 2 (.map (some M))
theorem zun:Tryz.zeroCells184=(Value.slice none 0 0::Value.slice none 0 0::Value.map none::Value.slice none 0 0::(List.replicate 256 (Value.pointer none)++[Value.int .i64 0])).toArray:=by kernel_rfl
theorem zqw (A:Option Addr) (n c M:Nat):(zdz A n c M)[0]?=some (.slice A n c)∧(zdz A n c M)[1]?=some (.slice none 0 0)∧(zdz A n c M)[2]?=some (.map (some M))∧(zdz A n c M)[3]?=some (.slice none 0 0)∧(∀a,a<256→(zdz A n c M)[4+a]?=some (.pointer none))∧(zdz A n c M)[260]?=some (.int .i64 0):=by
 have hL:∀(a:Nat),a<256→(List.replicate 256 (Value.pointer none)++[Value.int .i64 0])[a]?=some (.pointer none):=fun a ha=>by
  rw[List.getElem?_append_left (by simpa using ha),List.getElem?_replicate,if_pos ha]
 have hL2:(List.replicate 256 (Value.pointer none)++[Value.int .i64 0])[256]?=some (.int .i64 0):=by
  rw[List.getElem?_append_right (by simp)];simp
 unfold zdz;rw[zun];generalize (List.replicate 256 (Value.pointer none)++[Value.int .i64 0])=R at *;simp only[wbU,wbW,wbV,List.getElem?_toArray];refine⟨rfl,rfl,rfl,rfl,fun a ha=>?_,?_⟩
 ·rw[show 4+a=a+1+1+1+1 by omega,List.getElem?_cons_succ,List.getElem?_cons_succ,List.getElem?_cons_succ,List.getElem?_cons_succ]
  exact hL a ha
 ·rw[show 260=256+1+1+1+1 by omega,List.getElem?_cons_succ,List.getElem?_cons_succ,List.getElem?_cons_succ,List.getElem?_cons_succ]
  exact hL2
theorem zuo:(prog.info? 185).map (fun i=>(i.zero,i.size,i.bytes))=some (some .nilFunc,1,8):=by kernel_rfl
theorem zup:(prog.info? 187).map (fun i=>(i.zero,i.size,i.bytes))=some (some (.map none),1,8):=by kernel_rfl
def zhx (n:Nat) (L:List Cl) (W:World) (e:Ending) (W':World):Prop:=
 Below W.heap.size W W'∧((8<n∧e=.returned (.tuple #[.pointer none,.int .i64 5]))∨(n≤8∧zeW L=false∧e=.returned (.tuple #[.pointer none,.int .i64 1]))∨(n≤8∧zeW L=true∧∃rd:RollD,e=.returned (.tuple #[.pointer (some ⟨rd.b,0,none⟩),.int .i64 0])∧
  ∀(V:World) (D:Nat) (S:Nat→Prop),RlS S W' V→(∀k,S k→k<W.heap.size∧k≠0)→W'.heap.size≤D→D≤V.heap.size→RollAt V rd L W.heap.size W'.heap.size D))
theorem zfI (A:Option Addr) (n cc:Nat) (L:List Cl) (W:World) (hA:zbx W A n L) (hn:n≤4294967296) (hnil:A=none→n=0) (hbit:∀c,c∈L→zcz c∧c.s≤9223372036854775807) (hw:Tz W):
 Calls prog 67 #[.slice A n cc] W (zhx n L W):=by
 have HO:=waV (zqt A n cc L W hA hn hnil);have HTz:=waV hw;have htz:0<W.heap.size:=waR W _ (hw 0 dQ);have HBit:=waV hbit;clear hA hn hnil hbit hw;have hmm:=@run_makeMap prog;go_enter func67,ntmps67;go_wp2_with fail;refine HO.out.mono ?_;rintro e w1 ⟨hb1,(⟨h8,rfl⟩|⟨h8,hs,rfl⟩|⟨h8,hs,A',c',rfl,hr,hnw'⟩)⟩
 ·go_wp2
  (try simp only[Exit.inBlock,Exit.then])
  refine waY (wbM rfl _ _ _) rfl ?_;exact⟨hb1,.inl ⟨h8,rfl⟩⟩
 ·go_wp2
  (try simp only[Exit.inBlock,Exit.then])
  refine waY (wbM rfl _ _ _) rfl ?_;exact⟨hb1,.inr (.inl ⟨h8,hs,rfl⟩)⟩
 ·have HS:Hid (∀W3,W3=(w1.alloc (.map #[] 0)).alloc (.cells (zdz A' n c' w1.heap.size) 184)→NewS W (w1.heap.size+1) w1.heap.size A' n L 0 0 ⟨fun _=>0,fun _=> #[],fun _=>0,fun _=>0,fun _=>0⟩ W3∧NewR (w1.heap.size+1) w1.heap.size A' n c' 0 0 ⟨fun _=>0,fun _=> #[],fun _=>0,fun _=>0,fun _=>0⟩ (.slice none 0 0) (.slice none 0 0) W3):=fun W3 hW3=>by
   subst hW3;have hz:((w1.alloc (.map #[] 0)).alloc (.cells (zdz A' n c' w1.heap.size) 184)).heap.size=w1.heap.size+2:=by simp
   have hb3:Below w1.heap.size w1 ((w1.alloc (.map #[] 0)).alloc (.cells (zdz A' n c' w1.heap.size) 184)):=((waC _ w1).alloc (waJ _) _).alloc (by simp) _
   have hz1:=hb1.size;obtain⟨a0,a1,a2,a3,a4,a5⟩:=zqw A' n c' w1.heap.size;have cell:∀j v,(zdz A' n c' w1.heap.size)[j]?=some v→((w1.alloc (.map #[] 0)).alloc (.cells (zdz A' n c' w1.heap.size) 184)).cell? ⟨w1.heap.size+1,j,none⟩=some v:=fun j v hj=>by
    have h1:(w1.alloc (.map #[] 0)).heap.size=w1.heap.size+1:=by simp
    rw[←h1];exact zaa rfl hj
   refine⟨⟨zai hb1 hb3 hz1,⟨hz1,by omega,by omega⟩,?_,hr.below hb3 (waJ _),fun x hp hx=>⟨hnw' x hx,?_⟩,fun i hi=>absurd hi (Nat.not_lt_zero _),fun i hi=>absurd hi (Nat.not_lt_zero _),fun i j hi=>absurd hi (Nat.not_lt_zero _),fun i hi=>absurd hi (Nat.not_lt_zero _)⟩,
    ⟨cell _ _ a0,cell _ _ a1,cell _ _ a2,cell _ _ a3,fun a ha=>cell _ _ (a4 a ha),cell _ _ a5,fun j=>?_,World.ownsRow_nil _ _ _ _,World.ownsRow_nil _ _ _ _,fun r hr=>by rcases hr with hr|hr<;>cases hr⟩⟩
   ·exact(Below.heap_alloc _ _ _ (by simp)).trans (World.alloc_heap_new w1 _)
   ·obtain⟨b',o,e,hb,_⟩:=hr.2 hp;rw[hx] at e;cases e;exact hb
   ·unfold World.frozen?;rw[show w1.heap.size+1=(w1.alloc (.map #[] 0)).heap.size by simp,World.alloc_heap_new]
    simp
  go_wp2_with fail;obtain⟨hS0,hR0⟩:=HS.out _ rfl;have HS0:=waV hS0;have HR0:=waV hR0;have hb:=hS0.km0.2.2;clear hS0 hR0 HS;unfold zdz at HS0 HR0 hb;generalize ((w1.alloc (.map #[] 0)).alloc (.cells ((Tryz.zeroCells184.setIfInBounds 0 (.slice A' n c')).setIfInBounds 2 (.map (some w1.heap.size))) 184))=W3 at *;generalize hbb:w1.heap.size+1=b at *;generalize w1.heap.size=km at *
  go_loopw [23] (fun iv wr=>∃(k:Nat) (d:NewD) (vl vp:Value),k≤n∧iv=.int .i64 (k:Int)∧Hid (NewS W b km A' n L k k d wr)∧Hid (NewR b km A' n c' k k d vl vp wr)) (fun iv _=>n - (intOf iv).toNat)
  case atStart=>exact⟨0,_,_,_,waK _,rfl,HS0,HR0⟩
  case round=>
   obtain⟨k,d,vl,vp,hk,rfl,HSr,HRr⟩:=hrel;clear HS0 HR0;have hbr:=HSr.out.km0.2.2
   by_cases hlt:k<n
   ·have hlt':(k:Int)<(n:Int):=by omega
    obtain⟨bA,oA,c,hA1,hA2,hA3,hA4⟩:=zbx.at_ HSr.out.rd hlt
    have ec:=zqf hA3;have HLp:=waV (fun V=>zr6 c (HBit.out c (List.mem_of_getElem? hA3)).1 (HBit.out c (List.mem_of_getElem? hA3)).2 V)
    subst hA1;have HI:=waV (zbZ c);have Hcl:=waV hA4;have H1:Hid ((clA c).all (·.oneCell')=true):=by show _=_;kernel_rfl
    have HSz:Hid ((clA c).size=30):=by show _=_;kernel_rfl
    generalize clA c=cs at *
    go_wp2_with (first|(refine zah (by rfl) 61 _ rfl cs bA (oA+k * 30) rfl underlying61 rfl HI.out Hcl.out ?_)|(refine zaR (by rfl) 61 _ _ rfl cs _ rfl rfl HI.out H1.out HSz.out.symm ?_;intro w4 hq4 HS4 hz4)|fail)
    simp only[Act.put];have hXc:∀V,Below w4.heap.size w4 V→∀j v,cs[j]?=some v→V.cell? ⟨wr.heap.size,0+j,none⟩=some v:=fun V hV j v hj=>by
     have hlt2:=(waL.1 hj).1;rw[waH,(zad hV).1 _ _ (by omega),HS4.1 j hlt2]
     show some (cs.getD j undef)=some v;rw[wbL,hj];rfl
    have HSd:=waV (HSr.out.below hq4);have HRd:=waV (HRr.out.below hq4);have hz4':w4.heap.size=wr.heap.size+1:=hz4;have hb4:b<w4.heap.size:=by omega
    have HX:=waV hXc;have HSt:Hid (∀r,vl.ownBlock=some r∨vp.ownBlock=some r→r<wr.heap.size):=fun r hr=>by
     rcases hr with hr|hr
     ·obtain⟨_,_,h⟩:=zbw HRr.out.ol hr;exact(waL.1 h).1
     ·obtain⟨_,_,h⟩:=zbw HRr.out.op hr;exact(waL.1 h).1
    have HPm:Hid (∀i,i<k→d.pm i<wr.heap.size):=fun i hi=>(waL.1 (HSr.out.pe i hi).1).1
    clear hXc HS4 hq4 HSr HRr Hcl;have hu:=underlying61;have hi':(prog.info? 61).map (·.size)=some cs.toList.length:=by simpa using HI.out
    have hb5:Below w4.heap.size w4 w4.drew:=(waC _ _).drew;have hHeld:Hid (w4.drew.cell? ⟨b,1,none⟩=some vl∧∀j v,cs[j]?=some v→w4.drew.cell? ⟨wr.heap.size,0+j,none⟩=some v):=⟨HRd.out.c1,HX.out _ hb5⟩;refine zam 9 (fun w'=>Hid (w'.cell? ⟨b,1,none⟩=some vl∧∀j v,cs[j]?=some v→w'.cell? ⟨wr.heap.size,0+j,none⟩=some v)) kQ ?_
    generalize w4.drew=w4d at *;refine(kP 0 27 (h:=(kP 1 28 (h:=(kP 2 29 (h:=(kP 3 30 (h:=(kR 4 31 (fun w_ hSw_=>hSw_.out.1) (h:=?_))))))))))
    simp only[Act.put,aPu1,aPu2,aPu3];refine zaj (i:=5) (dst:=some 32) (v:=.agg cs.toList.toArray) (hy:=fun o_ ho_=>?_) (hS:=hHeld) (h:=?_)
    case refine_1=>(obtain rfl:=waB ho_;exact yieldsIf_load_mid (by rfl) 61 _ rfl wr.heap.size 0 rfl cs.toList _ (fun w' hw' j v hj=>hw'.out.2 j v (by simpa using hj)) hu rfl hi')
    simp only[Act.put,aPu1,aPu2,aPu3,Array.toArray_toList];refine zac (i:=6) kQ fun o_ ho_ K_ hK_=>?_
    obtain rfl:=waB ho_;have HK_:=waV hK_;clear hK_ ho_
    go_wp2_with (go_at_call 115;refine(HLp.out _).mono ?_;rintro e w5 ⟨g,lb,rfl,eg,hL,hq5⟩)
    have hb45:Below w4.heap.size w4 w5:=zai hb5 hq5 hb5.size;have hH5:Hid (w5.cell? ⟨b,1,none⟩=some vl∧∀j v,cs[j]?=some v→w5.cell? ⟨wr.heap.size,0+j,none⟩=some v):=⟨((zad hb45).1 _ _ hb4).trans HRd.out.c1,HX.out _ hb45⟩;refine HK_.out _ _ hH5 ?_;clear HK_ hHeld;refine zac (i:=7) kQ fun o_ ho_ K_ hK_=>?_
    obtain rfl:=waB ho_;have HK_:=waV hK_;clear hK_ ho_;have hb6:Below w5.heap.size w5 (w5.alloc (.cells #[.func (.func g) #[] lb] 185)):=(waC _ _).alloc (waJ _) _;have hb46:Below w4.heap.size w4 (w5.alloc (.cells #[.func (.func g) #[] lb] 185)):=zai hb45 hb6 hb45.size;have hH6:Hid ((w5.alloc (.cells #[.func (.func g) #[] lb] 185)).cell? ⟨b,1,none⟩=some vl∧∀j v,cs[j]?=some v→(w5.alloc (.cells #[.func (.func g) #[] lb] 185)).cell? ⟨wr.heap.size,0+j,none⟩=some v):=⟨((zad hb46).1 _ _ hb4).trans HRd.out.c1,HX.out _ hb46⟩;have HS6:=waV (HSd.out.below hb46);have HR6:=waV (HRd.out.below hb46);have HL6:Hid (zhe g lb (zeM L k) w4d.heap.size w5.heap.size (w5.alloc (.cells #[.func (.func g) #[] lb] 185))):=by
     rw[ec];exact hL.later (KpI.of_below hb6 (waJ _))
    have hnew:∀(j:Nat) u,[Value.func (.func g) #[] lb][j]?=some u→(w5.alloc (.cells #[.func (.func g) #[] lb] 185)).cell? ((⟨w5.heap.size,0,none⟩:Addr).add j)=some u:=by
     intro j u hu;rcases j with _|j
     ·simp at hu;subst hu;exact zaa rfl rfl
     ·simp at hu
    have hz4d:w4.heap.size≤w4d.heap.size:=hb5.size;have hz5:w4d.heap.size≤w5.heap.size:=hq5.size;have HNew:=waV hnew;go_wp2;refine HK_.out _ _ hH6 ?_;have HX6:=waV hH6.out.2;clear HK_ hH5 hnew hL hH6 HSd HRd HX hq5 hb5;have hz6:(w5.alloc (.cells #[.func (.func g) #[] lb] 185)).heap.size=w5.heap.size+1:=by simp
    generalize (w5.alloc (.cells #[.func (.func g) #[] lb] 185))=w6 at *;obtain⟨i0,hi0,hzz0,hzz1,hzz2⟩:=info_parts zuo;refine zac (i:=8) kQ fun o_ ho_ K_ hK_=>?_
    obtain rfl:=waB ho_;have HK_:=waV hK_;clear hK_ ho_;refine wpList_append_own_at _ rfl _ _ 180 rfl (b+1) 185 i0 .nilFunc 1 8 underlying180 hi0 hzz0 hzz1 hzz2 rfl dQ vl k (fnL d k) rfl HR6.out.ol ⟨w5.heap.size,0,none⟩ 1 1 [.func (.func g) #[] lb] rfl rfl HNew.out (by intro u hu;simp at hu;subst hu;rfl) (by unfold maxLen;omega) oQ oQ ?_
    intro vl' w7 hown7 hg7 _ hat7;obtain⟨A7,c7,rfl,_⟩:=zfH hown7;have hbL:b<w4d.heap.size:=by omega
    have HR8:=waV (HR6.out.addL (g:=g) (lo:=w4d.heap.size) (hi:=w5.heap.size) (lb:=lb) (fun r hr=>.inl (by have:=HSt.out r hr;omega)) oQ (fun i hi=>(HS6.out.fn i hi).2.2.2) hown7 hg7 hat7)
    have HS8:=waV (HS6.out.pushL HR6.out eg HL6.out hbL oQ (fun r hr=>by have:=HSt.out r hr;omega) (fun i hi=>by have:=HPm.out i hi;omega) hg7 (.slice A7 (k+1) c7))
    have nb7:some b≠vl.ownBlock:=fun e=>by have:=(zbw HR6.out.ol e.symm).1;omega
    have c17:w7.cell? ⟨b,1,none⟩=some vl:=(wbK (hg7.block b oQ nb7)).trans HR6.out.c1;have f17:∀j,w7.frozen? ⟨b,j,none⟩=false:=fun j=>(World.frozen?_of_block (hg7.block b oQ nb7)).trans (HR6.out.fz j)
    have lb7:=waR w7 _ c17;have hc17:w7.cell? ⟨b,1,none⟩=some vl∧∀j v,cs[j]?=some v→w7.cell? ⟨wr.heap.size,0+j,none⟩=some v:=⟨c17,fun j v hj=>(wbK (hg7.block wr.heap.size oQ (fun e=>by have:=HSt.out _ (.inl e.symm);omega))).trans (HX6.out j v hj)⟩
    go_wp2;refine HK_.out _ _ hc17 ?_;clear HK_ hc17 HR6 HS6 HL6 HSt hown7 hat7 HNew HX6;have c37:w7.cell? ⟨b,3,none⟩=some vp:=(waU w7 ⟨b,1,none⟩ ⟨b,3,none⟩ (.slice A7 (k+1) c7) (by simp)).symm.trans HR8.out.c3
    have hz7:wr.heap.size≤w7.heap.size:=by have:=hg7.size;omega
    have hzs:(w7.setCell ⟨b,1,none⟩ (.slice A7 (k+1) c7)).heap.size=w7.heap.size:=by simp
    have hbx:Below (w7.setCell ⟨b,1,none⟩ (.slice A7 (k+1) c7)).heap.size (w7.setCell ⟨b,1,none⟩ (.slice A7 (k+1) c7)) (((w7.setCell ⟨b,1,none⟩ (.slice A7 (k+1) c7)).alloc (.map #[] 0)).alloc (.cells #[.map (some w7.heap.size)] 187)):=((waC _ _).alloc (waJ _) _).alloc (by simp) _
    have HRx:=waV (HR8.out.below hbx);have HSx:=waV (HS8.out.below hbx);have hnx:∀(j:Nat) u,[Value.map (some w7.heap.size)][j]?=some u→(((w7.setCell ⟨b,1,none⟩ (.slice A7 (k+1) c7)).alloc (.map #[] 0)).alloc (.cells #[.map (some w7.heap.size)] 187)).cell? ((⟨w7.heap.size+1,0,none⟩:Addr).add j)=some u:=by
     intro j u hu;rcases j with _|j
     ·simp at hu;subst hu;have h1:((w7.setCell ⟨b,1,none⟩ (.slice A7 (k+1) c7)).alloc (.map #[] 0)).heap.size=w7.heap.size+1:=by simp
      rw[←h1];exact zaa rfl rfl
     ·simp at hu
    have hmx:(((w7.setCell ⟨b,1,none⟩ (.slice A7 (k+1) c7)).alloc (.map #[] 0)).alloc (.cells #[.map (some w7.heap.size)] 187)).heap[w7.heap.size]?=some (.map #[] 0):=by
     refine(Below.heap_alloc _ _ _ (by simp)).trans ?_
     have:=World.alloc_heap_new (w7.setCell ⟨b,1,none⟩ (.slice A7 (k+1) c7)) (.map #[] 0)
     rwa [hzs] at this
    have HNx:=waV hnx;have HMx:=waV hmx;have hghx:∀j,j<k+1→(d.addL k g w4d.heap.size w5.heap.size lb).gh j≤w7.heap.size:=fun j hj=>by have:=(HS8.out.fn j hj).2.2.2;omega
    have HGx:=waV hghx;obtain⟨j0,hj0,hjz0,hjz1,hjz2⟩:=info_parts zup;clear hnx hmx HR8 HS8 hbx hghx;refine zaf (j:=3) dQ (.inr rfl) dQ kQ ?_;simp only[wbQ,waG,List.length_nil,Nat.reduceAdd,Nat.reduceSub,waZ,wbA]
    go_wp2_with (at_builtin;refine wpList_append_own_at _ rfl _ _ 181 rfl (b+1) 187 j0 (.map none) 1 8 underlying181 hj0 hjz0 hjz1 hjz2 rfl dQ vp k (pmL (d.addL k g w4d.heap.size w5.heap.size lb) k) rfl HRx.out.op ⟨w7.heap.size+1,0,none⟩ 1 1 [.map (some w7.heap.size)] rfl rfl HNx.out (by intro u hu;simp at hu;subst hu;rfl) (by unfold maxLen;omega) oQ (by simp;omega) ?_;intro vp' w9 hown9 hg9 _ hat9;obtain⟨A9,c9,rfl,_⟩:=zfH hown9;have HR9:=waV (HRx.out.addP (m:=w7.heap.size) (fun i hi=>(HSx.out.fn i hi).2.2.2) hown9 hg9 hat9);have HS9:=waV (HSx.out.pushP HRx.out HMx.out oQ (fun i hi=>by have h9:=HPm.out i hi;show d.pm i≠_;omega) HGx.out hg9 (.slice A9 (k+1) c9));have nb9:some b≠vp.ownBlock:=(fun e=>by have h9:=(zbw HRx.out.op e.symm).1;omega);have lbx:=waR _ _ HRx.out.c3;have c39:w9.cell? ⟨b,3,none⟩=some vp:=(wbK (hg9.block b lbx nb9)).trans HRx.out.c3;have f39:∀j,w9.frozen? ⟨b,j,none⟩=false:=(fun j=>(World.frozen?_of_block (hg9.block b lbx nb9)).trans (HRx.out.fz j));have lb9:=waR w9 _ c39;clear lbx hown9 hat9)
    go_roundw
    case rel=>exact⟨k+1,_,_,_,by omega,by go_num,HS9,HR9⟩
    case measure=>simp [intOf];omega
   ·obtain rfl:k=n:=by omega
    have hlt':¬((k:Int)<(k:Int)):=by omega
    have hbw:=HSr.out.bel;obtain⟨rd,hrb,hrd⟩:=zqv HSr.out HRr.out h8 hs HBit.out (HTz.out.below hbw) htz;have HRd:=waV hrd;have HBw:=waV hbw;clear hrd hbw HSr HRr;go_wp2
    (try simp only[Exit.inBlock,Exit.then])
    refine waY (wbM rfl _ _ _) rfl ?_;exact⟨HBw.out,.inr (.inr ⟨h8,hs,rd,by rw[hrb];rfl,HRd.out⟩)⟩
def zqx (f u n:Int):Bool:=!decide (zat (zjx f n) (zi5 u n)<0)
theorem znX (f u n:Int) (w:World):Calls prog 148 #[.agg #[.int .i64 f,.int .i64 u],.int .i64 n] w (Ret (.bool (zqx f u n)) w):=by
 have HC:=waV (fun V=>zmv f u n V)
 by_cases h:zat (zjx f n) (zi5 u n)<0
 ·have HB:Hid (zqx f u n=false):=by show _=_;unfold zqx;rw[waP h];rfl
  rw[if_pos h] at HC;rw[HB.out];clear HB h;go_enter func148,ntmps148;go_wp2_with fail;refine(HC.out _).mono ?_;rintro e w1 ⟨rfl,hb1⟩;have hbw:=((waC _ w).alloc (waJ _) (.cells #[.int .i64 f,.int .i64 u] 154)).trans (hb1.mono (by simp))
  clear hb1;go_wp2;go_ret;exact⟨rfl,hbw⟩
 ·have HB:Hid (zqx f u n=true):=by show _=_;unfold zqx;rw[waO h];rfl
  rw[if_neg h] at HC;rw[HB.out];generalize zaE (zjx f n) (zi5 u n)%86400=x at *;generalize zat (zjx f n) (zi5 u n)%86400=y at *;clear HB h;go_enter func148,ntmps148;go_wp2_with fail;refine(HC.out _).mono ?_;rintro e w1 ⟨rfl,hb1⟩;have hbw:=((waC _ w).alloc (waJ _) (.cells #[.int .i64 f,.int .i64 u] 154)).trans (hb1.mono (by simp))
  clear hb1;go_wp2;go_ret;exact⟨rfl,hbw⟩
def ze3 (a f u:Int):Int:=if zat f u<0 then a else min a (zaE f u / 86400)
def ze4 (a f u:Int):Int:=if zat f u<0 then a else max a (zat f u / 86400)
def zhH (f1 u1 f2 u2:Int) (k:Nat):Int:=if k=0 then 146097 else if k=1 then ze3 146097 f1 u1 else ze3 (ze3 146097 f1 u1) f2 u2
def zhI (f1 u1 f2 u2:Int) (k:Nat):Int:=if k=0 then -1 else if k=1 then ze4 (-1) f1 u1 else ze4 (ze4 (-1) f1 u1) f2 u2
theorem zlK (b:Nat) (f1 u1 f2 u2:Int) (W:World) (c5:W.cell? ⟨b,5,none⟩=some (.int .i64 f1)) (c6:W.cell? ⟨b,6,none⟩=some (.int .i64 u1)) (c7:W.cell? ⟨b,7,none⟩=some (.int .i64 f2)) (c8:W.cell? ⟨b,8,none⟩=some (.int .i64 u2)):
 Calls prog 147 #[.pointer (some ⟨b,0,none⟩)] W (Ret (.tuple #[.int .i64 (zhH f1 u1 f2 u2 2),.int .i64 (zhI f1 u1 f2 u2 2)]) W):=by
 have HD:=waV (fun f u V=>zhd f u V)
 have lb:=waR W _ c5;have hx0:∀V,(Instr.index 155 (.agg #[.int .i64 f1,.int .i64 u1,.int .i64 f2,.int .i64 u2]) (.int .i64 0)).run prog V=.ok (.agg #[.int .i64 f1,.int .i64 u1]) V:=fun V=>by kernel_rfl
 have hx1:∀V,(Instr.index 155 (.agg #[.int .i64 f1,.int .i64 u1,.int .i64 f2,.int .i64 u2]) (.int .i64 1)).run prog V=.ok (.agg #[.int .i64 f2,.int .i64 u2]) V:=fun V=>by kernel_rfl
 go_enter func147,ntmps147;go_wp2
 go_loopw [4,5,15] (fun a z i wr=>∃k:Nat,k≤2∧i=.int .i64 (k:Int)∧a=.int .i64 (zhH f1 u1 f2 u2 k)∧z=.int .i64 (zhI f1 u1 f2 u2 k)∧Below W.heap.size W wr) (fun _ _ i _=>2 - (intOf i).toNat)
 case atStart=>exact⟨0,by decide,rfl,rfl,rfl,waC _ _⟩
 case round=>
  obtain⟨k,hk,rfl,rfl,rfl,hb⟩:=hrel;obtain rfl|rfl|rfl:k=0∨k=1∨k=2:=by omega
  ·have HF:Hid (zhH f1 u1 f2 u2 1=ze3 (zhH f1 u1 f2 u2 0) f1 u1):=rfl;have HU:Hid (zhI f1 u1 f2 u2 1=ze4 (zhI f1 u1 f2 u2 0) f1 u1):=rfl;have HDk:=waV (fun V=>HD.out f1 u1 V)
   have hz:=hb.size;generalize zhH f1 u1 f2 u2 0=aF at *;generalize zhI f1 u1 f2 u2 0=aU at *;unfold zkj at HDk;unfold ze3 at HF;unfold ze4 at HU
   by_cases h:zat f1 u1<0
   ·rw[if_pos h] at HDk HF HU;clear h;go_wp2_with fail;refine(HDk.out _).mono ?_;rintro e w1 ⟨rfl,hb1⟩;have hbw:=(hb.alloc oQ (.cells #[.int .i64 f1,.int .i64 u1] 154)).trans (hb1.mono (by simp;omega))
    clear hb1;go_wp2;go_roundw
    case rel=>exact⟨1,by decide,by go_num,by rw[HF.out],by rw[HU.out],hbw⟩
    case measure=>simp [intOf]
   ·rw[if_neg h] at HDk HF HU;generalize zaE f1 u1 / 86400=x at *;generalize zat f1 u1 / 86400=y at *;clear h;go_wp2_with fail;refine(HDk.out _).mono ?_;rintro e w1 ⟨rfl,hb1⟩;have hbw:=(hb.alloc oQ (.cells #[.int .i64 f1,.int .i64 u1] 154)).trans (hb1.mono (by simp;omega))
    clear hb1;go_wp2
    all_goals (
     go_roundw
     case rel=>exact⟨1,by decide,by go_num,by rw[HF.out];all_goals(congr 1;omega),by rw[HU.out];all_goals(congr 1;omega),hbw⟩
     case measure=>simp [intOf])
  ·have HF:Hid (zhH f1 u1 f2 u2 2=ze3 (zhH f1 u1 f2 u2 1) f2 u2):=rfl;have HU:Hid (zhI f1 u1 f2 u2 2=ze4 (zhI f1 u1 f2 u2 1) f2 u2):=rfl;have HDk:=waV (fun V=>HD.out f2 u2 V)
   have hz:=hb.size;generalize zhH f1 u1 f2 u2 1=aF at *;generalize zhI f1 u1 f2 u2 1=aU at *;unfold zkj at HDk;unfold ze3 at HF;unfold ze4 at HU
   by_cases h:zat f2 u2<0
   ·rw[if_pos h] at HDk HF HU;clear h;go_wp2_with fail;refine(HDk.out _).mono ?_;rintro e w1 ⟨rfl,hb1⟩;have hbw:=(hb.alloc oQ (.cells #[.int .i64 f2,.int .i64 u2] 154)).trans (hb1.mono (by simp;omega))
    clear hb1;go_wp2;go_roundw
    case rel=>exact⟨2,by decide,by go_num,by rw[HF.out],by rw[HU.out],hbw⟩
    case measure=>simp [intOf]
   ·rw[if_neg h] at HDk HF HU;generalize zaE f2 u2 / 86400=x at *;generalize zat f2 u2 / 86400=y at *;clear h;go_wp2_with fail;refine(HDk.out _).mono ?_;rintro e w1 ⟨rfl,hb1⟩;have hbw:=(hb.alloc oQ (.cells #[.int .i64 f2,.int .i64 u2] 154)).trans (hb1.mono (by simp;omega))
    clear hb1;go_wp2
    all_goals (
     go_roundw
     case rel=>exact⟨2,by decide,by go_num,by rw[HF.out];all_goals(congr 1;omega),by rw[HU.out];all_goals(congr 1;omega),hbw⟩
     case measure=>simp [intOf])
  ·go_wp2
   (try simp only[Exit.inBlock,Exit.then])
   refine waY (wbM rfl _ _ _) rfl ?_;exact⟨rfl,hb⟩
def zco (n:Nat) (L:List Cl):Int:=if 8<n then 5 else if zeW L=true then 0 else 1
def hF (L:List Cl):Int:=zaE (zaH L).1 (zaH L).2
def hU (L:List Cl):Int:=zat (zaH L).1 (zaH L).2
def zmU (g n1 n2:Nat) (L1 L2:List Cl) (h:Bool→Bool→Bool) (W:World) (e:Ending) (W':World):Prop:=
 Below W.heap.size W W'∧((zco n1 L1≠0∧e=.returned (.tuple #[.pointer none,.int .i64 (zco n1 L1)]))∨(zco n1 L1=0∧zco n2 L2≠0∧e=.returned (.tuple #[.pointer none,.int .i64 (zco n2 L2)]))∨
  (zco n1 L1=0∧zco n2 L2=0∧∃x:AskD,e=.returned (.tuple #[.pointer (some ⟨x.b,0,none⟩),.int .i64 0])∧x.g=g∧W.heap.size≤x.b∧W.heap.size≤x.fm∧x.D=W'.heap.size∧W.heap.size≤x.lo1∧W.heap.size≤x.lo2∧MeetAt W' x L1 L2 h (hF L1) (hU L1) (hF L2) (hU L2)))
theorem zhx.err {n:Nat} {L:List Cl} {W W':World} {e:Ending} (h:zhx n L W e W'):Below W.heap.size W W'∧((zco n L≠0∧e=.returned (.tuple #[.pointer none,.int .i64 (zco n L)]))∨(zco n L=0∧n≤8∧zeW L=true∧∃rd:RollD,e=.returned (.tuple #[.pointer (some ⟨rd.b,0,none⟩),.int .i64 0])∧
 ∀(V:World) (D:Nat) (S:Nat→Prop),RlS S W' V→(∀k,S k→k<W.heap.size∧k≠0)→W'.heap.size≤D→D≤V.heap.size→RollAt V rd L W.heap.size W'.heap.size D)):=by
 obtain⟨hb,(⟨h1,h2⟩|⟨h1,h2,h3⟩|⟨h1,h2,h3⟩)⟩:=h
 ·refine⟨hb,.inl ?_⟩;have:zco n L=5:=if_pos h1;rw[this];exact⟨by decide,h2⟩
 ·refine⟨hb,.inl ?_⟩;have:zco n L=1:=by unfold zco;rw[if_neg (by omega),if_neg (by rw[h2];decide)]
  rw[this];exact⟨by decide,h3⟩
 ·refine⟨hb,.inr ⟨?_,h1,h2,h3⟩⟩;unfold zco;rw[if_neg (by omega),if_pos h2]
structure BegR (W V:World) (b fm g:Nat) (v0 v1 z5 z6 z7 z8:Value):Prop where
 bl:Below W.heap.size W V
 bb:W.heap.size≤b∧W.heap.size≤fm∧b≠fm
 c0:V.cell? ⟨b,0,none⟩=some v0
 c1:V.cell? ⟨b,1,none⟩=some v1
 c2:V.cell? ⟨b,2,none⟩=some (.func (.func g) #[] #[])
 c3:V.cell? ⟨b,3,none⟩=some (.map (some fm))
 c4:V.cell? ⟨b,4,none⟩=some (.int .i64 0)
 c5:V.cell? ⟨b,5,none⟩=some z5
 c6:V.cell? ⟨b,6,none⟩=some z6
 c7:V.cell? ⟨b,7,none⟩=some z7
 c8:V.cell? ⟨b,8,none⟩=some z8
 fz:∀j,V.frozen? ⟨b,j,none⟩=false
 fn:V.heap[fm]?=some (.map #[] 0)
theorem BegR.below {W V V':World} {b fm g:Nat} {v0 v1 z5 z6 z7 z8:Value} (k:BegR W V b fm g v0 v1 z5 z6 z7 z8) (hb:Below V.heap.size V V'):BegR W V' b fm g v0 v1 z5 z6 z7 z8:=by
 have hr:RlS (fun _=>False) V V':=(RlS.refl _ V).below hb (waJ _)
 have nf:¬False:=fun g=>g
 have hlt:=waR V _ k.c0;exact⟨k.bl.trans (hb.mono k.bl.size),k.bb,hr.cell k.c0 nf,hr.cell k.c1 nf,hr.cell k.c2 nf,hr.cell k.c3 nf,hr.cell k.c4 nf,hr.cell k.c5 nf,hr.cell k.c6 nf,hr.cell k.c7 nf,hr.cell k.c8 nf,fun j=>(za8 hr hlt nf).trans (k.fz j),(hr.block _ (waL.1 k.fn).1 nf).trans k.fn⟩
theorem BegR.lt {W V:World} {b fm g:Nat} {v0 v1 z5 z6 z7 z8:Value} (k:BegR W V b fm g v0 v1 z5 z6 z7 z8):b<V.heap.size∧fm<V.heap.size:=⟨waR V _ k.c0,(waL.1 k.fn).1⟩
theorem BegR.setBl {W V:World} {b fm g:Nat} {v0 v1 z5 z6 z7 z8:Value} (k:BegR W V b fm g v0 v1 z5 z6 z7 z8) (j:Nat) (v:Value):Below W.heap.size W (V.setCell ⟨b,j,none⟩ v):=k.bl.setCell (p:=⟨b,j,none⟩) k.bb.1 v
theorem BegR.setFz {W V:World} {b fm g:Nat} {v0 v1 z5 z6 z7 z8:Value} (k:BegR W V b fm g v0 v1 z5 z6 z7 z8) (i:Nat) (v:Value) (j:Nat):(V.setCell ⟨b,i,none⟩ v).frozen? ⟨b,j,none⟩=false:=by
 simp[k.fz j]
theorem BegR.setFn {W V:World} {b fm g:Nat} {v0 v1 z5 z6 z7 z8:Value} (k:BegR W V b fm g v0 v1 z5 z6 z7 z8) (i:Nat) (v:Value):(V.setCell ⟨b,i,none⟩ v).heap[fm]?=some (.map #[] 0):=by
 have hr:RlS (·=b) V (V.setCell ⟨b,i,none⟩ v):=(RlS.refl (·=b) V).set ⟨b,i,none⟩ v rfl;exact(hr.block _ k.lt.2 (fun g=>k.bb.2.2 (Eq.symm g))).trans k.fn
theorem BegR.set0 {W V:World} {b fm g:Nat} {v0 v1 z5 z6 z7 z8:Value} (k:BegR W V b fm g v0 v1 z5 z6 z7 z8) (v:Value):BegR W (V.setCell ⟨b,0,none⟩ v) b fm g v v1 z5 z6 z7 z8:=by
 have o:∀j,j≠0→∀{u},V.cell? ⟨b,j,none⟩=some u→(V.setCell ⟨b,0,none⟩ v).cell? ⟨b,j,none⟩=some u:=fun j hj u hu=>(waU _ _ _ _ (by first|(simp;done)|(simp;omega))).trans hu
 exact⟨k.setBl 0 v,k.bb,waT _ _ _ k.c0,o 1 dQ k.c1,o 2 dQ k.c2,o 3 dQ k.c3,o 4 dQ k.c4,o 5 dQ k.c5,o 6 dQ k.c6,o 7 dQ k.c7,o 8 dQ k.c8,k.setFz 0 v,k.setFn 0 v⟩
theorem BegR.set1 {W V:World} {b fm g:Nat} {v0 v1 z5 z6 z7 z8:Value} (k:BegR W V b fm g v0 v1 z5 z6 z7 z8) (v:Value):BegR W (V.setCell ⟨b,1,none⟩ v) b fm g v0 v z5 z6 z7 z8:=by
 have o:∀j,j≠1→∀{u},V.cell? ⟨b,j,none⟩=some u→(V.setCell ⟨b,1,none⟩ v).cell? ⟨b,j,none⟩=some u:=fun j hj u hu=>(waU _ _ _ _ (by first|(simp;done)|(simp;omega))).trans hu
 exact⟨k.setBl 1 v,k.bb,o 0 dQ k.c0,waT _ _ _ k.c1,o 2 dQ k.c2,o 3 dQ k.c3,o 4 dQ k.c4,o 5 dQ k.c5,o 6 dQ k.c6,o 7 dQ k.c7,o 8 dQ k.c8,k.setFz 1 v,k.setFn 1 v⟩
theorem BegR.set5 {W V:World} {b fm g:Nat} {v0 v1 z5 z6 z7 z8:Value} (k:BegR W V b fm g v0 v1 z5 z6 z7 z8) (v:Value):BegR W (V.setCell ⟨b,5,none⟩ v) b fm g v0 v1 v z6 z7 z8:=by
 have o:∀j,j≠5→∀{u},V.cell? ⟨b,j,none⟩=some u→(V.setCell ⟨b,5,none⟩ v).cell? ⟨b,j,none⟩=some u:=fun j hj u hu=>(waU _ _ _ _ (by first|(simp;done)|(simp;omega))).trans hu
 exact⟨k.setBl 5 v,k.bb,o 0 dQ k.c0,o 1 dQ k.c1,o 2 dQ k.c2,o 3 dQ k.c3,o 4 dQ k.c4,waT _ _ _ k.c5,o 6 dQ k.c6,o 7 dQ k.c7,o 8 dQ k.c8,k.setFz 5 v,k.setFn 5 v⟩
theorem BegR.set6 {W V:World} {b fm g:Nat} {v0 v1 z5 z6 z7 z8:Value} (k:BegR W V b fm g v0 v1 z5 z6 z7 z8) (v:Value):BegR W (V.setCell ⟨b,6,none⟩ v) b fm g v0 v1 z5 v z7 z8:=by
 have o:∀j,j≠6→∀{u},V.cell? ⟨b,j,none⟩=some u→(V.setCell ⟨b,6,none⟩ v).cell? ⟨b,j,none⟩=some u:=fun j hj u hu=>(waU _ _ _ _ (by first|(simp;done)|(simp;omega))).trans hu
 exact⟨k.setBl 6 v,k.bb,o 0 dQ k.c0,o 1 dQ k.c1,o 2 dQ k.c2,o 3 dQ k.c3,o 4 dQ k.c4,o 5 dQ k.c5,waT _ _ _ k.c6,o 7 dQ k.c7,o 8 dQ k.c8,k.setFz 6 v,k.setFn 6 v⟩
theorem BegR.set7 {W V:World} {b fm g:Nat} {v0 v1 z5 z6 z7 z8:Value} (k:BegR W V b fm g v0 v1 z5 z6 z7 z8) (v:Value):BegR W (V.setCell ⟨b,7,none⟩ v) b fm g v0 v1 z5 z6 v z8:=by
 have o:∀j,j≠7→∀{u},V.cell? ⟨b,j,none⟩=some u→(V.setCell ⟨b,7,none⟩ v).cell? ⟨b,j,none⟩=some u:=fun j hj u hu=>(waU _ _ _ _ (by first|(simp;done)|(simp;omega))).trans hu
 exact⟨k.setBl 7 v,k.bb,o 0 dQ k.c0,o 1 dQ k.c1,o 2 dQ k.c2,o 3 dQ k.c3,o 4 dQ k.c4,o 5 dQ k.c5,o 6 dQ k.c6,waT _ _ _ k.c7,o 8 dQ k.c8,k.setFz 7 v,k.setFn 7 v⟩
theorem BegR.set8 {W V:World} {b fm g:Nat} {v0 v1 z5 z6 z7 z8:Value} (k:BegR W V b fm g v0 v1 z5 z6 z7 z8) (v:Value):BegR W (V.setCell ⟨b,8,none⟩ v) b fm g v0 v1 z5 z6 z7 v:=by
 have o:∀j,j≠8→∀{u},V.cell? ⟨b,j,none⟩=some u→(V.setCell ⟨b,8,none⟩ v).cell? ⟨b,j,none⟩=some u:=fun j hj u hu=>(waU _ _ _ _ (by first|(simp;done)|(simp;omega))).trans hu
 exact⟨k.setBl 8 v,k.bb,o 0 dQ k.c0,o 1 dQ k.c1,o 2 dQ k.c2,o 3 dQ k.c3,o 4 dQ k.c4,o 5 dQ k.c5,o 6 dQ k.c6,o 7 dQ k.c7,waT _ _ _ k.c8,k.setFz 8 v,k.setFn 8 v⟩
theorem zqy (A1 A2:Option Addr) (n1 n2 k1 k2 g:Nat) (L1 L2:List Cl) (h:Bool→Bool→Bool) (W:World) (hA1:zbx W A1 n1 L1) (hn1:n1≤4294967296) (hl1:A1=none→n1=0) (hbit1:∀c,c∈L1→zcz c∧c.s≤9223372036854775807)
 (hA2:zbx W A2 n2 L2) (hn2:n2≤4294967296) (hl2:A2=none→n2=0) (hbit2:∀c,c∈L2→zcz c∧c.s≤9223372036854775807) (hw:Tz W) (hf:zsj g h):
 Calls prog 87 #[.slice A1 n1 k1,.slice A2 n2 k2,.func (.func g) #[] #[]] W (zmU g n1 n2 L1 L2 h W):=by
 have HN1:=waV (fun V (hV:Below W.heap.size W V)=>zfI A1 n1 k1 L1 V (hA1.below hV (waJ _)) hn1 hl1 hbit1 (hw.below hV))
 have HN2:=waV (fun V (hV:Below W.heap.size W V)=>zfI A2 n2 k2 L2 V (hA2.below hV (waJ _)) hn2 hl2 hbit2 (hw.below hV))
 have HH1:=waV (fun V (hV:Below W.heap.size W V)=>zjh A1 n1 k1 L1 V (hA1.below hV (waJ _)) oQ)
 have HH2:=waV (fun V (hV:Below W.heap.size W V)=>zjh A2 n2 k2 L2 V (hA2.below hV (waJ _)) oQ)
 have htz:0<W.heap.size:=waR W _ (hw 0 dQ);have HF:=waV hf;clear hA1 hA2 hn1 hn2 hl1 hl2 hbit1 hbit2 hw hf;have hmm:=@run_makeMap prog;have HS:Hid (∀V0,V0=(W.alloc (.map #[] 0)).alloc (.cells #[.pointer none,.pointer none,.func (.func g) #[] #[],.map (some W.heap.size),.int .i64 0,.int .i64 0,.int .i64 0,.int .i64 0,.int .i64 0] 157)→BegR W V0 (W.heap.size+1) W.heap.size g (.pointer none) (.pointer none) (.int .i64 0) (.int .i64 0) (.int .i64 0) (.int .i64 0)):=fun V0 hV0=>by
  subst hV0;have h1:(W.alloc (.map #[] 0)).heap.size=W.heap.size+1:=by simp
  refine⟨((waC _ W).alloc (waJ _) _).alloc (by simp) _,⟨by omega,waJ _,by omega⟩,?_,?_,?_,?_,?_,?_,?_,?_,?_,fun j=>?_,(Below.heap_alloc _ _ _ (by simp)).trans (World.alloc_heap_new W _)⟩
  all_goals first|(rw[←h1];exact zaa rfl rfl)|skip
  unfold World.frozen?;rw[show W.heap.size+1=(W.alloc (.map #[] 0)).heap.size by simp,World.alloc_heap_new]
  simp
 go_enter func87,ntmps87;go_wp2_with fail;have HB:=waV (HS.out _ rfl);have hbl:=HB.out.bl;have hlt:=HB.out.lt;have c0:=HB.out.c0;have hfz:=HB.out.fz;clear HS;generalize ((W.alloc (.map #[] 0)).alloc (.cells #[.pointer none,.pointer none,.func (.func g) #[] #[],.map (some W.heap.size),.int .i64 0,.int .i64 0,.int .i64 0,.int .i64 0,.int .i64 0] 157))=V0 at *;generalize hbb:W.heap.size+1=b at *;have HE1:=waV (fun w' e (h:zhx n1 L1 V0 e w')=>h.err)
 refine(HN1.out _ hbl).mono ?_;intro e w1 hr1;obtain⟨hb1,hr1⟩:=HE1.out _ _ hr1;clear HE1 HN1;have HB1:=waV (HB.out.below hb1);obtain(⟨he,rfl⟩|⟨he1,hn1,hs1,d1,rfl,hR1⟩):=hr1
 ·have ct:=HB1.out.c0;have hfz1:=HB1.out.fz;generalize hz:zco n1 L1=z at *;go_wp2
  (try simp only[Exit.inBlock,Exit.then])
  refine waY (wbM rfl _ _ _) rfl ?_;subst hz;exact⟨(HB1.out.set0 _).bl,.inl ⟨he,rfl⟩⟩
 ·have HR1:=waV hR1;clear hR1;have ct:=HB1.out.c0;have hfz1:=HB1.out.fz;go_wp2_with fail;have hl1:=HB1.out.lt;have hB1:=HB1.out.set0 (.pointer (some ⟨d1.b,0,none⟩));have HBa:=waV hB1;have hra:RlS (·=b) w1 (w1.setCell ⟨b,0,none⟩ (.pointer (some ⟨d1.b,0,none⟩))):=(RlS.refl (·=b) w1).set ⟨b,0,none⟩ _ rfl;have HRa:=waV hra;clear hra hB1;have hbla:=HBa.out.bl;have hza:(w1.setCell ⟨b,0,none⟩ (.pointer (some ⟨d1.b,0,none⟩))).heap.size=w1.heap.size:=by simp
  generalize (w1.setCell ⟨b,0,none⟩ (.pointer (some ⟨d1.b,0,none⟩)))=V1 at *;have HE2:=waV (fun w' e (h:zhx n2 L2 V1 e w')=>h.err)
  refine(HN2.out _ hbla).mono ?_;intro e w2 hr2;obtain⟨hb2,hr2⟩:=HE2.out _ _ hr2;clear HE2 HN2;have HB2:=waV (HBa.out.below hb2);have ct:=HB2.out.c1;have hfz2:=HB2.out.fz;obtain(⟨he,rfl⟩|⟨he2,hn2,hs2,d2,rfl,hR2⟩):=hr2
  ·generalize hz:zco n2 L2=z at *;go_wp2
   (try simp only[Exit.inBlock,Exit.then])
   refine waY (wbM rfl _ _ _) rfl ?_;subst hz;exact⟨(HB2.out.set1 _).bl,.inr (.inl ⟨he1,he,rfl⟩)⟩
  ·have HR2:=waV hR2;clear hR2;go_wp2_with fail;have hl2:=HB2.out.lt;have hB2:=HB2.out.set1 (.pointer (some ⟨d2.b,0,none⟩));have HBb:=waV hB2;have hrb:RlS (·=b) w2 (w2.setCell ⟨b,1,none⟩ (.pointer (some ⟨d2.b,0,none⟩))):=(RlS.refl (·=b) w2).set ⟨b,1,none⟩ _ rfl;have HRb:=waV hrb;clear hrb hB2;have hblb:=HBb.out.bl;have hzb:(w2.setCell ⟨b,1,none⟩ (.pointer (some ⟨d2.b,0,none⟩))).heap.size=w2.heap.size:=by simp
   generalize (w2.setCell ⟨b,1,none⟩ (.pointer (some ⟨d2.b,0,none⟩)))=V2 at *;refine(HH1.out _ hblb).mono ?_;rintro e w3 ⟨rfl,hb3⟩;have HB3:=waV (HBb.out.below hb3);have hbl3:=HB3.out.bl;go_wp2_with fail;refine(HH2.out _ hbl3).mono ?_;rintro e w4 ⟨rfl,hb4⟩;have HB4:=waV (HB3.out.below hb4);have c5:=HB4.out.c5;have c6:=HB4.out.c6;have c7:=HB4.out.c7;have c8:=HB4.out.c8;have hfz4:=HB4.out.fz;have hl4:=HB4.out.lt;go_wp2_with fail
   (try simp only[Exit.inBlock,Exit.then])
   refine waY (wbM rfl _ _ _) rfl ?_;have hB5:=(((HB4.out.set5 (.int .i64 (hF L1))).set6 (.int .i64 (hU L1))).set7 (.int .i64 (hF L2))).set8 (.int .i64 (hU L2));have hr5:RlS (·=b) w4 ((((w4.setCell ⟨b,5,none⟩ (.int .i64 (hF L1))).setCell ⟨b,6,none⟩ (.int .i64 (hU L1))).setCell ⟨b,7,none⟩ (.int .i64 (hF L2))).setCell ⟨b,8,none⟩ (.int .i64 (hU L2))):=((((RlS.refl (·=b) w4).set ⟨b,5,none⟩ _ rfl).set ⟨b,6,none⟩ _ rfl).set ⟨b,7,none⟩ _ rfl).set ⟨b,8,none⟩ _ rfl;show zmU g n1 n2 L1 L2 h W _ ((((w4.setCell ⟨b,5,none⟩ (.int .i64 (hF L1))).setCell ⟨b,6,none⟩ (.int .i64 (hU L1))).setCell ⟨b,7,none⟩ (.int .i64 (hF L2))).setCell ⟨b,8,none⟩ (.int .i64 (hU L2)));have hz5:((((w4.setCell ⟨b,5,none⟩ (.int .i64 (hF L1))).setCell ⟨b,6,none⟩ (.int .i64 (hU L1))).setCell ⟨b,7,none⟩ (.int .i64 (hF L2))).setCell ⟨b,8,none⟩ (.int .i64 (hU L2))).heap.size=w4.heap.size:=by simp
   generalize ((((w4.setCell ⟨b,5,none⟩ (.int .i64 (hF L1))).setCell ⟨b,6,none⟩ (.int .i64 (hU L1))).setCell ⟨b,7,none⟩ (.int .i64 (hF L2))).setCell ⟨b,8,none⟩ (.int .i64 (hU L2)))=V5 at *;have z1:=hb1.size;have z2:=hb2.size;have z3:=hb3.size;have z4:=hb4.size;have r25:RlS (·=b) w2 V5:=((HRb.out.below hb3 oQ).below hb4 oQ).trans hr5;have r15:RlS (·=b) w1 V5:=(HRa.out.below hb2 oQ).trans r25;have hlo:b<V0.heap.size:=hlt.1;have hbz:0<b:=by omega
   refine⟨hB5.bl,.inr (.inr ⟨he1,he2,⟨b,W.heap.size,g,d1,d2,V0.heap.size,w1.heap.size,V1.heap.size,w2.heap.size,V5.heap.size⟩,rfl,rfl,by show W.heap.size≤b;omega,waJ _,rfl,by show W.heap.size≤V0.heap.size;omega,by show W.heap.size≤V1.heap.size;omega,?_⟩)⟩
   refine⟨hB5.c0,hB5.c1,hB5.c2,hB5.c3,⟨0,hB5.c4⟩,hB5.c5,hB5.c6,hB5.c7,hB5.c8,hB5.fz,?_,?_,by show w1.heap.size≤V1.heap.size;omega,⟨hB5.bb.2.2.symm.symm,hlo,hlt.2,by show V0.heap.size≤w1.heap.size;omega,hbz,htz⟩,⟨#[],0,hB5.fn,FineE.nil _ _ _⟩,HF.out⟩
   ·exact HR1.out V5 V5.heap.size (·=b) r15 (fun k hk=>by have:k=b:=hk;omega) oQ (waJ _)
   ·exact HR2.out V5 V5.heap.size (·=b) r25 (fun k hk=>by have:k=b:=hk;omega) oQ (waJ _)
end Go.Proofs.YtgedndlifiihkaaGreatDoor
