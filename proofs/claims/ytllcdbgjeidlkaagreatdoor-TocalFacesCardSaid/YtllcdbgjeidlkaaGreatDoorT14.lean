/- A part of the proof: WDisc4 -/
import Derived.Test.YtllcdbgjeidlkaaGreatDoorT13
import Derived.Test.YtllcdbgjeidlkaaGreatDoorT10
set_option maxHeartbeats 80000000
set_option maxRecDepth 100000
set_option linter.unusedSimpArgs false
set_option linter.unusedVariables false
namespace Go.Proofs.YtllcdbgjeidlkaaGreatDoor
open Go.Proofs.Tryz
open Go.RowKit Go.Shelf
theorem zsP:(prog.info? 39).map (fun i=>(i.zero,i.size,i.bytes))=some (some (.int .u64 0),1,8):=by kernel_rfl
theorem zgR (cs:Array Value) (i:Nat) (hi:i<1350) (v:Value) (hv:cs[i]?=some v) (W:World):(Instr.index 160 (.agg cs) (.int .i64 i)).run prog W=.ok v W:=by
 obtain⟨i0,hi0,hz0,hz1,hz2⟩:=info_parts zsP;unfold Instr.index;simp[Sem.run_bind,run_underlying underlying160,asIntOf,Result.andThen,sizeOf,typeInfo,hi0,hz1,hi,part,run_underlying underlying39,isAgg,hv]
theorem zsQ {w:World} {b k:Nat} {p p':Nat->Bool} (hd:DiscAt w b p) (hk:k<1350) (h:∀i,i<1350->i≠k->zau p' i=zau p i):DiscAt (w.setCell ⟨b,k,none⟩ (.int .u64 (zau p' k:Nat))) b p':=by
 refine⟨fun j hj=>?_,?_⟩
 ·by_cases e:j=k
  ·subst e;exact World.cell?_setCell_same' _ _ _ (by rw[hd.cells _ hj];rfl)
  ·rw[waU _ _ _ _ (by simp[e])]
   rw[hd.cells j hj,h j hj e]
 ·obtain⟨cs,hc⟩:=hd.obj;refine⟨cs.setIfInBounds k (.int .u64 (zau p' k:Nat)),?_⟩;show(w.heap.modify b _)[b]?=_;obtain⟨hlt,hk⟩:=waL.1 hc;rw[wbI (by rw[Array.size_modify];exact hlt),Array.getElem_modify_self,hk]
  simp
def zcP (q:Nat->Bool):Array Value:=(Array.range 1350).map fun i=>.int .u64 (zau q i:Nat)
theorem zch (q:Nat->Bool):(zcP q).size=1350:=by simp[zcP]
theorem zfk (q:Nat->Bool) (i:Nat) (h:i<1350):(zcP q)[i]?=some (.int .u64 (zau q i:Nat)):=by simp[zcP,h]
theorem zgS {w:World} {b:Nat} {q:Nat->Bool} (h:DiscAt w b q):∀j v,(zcP q)[j]?=some v->w.cell? ⟨b,0+j,none⟩=some v:=fun j v hv=>by
 have hj:j<1350:=by
  have:=(waL.1 hv).1
  rwa [zch] at this
 rw[zfk q j hj] at hv;rw[waH,h.cells j hj];exact hv
def zfM (p q:Nat->Bool) (k:Nat) (x:Nat):Bool:=p x||(q x&&decide (x<64 * k))
theorem zp8 (p q:Nat->Bool) (k:Nat):bits .or .u64 (zau (zfM p q k) k:Nat) (zau q k:Nat)=(zau (zfM p q (k+1)) k:Nat):=by
 have h1:=bits_or_u64_nat (zau (zfM p q k) k) (zau q k) (zbv _ _) (zbv _ _);rw[h1];congr 1;unfold zau;rw[zmo];refine zbe fun j hj=>?_
 unfold zfM;rw[waO (p:=64 * k+j<64 * k) (by omega),waP (p:=64 * k+j<64 * (k+1)) (by omega)]
 simp
theorem zn2 (p q:Nat->Bool) (k i:Nat) (h:i≠k):zau (zfM p q (k+1)) i=zau (zfM p q k) i:=by
 unfold zau;refine zbe fun j hj=>?_
 unfold zfM;congr 2;rw[wbH];omega
theorem zp9 (b b2 B o c:Nat) (p q:Nat->Bool) (w:World) (hd:DiscAt w b p) (hq:DiscAt w b2 q) (hne:b2≠b) (hc:w.cell? ⟨B,o,none⟩=some (.pointer (some ⟨b2,0,none⟩))):
 Calls prog 205 #[.pointer (some ⟨b,0,none⟩),.slice (some ⟨B,o,none⟩) 1 c] w (fun e w'=>e=.returned (.tuple #[])/\DiscAt w' b (fun x=>p x||q x)/\Rl b (b+1) w.heap.size w w'):=by
 have HL:=waV (zgS hq);have HS:Hid ((prog.info? 160).map (·.size)=some (zcP q).size):=by show _=_;rw[zch];kernel_rfl
 have HX:=waV (fun i (h:i<1350) W=>zgR (zcP q) i h _ (zfk q i h) W)
 have HD0:Hid (DiscAt w b (zfM p q 0)):=hd.congr fun x _=>by unfold zfM;rw[waO (by omega)];simp
 have HDn:Hid (∀W,DiscAt W b (zfM p q 1350)->DiscAt W b (fun x=>p x||q x)):=fun W h=>h.congr fun x hx=>by unfold zfM;rw[waP (by omega)];simp
 have HBl:=waR w _ hc;have hb2:=hq.lt;have hbl:=hd.lt;have h1c:(Value.agg (zcP q)).oneCell'=false:=rfl;clear hd hq;generalize zcP q=ws at *;go_enter func205,ntmps205;go_wp2
 go_loopw [12] (fun i wr=>(i=.int .i64 0/\wr=w)\/(i=.int .i64 1/\Hid (DiscAt wr b (fun x=>p x||q x))/\Rl b (b+1) w.heap.size w wr)) (fun i _=>1 - (intOf i).toNat)
 case atStart=>exact .inl ⟨rfl,rfl⟩
 case round=>
  rcases hrel with ⟨rfl,rfl⟩|⟨rfl,hD,hR⟩
  ·go_wp2_with (refine zag (by rfl) 160 _ rfl ws b2 0 rfl underlying160 rfl HS.out HL.out ?_)
   go_loopw [22] (fun i V=>∃k:Nat,i=.int .i64 k/\k<=1350/\Hid (DiscAt V b (zfM p q k))/\Rl b (b+1) wr.heap.size wr V) (fun i _=>1350 - (intOf i).toNat)
   case atStart=>exact⟨0,rfl,by omega,HD0,Rl.refl _ _ _ _⟩
   case round=>
    obtain⟨k,rfl,hk,HV,hR⟩:=hrel
    by_cases hlt:k<1350
    ·have hlt':(k:Int)<1350:=by omega
     have hk0:(0:Int)<=(k:Int):=by omega
     have hx:=HX.out k hlt;have hN:=zsQ HV.out hlt (fun i _ hi=>zn2 p q k i hi)
     rw[<-zp8] at hN;have HN:=waV hN;have c0:=HV.out.cells k hlt;have f0:=HV.out.frozen k;have hbV:=HV.out.lt;have wi:IntKind.i64.wrap (k:Int)=(k:Int):=zcr oQ oQ;generalize zau (zfM p q k) k=W0 at *;generalize zau q k=W1 at *;clear hN HV HX HL HS HD0 HDn;go_wp2;have c0':wr.drew.cell? ⟨b,k,none⟩=some (.int .u64 W0):=c0;have f0':wr.drew.frozen? ⟨b,k,none⟩=false:=f0
     go_still_tail 11,kQ
     change wpList _ _ _ _ _ wr.drew
     go_wp2;go_roundw
     case rel=>exact⟨k+1,by go_num,by omega,⟨HN.out.cells,HN.out.obj⟩,hR.drew.set ⟨b,k,none⟩ _ (waJ _) (Nat.lt_succ_self _)⟩
     case measure=>simp [intOf];omega
    ·obtain rfl:k=1350:=by omega
     have hf:=HDn.out _ HV.out;have HF:=waV hf;clear hf HV HDn HX;go_wp2;go_roundw
     case rel=>exact .inr ⟨rfl,HF.out,hR⟩
     case measure=>simp [intOf]
  ·go_wp2
   go_end0
   exact⟨rfl,hD.out,hR⟩
end Go.Proofs.YtllcdbgjeidlkaaGreatDoor
namespace Go.Proofs.YtllcdbgjeidlkaaGreatDoor
open Go.Proofs.Tryz
open Go.RowKit Go.Shelf
attribute [local go_sem] Oper.semAt_some
def zgT (p:Nat->Bool) (w:World) (e:Ending) (w':World):Prop:=∃b,e=.returned (.pointer (some ⟨b,0,none⟩))/\w.heap.size<=b/\DiscAt w' b p/\Below w.heap.size w w'
theorem za5 {n lo hi B:Nat} {w X Y:World} (h:Below n w X) (hr:Rl lo hi B X Y) (h1:n<=lo\/hi=0) (hB:n<=B) (hn:n<=w.heap.size):Below n w Y:=
 ⟨hr.os.trans h.os,hr.tape.trans h.tape,hr.output.trans h.output,waW h.size hr.size,fun k hk=>by
  have hkw:k<X.heap.size:=by have:=h.size;omega
  rw[<-h.block k hk];rw[hr.block k _ (wbI hkw) (by omega) (.inl (by omega)),wbI hkw]⟩
theorem DiscAt.rl {X Y:World} {b:Nat} {p:Nat->Bool} {lo hi B:Nat} (h:DiscAt X b p) (hr:Rl lo hi B X Y) (hb:b<lo\/hi<=b):DiscAt Y b p:=by
 obtain⟨cs,hc⟩:=h.obj;exact h.same ((hr.block b _ hc hb (.inr rfl)).trans hc.symm)
theorem zgn {lo hi B B0:Nat} {X Y:World} (h:Rl lo hi B X Y) (h1:hi<=B0) (h2:X.heap.size<=B):KeepsFrom B0 X Y:=
 ⟨h.size,fun i o h3 h4 h5=>h.block i o h4 (.inr oQ) (.inl (by have:=(waL.1 h4).1;omega))⟩
def zuN (f:Int) (pre:List Nat) (k:Nat):Bool:=decide (k∈pre/\f<=(k:Int))
theorem zkf (f:Int) (pre:List Nat) (x k:Nat):zuN f (pre++[x]) k=(zuN f pre k||decide (k=x/\f<=(x:Int))):=by
 unfold zuN;rw[waQ];simp only[wbF,waM,wbB,wbC];constructor
 ·rintro ⟨h|rfl,h2⟩
  ·exact .inl ⟨h,h2⟩
  ·exact .inr ⟨rfl,h2⟩
 ·rintro (⟨h,h2⟩|⟨rfl,h2⟩)
  ·exact⟨.inl h,h2⟩
  ·exact⟨.inr rfl,h2⟩
def zgU (c:Cl) (x:LSt) (k:Nat):Bool:=decide (x.fr<=(k:Int)/\(k:Int)<=x.un)&&zdh (k:Int) (c.m 2) (c.m 1) (c.m 0)
theorem zqa (c:Cl) (hc:zbC c) (x:LSt) (w:World) (hw:Tz w):Calls prog 270 #[.agg (clA c),zdQ x] w (zgT (zgU c x) w):=by
 have eg:∀args w,(callFunc 294 args).run prog w=.ok (.enter 294 args) w:=enters_of func294 kQ rfl;obtain⟨h,hh⟩:∃h:Nat,c.m 2=(h:Int):=⟨(c.m 2).toNat,by have:=(hc.1 2 dQ).1;omega⟩
 obtain⟨m,hm⟩:∃h:Nat,c.m 1=(h:Int):=⟨(c.m 1).toNat,by have:=(hc.1 1 dQ).1;omega⟩
 obtain⟨s,hs⟩:∃h:Nat,c.m 0=(h:Int):=⟨(c.m 0).toNat,by have:=(hc.1 0 dQ).1;omega⟩
 have h1:h<18446744073709551616:=by have:=(hc.1 2 dQ).2;omega
 have m1:m<18446744073709551616:=by have:=(hc.1 1 dQ).2;omega
 have s1:s<18446744073709551616:=by have:=(hc.1 0 dQ).2;omega
 have HA:=waV (fun k V=>wbP (n:=k).2 (zmN h m s h1 m1 s1 V))
 have HD:=waV (fun k V=>wbP (n:=k).2 (zi4 0 V))
 have HX:=waV (zgH w c 60);have g0:gC c 0=.int .u64 (s:Int):=by show Value.int .u64 (c.m 0)=_;rw[hs]
 have g1:gC c 1=.int .u64 (m:Int):=by show Value.int .u64 (c.m 1)=_;rw[hm]
 have g2:gC c 2=.int .u64 (h:Int):=by show Value.int .u64 (c.m 2)=_;rw[hh]
 have HR:Hid (∀k,zgU c x k=(decide (x.fr<=(k:Int)/\(k:Int)<=x.un)&&zdh (k:Int) h m s)):=fun k=>by unfold zgU;rw[hh,hm,hs]
 have h1c:(Value.agg (clA c)).oneCell'=false:=rfl;obtain⟨xa,xf,xu,xp⟩:=x;unfold zdQ;dsimp only at HR ⊢;generalize zgU c ⟨xa,xf,xu,xp⟩=R at *;generalize gC c=gc at *;generalize clA c=cs at *;clear hh hm hs hc;have HW:=waV hw;clear hw;refine(wbP (n:=20)).1 ?_;refine callsIn_of_wp_marks func270 rfl trivial ?_ rfl;simp only[ntmps270,wbQ,waG,List.length_nil,Nat.reduceAdd,Nat.reduceSub,wbR,wbS,List.push_toArray,List.append_toArray,wbN,wbT]
 gi_wp2
 apply zcg
 gi_wp2_with (refine⟨trivial,?_⟩;gi_at_call 204;refine(HD.out _ _).mono ?_;rintro e w1 ⟨rfl,hd1,hq1⟩)
 have hX0:=Arr.below HX.out (Arr.lt HX.out dQ) ((waC _ _).alloc (waJ _) (.cells #[.bool xa,.int .i64 xf,.int .i64 xu,.int .i64 xp] 224));have hX1:=Arr.below hX0 (Arr.lt hX0 dQ) hq1;have hZ0:((w.alloc (.cells cs 60)).alloc (.cells #[.bool xa,.int .i64 xf,.int .i64 xu,.int .i64 xp] 224)).heap.size=w.heap.size+1+1:=by simp
 have hx:∀j v,(#[.bool xa,.int .i64 xf,.int .i64 xu,.int .i64 xp]:Array Value)[j]?=some v->w1.cell? ⟨w.heap.size+1,j,none⟩=some v:=fun j v hv=>by
  refine((zad hq1).1 (w.heap.size+1) j oQ).trans ?_;have hs:(w.alloc (.cells cs 60)).heap.size=w.heap.size+1:=by simp
  rw[<-hs];exact zaa rfl hv
 have cf1:=hx 1 _ rfl;have cu1:=hx 2 _ rfl;have c0:w1.cell? ⟨w.heap.size,0,none⟩=some (.int .u64 (s:Int)):=(hX1.1 0 (by decide)).trans (by rw[g0])
 have c1:w1.cell? ⟨w.heap.size,1,none⟩=some (.int .u64 (m:Int)):=(hX1.1 1 (by decide)).trans (by rw[g1])
 have c2:w1.cell? ⟨w.heap.size,2,none⟩=some (.int .u64 (h:Int)):=(hX1.1 2 (by decide)).trans (by rw[g2])
 have hb1:Below w.heap.size w w1:=((((waC _ w).alloc (waJ _) _).alloc (by simp) _).trans (hq1.mono oQ))
 have hz1:w.heap.size+2<w1.heap.size:=by have:=hd1.lt;omega
 have hT1:=HW.out.below hb1;rw[hZ0] at hd1;clear hX0 hX1 hq1 hx hZ0 HX HD g0 g1 g2;apply wpIn_label;simp only[Exit.then]
 have e0:w.heap.size<w1.heap.size:=by omega
 have e1:w.heap.size+1<w1.heap.size:=by omega
 gi_wp2_with (refine⟨trivial,?_⟩;gi_at_call 286;refine(HA.out _ _).mono ?_;rintro e w3 ⟨b1,b2,b3,rfl,n1,n2,n3,k1,k2,k3,hq3⟩)
 have hqA:Below w1.heap.size w1 w3:=((waC _ w1).alloc (waJ _) _).trans (hq3.mono (by simp))
 have hz3:w1.heap.size+1<=w3.heap.size:=by have:=hq3.size;simp at this;omega
 have cD:w3.cell? ⟨w1.heap.size,0,none⟩=some (.pointer (some ⟨w.heap.size+1+1,0,none⟩)):=((zad hq3).1 _ _ (by simp)).trans (zaa rfl rfl)
 have hD3:=hd1.below (hqA.mono (waJ _));have cf3:=((zad hqA).1 _ 1 e1).trans cf1;have cu3:=((zad hqA).1 _ 2 e1).trans cu1;have hT3:=hT1.below hqA;have hb3:Below w.heap.size w w3:=zaf hb1 hqA hb1.size;have m1':w1.heap.size+1<=b1:=by simpa using n1
 have m2':w1.heap.size+1<=b2:=by simpa using n2
 have m3':w1.heap.size+1<=b3:=by simpa using n3
 have hAl:h&&&16777215<16777216:=Nat.lt_of_le_of_lt Nat.and_le_right dQ;have hBl:m&&&1152921504606846975<1152921504606846976:=Nat.lt_of_le_of_lt Nat.and_le_right dQ;have hCl:s&&&1152921504606846975<1152921504606846976:=Nat.lt_of_le_of_lt Nat.and_le_right dQ;have HL:Hid (∀k,k∈zj5 (h&&&16777215) (m&&&1152921504606846975) (s&&&1152921504606846975)↔k<86400/\zdh (k:Int) h m s=true):=fun k=>zmO
 have HSo:Hid ((zj5 (h&&&16777215) (m&&&1152921504606846975) (s&&&1152921504606846975)).Pairwise (·< ·)):=zlo hAl hBl hCl;have hseq:=zmM (fun k=>k=w.heap.size+1+1) 19 b1 b2 b3 (h&&&16777215) (m&&&1152921504606846975) (s&&&1152921504606846975) hAl hBl hCl oQ oQ oQ (by show ¬(0=w.heap.size+1+1);have h9:0<w.heap.size:=waR w _ (HW.out 0 dQ);omega)
 generalize zj5 (h&&&16777215) (m&&&1152921504606846975) (s&&&1152921504606846975)=L at *;generalize (h&&&16777215)=hA at *;generalize (m&&&1152921504606846975)=hB at *;generalize (s&&&1152921504606846975)=hC at *;clear hq3 n1 n2 n3 hd1 cf1 cu1 c0 c1 c2 hT1 HA;have nM:∀k:Nat,k≠w.heap.size+1+1->¬(k=w.heap.size+1+1):=fun _ h=>h
 refine za4 rfl dQ (gf:=294) (lb:=#[.pointer (some ⟨b1,0,none⟩),.pointer (some ⟨b2,0,none⟩),.pointer (some ⟨b3,0,none⟩)]) rfl trivial eg hseq
  (fun h k=>h.trans k) (fun V l o o' _ hl ho _=>KpM.putObj o' hl ho) (fun o o'=>?st) (fun _=>rfl) (waK _)
  (fun pre V=>DiscAt V (w.heap.size+1+1) (zuN xf pre)/\(∀k,k∈pre->xf<=(k:Int)->(k:Int)<=xu)/\KpM (fun k=>k=w.heap.size+1+1) w3 V/\Below w.heap.size w V)
  (fun c pre V=>c=.exit 0/\(∃(p0:List Nat) (y:Nat),pre=p0++[y]/\DiscAt V (w.heap.size+1+1) (zuN xf p0)/\(∀k,k∈p0->xf<=(k:Int)->(k:Int)<=xu)/\xu<(y:Int))/\KpM (fun k=>k=w.heap.size+1+1) w3 V/\Below w.heap.size w V)
  (fun pre A B hs hr=>⟨hs.1.rl hr (.inr (waK _)),hs.2.1,hs.2.2.1.trans (KpM.of_rl hr (by intro k h1 h2;omega)),za5 hs.2.2.2 hr (.inr rfl) oQ (waJ _)⟩)
  (fun c pre A B hs hr=>by obtain⟨h1,⟨p0,y,h2,h3,h4,h5⟩,h6,h7⟩:=hs;exact⟨h1,⟨p0,y,h2,h3.rl hr (.inr (waK _)),h4,h5⟩,h6.trans (KpM.of_rl hr (by intro k h1 h2;omega)),za5 h7 hr (.inr rfl) oQ (waJ _)⟩)
  ⟨hD3.congr (fun k _=>by unfold zuN;simp),by simp,KpM.refl _ _,hb3⟩
  (fun x a' _=>a'={tmps:=#[.agg cs,.agg #[.bool xa,.int .i64 xf,.int .i64 xu,.int .i64 xp],.pointer (some ⟨w.heap.size,0,none⟩),.pointer (some ⟨w.heap.size+1,0,none⟩),.pointer none,.pointer (some ⟨w1.heap.size,0,none⟩),.int .i64 (x:Int),.pointer (some ⟨w.heap.size+1+1,0,none⟩),.pointer (some ⟨w.heap.size,2,none⟩),.int .u64 (h:Int),.pointer (some ⟨w.heap.size,1,none⟩),.int .u64 (m:Int),.pointer (some ⟨w.heap.size,0,none⟩),.int .u64 (s:Int),.func (.func 294) #[] #[.pointer (some ⟨b1,0,none⟩),.pointer (some ⟨b2,0,none⟩),.pointer (some ⟨b3,0,none⟩)],.int .i64 (x:Int),undef,undef,undef,undef,undef,undef,undef,undef,undef,undef,undef,undef,undef,undef,undef],defers:=[]})
  (fun _ _ _ _ hs _=>hs) (fun _ _ _ hs _=>hs)
  ?assign ?body ?done ?stop
 case st=>
  have hb:Below w3.heap.size w3 ((w3.alloc o).alloc o'):=((waC _ w3).alloc (waJ _) _).alloc (by simp) _
  have bc:=zad hb;exact⟨fun k e=>by subst e;have:=hb.size;omega,(bc.1 _ _ (waR w3 _ k1)).trans k1,(bc.1 _ _ (waR w3 _ k2)).trans k2,(bc.1 _ _ (waR w3 _ k3)).trans k3,hT3.below hb⟩
 case assign=>
  rintro l1 pre x V K hi he hK
  gi_wp2
  exact hK _ _ (KeepsFrom.refl _ _) (KpM.refl _ _) (Rl.refl _ _ _ _) hi rfl
 case body=>
  rintro l1 pre x a' V hl1 _ ⟨hd,hp,hk,hb⟩ hx86 rfl hlt;have cDV:=hk.cell cD oQ;have cfV:=hk.cell cf3 oQ;have cuV:=hk.cell cu3 oQ;have hsV:=hk.size;have hDl:=hd.lt;have hWV:w.heap.size+1<V.heap.size:=by omega
  by_cases h1':(x:Int)<xf
  ·gi_wp2
   refine⟨KeepsFrom.refl _ _,KpM.refl _ _,hd.congr (fun k _=>?_),fun k hk2=>?_,hk,hb⟩
   ·rw[zkf,waO (p:=k=x/\xf<=(x:Int)) (by omega),Bool.or_false]
   ·rcases wbB.1 hk2 with h|h
    ·exact hp k h
    ·rw[wbC.1 h];omega
  ·by_cases h2':xu<(x:Int)
   ·gi_wp2
    exact⟨KeepsFrom.refl _ _,rfl,⟨pre,x,rfl,hd,hp,h2'⟩,hk,hb⟩
   ·gi_wp2_with (refine⟨trivial,?_⟩;gi_at_call 237;refine(zat (l':=l1) (zmI _ x V.heap.size 0 1 _ hx86 _ (hd.below ((waC _ V).alloc (waJ _) _)) (zaa rfl rfl) oQ)).mono ?_;rintro e w4 ⟨⟨k,rfl⟩,hd4,hr4⟩)
    have hr5:Rl (w.heap.size+1+1) (w.heap.size+1+1+1) V.heap.size V w4:=((Rl.refl _ _ _ V).alloc _).trans (hr4.mono (by simp))
    refine⟨zgn hr5 oQ (waJ _),KpM.of_rl hr5 (by intro k h3 h4;omega),hd4.congr (fun k _=>?_),fun k hk2=>?_,hk.trans (KpM.of_rl hr5 (by intro k h3 h4;omega)),za5 hb hr5 (.inl oQ) oQ (waJ _)⟩
    ·rw[zkf];unfold zlk;congr 1;rw[wbH];exact⟨fun h=>⟨h,by omega⟩,fun h=>h.1⟩
    ·rcases wbB.1 hk2 with h|h
     ·exact hp k h
     ·rw[wbC.1 h];omega
 case done=>
  rintro D zs V hD rfl ⟨hd,hp,hk,hb⟩ hKd;have cDV:=hk.cell cD oQ
  gi_wp2
  refine⟨by simp,.inl ⟨_,_,rfl,run_takeDeferred hKd,?_⟩⟩
  have hr:Rl 0 0 w.heap.size V (V.putObj D (.deferred none)):=(Rl.refl _ _ _ V).put _ hKd rfl oQ;refine⟨_,results_tmp rfl _ _ _,w.heap.size+1+1,rfl,by omega,(hd.rl hr (.inr (waK _))).congr (fun k hk86=>?_),za5 hb hr (.inr rfl) (waJ _) (waJ _)⟩
  rw[HR.out];unfold zuN;rw[waQ,waN,waM,waM];constructor
  ·rintro ⟨h1,h2⟩;exact⟨⟨h2,hp k h1 h2⟩,((HL.out k).1 h1).2⟩
  ·rintro ⟨⟨h1,h2⟩,h3⟩;exact⟨(HL.out k).2 ⟨hk86,h3⟩,h1⟩
 case stop=>
  rintro D c pre V hD hpre ⟨rfl,⟨p0,y,rfl,hd,hp,hy⟩,hk,hb⟩ hKd;have cDV:=hk.cell cD oQ
  gi_wp2
  refine⟨by simp,.inl ⟨_,_,rfl,run_takeDeferred hKd,?_⟩⟩
  have hr:Rl 0 0 w.heap.size V (V.putObj D (.deferred none)):=(Rl.refl _ _ _ V).put _ hKd rfl oQ;refine⟨_,results_tmp rfl _ _ _,w.heap.size+1+1,rfl,by omega,(hd.rl hr (.inr (waK _))).congr (fun k hk86=>?_),za5 hb hr (.inr rfl) (waJ _) (waJ _)⟩
  rw[HR.out];unfold zuN;rw[waQ,waN,waM,waM];constructor
  ·rintro ⟨h1,h2⟩;have hm:k∈L:=hpre.subset (wbB.2 (.inl h1));exact⟨⟨h2,hp k h1 h2⟩,((HL.out k).1 hm).2⟩
  ·rintro ⟨⟨h1,h2⟩,h3⟩;have hm:k∈L:=(HL.out k).2 ⟨hk86,h3⟩;refine⟨?_,h1⟩
   false_or_by_contra
   rename_i hn
   by_cases e:k=y
   ·subst e;omega
   ·have:=zka HSo.out hpre hm (by simp[hn,e]);omega
end Go.Proofs.YtllcdbgjeidlkaaGreatDoor
namespace Go.Proofs.YtllcdbgjeidlkaaGreatDoor
open Go.Proofs.Tryz
section
variable {P : Program} {ops : Array Oper} {Q : Exit -> Act -> World -> Prop} {md : Region.Mode} {C : World -> Prop}
theorem zh8:∀(m:Nat) (L:Array Bool) (a:Act) (w:World),wpAny P md ops Q m L a w->wpAny P md ops Q (m+1) L a w
 |0,L,a,w,h=>⟨fun _=>h.2,fun i hi=>by rw[h.1] at hi;cases hi⟩
 |m+1,L,a,w,h=>⟨h.1,fun i hi=>wpOp_mono (fun a' w' h'=>zh8 m _ a' w' h') (h.2 i hi)⟩
theorem zmR {m:Nat} {L:Array Bool} {a:Act} {w:World} (h:wpAny P md ops Q m L a w):∀j,wpAny P md ops Q (m+j) L a w
 |0=>h
 |j+1=>zh8 _ _ _ _ (zmR h j)
def zkg (md:Region.Mode) (ops:Array Oper):Nat->List Nat->List Nat
 |0,S=>S
 |n+1,S=>zkg md ops n (if S.contains n then((ops[n]?).map fun o=>(o.after.toList.filter (Region.binds md)).map (·.on)).getD []++S else S)
theorem zeb {L:Array Bool} (hd:∀i o,ops[i]?=some o->L.getD i false=true->∀e∈o.after,Region.binds md e=true->L.getD e.on false=true):
 ∀(n:Nat) (S:List Nat),(∀x∈S,L.getD x false=true)->∀x∈zkg md ops n S,L.getD x false=true
 |0,S,h,x,hx=>h x hx
 |n+1,S,h,x,hx=>by
  refine zeb hd n _ ?_ x hx;intro y hy;split at hy
  ·rename_i hc;rcases wbB.1 hy with hy|hy
   ·cases ho:ops[n]? with
    |none=>rw [ho] at hy;cases hy
    |some o=>
     rw[ho] at hy;obtain⟨e,he,rfl⟩:=List.mem_map.1 (show y∈(o.after.toList.filter (Region.binds md)).map (·.on) from hy)
     obtain⟨h1,h2⟩:=List.mem_filter.1 he;exact hd n o ho (h n (by simpa using hc)) e (by simpa using h1) h2
   ·exact h y hy
  ·exact h y hy
def covB (md:Region.Mode) (ops:Array Oper) (k:Nat):Bool:=
 (List.range ops.size).all fun i=>decide (i<k)||((List.range k).all fun j=>(zkg md ops k (((ops[i]?).map fun o=>(o.after.toList.filter (Region.binds md)).map (·.on)).getD [])).contains j)||((ops[i]?).map fun o=>o.after.any fun e=>Region.binds md e&&decide (k<=e.on)).getD false
theorem zsR {A B:Array Bool} (hs:A.size=B.size) (h:∀i,i<A.size->A.getD i false=B.getD i false):A=B:=by
 refine Array.ext hs fun i h1 h2=>?_
 have:=h i h1;rw[wbL,wbL,wbI h1,wbI h2] at this;exact this
def zi9 (ops:Array Oper):Bool:=ops.all fun o=>o.guard.isNone
theorem zls {o:Oper} {x:Nat->Option Bool} (h:o.guard=none):Region.wanted o x=true:=by unfold Region.wanted;rw[h]
theorem zec {K K':Act->Prop} (h:∀a,K a->K' a):∀(l:List Oper) (a:Act),wpQuiet P ops C K l a->wpQuiet P ops C K' l a
 |[],a,hh=>h a hh
 |o::rest,a,hh=>by
  unfold wpQuiet at hh ⊢;split
  ·rename_i hw;rw[if_pos hw] at hh;exact Oper.quiet_mono (fun a' h'=>zec h rest a' h') hh
  ·rename_i hw;rw[if_neg hw] at hh;exact zec h rest _ hh
def DcL (md:Region.Mode) (ops:Array Oper) (L:Array Bool):Prop:=∀i o,ops[i]?=some o->L.getD i false=true->∀e∈o.after,Region.binds md e=true->L.getD e.on false=true
def zjG (L:Array Bool) (m:Nat):Array Bool:=L++Array.replicate m false
theorem zja {L:Array Bool} {m i:Nat} {d:Bool} (h:i<L.size):(zjG L m).getD i d=L.getD i d:=by
 unfold zjG;rw[wbL,wbL,Array.getElem?_append_left h]
theorem zgV {L:Array Bool} {m i:Nat} (h:L.size<=i):(zjG L m).getD i false=false:=by
 unfold zjG;rw[wbL,Array.getElem?_append_right h,Array.getElem?_replicate];split<;>rfl
theorem zsS {L:Array Bool} {m i:Nat} (h:i<L.size):(zjG L m).setIfInBounds i true=zjG (L.setIfInBounds i true) m:=by
 unfold zjG;rw[Array.setIfInBounds_append,if_pos h]
theorem zew {L:Array Bool} {i:Nat} (h:i<L.size) (d d':Bool):L.getD i d=L.getD i d':=by
 rw[wbL,wbL,wbI h];rfl
theorem zgW {l:List Oper} {k m:Nat} (hkm:l.length=k+m) (hm:0<m) (hlow:zsH md l.toArray=true) (hlowk:zsH md (l.take k).toArray=true) (hg:zi9 l.toArray=true) (hcov:covB md l.toArray k=true):
 ∀(fuel:Nat) (L:Array Bool) (a:Act) (w:World),L.size=k->DcL md l.toArray L->C w->wpAnyQ P md (l.take k).toArray C (fun a'=>∀w',C w'->wpAny P md l.toArray Q m (zjG (Array.replicate k true) m) a' w') fuel L a->wpAny P md l.toArray Q (fuel+m) (zjG L m) a w:=by
 have hkl:(l.take k).toArray.size=k:=by simp;omega
 have hget:∀i,i<k->(l.take k).toArray[i]?=l.toArray[i]? :=fun i hi=>by simp[hi]
 have hgn:∀i (o:Oper),l.toArray[i]?=some o->o.guard=none:=fun i o ho=>by
  have h1:=Array.all_eq_true_iff_forall_mem.1 hg o (Array.mem_of_getElem? ho);exact Option.isNone_iff_eq_none.1 h1
 have hall:∀L:Array Bool,L.size=k->(∀j,j<k->L.getD j false=true)->L=Array.replicate k true:=fun L hs h=>zsR (by simpa using hs) (fun i hi=>by
  rw[h i (by omega),wbL,Array.getElem?_replicate,if_pos (by omega)];rfl)
 have hdone:∀L:Array Bool,L.size=k->(∀j,j<k->L.getD j false=true)->Region.ready md (l.take k).toArray L=[]:=fun L hs h=>by
  rw[List.eq_nil_iff_forall_not_mem];intro i hi;obtain⟨h1,o,ho,_⟩:=mem_ready.1 hi;have hik:i<k:=by have:=(waL.1 ho).1;omega
  have h2:=h i hik;rw[zew (by omega) false true,h1] at h2
  cases h2
 intro fuel;induction fuel with
 |zero=>
  intro L a w hs hd hw h;have hr:=zfL hlowk h.1 (by rw[hs,hkl])
  have e:=hall L hs (fun j hj=>by rw[zew (by omega) false true];exact hr j (by omega))
  rw[e,waH];exact h.2 w hw
 |succ fuel ih=>
  intro L a w hs hd hw h;rw[show fuel+1+m=(fuel+m)+1 by omega]
  have hsz:(zjG L m).size=l.toArray.size:=by unfold zjG;simp;omega
  refine⟨fun h0=>?_,fun i hi=>?_⟩
  ·have hr:=zfL hlow h0 hsz k (by simp;omega)
   rw[zew (by rw[hsz];simp;omega) true false,zgV (by omega)] at hr
   cases hr
  ·obtain⟨h1,o,ho,h2⟩:=mem_ready.1 hi;have hil:i<k+m:=by have:=(waL.1 ho).1;simp at this;omega
   by_cases hik:i<k
   ·rw[zja (by omega)] at h1
    have h3:∀e∈o.after,Region.binds md e=true->L.getD e.on false=true:=fun e he hb=>by
     have h4:=h2 e he hb
     by_cases hek:e.on<k
     ·rwa [zja (by omega)] at h4
     ·rw[zgV (by omega)] at h4;cases h4
    have hq:=h.2 i (mem_ready.2 ⟨h1,o,by rw[hget i hik];exact ho,h3⟩)
    have hd':DcL md l.toArray (L.setIfInBounds i true):=fun j oj hj hjl e he hb=>by
     by_cases hji:i=j
     ·subst hji;rw[ho] at hj;cases hj;exact getD_set_true (h3 e he hb)
     ·rw[getD_set_ne false hji] at hjl;exact getD_set_true (hd j oj hj hjl e he hb)
    rw[zsS (by omega)]
    have key:∀a' w',C w'->wpAnyQ P md (l.take k).toArray C (fun a'=>∀w',C w'->wpAny P md l.toArray Q m (zjG (Array.replicate k true) m) a' w') fuel (L.setIfInBounds i true) a'->wpAny P md l.toArray Q (fuel+m) (zjG (L.setIfInBounds i true) m) a' w':=fun a' w' hw' h'=>ih _ a' w' (by simpa using hs) hd' hw' h'
    unfold qOp at hq;rw[hget i hik] at hq;unfold wpOp;rw[ho] at hq ⊢;dsimp only at hq ⊢;rw[if_pos (zls (hgn i o ho))] at hq ⊢;exact .inl (Oper.wp_of_quiet hw key hq)
   ·have hjl:∀j,j<k->L.getD j false=true:=by
     have hc:=List.all_eq_true.1 hcov i (wbG.2 (by simp;omega))
     rw[wbF,wbF] at hc;have ho2:∀e∈o.after,Region.binds md e=true->e.on<k/\L.getD e.on false=true:=fun e he hb=>by
      have h4:=h2 e he hb
      by_cases hek:e.on<k
      ·rw[zja (by omega)] at h4;exact⟨hek,h4⟩
      ·rw[zgV (by omega)] at h4;cases h4
     rcases hc with (hc|hc)|hc
     ·exact absurd (waA hc) hik
     ·intro j hj;have hc2:=List.all_eq_true.1 hc j (wbG.2 hj);refine zeb hd k _ ?_ j (List.contains_iff_mem.1 hc2);intro x hx;rw[ho] at hx;obtain⟨e,he,rfl⟩:=List.mem_map.1 (show x∈(o.after.toList.filter (Region.binds md)).map (·.on) from hx)
      obtain⟨h5,h6⟩:=List.mem_filter.1 he;exact(ho2 e (by simpa using h5) h6).2
     ·rw[ho] at hc;obtain⟨e,he,h5⟩:=Array.any_eq_true'.1 (show(o.after.any fun e=>Region.binds md e&&decide (k<=e.on))=true from hc)
      rw[waN] at h5;have:=(ho2 e he h5.1).1;have:=waA h5.2;omega
    have e:=hall L hs hjl;have hq:=h.1 (hdone L hs hjl) w hw;rw[<-e] at hq;have h6:=zmR hq (fuel+1);rw[show m+(fuel+1)=(fuel+m)+1 by omega] at h6
    exact h6.2 i hi
def zfl (md:Region.Mode) (ops:Array Oper) (n:Nat):Nat->Array Bool->Bool
 |0,L=>(Region.ready md ops L).isEmpty
 |j+1,L=>(Region.ready md ops L==[n - (j+1)])&&zfl md ops n j (L.setIfInBounds (n - (j+1)) true)
theorem zgX:∀(j:Nat) (L:Array Bool) (a:Act) (w:World),j<=ops.size->zfl md ops ops.size j L=true->wpList P ops Q (ops.toList.drop (ops.size - j)) a w->wpAny P md ops Q j L a w
 |0,L,a,w,_,hc,h=>by
  rw[List.drop_eq_nil_of_le (by simp)] at h
  exact⟨by simpa[zfl] using hc,h⟩
 |j+1,L,a,w,hj,hc,h=>by
  unfold zfl at hc;rw[waN] at hc;have hr:Region.ready md ops L=[ops.size - (j+1)]:=by simpa using hc.1
  have hlt:ops.size - (j+1)<ops.toList.length:=by simp;omega
  rw[List.drop_eq_getElem_cons hlt,show ops.size - (j+1)+1=ops.size - j by omega] at h
  refine⟨fun h0=>(by rw[hr] at h0;cases h0),fun i hi=>?_⟩
  rw[hr,wbC] at hi;subst hi;refine wpOp_mono (fun a' w' h'=>zgX j _ a' w' oQ hc.2 h') ?_
  unfold wpOp;rw[wbI (by omega)]
  dsimp only;have e:ops.toList[ops.size - (j+1)]=ops[ops.size - (j+1)]'oQ:=by simp
  rw[e] at h;unfold wpList at h;exact h
theorem zqb (k:Nat) {a:Act} {w:World} {l:List Oper} (hk:k<l.length) (hlow:zsH md l.toArray=true) (hlowk:zsH md (l.take k).toArray=true) (hg:zi9 l.toArray=true) (hcov:covB md l.toArray k=true)
 (hlex:Region.lexB md (l.take k).toArray=true) (hch:zfl md l.toArray l.length (l.length - k) (zjG (Array.replicate k true) (l.length - k))=true) (hC:C w)
 (h:wpQuiet P (l.take k).toArray C (fun a'=>∀w',C w'->wpList P l.toArray Q (l.drop k) a' w') (l.take k) a):wpAny P md l.toArray Q l.length (Array.replicate l.length false) a w:=by
 simp only[Region.lexB,waN] at hlex;have hkl:(l.take k).length=k:=by simp;omega
 have h1:=wpAnyQ_lex (P:=P) (C:=C) (md:=md) hlex.1 (l.take k) 0 (Array.replicate (l.take k).toArray.size false) a (by simp) (by simpa using hlex.2) (Q:=fun a'=>∀w',C w'->wpAny P md l.toArray Q (l.length - k) (zjG (Array.replicate k true) (l.length - k)) a' w')
  (zec (fun a' h2 w' hw'=>zgX (ops:=l.toArray) (l.length - k) _ a' w' (by simp) (by simpa using hch) (by
    have:=h2 w' hw'
    rwa [show l.toArray.size - (l.length - k)=k by simp;omega])) _ _ h)
 rw[hkl] at h1;have h2:=zgW (P:=P) (C:=C) (md:=md) (Q:=Q) (l:=l) (k:=k) (m:=l.length - k) oQ oQ hlow hlowk hg hcov k (Array.replicate k false) a w (by simp) (fun i o _ hl=>by
  rw[wbL,Array.getElem?_replicate] at hl;split at hl<;>cases hl) hC (by simpa[Nat.min_eq_left (show k<=l.length by omega)] using h1)
 rw[show k+(l.length - k)=l.length by omega] at h2
 have e:zjG (Array.replicate k false) (l.length - k)=Array.replicate l.length false:=by
  unfold zjG;rw[Array.replicate_append_replicate,show k+(l.length - k)=l.length by omega]
 rw[e] at h2;exact h2
theorem za6 (k:Nat) {id:Nat} {a:Act} {w:World} {l:List Oper} (hm:P.follows .mixedOrders=true) (hk:k<l.length) (hlow:zsH .any l.toArray=true) (hlowk:zsH .any (l.take k).toArray=true) (hg:zi9 l.toArray=true) (hcov:covB .any l.toArray k=true)
 (hlex:Region.lexB .any (l.take k).toArray=true) (hch:zfl .any l.toArray l.length (l.length - k) (zjG (Array.replicate k true) (l.length - k))=true)
 (h:wpQuiet P (l.take k).toArray (fun w'=>∃n,w'=w.drewN n) (fun a'=>∀w',(∃n,w'=w.drewN n)->wpList P l.toArray Q (l.drop k) a' w') (l.take k) a):(Code.region id l.toArray true).wp P Q a w:=by
 refine wp_region_any hm ?_;have:=zqb (C:=fun w'=>∃n,w'=w.drewN n) (w:={w with drawn:=w.drawn+1}) k hk hlow hlowk hg hcov hlex hch ⟨1,rfl⟩ h
 simpa using this
end
end Go.Proofs.YtllcdbgjeidlkaaGreatDoor
