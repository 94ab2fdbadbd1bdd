/- A part of the proof: WMk2 -/
import Derived.Test.YtllcdbgjeidlkaaGreatDoorT11
import Derived.Test.YtllcdbgjeidlkaaGreatDoorT10
set_option maxHeartbeats 80000000
set_option maxRecDepth 100000
set_option linter.unusedSimpArgs false
set_option linter.unusedVariables false
namespace Go.Proofs.YtllcdbgjeidlkaaGreatDoor
open Go.Proofs.Tryz
open Go.RowKit Go.Shelf
attribute [local go_sem] Oper.semAt_some
structure KpT (p q:Nat) (W W':World):Prop where
 kp:KpI p q W W'
 tz:Tz W->Tz W'
theorem KpT.refl (p q:Nat) (W:World):KpT p q W W:=⟨KpI.refl _ _ _,id⟩
theorem KpT.trans {p q:Nat} {X Y Z:World} (h:KpT p q X Y) (k:KpT p q Y Z):KpT p q X Z:=⟨h.kp.trans k.kp,fun t=>k.tz (h.tz t)⟩
theorem Tz.put {W:World} {l:Nat} {o:Obj} (h:Tz W) (hl:W.heap[l]?=some o) (ho:o.isCells=false) (o':Obj):Tz (W.putObj l o'):=fun j hj=>by
 have h1:=h j hj;obtain⟨q,hq,hc⟩:=cells_of_cell h1;have hne:0≠l:=by
  intro e;have hq':W.heap[l]?=some q:=by rw[<-e];exact hq
  rw[hl] at hq';cases hq';rw[ho] at hc;cases hc
 exact(wbK (World.putObj_heap_other hne)).trans h1
theorem KpT.putObj {p q:Nat} {W:World} {l:Nat} {o:Obj} (o':Obj) (h:q<=l) (hl:W.heap[l]?=some o) (ho:o.isCells=false):KpT p q W (W.putObj l o'):=⟨KpI.putObj l o' h,fun t=>t.put hl ho o'⟩
def okN:Value->Nat
 | .bool true=>1
 |_=>0
theorem zbD {α:Type} (enc:α->Nat) (L:List α) (Kp:World->World->Prop) (n b m:Nat) (hn:1<=n) (hL:L.map enc=zam m) (hm:m<18446744073709551616) (hKb:∀X Y,Kp X Y->X.cell? ⟨b,0,none⟩=some (.int .u64 m)->Y.cell? ⟨b,0,none⟩=some (.int .u64 m)) (hKz:∀X Y,Kp X Y->Tz X->Tz Y)
 (w:World) (hb:w.cell? ⟨b,0,none⟩=some (.int .u64 m)) (hw:Tz w):
 SeqStopsK Fence.wide n prog 154 #[.pointer (some ⟨b,0,none⟩)] (fun k:α=> #[.int .i64 (enc k:Int)]) Kp (fun xs=>xs=L) (fun pre=>pre<+:L) 65 w:=by
 intro l J Jx W hW hJ hJx hY h0;have hbl:=waR w _ hb;have hbW:W.cell? ⟨b,0,none⟩=some (.int .u64 m):=(hW.cell (p:=⟨b,0,none⟩) hbl).trans hb;have hTW:=hw.below hW;have HL:=waV (fun V (hV:Tz V)=>wbP (n:=n - 1).2 (zff m hm V hV))
 have HN:=waV (fun k pre rest (h:zam m=pre++k::rest) V (hV:Tz V)=>wbP (n:=n - 1).2 (zsJ m k hm pre rest h V hV))
 have HE2:=waV hL;unfold zeL zhE at HL;unfold zhE at HN;have HJ:=waV h0;obtain⟨v0,hv0⟩:∃x,x=zi3 (zam m):=⟨_,rfl⟩;obtain⟨e0,he0⟩:∃x,x=!(zam m).isEmpty:=⟨_,rfl⟩;rw[<-hv0,<-he0] at HL;have HV0:Hid (v0=zi3 (L.map enc)):=by show _=_;rw[hv0,hL]
 have HE0:Hid (e0=!(L.map enc).isEmpty):=by show _=_;rw[he0,hL]
 have HB65:Hid (∀pre rest:List α,L=pre++rest->pre.length+rest.length<65):=fun pre rest h=>by
  have h1:=zdw m;rw[<-hL,h,List.length_map,waF] at h1;omega
 clear hv0 he0 h0 hw hb hW hbl hL;refine callsIn_of_wp func154 rfl trivial ?_ rfl;simp only[ntmps154,wbQ,waG,List.length_nil,Nat.reduceAdd,Nat.reduceSub,wbR,wbS,List.push_toArray,List.append_toArray,wbN,wbT]
 gi_wp2_with (refine⟨trivial,?_⟩;gi_at_call 84;refine(HL.out _ hTW).mono ?_;rintro e w1 ⟨rfl,rfl⟩)
 gi_loopw [3,4] (fun i ok wr=>∃(pre rest:List α) (vi:Int) (vo:Bool),i=.int .i64 vi/\ok=.bool vo/\Hid (vi=zi3 (rest.map enc))/\Hid (vo=!(rest.map enc).isEmpty)/\Hid (L=pre++rest)/\Hid (J pre wr)/\Tz wr/\wr.cell? ⟨b,0,none⟩=some (.int .u64 m)) (fun i ok _=>okN ok * (65 - (intOf i).toNat))
 case atStart=>exact⟨[],L,v0,e0,rfl,rfl,HV0.out,HE0.out,rfl,HJ.out,hTW,hbW⟩
 case round=>
  clear hTW hbW HL HJ HV0 HE0;obtain⟨pre,rest,vi,vo,rfl,rfl,HV,HE,HB,HJ,hT,hb⟩:=hrel;cases rest with
  |nil=>
   have HP:Hid (pre=L):=by show _=_;rw[HB.out,List.append_nil]
   obtain rfl:vo=false:=HE.out
   gi_wp2
   go_end0
   exact⟨⟨_,rfl⟩,.inl ⟨pre,HP.out,HJ.out⟩⟩
  |cons k rest=>
   have HBU:Hid (zam m=pre.map enc++enc k::rest.map enc):=by show _=_;rw[<-HE2.out,HB.out];simp
   have hk64:enc k<64:=(zaN.1 (show enc k∈zam m by rw[HBU.out];simp)).1
   have hlen:pre.length<65:=by have:=HB65.out _ _ HB.out;omega
   obtain⟨fn,tmps,assign,body,hy,hR⟩:=hY pre k wr HJ.out hlen;have HR:=waV hR;have HX:Hid (pre++[k]<+:L):=⟨rest,by rw[HB.out];simp⟩
   have HB2:Hid (L=(pre++[k])++rest):=by show _=_;rw[HB.out];simp
   have HN2:=waV (fun V hV=>HN.out (enc k) (pre.map enc) (rest.map enc) HBU.out V hV)
   have hlt:∀j r,rest.map enc=j::r->enc k<j/\j<64:=fun j r e=>by
    have hs:=zaW m;rw[HBU.out,e] at hs;exact⟨(List.pairwise_cons.1 (List.pairwise_append.1 hs).2.1).1 j (by simp),(zaN.1 (show j∈zam m by rw[HBU.out,e];simp)).1⟩
   clear hR HB HJ hlen HN HBU HB65;obtain rfl:vo=true:=HE.out;obtain rfl:vi=(enc k:Int):=HV.out
   gi_wp2
   refine HR.out.mono ?_;rintro e W3 (⟨rfl,hJ3,hk3⟩|⟨rfl,hJx3⟩)
   ·have hb3:=hKb _ _ hk3 hb;have hT3:=hKz _ _ hk3 hT;have HJ3:=waV hJ3;have H2:=waV (HN2.out W3 hT3);obtain⟨v1,hv1⟩:∃x,x=zi3 (rest.map enc):=⟨_,rfl⟩;obtain⟨e1,he1⟩:∃x,x=!(rest.map enc).isEmpty:=⟨_,rfl⟩;rw[<-hv1,<-he1] at H2;have hms:okN (.bool e1) * (65 - v1.toNat)<65 - enc k:=by
     cases hr:rest.map enc with
     |nil=>rw [hr] at he1;obtain rfl:e1=false:=he1;simp[okN];omega
     |cons j r=>
      rw[hr] at he1 hv1;obtain rfl:e1=true:=he1;obtain rfl:v1=(j:Int):=hv1;have:=hlt j r hr;simp[okN];omega
    have HV1:=waV hv1;have HE1:=waV he1;have HMs:=waV hms;clear hv1 he1 hJ3 hk3 HN2 hlt hms HV HE hb hT hy HR
    gi_wp2_with (refine⟨trivial,?_⟩;gi_at_call 155;refine H2.out.mono ?_;rintro e w1 ⟨rfl,rfl⟩)
    go_roundw
    case rel=>exact⟨pre++[k],rest,v1,e1,rfl,rfl,HV1.out,HE1.out,HB2.out,HJ3.out,hT3,hb3⟩
    case measure=>have:=HMs.out;simp[okN,intOf] at this ⊢;omega
   ·have HJx:=waV hJx3;clear hJx3 HN2 hlt HV HE hb hT hy HR
    gi_wp2
    refine waY (results_none rfl _ _ _) rfl ?_;exact⟨⟨_,rfl⟩,.inr ⟨pre++[k],HX.out,HJx.out⟩⟩
theorem znZ (n b m p q:Nat) (hn:1<=n) (hm:m<18446744073709551616) (hp:p<=b) (hq:b<q) (w:World) (hb:w.cell? ⟨b,0,none⟩=some (.int .u64 m)) (hw:Tz w):
 SeqStopsK Fence.wide n prog 154 #[.pointer (some ⟨b,0,none⟩)] (fun k:Nat=> #[.int .i64 (k:Int)]) (KpT p q) (fun xs=>xs=zam m) (fun pre=>pre<+:zam m) 65 w:=
 zbD id (zam m) (KpT p q) n b m hn (by simp) hm (fun _ _ h hb=>h.kp.cell hp hq hb) (fun _ _ h=>h.tz) w hb hw
end Go.Proofs.YtllcdbgjeidlkaaGreatDoor
namespace Go.Proofs.YtllcdbgjeidlkaaGreatDoor
open Go.Proofs.Tryz
open Go.RowKit Go.Shelf
attribute [local go_sem] Oper.semAt_some
section scope
variable {F : Fence} {n : Nat} {P : Program} {Q : Exit -> Act -> World -> Prop} {a : Act} {w : World} {b : Frame} {k : List Item} {cs : List Frame}
theorem zcf {c:Code}:step P (lone (b.atR a (.code (.scope c)::k)) cs w)=.next (lone (b.atR a (.code c::.inScope c::k)) cs w):=
 step_lone_go (by simp[stepG,stepG.exec,Frame.atR])
theorem zi5 {c:Code}:step P (lone (b.atR a (.inScope c::k)) cs w)=.next (lone (b.atR a k) cs w):=
 step_lone_go (by simp[stepG,stepG.exec,Frame.atR])
theorem zcg {c:Code} (h:c.wpIn F n P (Exit.noGoto Q) a w):(Code.scope c).wpIn F n P Q a w:=by
 intro b k cs hro hb hr;have h0:(lone (b.atR a (.code (.scope c)::k)) cs w).fenced P F:=fenced_calm hb hr rfl;obtain⟨e,a₁,w₁,hq,harr⟩:=h b (.inScope c::k) cs hro hb hr;cases e with
 |normal=>exact⟨.normal,a₁,w₁,hq,.head h0 zcf (StepsIn.trans harr (.one (fenced_calm hb hr rfl) zi5))⟩
 |exit id=>
  have hx:exitTo id (.inScope c::k)=exitTo id k:=by simp[exitTo]
  exact⟨_,a₁,w₁,hq,fun k' hk=>.head h0 zcf (harr.1 k' (by rw[hx];exact hk)),
   fun hr' hk=>let ⟨k₁,h1,h2⟩:=harr.2 hr' (by rw[hx];exact hk);⟨k₁,h1,.head h0 zcf h2⟩⟩
 |goto l=>exact hq.elim
 |ret=>exact⟨_,a₁,w₁,hq,.of_steps (.one h0 zcf) harr⟩
 |panic ch=>exact⟨_,a₁,w₁,hq,.of_steps (.one h0 zcf) harr⟩
 |outgrown=>exact⟨_,a₁,w₁,hq,.of_steps (.one h0 zcf) harr⟩
end scope
theorem zc3 {P:Program} {n m l l':Nat} {f:FuncId} {tmps:Array Value} {assign body:Code} {w:World} {R:Ending->World->Prop} (h:RoundIn Fence.wide n P l f tmps assign body w R):RoundIn (Fence.wide.inRound l') m P l f tmps assign body w R:=
 ⟨h.1,fun c cs _=>h.2 c cs (room_wide _)⟩
theorem zat {P:Program} {m l':Nat} {f:FuncId} {args:Array Value} {w:World} {R:Ending->World->Prop} (h:Calls P f args w R):CallsIn (Fence.wide.inRound l') m P f args w R:=
 CallsIn.inRound l' (wbP.2 h)
theorem zcN {β:Type} {B:Nat} {M:Nat->Prop} {W0:World}:OwnFrom B (fun(_:β) W=>KpM M W0 W):=fun _ X Y row hs hg hr=>hs.trans ⟨hg.size,fun k o h1 h2 _=>(hg.block k (waL.1 h1).1 (fun e=>by
 obtain⟨_,o',ho,hc⟩:=hr k e.symm;rw[h1] at ho;cases ho;rw[hc] at h2;cases h2)).trans h1⟩
theorem Tz.kpM {M:Nat->Prop} {X Y:World} (h:Tz X) (k:KpM M X Y) (hM:¬M 0):Tz Y:=fun j hj=>k.cell (h j hj) hM
theorem zi6 {α β:Type} {f:α->List β} {c:Nat} (l:List α) (h:∀a,(f a).length<=c):(l.flatMap f).length<=l.length * c:=by
 induction l with
 |nil=>simp
 |cons a l ih=>rw [List.flatMap_cons,waF,waG,Nat.add_mul];have:=h a;omega
theorem zmK {α β:Type} {f:α->List β} {p q:List α} (h:p<+:q):p.flatMap f<+:q.flatMap f:=by
 obtain⟨r,rfl⟩:=h;exact⟨r.flatMap f,by rw[List.flatMap_append]⟩
def zdi (a b:Nat) (l:List Nat):List Nat:=l.map fun c=>a * 3600+b * 60+c
def zdx (s a:Nat) (l:List Nat):List Nat:=l.flatMap fun b=>zdi a b (zam s)
def zfh (m s:Nat) (l:List Nat):List Nat:=l.flatMap fun a=>zdx s a (zam m)
theorem zj6 (a b:Nat) (l:List Nat):(zdi a b l).length=l.length:=by simp[zdi]
theorem zj7 (s a:Nat) (l:List Nat):(zdx s a l).length<=l.length * 64:=zi6 l fun b=>by rw[zj6];exact zdw s
theorem zp6 (m s:Nat) (l:List Nat):(zfh m s l).length<=l.length * 4096:=zi6 l fun b=>by have:=zj7 s b (zam m);have:=zdw m;omega
theorem zj8 (h m s:Nat):zfh m s (zam h)=zj5 h m s:=rfl
theorem zh5 (a b:Nat) (l:List Nat) (c:Nat):zdi a b (l++[c])=zdi a b l++[a * 3600+b * 60+c]:=by simp[zdi]
theorem zn0 (s a:Nat) (l:List Nat) (b:Nat):zdx s a (l++[b])=zdx s a l++zdi a b (zam s):=by simp[zdx]
theorem zn1 (m s:Nat) (l:List Nat) (a:Nat):zfh m s (l++[a])=zfh m s l++zdx s a (zam m):=by simp[zfh]
theorem zdj (w:World) (o:Obj) (v:Value) (t:TypeId):((w.alloc o).alloc (.cells #[v] t)).cell? ⟨w.heap.size+1,0,none⟩=some v:=by
 have h:(w.alloc o).heap.size=w.heap.size+1:=by simp
 rw[<-h];exact zaa rfl rfl
theorem zfi (w:World) (o:Obj) (v:Value) (t:TypeId):((w.alloc (.cells #[v] t)).alloc o).cell? ⟨w.heap.size,0,none⟩=some v:=
 ((zad ((waC _ (w.alloc (.cells #[v] t))).alloc (waJ _) o)).1 w.heap.size 0 (by simp)).trans (zaa rfl rfl)
theorem zeQ (w:World) (x y z:Value) (t t' t'':TypeId):(((w.alloc (.cells #[x] t)).alloc (.cells #[y] t')).alloc (.cells #[z] t'')).cell? ⟨w.heap.size,0,none⟩=some x/\
 (((w.alloc (.cells #[x] t)).alloc (.cells #[y] t')).alloc (.cells #[z] t'')).cell? ⟨w.heap.size+1,0,none⟩=some y/\(((w.alloc (.cells #[x] t)).alloc (.cells #[y] t')).alloc (.cells #[z] t'')).cell? ⟨w.heap.size+1+1,0,none⟩=some z:=by
 have hb:=(waC _ ((w.alloc (.cells #[x] t)).alloc (.cells #[y] t'))).alloc (waJ _) (.cells #[z] t'');have h2:=zdj (w.alloc (.cells #[x] t)) (.cells #[y] t') z t'';rw[World.size_alloc] at h2;exact⟨((zad hb).1 _ _ (by simp;omega)).trans (zfi _ _ _ _),((zad hb).1 _ _ (by simp)).trans (zdj _ _ _ _),h2⟩
theorem zgO (m:Nat):(zam m).attach.map (fun x:{k // k∈zam m}=>x.1)=zam m:=List.attach_map_subtype_val _
def zcD {l:List Nat} (p:List {k // k∈l}):List Nat:=p.map fun x=>x.1
theorem zct {l:List Nat} (p:List {k // k∈l}) (x:{k // k∈l}):zcD (p++[x])=zcD p++[x.1]:=by simp[zcD]
theorem zcE (l:List Nat):zcD l.attach=l:=List.attach_map_subtype_val _
theorem zj9 {l:List Nat} {p0:List {k // k∈l}} {a:{k // k∈l}} (hpre:p0++[a]<+:l.attach):∃r:List Nat,l=zcD p0++a.1::r:=by
 obtain⟨r,hr⟩:=hpre;have h:=congrArg zcD hr;rw[zcE] at h;exact⟨zcD r,h.symm.trans (by simp[zcD])⟩
theorem zmL {f:Nat->List Nat} {l x r q:List Nat} {a:Nat} (e:l=x++a::r) (hq:q<+:f a):x.flatMap f++q<+:l.flatMap f:=by
 obtain⟨q2,hq2⟩:=hq;rw[e];refine⟨q2++r.flatMap f,?_⟩;rw[List.flatMap_append,List.flatMap_cons,<-hq2];simp
theorem zi7 {l:List Nat} (p:List {k // k∈l}):(zcD p).length=p.length:=by simp[zcD]
theorem zmM (M:Nat->Prop) (n bh bm bs h m s:Nat) (hh:h<16777216) (hm:m<1152921504606846976) (hs:s<1152921504606846976) (nh:¬M bh) (nm:¬M bm) (ns:¬M bs) (nt:¬M 0):
 zxj Fence.wide n prog 294 #[.pointer (some ⟨bh,0,none⟩),.pointer (some ⟨bm,0,none⟩),.pointer (some ⟨bs,0,none⟩)] (fun k:Nat=> #[.int .i64 (k:Int)]) (fun k _=>k<86400) (KpM M) (fun xs=>xs=zj5 h m s) (fun pre=>pre<+:zj5 h m s) 300000 0 0
  (fun W=>(∀k,M k->k<W.heap.size)/\W.cell? ⟨bh,0,none⟩=some (.int .u64 h)/\W.cell? ⟨bm,0,none⟩=some (.int .u64 m)/\W.cell? ⟨bs,0,none⟩=some (.int .u64 s)/\Tz W):=by
 have eg:∀args w,(callFunc 154 args).run prog w=.ok (.enter 154 args) w:=enters_of func154 kQ rfl;intro l J Jx W ⟨hM,ch,cm,cs,hT⟩ hJ hJx hY h0;have HA:=waV (fun k V B (hc:V.cell? ⟨B,0,none⟩=some (.int .u64 h))=>wbP (n:=k).2 (zc2 h oQ B 0 1 V hc))
 have HA2:=waV (fun l' k V B (hc:V.cell? ⟨B,0,none⟩=some (.int .u64 m))=>zat (m:=k) (l':=l') (zc2 m oQ B 0 1 V hc))
 have HA3:=waV (fun l' k V B (hc:V.cell? ⟨B,0,none⟩=some (.int .u64 s))=>zat (m:=k) (l':=l') (zc2 s oQ B 0 1 V hc))
 have HY:=waV hY;clear hY;have hbh:=waR W _ ch;have hbm:=waR W _ cm;have hbs:=waR W _ cs
 suffices hs20:∀k,CallsIn Fence.wide (k+20) prog 294 (#[.func (.yield l) #[] #[]]++ #[.pointer (some ⟨bh,0,none⟩),.pointer (some ⟨bm,0,none⟩),.pointer (some ⟨bs,0,none⟩)]) W fun e W'=>(∃v,e=.returned v)/\((∃xs,xs=zj5 h m s/\J xs W')\/(∃pre,pre<+:zj5 h m s/\Jx pre W')) from wbP.2 (wbP.1 (hs20 0))
 intro k;refine callsIn_of_wp_marks func294 rfl trivial ?_ rfl;simp only[ntmps294,wbQ,waG,List.length_nil,Nat.reduceAdd,Nat.reduceSub,wbR,wbS,List.push_toArray,List.append_toArray,wbN,wbT]
 gi_wp2
 apply zcg;apply wpIn_seq;apply wpIn_label;simp only[Exit.then]
 gi_wp2_with (refine⟨trivial,?_⟩;gi_at_call 90;refine(HA.out _ _ _ (zdj _ _ _ _)).mono ?_;rintro e w1 ⟨bA,rfl,cA,hlA,hq1⟩)
 have hb1:Below W.heap.size W w1:=((((waC _ W).alloc (waJ _) _).alloc (by simp) _).trans (hq1.mono (by simp;omega)))
 have cY1:w1.cell? ⟨W.heap.size,0,none⟩=some (.func (.yield l) #[] #[]):=((zad hq1).1 _ _ (by simp;omega)).trans (zfi _ _ _ _)
 have cm1:w1.cell? ⟨bm,0,none⟩=some (.int .u64 m):=((zad hb1).1 _ _ hbm).trans cm;have cs1:w1.cell? ⟨bs,0,none⟩=some (.int .u64 s):=((zad hb1).1 _ _ hbs).trans cs;have hT1:=hT.below hb1;have hJ1:J [] w1:=hJ _ _ _ h0 ((Rl.refl _ _ _ W).below hb1);have hlA2:W.heap.size+2<=bA:=by simpa using hlA
 have hz1:W.heap.size+3<=w1.heap.size:=by have h:bA<w1.heap.size:=waR w1 _ cA;omega
 have nM:∀k,W.heap.size<=k->¬M k:=fun k h1 h2=>by have:=hM k h2;omega
 clear hq1 hT h0 ch cm cs hbh hbm hbs hb1 hlA;have bh64:h<18446744073709551616:=by omega
 have bm64:m<18446744073709551616:=by omega
 have bs64:s<18446744073709551616:=by omega
 refine wpIn_rangeFunc_ownH rfl oQ (gf:=154) (lb:=#[.pointer (some ⟨bA,0,none⟩)]) rfl trivial eg
  (zbD (fun x:{k // k∈zam h}=>x.1) (zam h).attach (KpM M) (k+19) bA h oQ (zgO h) bh64 (fun _ _ hk hc=>hk.cell hc (nM _ oQ)) (fun _ _ hk ht=>ht.kpM hk nt) w1 cA hT1)
  (fun h k=>h.trans k) (fun V l o o' _ hl ho _=>KpM.putObj o' hl ho) (waC _ _) (fun _=>rfl)
  (fun pre V=>J (zfh m s (zcD pre)) V/\KpM M w1 V)
  (fun c pre V=>c=.exit 0/\∃p0 a q,pre=p0++[a]/\q<+:zdx s a.1 (zam m)/\Jx (zfh m s (zcD p0)++q) V)
  (OwnFrom.and (zaM (lo:=0) (hi:=0) (fun _ X Y hs hr=>hJ _ X Y hs (hr.mono oQ))) zcN)
  (fun c=>zaM (lo:=0) (hi:=0) (fun _ X Y hs hr=>by obtain⟨e,p0,a,q,e2,e3,hj⟩:=hs;exact⟨e,p0,a,q,e2,e3,hJx _ X Y hj (hr.mono oQ)⟩))
  ⟨hJ1,KpM.refl _ _⟩
  (fun x a' V=>∃Bx,w1.heap.size<=Bx/\Boxed V Bx 3 (.int .i64 (x.1:Int))/\a'={tmps:=#[.func (.yield l) #[] #[],.pointer (some ⟨bh,0,none⟩),.pointer (some ⟨bm,0,none⟩),.pointer (some ⟨bs,0,none⟩),.pointer (some ⟨W.heap.size,0,none⟩),.pointer (some ⟨Bx,0,none⟩),undef,undef,.int .u64 h,.slice (some ⟨W.heap.size+1,0,none⟩) 1 1,.func (.func 154) #[] #[.pointer (some ⟨bA,0,none⟩)],.int .i64 (x.1:Int),undef,undef,undef,undef,undef,undef,undef,undef,undef,undef,undef,undef,undef,undef,undef,undef,undef,undef],defers:=[]})
  (fun x a' _ X Y row hs hg hr=>by obtain⟨Bx,e1,e2,e3⟩:=hs;exact⟨Bx,e1,boxed_own Bx 3 (fun(_:Unit)=>Value.int .i64 (x.1:Int)) () X Y row e2 hg (fun r e=>(hr r e).2),e3⟩)
  ?assign ?body ?done ?stop
 case assign=>
  rintro l1 pre x V K ⟨hj,hk⟩ hK
  gi_wp2
  exact hK _ _ ((KeepsOthers.alloc _ _).from _) ((KpM.refl _ V).alloc _) ⟨hJ _ _ _ hj ((Rl.refl _ _ _ V).alloc _),hk.alloc _⟩ ⟨V.heap.size,hk.size,Boxed.new V _ _,rfl⟩
 case body=>
  rintro l1 pre a a' V hl1 ⟨r1,hr1⟩ ⟨hj,hk⟩ ⟨Bx,hBx,bX,rfl⟩ hlt;have cmV:=hk.cell cm1 nm;have hsV:=hk.size;have hmV:=waR V _ cmV
  gi_wp2_with (refine⟨trivial,?_⟩;gi_at_call 90;refine(HA2.out l1 _ _ _ (zaa rfl rfl)).mono ?_;rintro e w2 ⟨bB,rfl,cB,hlB,hq2⟩)
  have hb2:Below V.heap.size V w2:=((waC _ V).alloc (waJ _) _).trans (hq2.mono (by simp))
  have hr2:w2.heap[l1]?=some (.loop r1):=(hb2.block l1 (waL.1 hr1).1).trans hr1;have hj2:=hJ _ _ _ hj ((Rl.refl _ _ _ V).below hb2);have hk2:KpM M V w2:=KpM.of_below hb2;have hT2:=(hT1.kpM hk nt).below hb2;have hs2:=hb2.size;have kf2:KeepsFrom w1.heap.size V w2:=⟨hb2.size,fun i o _ h2 _=>(hb2.block i (waL.1 h2).1).trans h2⟩
  have hBxV:=bX.lt;have hBn:V.heap.size<=bB:=waW (by simp) hlB
  refine wpIn_rangeFunc_ownN (l₀:=l1) (r₀:=r1) rfl hr2 oQ (gf:=154) (lb:=#[.pointer (some ⟨bB,0,none⟩)]) rfl trivial eg
   ((zbD (fun x:{k // k∈zam m}=>x.1) (zam m).attach (KpM M) (k+17) bB m oQ (zgO m) bm64 (fun _ _ hk hc=>hk.cell hc (nM _ oQ)) (fun _ _ hk ht=>ht.kpM hk nt) w2 cB hT2).inRound l1)
   (fun h k=>h.trans k) (fun V l o o' _ hl ho _=>KpM.putObj o' hl ho) (waC _ _) (fun _=>rfl)
   (fun pre' V'=>(J (zfh m s (zcD pre)++zdx s a.1 (zcD pre')) V'/\KpM M V V')/\KeepsFrom w1.heap.size V V')
   (fun c pre' V'=>(c=.exit 0/\∃p0 b q,pre'=p0++[b]/\q<+:zdi a.1 b.1 (zam s)/\Jx (zfh m s (zcD pre)++(zdx s a.1 (zcD p0)++q)) V')/\KeepsFrom w1.heap.size V V')
   (OwnFrom.and (OwnFrom.and (zaM (lo:=0) (hi:=0) (fun _ X Y hs hr=>hJ _ X Y hs (hr.mono oQ))) zcN) (ownFrom_keepsFrom hb2.size))
   (fun c=>OwnFrom.and (zaM (lo:=0) (hi:=0) (fun _ X Y hs hr=>by obtain⟨e,p0,b,q,e2,e3,hj⟩:=hs;exact⟨e,p0,b,q,e2,e3,hJx _ X Y hj (hr.mono oQ)⟩)) (ownFrom_keepsFrom hb2.size))
   ⟨⟨by simpa[zcD,zdx] using hj2,hk2⟩,kf2⟩
   (fun x a' V'=>∃By,V.heap.size<=By/\Boxed V' By 3 (.int .i64 (x.1:Int))/\a'={tmps:=#[.func (.yield l) #[] #[],.pointer (some ⟨bh,0,none⟩),.pointer (some ⟨bm,0,none⟩),.pointer (some ⟨bs,0,none⟩),.pointer (some ⟨W.heap.size,0,none⟩),.pointer (some ⟨Bx,0,none⟩),.pointer (some ⟨By,0,none⟩),undef,.int .u64 h,.slice (some ⟨W.heap.size+1,0,none⟩) 1 1,.func (.func 154) #[] #[.pointer (some ⟨bA,0,none⟩)],.int .i64 (a.1:Int),.int .u64 m,.slice (some ⟨V.heap.size,0,none⟩) 1 1,.func (.func 154) #[] #[.pointer (some ⟨bB,0,none⟩)],.int .i64 (x.1:Int),undef,undef,undef,undef,undef,undef,undef,undef,undef,undef,undef,undef,undef,undef],defers:=[]})
   (fun x a' _ X Y row hs hg hr=>by obtain⟨By,e1,e2,e3⟩:=hs;exact⟨By,e1,boxed_own By 3 (fun(_:Unit)=>Value.int .i64 (x.1:Int)) () X Y row e2 hg (fun r e=>(hr r e).2),e3⟩)
   ?assign2 ?body2 ?done2 ?stop2
  case assign2=>
   rintro l2 pre' x V' K ⟨⟨hj',hk'⟩,hf'⟩ hK
   gi_wp2
   exact hK _ _ ((KeepsOthers.alloc _ _).from _) ((KpM.refl _ V').alloc _) ⟨⟨hJ _ _ _ hj' ((Rl.refl _ _ _ V').alloc _),hk'.alloc _⟩,hf'.trans ((KeepsOthers.alloc _ _).from _)⟩ ⟨V'.heap.size,hk'.size,Boxed.new V' _ _,rfl⟩
  case body2=>
   rintro l2 pre' b a' V' hl2 ⟨r2',hr2'⟩ ⟨⟨hj',hk'⟩,hf'⟩ ⟨By,hBy,bY,rfl⟩ hlt';have csV:=(hk.trans hk').cell cs1 ns;have hsV':=hk'.size;have hmV':=waR V' _ csV
   gi_wp2_with (refine⟨trivial,?_⟩;gi_at_call 90;refine(HA3.out l2 _ _ _ (zaa rfl rfl)).mono ?_;rintro e w3 ⟨bC,rfl,cC,hlC,hq3⟩)
   have hb3:Below V'.heap.size V' w3:=((waC _ V').alloc (waJ _) _).trans (hq3.mono (by simp))
   have hr3:w3.heap[l2]?=some (.loop r2'):=(hb3.block l2 (waL.1 hr2').1).trans hr2';have hj3:=hJ _ _ _ hj' ((Rl.refl _ _ _ V').below hb3);have hk3:KpM M V' w3:=KpM.of_below hb3;have hT3:=((hT1.kpM hk nt).kpM hk' nt).below hb3;have kf3:KeepsFrom w1.heap.size V' w3:=⟨hb3.size,fun i o _ h2 _=>(hb3.block i (waL.1 h2).1).trans h2⟩
   have hByV:=bY.lt;have hs3:=hb3.size;have hCn:V'.heap.size<=bC:=waW (by simp) hlC
   have cYV:=(hk.trans hk').cell cY1 (nM _ (waJ _));have cXV:V'.cell? ⟨Bx,0,none⟩=some (.int .i64 (a.1:Int)):=hk'.cell bX.cell (nM _ oQ);have cZV:=bY.cell;refine wpIn_rangeFunc_ownN (l₀:=l2) (r₀:=r2') rfl hr3 oQ (gf:=154) (lb:=#[.pointer (some ⟨bC,0,none⟩)]) rfl trivial eg
    ((zbD (fun x:{k // k∈zam s}=>x.1) (zam s).attach (KpM M) (k+15) bC s oQ (zgO s) bs64 (fun _ _ hk hc=>hk.cell hc (nM _ oQ)) (fun _ _ hk ht=>ht.kpM hk nt) w3 cC hT3).inRound l2)
    (fun h k=>h.trans k) (fun V l o o' _ hl ho _=>KpM.putObj o' hl ho) (waC _ _) (fun _=>rfl)
    (fun pre'' V''=>(J (zfh m s (zcD pre)++(zdx s a.1 (zcD pre')++zdi a.1 b.1 (zcD pre''))) V''/\KpM M V' V'')/\KeepsFrom w1.heap.size V' V'')
    (fun c pre'' V''=>(c=.exit 0/\Jx (zfh m s (zcD pre)++(zdx s a.1 (zcD pre')++zdi a.1 b.1 (zcD pre''))) V'')/\KeepsFrom w1.heap.size V' V'')
    (OwnFrom.and (OwnFrom.and (zaM (lo:=0) (hi:=0) (fun _ X Y hs hr=>hJ _ X Y hs (hr.mono oQ))) zcN) (ownFrom_keepsFrom hb3.size))
    (fun c=>OwnFrom.and (zaM (lo:=0) (hi:=0) (fun _ X Y hs hr=>⟨hs.1,hJx _ X Y hs.2 (hr.mono oQ)⟩)) (ownFrom_keepsFrom hb3.size))
    ⟨⟨by simpa[zcD,zdi] using hj3,hk3⟩,kf3⟩
    (fun x a' _=>a'={tmps:=#[.func (.yield l) #[] #[],.pointer (some ⟨bh,0,none⟩),.pointer (some ⟨bm,0,none⟩),.pointer (some ⟨bs,0,none⟩),.pointer (some ⟨W.heap.size,0,none⟩),.pointer (some ⟨Bx,0,none⟩),.pointer (some ⟨By,0,none⟩),.int .i64 (x.1:Int),.int .u64 h,.slice (some ⟨W.heap.size+1,0,none⟩) 1 1,.func (.func 154) #[] #[.pointer (some ⟨bA,0,none⟩)],.int .i64 (a.1:Int),.int .u64 m,.slice (some ⟨V.heap.size,0,none⟩) 1 1,.func (.func 154) #[] #[.pointer (some ⟨bB,0,none⟩)],.int .i64 (b.1:Int),.int .u64 s,.slice (some ⟨V'.heap.size,0,none⟩) 1 1,.func (.func 154) #[] #[.pointer (some ⟨bC,0,none⟩)],.int .i64 (x.1:Int),undef,undef,undef,undef,undef,undef,undef,undef,undef,undef],defers:=[]})
    (fun _ _ _ _ _ _ hs _ _=>hs)
    ?assign3 ?body3 ?done3 ?stop3
   case assign3=>
    rintro l3 pre'' x V'' K hi hK
    gi_wp2
    exact hK _ _ (KeepsFrom.refl _ _) (KpM.refl _ _) hi rfl
   case body3=>
    rintro l3 pre'' c a' V'' hl3 _ ⟨⟨hj'',hk''⟩,hf''⟩ rfl hlt'';have cY:=hk''.cell cYV (nM _ (waJ _));have cX:=hk''.cell cXV (nM _ oQ);have cZ:=hk''.cell cZV (nM _ oQ);have ha:=zfg (k:=24) hh a.2;have hb:=zfg (k:=60) hm b.2;have hc:=zfg (k:=60) hs c.2;have l1':=zp6 m s (zcD pre);have l2':=zj7 s a.1 (zcD pre');have l3':=zj6 a.1 b.1 (zcD pre'');rw[zi7] at l1' l2' l3';obtain⟨fn,tmps,assign,body,hy,hR⟩:=HY.out _ (a.1 * 3600+b.1 * 60+c.1) V'' hj'' oQ (by simp only[waF];omega)
    have HR:=waV hR;have e0:((a.1 * 3600+b.1 * 60+c.1:Nat):Int)=(a.1:Int) * 3600+(b.1:Int) * 60+(c.1:Int):=by push_cast;rfl
    rw[e0] at hy;clear hR hj'' e0;have e5:∀x y z w:List Nat,(x++(y++z))++w=x++(y++(z++w)):=fun x y z w=>by simp
    gi_wp2
    refine(zc3 (l':=l3) HR.out).mono ?_;rintro e W4 (⟨rfl,hj4,hk4,hf4⟩|⟨rfl,hj4,hf4⟩)
    ·rw[e5,<-zh5,<-zct] at hj4;have HJ4:=waV hj4;clear hj4 HR hy
     gi_wp2
     exact⟨zan hf4 oQ,hk4,⟨HJ4.out,hk''.trans hk4⟩,hf''.trans (zan hf4 oQ)⟩
    ·rw[e5,<-zh5,<-zct] at hj4;have HJ4:=waV hj4;clear hj4 HR hy
     gi_wp2
     exact⟨zan hf4 oQ,⟨rfl,HJ4.out⟩,hf''.trans (zan hf4 oQ)⟩
   case done3=>
    rintro zs V'' rfl ⟨⟨hj'',hk''⟩,hf''⟩;rw[zcE] at hj''
    gi_wp2
    exact⟨zan hf'' (by omega),hk'',⟨by rw[zct,zn0];exact hj'',hk'.trans hk''⟩,hf'.trans hf''⟩
   case stop3=>
    rintro c pre'' V'' hpre ⟨⟨rfl,hj''⟩,hf''⟩;have HP:Hid (zdi a.1 b.1 (zcD pre'')<+:zdi a.1 b.1 (zam s)):=by
     show _<+:_;obtain⟨r,hr⟩:=hpre;have h:=congrArg zcD hr;rw[zcE] at h;exact⟨zdi a.1 b.1 (zcD r),by unfold zdi;rw[<-List.map_append];congr 1;exact(by simpa[zcD] using h)⟩
    have HJ:=waV hj'';clear hpre hj''
    gi_wp2
    exact⟨zan hf'' oQ,⟨rfl,pre',b,_,rfl,HP.out,HJ.out⟩,hf'.trans hf''⟩
  case done2=>
   rintro zs V' rfl ⟨⟨hj',hk'⟩,hf'⟩;rw[zcE] at hj'
   gi_wp2
   exact⟨zan hf' (by omega),hk',by rw[zct,zn1];exact hj',hk.trans hk'⟩
  case stop2=>
   rintro c pre' V' hpre ⟨⟨rfl,p0,b,q,rfl,hq,hj'⟩,hf'⟩;have HP:Hid (zdx s a.1 (zcD p0)++q<+:zdx s a.1 (zam m)):=by
    show _<+:_;obtain⟨r,e⟩:=zj9 hpre;exact zmL (f:=fun b=>zdi a.1 b (zam s)) e hq
   have HJ:=waV hj';clear hq hpre hj'
   gi_wp2
   exact⟨zan hf' oQ,rfl,pre,a,_,rfl,HP.out,HJ.out⟩
 case done=>
  rintro D zs V hD rfl ⟨hj,hk⟩ hKd;rw[zcE,zj8] at hj;have HJ:=waV hj
  gi_wp2
  refine⟨by simp,.inl ⟨_,_,rfl,run_takeDeferred hKd,?_⟩⟩
  exact⟨_,results_none rfl _ _ _,⟨_,rfl⟩,.inl ⟨_,rfl,hJ _ _ _ HJ.out ((Rl.refl _ _ _ V).put _ hKd rfl oQ)⟩⟩
 case stop=>
  rintro D c pre V hD hpre ⟨rfl,p0,a,q,rfl,hq,hj⟩ hKd;have HJ:=waV hj;have HP:Hid (zfh m s (zcD p0)++q<+:zj5 h m s):=by
   show _<+:_;obtain⟨r,e⟩:=zj9 hpre;rw[<-zj8];exact zmL (f:=fun a=>zdx s a (zam m)) e hq
  clear hq hpre hj
  gi_wp2
  refine⟨by simp,.inl ⟨_,_,rfl,run_takeDeferred hKd,?_⟩⟩
  exact⟨_,results_none rfl _ _ _,⟨_,rfl⟩,.inr ⟨_,HP.out,hJx _ _ _ HJ.out ((Rl.refl _ _ _ V).put _ hKd rfl oQ)⟩⟩
def zxm (h m s:Nat) (w:World) (e:Ending) (w':World):Prop:=
 ∃b1 b2 b3,e=.returned (.func (.func 294) #[] #[.pointer (some ⟨b1,0,none⟩),.pointer (some ⟨b2,0,none⟩),.pointer (some ⟨b3,0,none⟩)])/\w.heap.size<=b1/\w.heap.size<=b2/\w.heap.size<=b3/\
  w'.cell? ⟨b1,0,none⟩=some (.int .u64 (h&&&16777215:Nat))/\w'.cell? ⟨b2,0,none⟩=some (.int .u64 (m&&&1152921504606846975:Nat))/\w'.cell? ⟨b3,0,none⟩=some (.int .u64 (s&&&1152921504606846975:Nat))/\Below w.heap.size w w'
theorem zmN (h m s:Nat) (h1:h<18446744073709551616) (m1:m<18446744073709551616) (s1:s<18446744073709551616) (w:World):Calls prog 286 #[.int .u64 h,.int .u64 m,.int .u64 s] w (zxm h m s w):=by
 have HH:=waV (fun V=>zmF h m s h1 m1 s1 V)
 generalize hA:(h&&&16777215:Nat)=A at *;generalize hB:(m&&&1152921504606846975:Nat)=B at *;generalize hC:(s&&&1152921504606846975:Nat)=C at *;go_enter func286,ntmps286;go_wp2_with fail;refine(HH.out _).mono ?_;rintro e w1 ⟨rfl,rfl⟩;go_wp2;go_ret;obtain⟨c0,c1,c2⟩:=zeQ w (.int .u64 A) (.int .u64 B) (.int .u64 C) 39 39 39;exact⟨w.heap.size,w.heap.size+1,w.heap.size+1+1,rfl,by omega,by omega,by omega,by rw[hA];exact c0,by rw[hB];exact c1,by rw[hC];exact c2,by exact zaE⟩
end Go.Proofs.YtllcdbgjeidlkaaGreatDoor
