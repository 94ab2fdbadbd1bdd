/- A part of the proof: WLap4 -/
import Derived.Test.YtllcdbgjeidlkaaGreatDoorT14
import Derived.Test.YtllcdbgjeidlkaaGreatDoorT15
import Derived.Test.YtllcdbgjeidlkaaGreatDoorT01
import Derived.Test.YtllcdbgjeidlkaaGreatDoorT10
set_option maxHeartbeats 80000000
set_option maxRecDepth 100000
set_option linter.unusedSimpArgs false
set_option linter.unusedVariables false
namespace Go.Proofs.YtllcdbgjeidlkaaGreatDoor
open Go.Proofs.Tryz
open Go.RowKit Go.Shelf
attribute [local go_sem] Oper.semAt_some
theorem zn4 {F:Fence} {n:Nat} {P:Program} {Q:Exit->Act->World->Prop} {a:Act} {w:World} {c:Code} (I:Act->World->Prop) (μ:Act->World->Nat) (h₀:I a w)
 (round:∀a w,I a w->∀K:Act->World->Prop,(∀a' w',I a' w'/\μ a' w'<μ a w->K a' w')->c.wpIn F n P (Exit.then K Q) a w):(Code.loop c).wpIn F n P Q a w:=
 wpIn_loop I μ h₀ fun a w h=>round a w h _ fun _ _ h=>h
theorem zkk {B0 B:Nat} {V X Y:World} (h:KeepsFrom B0 V X) (hr:Rl 0 0 B X Y) (hB:V.heap.size<=B):KeepsFrom B0 V Y:=
 ⟨waW h.size hr.size,fun i o h1 h2 h3=>hr.block i o (h.same i o h1 h2 h3) (.inr (waK _)) (.inl (by have:=(waL.1 h2).1;omega))⟩
def zuO (f u:Int) (pre:List Nat) (k:Nat):Bool:=decide (k∈pre/\f<=(k:Int)/\(k:Int)<=u)
theorem zgZ (f u:Int) (pre:List Nat) (x k:Nat):zuO f u (pre++[x]) k=(zuO f u pre k||decide (k=x/\f<=(x:Int)/\(x:Int)<=u)):=by
 unfold zuO;rw[waQ];simp only[wbF,waM,wbB,wbC];constructor
 ·rintro ⟨h|rfl,h2⟩
  ·exact .inl ⟨h,h2⟩
  ·exact .inr ⟨rfl,h2⟩
 ·rintro (⟨h,h2⟩|⟨rfl,h2⟩)
  ·exact⟨.inl h,h2⟩
  ·exact⟨.inr rfl,h2⟩
def uOf (l:Array Value) (i:Nat):Value:=l.getD (i - 9) undef
theorem zsW {P:Program} {c:Code} {Q:Exit->Act->World->Prop} {a:Act} {w:World} (h:c.wp P (fun e a w=>e=.normal/\Q e a w) a w):c.wp P Q a w:=Code.wp_mono (fun _ _ _ h=>h.2) h
theorem zqe {k:Nat} (hk:k<64):zal [(k:Int)]=(2^k:Nat):=by
 unfold zal;rw[<-ziH k 64 hk];congr 1;refine zbe fun i hi=>?_
 unfold inL;simp only[wbC,wbH];omega
theorem zsX {V:World} {B:Nat} {v:Int} (h:V.cell? ⟨B,0,none⟩=some (.int .i64 v)):zaI V (some ⟨B,0,none⟩) 1 [v]:=by
 refine⟨rfl,fun _=>⟨B,0,rfl,waR V _ h,fun i x hi j u hu=>?_⟩⟩
 obtain rfl:i=0:=by have:=(waI.1 hi).1;simp at this;omega
 cases hi;obtain rfl:j=0:=by have:=(waI.1 hu).1;simp[zcY] at this;omega
 cases hu;exact h
theorem zsY {V:World} {b1 b2 b3 h m s n Z kh km ks B S:Nat} {R:Int->Nat->Bool} {xf xu xp sp:Int} (k1:V.cell? ⟨b1,0,none⟩=some (.int .u64 ((zki h kh&&&16777215:Nat):Int))) (k2:V.cell? ⟨b2,0,none⟩=some (.int .u64 ((B&&&1152921504606846975:Nat):Int))) (k3:V.cell? ⟨b3,0,none⟩=some (.int .u64 ((S&&&1152921504606846975:Nat):Int)))
 (hz:(Z=1/\B=zki m km/\S=zki s ks)\/(Z=60/\B=zki m km/\S=s)\/(Z=3600/\B=m/\S=s)) (hnz:n * Z<86400) (hkh:n * Z / 3600=kh) (hkm:n * Z / 60%60=km) (hks:n * Z%60=ks)
 (hR:∀(q:Int) (k:Nat),R q k=(decide (xf<=(k:Int)/\(k:Int)<=xu)&&zdh (k:Int) h m s&&decide (xp<=(k:Int) / (Z:Int)/\(k:Int) / (Z:Int)<q/\((k:Int) / (Z:Int) - xp)%sp=0))) (hs1:1<=sp) (hj:∃j:Nat,(n:Int)=xp+j * sp):
 ∃hA hB hC:Nat,hA<16777216/\hB<1152921504606846976/\hC<1152921504606846976/\V.cell? ⟨b1,0,none⟩=some (.int .u64 (hA:Int))/\V.cell? ⟨b2,0,none⟩=some (.int .u64 (hB:Int))/\V.cell? ⟨b3,0,none⟩=some (.int .u64 (hC:Int))/\∀k:Nat,k<86400->(R (n:Int) k||zuO xf xu (zj5 hA hB hC) k)=R ((n:Int)+sp) k:=by
 have HU:∀k:Nat,k<86400->zdh (k:Int) (zki h kh:Nat) (B:Nat) (S:Nat)=(zdh (k:Int) h m s&&decide (k / Z=n)):=fun k hk86=>by
  have:=zqc (h:=h) (m:=m) (s:=s) (n:=n) (z:=Z) (k:=k) oQ hnz hk86;rcases hz with ⟨rfl,rfl,rfl⟩|⟨rfl,rfl,rfl⟩|⟨rfl,rfl,rfl⟩
  all_goals
   simp only[hrM,mnM,scM,hkh,hkm,hks] at this;simpa using this
 refine⟨_,_,_,Nat.lt_of_le_of_lt Nat.and_le_right dQ,Nat.lt_of_le_of_lt Nat.and_le_right dQ,Nat.lt_of_le_of_lt Nat.and_le_right dQ,k1,k2,k3,fun k hk86=>?_⟩
 have hkL:k∈zj5 (zki h kh&&&16777215) (B&&&1152921504606846975) (S&&&1152921504606846975)↔k<86400/\(zdh (k:Int) h m s=true/\k / Z=n):=by
  rw[zmO];constructor
  ·rintro ⟨a,b⟩;rw[HU k a,waN,waM] at b;exact⟨a,b⟩
  ·rintro ⟨a,b⟩;refine⟨a,?_⟩;rw[HU k a,waN,waM];exact b
 have eZ:(k:Int) / (Z:Int)=((k / Z:Nat):Int):=(Int.natCast_ediv k Z).symm;have so:=zsU (q:=(k:Int) / (Z:Int)) hs1 hj;rw[hR,hR];unfold zuO;rw[waQ];simp only[wbF,waN,waM];constructor
 ·rintro (⟨⟨a,b⟩,c⟩|⟨a,b⟩)
  ·exact⟨⟨a,b⟩,so.2 (.inl c)⟩
  ·obtain⟨_,c,d⟩:=hkL.1 a;exact⟨⟨b,c⟩,so.2 (.inr (by rw[eZ,d]))⟩
 ·rintro ⟨⟨a,b⟩,c⟩;rcases so.1 c with c|c
  ·exact .inl ⟨⟨a,b⟩,c⟩
  ·exact .inr ⟨hkL.2 ⟨hk86,b,by rw[eZ] at c;exact Int.ofNat.inj c⟩,a⟩
theorem zlv (c:Cl) (hc:zbC c) (x:LSt) (z:Int) (hz:z=1\/z=60\/z=3600) (hs1:1<=c.s) (hs2:c.s<=9223372036854775807) (hp0:0<=x.ph) (hp1:x.ph<=9223372036854775807) (w:World) (hw:Tz w):
 Calls prog 269 #[.agg (clA c),zdQ x,.int .i64 z] w (zgT (fun k=>zwM c x z (86400 / z) k) w):=by
 have eg:∀args w,(callFunc 294 args).run prog w=.ok (.enter 294 args) w:=enters_of func294 kQ rfl;obtain⟨h,hh⟩:∃h:Nat,c.m 2=(h:Int):=⟨(c.m 2).toNat,by have:=(hc.1 2 dQ).1;omega⟩
 obtain⟨m,hm⟩:∃h:Nat,c.m 1=(h:Int):=⟨(c.m 1).toNat,by have:=(hc.1 1 dQ).1;omega⟩
 obtain⟨s,hs⟩:∃h:Nat,c.m 0=(h:Int):=⟨(c.m 0).toNat,by have:=(hc.1 0 dQ).1;omega⟩
 have h1:h<18446744073709551616:=by have:=(hc.1 2 dQ).2;omega
 have m1:m<18446744073709551616:=by have:=(hc.1 1 dQ).2;omega
 have s1:s<18446744073709551616:=by have:=(hc.1 0 dQ).2;omega
 have HA:=waV (fun a b d (ha:a<18446744073709551616) (hb:b<18446744073709551616) (hd:d<18446744073709551616) k V=>wbP (n:=k).2 (zmN a b d ha hb hd V))
 have HD:=waV (fun k V=>wbP (n:=k).2 (zi4 0 V))
 have HX:=waV (zgH w c 60);have g0:gC c 0=.int .u64 (s:Int):=by show Value.int .u64 (c.m 0)=_;rw[hs]
 have g1:gC c 1=.int .u64 (m:Int):=by show Value.int .u64 (c.m 1)=_;rw[hm]
 have g2:gC c 2=.int .u64 (h:Int):=by show Value.int .u64 (c.m 2)=_;rw[hh]
 have g26:gC c 26=.int .i64 c.s:=rfl;obtain⟨xa,xf,xu,xp⟩:=x;have HR:Hid (∀n k,zwM c ⟨xa,xf,xu,xp⟩ z n k=(decide (xf<=(k:Int)/\(k:Int)<=xu)&&zdh (k:Int) h m s&&decide (xp<=(k:Int) / z/\(k:Int) / z<n/\((k:Int) / z - xp)%c.s=0))):=fun n k=>by unfold zwM;rw[hh,hm,hs]
 have h1c:(Value.agg (clA c)).oneCell'=false:=rfl;unfold zdQ;dsimp only at hp0 hp1 ⊢;generalize zwM c ⟨xa,xf,xu,xp⟩ z=R at *;generalize gC c=gc at *;generalize clA c=cs at *;generalize c.s=sp at *;clear hh hm hs hc;have HW:=waV hw;clear hw;refine(wbP (n:=20)).1 ?_;refine callsIn_of_wp_marks func269 rfl trivial ?_ rfl;simp only[ntmps269,wbQ,waG,List.length_nil,Nat.reduceAdd,Nat.reduceSub,wbR,wbS,List.push_toArray,List.append_toArray,wbN,wbT]
 gi_wp2_with (refine⟨trivial,?_⟩;gi_at_call 204)
 refine(HD.out _ _).mono ?_;rintro e w1 ⟨rfl,hd1,hq1⟩;have hX0:=Arr.below HX.out (Arr.lt HX.out dQ) ((waC _ _).alloc (waJ _) (.cells #[.bool xa,.int .i64 xf,.int .i64 xu,.int .i64 xp] 224));have hX1:=Arr.below hX0 (Arr.lt hX0 dQ) hq1;have hZ0:((w.alloc (.cells cs 60)).alloc (.cells #[.bool xa,.int .i64 xf,.int .i64 xu,.int .i64 xp] 224)).heap.size=w.heap.size+1+1:=by simp
 have hx:∀j v,(#[.bool xa,.int .i64 xf,.int .i64 xu,.int .i64 xp]:Array Value)[j]?=some v->w1.cell? ⟨w.heap.size+1,j,none⟩=some v:=fun j v hv=>by
  refine((zad hq1).1 (w.heap.size+1) j oQ).trans ?_;have hs:(w.alloc (.cells cs 60)).heap.size=w.heap.size+1:=by simp
  rw[<-hs];exact zaa rfl hv
 have cf1:=hx 1 _ rfl;have cu1:=hx 2 _ rfl;have cp1:=hx 3 _ rfl;have c0:w1.cell? ⟨w.heap.size,0,none⟩=some (.int .u64 (s:Int)):=(hX1.1 0 (by decide)).trans (by rw[g0])
 have c1:w1.cell? ⟨w.heap.size,1,none⟩=some (.int .u64 (m:Int)):=(hX1.1 1 (by decide)).trans (by rw[g1])
 have c2:w1.cell? ⟨w.heap.size,2,none⟩=some (.int .u64 (h:Int)):=(hX1.1 2 (by decide)).trans (by rw[g2])
 have c26:w1.cell? ⟨w.heap.size,26,none⟩=some (.int .i64 sp):=(hX1.1 26 (by decide)).trans (by rw[g26])
 have hb1:Below w.heap.size w w1:=((((waC _ w).alloc (waJ _) _).alloc (by simp) _).trans (hq1.mono oQ))
 have hz1:w.heap.size+2<w1.heap.size:=by have:=hd1.lt;omega
 have hT1:=HW.out.below hb1;rw[hZ0] at hd1;clear hX0 hX1 hq1 hx hZ0 HX HD g0 g1 g2 g26;have e0:w.heap.size<w1.heap.size:=by omega
 have e1:w.heap.size+1<w1.heap.size:=by omega
 gi_wp2
 obtain⟨W3,hW3⟩:∃W3,w1.alloc (.cells #[.pointer (some ⟨w.heap.size+1+1,0,none⟩)] 82)=W3:=⟨_,rfl⟩;have hqA:Below w1.heap.size w1 W3:=by rw[<-hW3];exact(waC _ w1).alloc (waJ _) _
 have hz3:w1.heap.size+1<=W3.heap.size:=by rw[<-hW3];simp
 have cD:W3.cell? ⟨w1.heap.size,0,none⟩=some (.pointer (some ⟨w.heap.size+1+1,0,none⟩)):=by rw[<-hW3];exact zaa rfl rfl
 rw[hW3];have hD3:=hd1.below hqA;have cf3:=((zad hqA).1 _ 1 e1).trans cf1;have cu3:=((zad hqA).1 _ 2 e1).trans cu1;have c03:=((zad hqA).1 _ 0 e0).trans c0;have c13:=((zad hqA).1 _ 1 e0).trans c1;have c23:=((zad hqA).1 _ 2 e0).trans c2;have c263:=((zad hqA).1 _ 26 e0).trans c26;have hT3:=hT1.below hqA;have hb3:Below w.heap.size w W3:=zaf hb1 hqA hb1.size;have nt:¬(0=w.heap.size+1+1):=by
  have h9:0<w.heap.size:=waR w _ (HW.out 0 dQ);omega
 clear hW3 hd1 cf1 cu1 cp1 c0 c1 c2 c26 hT1 hb1 hqA e0 e1;have HO:Hid (∀k:Nat,k<64->∀V B,V.cell? ⟨B,0,none⟩=some (.int .i64 (k:Int))->Calls prog 86 #[.slice (some ⟨B,0,none⟩) 1 1] V (zbE (.int .u64 (2^k:Nat)) V)):=fun k hk V B hcell=>by
  rw[<-zqe hk];exact zfD _ _ _ _ V (zsX hcell) dQ
 have HQ:Hid (∀a k:Nat,a<18446744073709551616->k<64->bits .and .u64 (a:Int) (2^k:Nat)=(zki a k:Int)):=fun a k ha hk=>bits_and_u64_nat a (2^k) ha (Nat.pow_lt_pow_right (n:=64) dQ hk)
 have HPt:Hid (∀(n z:Nat) (q:Int),q=((n * z:Nat):Int)->n * z<86400->∀k V,CallsIn Fence.wide k prog 141 #[.int .i64 q] V (zbE (.tuple #[.int .i64 ((n * z / 3600:Nat):Int),.int .i64 ((n * z / 60%60:Nat):Int),.int .i64 ((n * z%60:Nat):Int),.bool true]) V)):=fun n z q hq hl k V=>by
  have h:=wbP (n:=k).2 (zjK q oQ oQ V);have e1:q / 3600=((n * z / 3600:Nat):Int):=by omega
  have e2:q / 60%60=((n * z / 60%60:Nat):Int):=by omega
  have e3:q%60=((n * z%60:Nat):Int):=by omega
  rw[e1,e2,e3] at h;exact h
 refine zn4 (fun a V=>∃(n:Int) (Ds:List Nat) (u:Nat->Value),(∃j:Nat,n=xp+j * sp)/\xp<=n/\(n=xp\/n<=200000)/\a={tmps:=List.toArray (.agg cs::.agg #[.bool xa,.int .i64 xf,.int .i64 xu,.int .i64 xp]::.int .i64 z::.pointer (some ⟨w.heap.size,0,none⟩)::.pointer (some ⟨w.heap.size+1,0,none⟩)::undef::.pointer none::.pointer (some ⟨w1.heap.size,0,none⟩)::.int .i64 n::u 9::u 10::u 11::u 12::u 13::u 14::u 15::u 16::u 17::u 18::u 19::u 20::u 21::u 22::u 23::u 24::u 25::u 26::u 27::u 28::u 29::u 30::u 31::u 32::u 33::u 34::u 35::u 36::u 37::u 38::u 39::u 40::u 41::u 42::u 43::u 44::u 45::u 46::u 47::u 48::u 49::u 50::u 51::u 52::u 53::u 54::u 55::u 56::u 57::u 58::u 59::u 60::u 61::u 62::u 63::u 64::u 65::u 66::u 67::u 68::u 69::u 70::u 71::u 72::u 73::u 74::u 75::u 76::u 77::u 78::u 79::u 80::u 81::u 82::u 83::[]),defers:=zsV Ds}/\
  zed W3.heap.size V Ds/\DiscAt V (w.heap.size+1+1) (R n)/\KpM (fun k=>k=w.heap.size+1+1) W3 V/\Below w.heap.size w V) (fun a _=>(86400 - intOf (a.tmps.getD 8 undef)).toNat)
  ⟨xp,[],uOf (List.toArray (_::_::_::_::_::_::_::_::_::_::_::_::_::_::_::_::_::_::_::_::_::_::_::_::_::_::_::_::_::_::_::_::_::_::_::_::_::_::_::_::_::_::_::_::_::_::_::_::_::_::_::_::_::_::_::_::_::_::_::_::_::_::_::_::_::_::_::_::_::_::_::_::_::_::_::[])),⟨0,by simp⟩,Int.le_refl _,.inl rfl,rfl,⟨by simp,by simp⟩,hD3.congr (fun k _=>?start),KpM.refl _ _,hb3⟩ ?_
 case start=>
  rw[HR.out,waO (p:=xp<=(k:Int) / z/\(k:Int) / z<xp/\((k:Int) / z - xp)%sp=0) (by omega),Bool.and_false]
 rintro a V ⟨n0,Ds,u,hj,hn0,hn1,rfl,hDs,hd,hk,hb⟩ KL hKL;have HKL:=waV hKL;clear hKL;obtain⟨n,rfl⟩:=wbD (show 0<=n0 by omega)
 have cDV:=hk.cell cD (show ¬(w1.heap.size=w.heap.size+1+1) by omega)
 have cfV:=hk.cell cf3 (show ¬(w.heap.size+1=w.heap.size+1+1) by omega)
 have cuV:=hk.cell cu3 (show ¬(w.heap.size+1=w.heap.size+1+1) by omega)
 have c0V:=hk.cell c03 (show ¬(w.heap.size=w.heap.size+1+1) by omega)
 have c1V:=hk.cell c13 (show ¬(w.heap.size=w.heap.size+1+1) by omega)
 have c2V:=hk.cell c23 (show ¬(w.heap.size=w.heap.size+1+1) by omega)
 have cSV:=hk.cell c263 (show ¬(w.heap.size=w.heap.size+1+1) by omega)
 have hsV:=hk.size;have hTV:=hT3.kpM hk nt;have hDl:=hDs.lt;have hsz0:w.heap.size<V.heap.size:=by omega
 have hsz1:w.heap.size+1<V.heap.size:=by omega
 have hsz2:w1.heap.size<V.heap.size:=by omega
 obtain⟨zv,hzv⟩:∃zv,zv=Value.int .i64 z:=⟨_,rfl⟩;have HZV:=waV hzv;clear hzv;rcases hz with rfl|rfl|rfl
 case' inl=>
  have HFi:Hid (∀q:Int,86400<=q->∀k:Nat,k<86400->R q k=R 86400 k):=fun q hq k hk86=>by
   have l1:(k:Int) / 1<q:=by omega
   have l2:(k:Int) / 1<86400:=by omega
   rw[HR.out,HR.out];have e:decide (xp<=(k:Int) / 1/\(k:Int) / 1<q/\((k:Int) / 1 - xp)%sp=0)=decide (xp<=(k:Int) / 1/\(k:Int) / 1<86400/\((k:Int) / 1 - xp)%sp=0):=by
    rw[wbH];exact⟨fun h=>⟨h.1,l2,h.2.2⟩,fun h=>⟨h.1,l1,h.2.2⟩⟩
   rw[e]
  by_cases hlt:(n:Int)<86400
  rotate_left
  ·gi_wp2
   refine za7 Ds _ hDs fun w' hr=>⟨_,results_tmp rfl _ _ _,w.heap.size+1+1,rfl,by omega,(hd.rl hr (.inr (waK _))).congr (fun k hk86=>?_),za5 hb hr (.inr rfl) oQ (waJ _)⟩
   exact HFi.out _ oQ k hk86
  have hnz:n * 1<86400:=by omega
  gi_wp2_with (refine⟨trivial,?_⟩;gi_at_call 141)
  refine(HPt.out n 1 _ oQ hnz _ _).mono ?_;rintro e w4 ⟨rfl,rfl⟩;have lh:n * 1 / 3600<24:=by omega
  have lm:n * 1 / 60%60<60:=by omega
  have ls:n * 1%60<60:=by omega
  generalize hkh:n * 1 / 3600=kh at *;generalize hkm:n * 1 / 60%60=km at *;generalize hks:n * 1%60=ks at *
  gi_wp2
 case' inr.inl=>
  have HFi:Hid (∀q:Int,1440<=q->∀k:Nat,k<86400->R q k=R 1440 k):=fun q hq k hk86=>by
   have l1:(k:Int) / 60<q:=by omega
   have l2:(k:Int) / 60<1440:=by omega
   rw[HR.out,HR.out];have e:decide (xp<=(k:Int) / 60/\(k:Int) / 60<q/\((k:Int) / 60 - xp)%sp=0)=decide (xp<=(k:Int) / 60/\(k:Int) / 60<1440/\((k:Int) / 60 - xp)%sp=0):=by
    rw[wbH];exact⟨fun h=>⟨h.1,l2,h.2.2⟩,fun h=>⟨h.1,l1,h.2.2⟩⟩
   rw[e]
  by_cases hlt:(n:Int)<1440
  rotate_left
  ·gi_wp2
   refine za7 Ds _ hDs fun w' hr=>⟨_,results_tmp rfl _ _ _,w.heap.size+1+1,rfl,by omega,(hd.rl hr (.inr (waK _))).congr (fun k hk86=>?_),za5 hb hr (.inr rfl) oQ (waJ _)⟩
   exact HFi.out _ oQ k hk86
  have hnz:n * 60<86400:=by omega
  gi_wp2_with (refine⟨trivial,?_⟩;gi_at_call 141)
  refine(HPt.out n 60 _ oQ hnz _ _).mono ?_;rintro e w4 ⟨rfl,rfl⟩;have lh:n * 60 / 3600<24:=by omega
  have lm:n * 60 / 60%60<60:=by omega
  have ls:n * 60%60<60:=by omega
  generalize hkh:n * 60 / 3600=kh at *;generalize hkm:n * 60 / 60%60=km at *;generalize hks:n * 60%60=ks at *
  gi_wp2
 case' inr.inr=>
  have HFi:Hid (∀q:Int,24<=q->∀k:Nat,k<86400->R q k=R 24 k):=fun q hq k hk86=>by
   have l1:(k:Int) / 3600<q:=by omega
   have l2:(k:Int) / 3600<24:=by omega
   rw[HR.out,HR.out];have e:decide (xp<=(k:Int) / 3600/\(k:Int) / 3600<q/\((k:Int) / 3600 - xp)%sp=0)=decide (xp<=(k:Int) / 3600/\(k:Int) / 3600<24/\((k:Int) / 3600 - xp)%sp=0):=by
    rw[wbH];exact⟨fun h=>⟨h.1,l2,h.2.2⟩,fun h=>⟨h.1,l1,h.2.2⟩⟩
   rw[e]
  by_cases hlt:(n:Int)<24
  rotate_left
  ·gi_wp2
   refine za7 Ds _ hDs fun w' hr=>⟨_,results_tmp rfl _ _ _,w.heap.size+1+1,rfl,by omega,(hd.rl hr (.inr (waK _))).congr (fun k hk86=>?_),za5 hb hr (.inr rfl) oQ (waJ _)⟩
   exact HFi.out _ oQ k hk86
  have hnz:n * 3600<86400:=by omega
  gi_wp2_with (refine⟨trivial,?_⟩;gi_at_call 141)
  refine(HPt.out n 3600 _ oQ hnz _ _).mono ?_;rintro e w4 ⟨rfl,rfl⟩;have lh:n * 3600 / 3600<24:=by omega
  have lm:n * 3600 / 60%60<60:=by omega
  have ls:n * 3600%60<60:=by omega
  generalize hkh:n * 3600 / 3600=kh at *;generalize hkm:n * 3600 / 60%60=km at *;generalize hks:n * 3600%60=ks at *
  gi_wp2
 all_goals
  refine wpIn_wide.2 ?_;have hHeld:Hid (V.drew.cell? ⟨w.heap.size,0,none⟩=some (.int .u64 (s:Int))/\V.drew.cell? ⟨w.heap.size,1,none⟩=some (.int .u64 (m:Int))/\V.drew.cell? ⟨w.heap.size,2,none⟩=some (.int .u64 (h:Int))):=⟨c0V,c1V,c2V⟩;have hH2:Hid ((V.drew.alloc (.cells #[.int .i64 (kh:Int)] 3)).cell? ⟨w.heap.size,0,none⟩=some (.int .u64 (s:Int))/\(V.drew.alloc (.cells #[.int .i64 (kh:Int)] 3)).cell? ⟨w.heap.size,1,none⟩=some (.int .u64 (m:Int))/\(V.drew.alloc (.cells #[.int .i64 (kh:Int)] 3)).cell? ⟨w.heap.size,2,none⟩=some (.int .u64 (h:Int))):=
   have q:=(zad ((waC _ V.drew).alloc (waJ _) (.cells #[.int .i64 (kh:Int)] 3))).1
   ⟨(q _ _ hsz0).trans c0V,(q _ _ hsz0).trans c1V,(q _ _ hsz0).trans c2V⟩
  have hcell:(V.drew.alloc (.cells #[.int .i64 (kh:Int)] 3)).cell? ⟨V.heap.size,0,none⟩=some (.int .i64 (kh:Int)):=(zaa rfl rfl:(V.drew.alloc (.cells #[.int .i64 (kh:Int)] 3)).cell? ⟨V.drew.heap.size,0,none⟩=some (.int .i64 (kh:Int)));have HC:=waV (HO.out kh oQ _ _ hcell);have eQ:bits .and .u64 (h:Int) ((2:Int)^kh)=(zki h kh:Int):=by
   rw[<-HQ.out h kh h1 (by omega)]
   congr 1
   (try push_cast)
   (try rfl)
  clear hcell;refine zsW ?_;refine zaB 12 (fun V'=>Hid (V'.cell? ⟨w.heap.size,0,none⟩=some (.int .u64 (s:Int))/\V'.cell? ⟨w.heap.size,1,none⟩=some (.int .u64 (m:Int))/\V'.cell? ⟨w.heap.size,2,none⟩=some (.int .u64 (h:Int)))) kQ ?_
  refine(kP 0 37 (h:=(kR 1 38 (fun w_ hSw_=>hSw_.out.2.2) (h:=(kP 2 39 (h:=(kP 6 43 (h:=(kR 7 44 (fun w_ hSw_=>hSw_.out.2.1) (h:=(kP 8 45 (h:=(kR 9 46 (fun w_ hSw_=>hSw_.out.1) (h:=?_))))))))))))))
  simp only[Act.put,zbj,zbk,zbl];refine zac (i:=3) kQ fun o_ ho_ K_ hK_=>?_
  obtain rfl:=waB ho_;have HK_:=waV hK_;clear hK_ ho_;go_wp2_with fail;refine HK_.out _ _ hH2 ?_;clear HK_;replace hHeld:=hH2;refine zac (i:=4) kQ fun o_ ho_ K_ hK_=>?_
  obtain rfl:=waB ho_;have HK_:=waV hK_;clear hK_ ho_;go_wp2_with fail;refine HC.out.mono ?_;rintro e w5 ⟨rfl,rfl⟩;go_wp2_with fail;refine HK_.out _ _ hHeld ?_;clear HK_;refine(kP 5 42 (h:=?_));simp only[Act.put,zbj,zbk,zbl]
  (try rw[eQ])
  refine(kP 10 13 (h:=(kP 11 14 (h:=?_))));simp only[Act.put,zbj,zbk,zbl];refine zaq (j:=1) dQ (.inr rfl) dQ kQ ?_;simp only[wbQ,waG,List.length_nil,Nat.reduceAdd,Nat.reduceSub,waZ,wbA];go_wp2_with fail;clear hHeld hH2 HC eQ;have hbA:Below V.heap.size V (V.alloc (.cells #[.int .i64 (kh:Int)] 3)).drew:=((waC _ V).alloc (waJ _) _).drew;obtain⟨V2,hV2⟩:∃V2,(V.alloc (.cells #[.int .i64 (kh:Int)] 3)).drew=V2:=⟨_,rfl⟩;rw[hV2] at hbA ⊢;clear hV2;have HM1:Hid (∀W:World,Calls prog 86 #[.slice (some ⟨W.heap.size,0,none⟩) 1 1] (W.alloc (.cells #[.int .i64 (km:Int)] 3)) (zbE (.int .u64 (2^km:Nat)) (W.alloc (.cells #[.int .i64 (km:Int)] 3)))):=fun W=>HO.out km oQ _ _ (zaa rfl rfl)
  have eQm:bits .and .u64 (m:Int) ((2:Int)^km)=(zki m km:Int):=by rw[<-HQ.out m km m1 (by omega)];congr 1;(try push_cast);(try rfl)
  have eQs:bits .and .u64 (s:Int) ((2:Int)^ks)=(zki s ks:Int):=by rw[<-HQ.out s ks s1 (by omega)];congr 1;(try push_cast);(try rfl)
 rotate_left
 focus
  gi_wp2_with ((with_reducible(refine And.intro ?_ ?_));exact trivial;gi_at_call 86)
  refine(wbP.2 (HM1.out _)).mono ?_;rintro e w5 ⟨rfl,rfl⟩
 rotate_left
 focus
  gi_wp2_with ((with_reducible(refine And.intro ?_ ?_));exact trivial;gi_at_call 86)
  refine(wbP.2 (HM1.out _)).mono ?_;rintro e w5 ⟨rfl,rfl⟩
  gi_wp2_with ((with_reducible(refine And.intro ?_ ?_));exact trivial;gi_at_call 86)
  refine(wbP.2 (HO.out ks oQ _ _ (zdj _ _ _ _))).mono ?_;rintro e w5 ⟨rfl,rfl⟩
 all_goals
  gi_wp2_with ((with_reducible(refine And.intro ?_ ?_));exact trivial;gi_at_call 286)
  (try rw[eQm])
  (try rw[eQs])
  refine(HA.out (zki h kh) _ _ (zlt h1) (by first|exact zlt m1|exact m1) (by first|exact zlt s1|exact s1) _ _).mono ?_
  rintro e w7 ⟨b1,b2,b3,rfl,n1,n2,n3,k1,k2,k3,hq7⟩;have hbX:=fun X (hX:Below V.heap.size V X) (hq:Below X.heap.size X w7)=>zaf hX hq hX.size
  have hb7:=hbX _ (by first|exact hbA|exact hbA.alloc hbA.size _|exact(hbA.alloc hbA.size _).alloc (by have:=hbA.size;simp;omega) _) hq7
  have m1':V.heap.size<=b1:=waW (by have:=hbA.size;first|exact this|(simp;omega)) n1
  have m2':V.heap.size<=b2:=waW (by have:=hbA.size;first|exact this|(simp;omega)) n2
  have m3':V.heap.size<=b3:=waW (by have:=hbA.size;first|exact this|(simp;omega)) n3
  obtain⟨hA,hB,hC,hAl,hBl,hCl,k1,k2,k3,hD2⟩:=zsY k1 k2 k3 (by first|exact .inl ⟨rfl,rfl,rfl⟩|exact .inr (.inl ⟨rfl,rfl,rfl⟩)|exact .inr (.inr ⟨rfl,rfl,rfl⟩)) hnz hkh hkm hks HR.out hs1 hj
  have HD2:Hid (∀k:Nat,k<86400->(R (n:Int) k||zuO xf xu (zj5 hA hB hC) k)=R ((n:Int)+sp) k):=hD2
  clear hD2;have hseq:=zmM (fun k=>k=w.heap.size+1+1) 19 b1 b2 b3 hA hB hC hAl hBl hCl oQ oQ oQ nt
  generalize zj5 hA hB hC=L at *;clear hbX hq7 n1 n2 n3 hbA HA HM1 HO HQ HPt eQm eQs;have cD7:=((zad hb7).1 _ 0 hsz2).trans cDV;have cf7:=((zad hb7).1 _ 1 hsz1).trans cfV;have cu7:=((zad hb7).1 _ 2 hsz1).trans cuV;have cS7:=((zad hb7).1 _ 26 hsz0).trans cSV;have hd7:=hd.below hb7;have hT7:=hTV.below hb7;have hbw7:=zaf hb hb7 hb.size;have hk7:=hk.trans (KpM.of_below hb7);have hz7:=hb7.size;have kf7:KeepsFrom W3.heap.size V w7:=⟨hb7.size,fun i o _ h2 _=>(hb7.block i (waL.1 h2).1).trans h2⟩
  clear cDV cfV cuV c0V c1V c2V cSV hd hTV hb7
  gi_wp2
  refine za4 rfl dQ (gf:=294) (lb:=#[.pointer (some ⟨b1,0,none⟩),.pointer (some ⟨b2,0,none⟩),.pointer (some ⟨b3,0,none⟩)]) rfl trivial eg hseq
   (fun h k=>h.trans k) (fun V l o o' _ hl ho _=>KpM.putObj o' hl ho) (fun o o'=>?st) (fun _=>rfl) (waK _)
   (fun pre V'=>DiscAt V' (w.heap.size+1+1) (fun k=>R (n:Int) k||zuO xf xu pre k)/\KpM (fun k=>k=w.heap.size+1+1) w7 V'/\Below w.heap.size w V'/\KeepsFrom W3.heap.size V V')
   (fun c pre V'=>False)
   (fun pre A B hs hr=>⟨hs.1.rl hr (.inr (waK _)),hs.2.1.trans (KpM.of_rl hr (by intro k h1 h2;omega)),za5 hs.2.2.1 hr (.inr rfl) oQ (waJ _),zkk hs.2.2.2 hr oQ⟩)
   (fun c pre A B hs hr=>hs)
   ⟨hd7.congr (fun k _=>by unfold zuO;simp),KpM.refl _ _,hbw7,kf7⟩
   (fun x a' _=>∃u:Nat->Value,a'={tmps:=List.toArray (.agg cs::.agg #[.bool xa,.int .i64 xf,.int .i64 xu,.int .i64 xp]::zv::.pointer (some ⟨w.heap.size,0,none⟩)::.pointer (some ⟨w.heap.size+1,0,none⟩)::undef::.pointer none::.pointer (some ⟨w1.heap.size,0,none⟩)::.int .i64 (n:Int)::u 9::u 10::u 11::u 12::u 13::u 14::u 15::.int .i64 (x:Int)::u 17::u 18::u 19::u 20::u 21::u 22::u 23::u 24::u 25::u 26::u 27::u 28::u 29::u 30::u 31::u 32::u 33::u 34::u 35::u 36::u 37::u 38::u 39::u 40::u 41::u 42::u 43::u 44::u 45::u 46::u 47::u 48::u 49::u 50::u 51::u 52::u 53::u 54::u 55::u 56::u 57::u 58::u 59::u 60::u 61::u 62::u 63::u 64::u 65::u 66::u 67::u 68::u 69::u 70::u 71::u 72::u 73::u 74::u 75::u 76::u 77::u 78::u 79::u 80::u 81::u 82::u 83::[]),defers:=[]})
   (fun _ _ _ _ hs _=>hs) (fun _ _ _ hs _=>hs)
   ?assign ?body ?done ?stop
  case st=>
   have hb:Below w7.heap.size w7 ((w7.alloc o).alloc o'):=((waC _ w7).alloc (waJ _) _).alloc (by simp) _
   have bc:=zad hb;exact⟨fun k e=>by subst e;have:=hb.size;omega,(bc.1 _ _ (waR w7 _ k1)).trans k1,(bc.1 _ _ (waR w7 _ k2)).trans k2,(bc.1 _ _ (waR w7 _ k3)).trans k3,hT7.below hb⟩
  case assign=>
   rintro l1 pre x V' K hi he hK
   gi_wp2
   exact hK _ _ (KeepsFrom.refl _ _) (KpM.refl _ _) (Rl.refl _ _ _ _) hi ⟨uOf (List.toArray (_::_::_::_::_::_::_::undef::_::_::_::_::_::_::_::_::_::_::_::_::_::_::_::_::_::_::_::_::_::_::_::_::_::_::_::_::_::_::_::_::_::_::_::_::_::_::_::_::_::_::_::_::_::_::_::_::_::_::_::_::_::_::_::_::_::_::_::_::_::_::_::_::_::_::_::[])),by rw[HZV.out];rfl⟩
  case body=>
   rintro l1 pre x a' V' hl1 _ ⟨hd',hk',hb',hf'⟩ hx86 ⟨u',rfl⟩ hlt';have cD':=hk'.cell cD7 (show ¬(w1.heap.size=w.heap.size+1+1) by omega)
   have cf':=hk'.cell cf7 (show ¬(w.heap.size+1=w.heap.size+1+1) by omega)
   have cu':=hk'.cell cu7 (show ¬(w.heap.size+1=w.heap.size+1+1) by omega)
   have hsV':=hk'.size;have hDl':=hd'.lt;have sz1:w.heap.size+1<V'.heap.size:=by omega
   have sz2:w1.heap.size<V'.heap.size:=by omega
   clear cD7 cf7 cu7 cS7 hd7 hj hn1
   by_cases ha:xf<=(x:Int)
   ·by_cases hb8:(x:Int)<=xu
    ·gi_wp2_with ((with_reducible(refine And.intro ?_ ?_));exact trivial;gi_at_call 237)
     refine(zat (l':=l1) (zmI _ x V'.heap.size 0 1 _ hx86 _ (hd'.below ((waC _ V').alloc (waJ _) _)) (zaa rfl rfl) oQ)).mono ?_;rintro e w4 ⟨⟨k,rfl⟩,hd4,hr4⟩
     gi_wp2
     have hr5:Rl (w.heap.size+1+1) (w.heap.size+1+1+1) V'.heap.size V' w4:=((Rl.refl _ _ _ V').alloc _).trans (hr4.mono (by simp))
     refine⟨zgn hr5 oQ (waJ _),KpM.of_rl hr5 (by intro k h3 h4;omega),hd4.congr (fun k _=>?_),hk'.trans (KpM.of_rl hr5 (by intro k h3 h4;omega)),za5 hb' hr5 (.inl oQ) oQ (waJ _),hf'.trans (zgn hr5 oQ (waJ _))⟩
     rw[zgZ];unfold zlk;rw[Bool.or_assoc];congr 2;rw[wbH];exact⟨fun h=>⟨h,ha,hb8⟩,fun h=>h.1⟩
    ·gi_wp2
     refine⟨KeepsFrom.refl _ _,KpM.refl _ _,hd'.congr (fun k _=>?_),hk',hb',hf'⟩
     rw[zgZ,waO (p:=k=x/\xf<=(x:Int)/\(x:Int)<=xu) (fun h=>by omega),Bool.or_false]
   ·gi_wp2
    refine⟨KeepsFrom.refl _ _,KpM.refl _ _,hd'.congr (fun k _=>?_),hk',hb',hf'⟩
    rw[zgZ,waO (p:=k=x/\xf<=(x:Int)/\(x:Int)<=xu) (fun h=>by omega),Bool.or_false]
  case done=>
   rintro D zs V' hD rfl ⟨hd',hk',hb',hf'⟩ hKd;have cD':=hk'.cell cD7 (show ¬(w1.heap.size=w.heap.size+1+1) by omega)
   have cS':=hk'.cell cS7 (show ¬(w.heap.size=w.heap.size+1+1) by omega)
   have hM':zed W3.heap.size V' (D::Ds):=(hDs.keeps hf').cons hDl oQ oQ hKd;have hd2:DiscAt V' (w.heap.size+1+1) (R ((n:Int)+sp)):=hd'.congr (HD2.out);have hkk:=hk7.trans hk';have hsV':=hk'.size;have sz0:w.heap.size<V'.heap.size:=by omega
   have sz2:w1.heap.size<V'.heap.size:=by omega
   clear cD7 cf7 cu7 cS7 hd7 hd' HD2
   by_cases h86:86400<sp
   ·gi_wp2
    exact za7 (D::Ds) _ hM' fun w' hr=>⟨_,results_tmp rfl _ _ _,w.heap.size+1+1,rfl,by omega,(hd2.rl hr (.inr (waK _))).congr (fun k hk86=>HFi.out _ oQ k hk86),za5 hb' hr (.inr rfl) oQ (waJ _)⟩
   ·gi_wp2
    refine HKL.out _ _ ⟨⟨(n:Int)+sp,D::Ds,uOf (List.toArray (_::_::_::_::_::_::_::_::_::_::_::_::_::_::_::_::_::_::_::_::_::_::_::_::_::_::_::_::_::_::_::_::_::_::_::_::_::_::_::_::_::_::_::_::_::_::_::_::_::_::_::_::_::_::_::_::_::_::_::_::_::_::_::_::_::_::_::_::_::_::_::_::_::_::_::[])),?_,by omega,.inr oQ,rfl,hM',hd2,hkk,hb'⟩,?_⟩
    ·obtain⟨j,hj⟩:=hj;exact⟨j+1,by rw[hj];push_cast;rw[Int.add_mul];omega⟩
    ·simp[intOf];omega
  case stop=>
   rintro D c pre V' _ _ h _;exact h.elim
end Go.Proofs.YtllcdbgjeidlkaaGreatDoor
