/- A part of the proof: WTa6 -/
import Derived.Test.YtllcdbgjeidlkaaGreatDoorT41
import Derived.Test.YtllcdbgjeidlkaaGreatDoorT42
import Derived.Test.YtllcdbgjeidlkaaGreatDoorT37
import Derived.Scope
import Derived.LoopN
set_option maxHeartbeats 80000000
set_option maxRecDepth 100000
set_option linter.unusedSimpArgs false
set_option linter.unusedVariables false
namespace Go.Proofs.YtllcdbgjeidlkaaGreatDoor
open Go.Proofs.Tryz
open Go.RowKit
open Go.Maps
structure EvS (W V:World) (g:Nat->Value):Prop where
 f:FaceAt V W.heap.size g
 r:zb9 V (W.heap.size+1) zcT
 be:Below W.heap.size W V
theorem EvS.below {W V X:World} {g:Nat->Value} (h:EvS W V g) (hb:Below V.heap.size V X):EvS W X g:=⟨h.f.below hb,h.r.below hb,zaf h.be hb h.be.size⟩
theorem EvS.new (W:World) (g:Nat->Value) (hg:FaceG g):EvS W ((W.alloc (.cells (zaU g) 43)).alloc (.cells zcT 26)) g:=by
 have h1:=FaceAt.new W g hg;have h2:=zb9.new (W.alloc (.cells (zaU g) 43)) zcT;rw[show (W.alloc (.cells (zaU g) 43)).heap.size=W.heap.size+1 by simp] at h2
 exact⟨h1.below ((waC _ _).alloc (waJ _) _),h2,((waC _ W).alloc (waJ _) _).alloc (by simp) _⟩
structure EvX where
 (A:Option Addr) (n c pb:Nat) (s:Nat->Value)
def zc9 (V:World) (B:Nat) (L:List (Value×List It)):Prop:=∀p,p∈L->zaY V B p.1 p.2
theorem zc9.below {V X:World} {B:Nat} {L:List (Value×List It)} (h:zc9 V B L) (hb:Below V.heap.size V X):zc9 X B L:=fun p hp=>zak (h p hp) hb
theorem zc9.cons {V:World} {B:Nat} {L:List (Value×List It)} (h:zc9 V B L) {v:Value} {l:List It} (o:zaY V B v l):zc9 V B ((v,l)::L):=fun p hp=>by
 rcases List.mem_cons.1 hp with rfl|hp
 ·exact o
 ·exact h p hp
theorem zc9.rls {V X:World} {B b:Nat} {L:List (Value×List It)} {zs:Array Value} (h:zc9 V B L) (hc:zb9 V b zs) (hr:RlS (·=b) V X):zc9 X B L:=fun p hp=>zbJ (h p hp) hr (zjs hc)
theorem zrB {V:World} {B:Nat} {s0 s1 s2 s5 s6 s7:Value} {l0 l1 l2 l5 l6 l7:List It} (h:zc9 V B [(s7,l7),(s6,l6),(s5,l5),(s2,l2),(s1,l1),(s0,l0)]):∃S0 d0 S1 d1 S2 d2 S5 d5 S6 d6 S7 d7,s0=.slice S0 l0.length d0/\s1=.slice S1 l1.length d1/\s2=.slice S2 l2.length d2/\s5=.slice S5 l5.length d5/\s6=.slice S6 l6.length d6/\s7=.slice S7 l7.length d7:=by
 obtain⟨S0,d0,h0⟩:=zaP (h (s0,l0) (by simp))
 obtain⟨S1,d1,h1⟩:=zaP (h (s1,l1) (by simp))
 obtain⟨S2,d2,h2⟩:=zaP (h (s2,l2) (by simp))
 obtain⟨S5,d5,h5⟩:=zaP (h (s5,l5) (by simp))
 obtain⟨S6,d6,h6⟩:=zaP (h (s6,l6) (by simp))
 obtain⟨S7,d7,h7⟩:=zaP (h (s7,l7) (by simp))
 exact⟨_,_,_,_,_,_,_,_,_,_,_,_,h0,h1,h2,h5,h6,h7⟩
theorem zda {W V:World} {g:Nat->Value} (h:EvS W V g):zb9 (V.alloc (.cells #[.slice none 0 0,.slice none 0 0,.slice none 0 0,.slice none 0 0,.bool false,.slice none 0 0,.slice none 0 0,.slice none 0 0] 26)) V.heap.size #[.slice none 0 0,.slice none 0 0,.slice none 0 0,.slice none 0 0,.bool false,.slice none 0 0,.slice none 0 0,.slice none 0 0]/\W.heap.size+1<V.heap.size/\Below V.heap.size V (V.alloc (.cells #[.slice none 0 0,.slice none 0 0,.slice none 0 0,.slice none 0 0,.bool false,.slice none 0 0,.slice none 0 0,.slice none 0 0] 26)):=⟨zb9.new _ _,h.r.lt,(waC _ _).alloc (waJ _) _⟩
structure EvR (W V:World) (g:Nat->Value) (x:EvX) (l0 l1 l2 l5 l6 l7:List It):Prop where
 e:EvS W V g
 p:zb9 V x.pb #[x.s 0,x.s 1,x.s 2,.slice none 0 0,.bool false,x.s 5,x.s 6,x.s 7]
 n:W.heap.size+1<x.pb
 o:zc9 V W.heap.size [(x.s 7,l7),(x.s 6,l6),(x.s 5,l5),(x.s 2,l2),(x.s 1,l1),(x.s 0,l0)]
def zxV (a b c d e f:Value):Nat->Value
 |0=>a
 |1=>b
 |2=>c
 |5=>d
 |6=>e
 |7=>f
 |_=>undef
theorem EvR.mk' {W V V8:World} {g:Nat->Value} {zs:Array Value} {x:EvX} {l0 l1 l2 l5 l6 l7:List It} (hS:EvS W V g) (hP:zb9 V x.pb zs) (hn:W.heap.size+1<x.pb) (hc:zb9 V8 x.pb #[x.s 0,x.s 1,x.s 2,.slice none 0 0,.bool false,x.s 5,x.s 6,x.s 7]) (hr:RlS (·=x.pb) V V8)
 (ho:zc9 V W.heap.size [(x.s 7,l7),(x.s 6,l6),(x.s 5,l5),(x.s 2,l2),(x.s 1,l1),(x.s 0,l0)]):EvR W V8 g x l0 l1 l2 l5 l6 l7:=by
 have hl:Rl x.pb (x.pb+1) 0 V V8:=hr.toRl 0 (fun k e=>by have:k=x.pb:=e;omega)
 exact⟨⟨hS.f.rl hl (.inl oQ),hS.r.rls hr oQ,hr.to_below' hS.be oQ⟩,hc,hn,ho.rls hP hr⟩
structure EvD (W V:World) (g:Nat->Value) (pb:Nat) (zs:Array Value) (c:CalV):Prop where
 e:EvS W V g
 p:zb9 V pb zs
 o:zb0 V W.heap.size (.agg zs) c
theorem zb9.c34 {V:World} {b:Nat} {x0 x1 x2 x3 x4 x5 x6 x7:Value} (h:zb9 V b #[x0,x1,x2,x3,x4,x5,x6,x7]):V.cell? ⟨b,3,none⟩=some x3/\V.cell? ⟨b,4,none⟩=some x4/\V.frozen? ⟨b,3,none⟩=false/\V.frozen? ⟨b,4,none⟩=false/\b<V.heap.size:=
 ⟨h.lies 3 _ rfl,h.lies 4 _ rfl,by simp[World.frozen?,h],by simp[World.frozen?,h],h.lt⟩
section
variable {W V : World} {g : Nat -> Value} {pb : Nat} {s0 s1 s2 v3 s5 s6 s7 : Value} {l0 l1 l2 l3 l5 l6 l7 : List It}
theorem EvS.rls {V':World} (hS:EvS W V g) (hn:W.heap.size+1<pb) (hr:RlS (·=pb) V V'):EvS W V' g:=
 ⟨hS.f.rl (hr.toRl (lo:=pb) (hi:=pb+1) 0 (fun k e=>by have:k=pb:=e;omega)) (.inl oQ),hS.r.rls hr oQ,hr.to_below' hS.be oQ⟩
theorem EvD.mk3 (hS:EvS W V g) (hP:zb9 V pb #[s0,s1,s2,.slice none 0 0,.bool false,s5,s6,s7]) (hn:W.heap.size+1<pb) (ho:zc9 V W.heap.size [(s7,l7),(s6,l6),(s5,l5),(s2,l2),(s1,l1),(s0,l0)]) (o3:zaY V W.heap.size v3 l3):
 EvD W (V.setCell ⟨pb,3,none⟩ v3) g pb #[s0,s1,s2,v3,.bool false,s5,s6,s7] ⟨l0,l1,l2,l3,false,l5,l6,l7⟩:=by
 have hr:RlS (·=pb) V (V.setCell ⟨pb,3,none⟩ v3):=(RlS.refl (·=pb) V).set ⟨pb,3,none⟩ v3 rfl;have h:=ho.rls hP hr;exact⟨hS.rls hn hr,by have:=ze5 (o:=3) (v:=v3) hP;simpa using this,⟨_,_,_,_,_,_,_,rfl,⟨h (s0,l0) (by simp),h (s1,l1) (by simp),h (s2,l2) (by simp),zbJ o3 hr (zjs hP)⟩,h (s5,l5) (by simp),h (s6,l6) (by simp),h (s7,l7) (by simp)⟩⟩
theorem EvD.mk4 (h:EvD W V g pb #[s0,s1,s2,v3,.bool false,s5,s6,s7] ⟨l0,l1,l2,l3,false,l5,l6,l7⟩) (hn:W.heap.size+1<pb):EvD W (V.setCell ⟨pb,4,none⟩ (.bool true)) g pb #[s0,s1,s2,v3,.bool true,s5,s6,s7] ⟨l0,l1,l2,l3,true,l5,l6,l7⟩:=by
 have hr:RlS (·=pb) V (V.setCell ⟨pb,4,none⟩ (.bool true)):=(RlS.refl (·=pb) V).set ⟨pb,4,none⟩ (.bool true) rfl;have hC:=zjs h.p;obtain⟨v0,v1,v2,v3,v5,v6,v7,e,⟨h0,h1,h2,h3⟩,h5,h6,h7⟩:=h.o
 injection e with e
 injection e with e
 simp only[List.cons.injEq,and_true] at e;obtain⟨rfl,rfl,rfl,rfl,_,rfl,rfl,rfl⟩:=e;exact⟨h.e.rls hn hr,by have:=ze5 (o:=4) (v:=.bool true) h.p;simpa using this,⟨_,_,_,_,_,_,_,rfl,⟨zbJ h0 hr hC,zbJ h1 hr hC,zbJ h2 hr hC,zbJ h3 hr hC⟩,zbJ h5 hr hC,zbJ h6 hr hC,zbJ h7 hr hC⟩⟩
end
def zxW (c:CalV) (w:World) (e:Ending) (w':World):Prop:=Below w.heap.size w w'/\∃v,e=.returned (.tuple #[v,.bool true])/\zb0 w' w.heap.size v c
def zxX (w:World) (e:Ending) (w':World):Prop:=Below w.heap.size w w'/\e=.returned (.tuple #[.agg zcT,.bool false])
theorem zoO (g:Nat->Value) (hg:FaceG g) (hz:g 48=.int .i64 0) (bk:Bool) (w:World):Calls prog 13 #[.agg (zaU g),.bool bk] w (zxX w):=by
 have HEv0:=waV (EvS.new w g hg);have E48:(zaU g)[48]?=some (.int .i64 0):=by rw[<-hz];exact zeB g 48 (by decide)
 obtain⟨cs,hcs⟩:∃cs,zaU g=cs:=⟨_,rfl⟩;rw[hcs] at HEv0 E48 ⊢;clear hcs hz hg;go_enter func13,ntmps13
 go_wp2_with (first|(refine za0 rfl _ _ rfl _ HEv0.out.r rfl rfl rfl (by kernel_rfl) (by kernel_rfl) ?_;intro V8 hc8 hr8)|fail)
 refine waY (zcl rfl rfl rfl hc8 kQ) rfl ?_;exact⟨hr8.to_below' HEv0.out.be oQ,rfl⟩
theorem zhq (P:Int->Nat->Bool) (bk:Bool):∀j,j<8->j≠4->(zhx (evP P bk) j).length<=100000:=by
 unfold evP;exact zwq _ _ _ _ _ _ _ _ bk
theorem ziu (P:Int->Nat->Bool) (g:Nat->Value) (hg:FaceOf P g) (ha:zk6 P) (bk:Bool) (w:World) (hw:Tz w):Calls prog 13 #[.agg (zaU g),.bool bk] w (zxW (evP P bk) w):=by
 have HRu:=waV (fun V (hV:Below w.heap.size w V)=>zrA (wkF P) (zeg _) V (hw.below hV))
 have HYr:=waV (fun V (hV:Below w.heap.size w V)=>zoM g (yrF P) hg.ye (fun j=>zeg _) (zrt P) V (hw.below hV))
 have HWh:=waV (fun V (hV:Below w.heap.size w V)=>zoA g (zhw P) (zhI P) hg.mo hg.dm (zeg _) (zeg _) (zrj P) V (hw.below hV))
 have HOf:=waV (fun lo hi m (hm:m<18446744073709551616) V (hV:Below w.heap.size w V)=>zws lo hi m hm V (hw.below hV))
 have HLi:=waV (fun m (hm:m<18446744073709551616) V (hV:Below w.heap.size w V)=>zim m hm V (hw.below hV))
 have HIt:=waV (fun A n c m V (h:zaI V A n (zbx m)) hnc hc=>zfF 1 31 A n c (zbx m) false V h (by have:=h.1;have:=zgt m;omega) hnc hc)
 have HIy:=waV (fun A n c V (h:zaI V A n (zbg (yrF P))) hnc hc=>zfF 1970 2369 A n c (zbg (yrF P)) true V h (by have:=h.1;have:=zoL (yrF P);omega) hnc hc)
 have HAl:=waV (fun V=>znr V)
 obtain⟨z,hz,hza⟩:=hg.d;have hz0:((z:Int)==0)=false:=by
  rw[wbE];intro e;exact(hza.1 oQ) ha
 have HEv0:=waV (EvS.new w g hg.f);have HFi:=waV (zdo g);have HLd:=waV (fun V (hV:EvS w V g)=>hV.f.lies)
 have HC:=waV (fun V (hV:EvS w V g) i (hi:i<51)=>hV.f.cell hi)
 have HG:=waV hg;have HZ:=waV hz;have HP:Hid (∀bk,evP P bk=evL (zo0 P) (zlK P) (zeT P) (zhw P) (zhI P) (zr5 P) (wkF P) (yrF P) bk):=fun _=>rfl
 rw[HP.out];have b0:=zeg (fun k=>∃n s,zdD P n s/\s%60=k)
 have b1:=zeg (fun k=>∃n s,zdD P n s/\s / 60%60=k)
 have b2:=zeg (fun k=>∃n s,zdD P n s/\s / 3600=k)
 have b3:=zeg (fun k=>∃n,zcy P n/\mD n=(k:Int))
 have b4:=zeg (fun k=>∃n,zcy P n/\dD n=(k:Int))
 have b5:=zeg (fun k=>∃n,zcy P n/\bkD n=(k:Int))
 have HB:Hid ((zo0 P<18446744073709551616/\zlK P<18446744073709551616/\zeT P<18446744073709551616)/\zhw P<18446744073709551616/\zhI P<18446744073709551616/\zr5 P<18446744073709551616):=⟨⟨b0,b1,b2⟩,b3,b4,b5⟩;have HGe:Hid (g 0=.int .u64 (zo0 P:Int)/\g 1=.int .u64 (zlK P:Int)/\g 2=.int .u64 (zeT P:Int)/\g 3=.int .u64 (zhw P:Int)/\g 4=.int .u64 (zhI P:Int)/\g 5=.int .u64 (zr5 P:Int)/\g 6=.int .u64 (wkF P:Int)):=⟨hg.se,hg.mi,hg.ho,hg.mo,hg.dm,hg.en,hg.wk⟩;clear hg ha hw hz hza b0 b1 b2 b3 b4 b5 HP;generalize zo0 P=se at *;generalize zlK P=mi at *;generalize zeT P=ho at *;generalize zhw P=mo at *;generalize zhI P=dm at *;generalize zr5 P=en at *;generalize wkF P=wk at *;generalize yrF P=y at *;have E48:(zaU g)[48]?=some (.int .i64 (z:Int)):=by rw[<-HZ.out];exact zeB g 48 (by decide)
 have E6:(zaU g)[6]?=some (.int .u64 (wk:Int)):=by rw[<-HGe.out.2.2.2.2.2.2];exact zeB g 6 (by decide)
 obtain⟨cs,hcs⟩:∃cs,zaU g=cs:=⟨_,rfl⟩;rw[hcs] at HYr HWh HFi HLd HEv0 E48 E6 ⊢;clear hcs;go_enter func13,ntmps13;go_wp2_with fail;have HS:=HEv0;clear HEv0 E48 E6;generalize ((w.alloc (.cells cs 43)).alloc (.cells #[.slice none 0 0,.slice none 0 0,.slice none 0 0,.slice none 0 0,.bool false,.slice none 0 0,.slice none 0 0,.slice none 0 0] 26))=V0 at *;have hHeld:Hid (EvS w V0.drew g):=waV (HS.out.below (waC _ V0).drew);refine zm7 (α:=EvX) (fun x=>[(12,.pointer (some ⟨w.heap.size,6,none⟩)),(13,.int .u64 (wk:Int)),(14,x.s 0),(15,.agg cs),(16,.slice x.A x.n x.c),(17,x.s 1),(18,.func (.func 34) #[] #[]),(19,.pointer (some ⟨w.heap.size,3,none⟩)),(20,.int .u64 (mo:Int)),(21,x.s 2),(22,.func (.func 34) #[] #[]),(23,.pointer (some ⟨w.heap.size,2,none⟩)),(24,.int .u64 (ho:Int)),(25,x.s 5),(26,.func (.func 34) #[] #[]),(27,.pointer (some ⟨w.heap.size,1,none⟩)),(28,.int .u64 (mi:Int)),(29,x.s 6),(30,.func (.func 34) #[] #[]),(31,.pointer (some ⟨w.heap.size,0,none⟩)),(32,.int .u64 (se:Int)),(33,x.s 7),(34,.agg #[x.s 0,x.s 1,x.s 2,.slice none 0 0,.bool false,x.s 5,x.s 6,x.s 7]),(7,.pointer (some ⟨x.pb,0,none⟩))]) (fun x w'=>EvR w w' g x (zeG wk) (zae 1970 2369 (zbg y) true) (zae 1 12 (zbx mo) true) (zae 0 23 (zbx ho) true) (zae 0 59 (zbx mi) true) (zae 0 59 (zbx se) true)) ?ways ?on
 case ways=>
  refine zaB 24 (fun w'=>Hid (EvS w w' g)) kQ ?_
  generalize V0.drew=V at *;have HO:Hid (zc9 V w.heap.size []):=fun p hp=>(by cases hp)
  have G0:∀w_,Hid (EvS w w_ g)->w_.cell? ⟨w.heap.size,0,none⟩=some (.int .u64 (se:Int)):=fun w_ h=>by rw[HC.out w_ h.out 0 (by decide),HGe.out.1]
  have G1:∀w_,Hid (EvS w w_ g)->w_.cell? ⟨w.heap.size,1,none⟩=some (.int .u64 (mi:Int)):=fun w_ h=>by rw[HC.out w_ h.out 1 (by decide),HGe.out.2.1]
  have G2:∀w_,Hid (EvS w w_ g)->w_.cell? ⟨w.heap.size,2,none⟩=some (.int .u64 (ho:Int)):=fun w_ h=>by rw[HC.out w_ h.out 2 (by decide),HGe.out.2.2.1]
  have G3:∀w_,Hid (EvS w w_ g)->w_.cell? ⟨w.heap.size,3,none⟩=some (.int .u64 (mo:Int)):=fun w_ h=>by rw[HC.out w_ h.out 3 (by decide),HGe.out.2.2.2.1]
  have G6:∀w_,Hid (EvS w w_ g)->w_.cell? ⟨w.heap.size,6,none⟩=some (.int .u64 (wk:Int)):=fun w_ h=>by rw[HC.out w_ h.out 6 (by decide),HGe.out.2.2.2.2.2.2]
  refine(kP 0 12 (h:=(kR 1 13 (fun w_ hSw_=>G6 w_ hSw_) (h:=?_))))
  simp only[Act.put,zbj,zbk,zbl];refine zai (i:=3) (dst:=some 15) (v:=.agg cs.toList.toArray) (hy:=fun o_ ho_=>?_) (hS:=hHeld) (h:=?_)
  case refine_1=>(obtain rfl:=waB ho_;exact yieldsIf_load_mid (by rfl) 43 _ rfl w.heap.size 0 rfl cs.toList _ (fun w' hw' j v hj=>zdM (HLd.out w' hw'.out) j v (by simpa using hj)) underlying43 rfl HFi.out)
  simp only[Act.put,zbj,zbk,zbl,Array.toArray_toList];refine(kP 6 18 (h:=(kP 7 19 (h:=(kR 8 20 (fun w_ hSw_=>G3 w_ hSw_) (h:=(kP 10 22 (h:=(kP 11 23 (h:=(kR 12 24 (fun w_ hSw_=>G2 w_ hSw_) (h:=(kP 14 26 (h:=(kP 15 27 (h:=(kR 16 28 (fun w_ hSw_=>G1 w_ hSw_) (h:=(kP 18 30 (h:=(kP 19 31 (h:=(kR 20 32 (fun w_ hSw_=>G0 w_ hSw_) (h:=?_))))))))))))))))))))))))
  simp only[Act.put,zbj,zbk,zbl]
  all_goals first
   |have hX_:=HPb.out
    clear hX_;refine zac (i:=2) kQ fun o_ ho_ K_ hK_=>?_
    obtain rfl:=waB ho_;have HK_:=waV hK_;clear hK_ ho_
   |refine zbG (i:=2) (i':=23) kQ (fun o_ ho_ K_ hK_=>?_) (fun o_ ho_ K_ hK_=>?_)
    all_goals obtain rfl:=waB ho_
    all_goals have HK_:=waV hK_
    all_goals clear hK_ ho_
    rotate_left
    obtain⟨hp0,hpb,hq⟩:=zda hHeld.out;go_wp2_with fail;replace hHeld:=waV (hHeld.out.below hq)
    (try replace HPb:=waV (HPb.out.below hq))
    (try replace HRd:=waV (HRd.out.below hq (waJ _)))
    replace HO:=waV (HO.out.below hq);have HPb:=waV hp0;refine HK_.out _ _ hHeld ?_;clear HK_ hq hp0;generalize World.alloc V _=Va at *;generalize V.heap.size=pb at *;refine zac (i:=2) kQ fun o_ ho_ K_ hK_=>?_
    obtain rfl:=waB ho_;have HK_:=waV hK_;clear hK_ ho_
    rotate_left
  all_goals
   go_wp2_with fail;refine(HRu.out _ hHeld.out.be).mono ?_;rintro e V ⟨v,rfl,o0,hq⟩;have P0:=zar o0 hHeld.out.be.size;replace hHeld:=waV (hHeld.out.below hq)
   (try replace HPb:=waV (HPb.out.below hq))
   (try replace HRd:=waV (HRd.out.below hq (waJ _)))
   replace HO:=waV (HO.out.below hq);replace HO:=waV (HO.out.cons P0);go_wp2_with fail;refine HK_.out _ _ hHeld ?_;clear HK_ hq o0 P0
  all_goals first
   |have hX_:=HPb.out
    clear hX_;refine zac (i:=4) kQ fun o_ ho_ K_ hK_=>?_
    obtain rfl:=waB ho_;have HK_:=waV hK_;clear hK_ ho_
   |refine zbG (i:=4) (i':=23) kQ (fun o_ ho_ K_ hK_=>?_) (fun o_ ho_ K_ hK_=>?_)
    all_goals obtain rfl:=waB ho_
    all_goals have HK_:=waV hK_
    all_goals clear hK_ ho_
    rotate_left
    obtain⟨hp0,hpb,hq⟩:=zda hHeld.out;go_wp2_with fail;replace hHeld:=waV (hHeld.out.below hq)
    (try replace HPb:=waV (HPb.out.below hq))
    (try replace HRd:=waV (HRd.out.below hq (waJ _)))
    replace HO:=waV (HO.out.below hq);have HPb:=waV hp0;refine HK_.out _ _ hHeld ?_;clear HK_ hq hp0;generalize World.alloc V _=Va at *;generalize V.heap.size=pb at *;refine zac (i:=4) kQ fun o_ ho_ K_ hK_=>?_
    obtain rfl:=waB ho_;have HK_:=waV hK_;clear hK_ ho_
    rotate_left
  all_goals
   go_wp2_with fail;refine(HYr.out _ hHeld.out.be).mono ?_;rintro e V ⟨A1,n1,c1,rfl,hr1,hnc1,hcm1,hq,hn1⟩;replace hHeld:=waV (hHeld.out.below hq)
   (try replace HPb:=waV (HPb.out.below hq))
   (try replace HRd:=waV (HRd.out.below hq (waJ _)))
   replace HO:=waV (HO.out.below hq);have HRd:Hid (zaI V A1 n1 (zbg y)):=hr1;have HNc:Hid (n1<=c1/\c1<=maxLen):=⟨hnc1,hcm1⟩;clear hn1 hr1 hnc1 hcm1;go_wp2_with fail;refine HK_.out _ _ hHeld ?_;clear HK_ hq
  all_goals first
   |have hX_:=HPb.out
    clear hX_;refine zac (i:=5) kQ fun o_ ho_ K_ hK_=>?_
    obtain rfl:=waB ho_;have HK_:=waV hK_;clear hK_ ho_
   |refine zbG (i:=5) (i':=23) kQ (fun o_ ho_ K_ hK_=>?_) (fun o_ ho_ K_ hK_=>?_)
    all_goals obtain rfl:=waB ho_
    all_goals have HK_:=waV hK_
    all_goals clear hK_ ho_
    rotate_left
    obtain⟨hp0,hpb,hq⟩:=zda hHeld.out;go_wp2_with fail;replace hHeld:=waV (hHeld.out.below hq)
    (try replace HPb:=waV (HPb.out.below hq))
    (try replace HRd:=waV (HRd.out.below hq (waJ _)))
    replace HO:=waV (HO.out.below hq);have HPb:=waV hp0;refine HK_.out _ _ hHeld ?_;clear HK_ hq hp0;generalize World.alloc V _=Va at *;generalize V.heap.size=pb at *;refine zac (i:=5) kQ fun o_ ho_ K_ hK_=>?_
    obtain rfl:=waB ho_;have HK_:=waV hK_;clear hK_ ho_
    rotate_left
  all_goals
   have HIr:=waV (HIy.out A1 n1 c1 _ HRd.out HNc.out.1 HNc.out.2);go_wp2_with fail;refine HIr.out.mono ?_;rintro e V ⟨v,rfl,o0,hq⟩;clear HRd HNc HIr;have P0:=zar o0 hHeld.out.be.size;replace hHeld:=waV (hHeld.out.below hq)
   (try replace HPb:=waV (HPb.out.below hq))
   (try replace HRd:=waV (HRd.out.below hq (waJ _)))
   replace HO:=waV (HO.out.below hq);replace HO:=waV (HO.out.cons P0);go_wp2_with fail;refine HK_.out _ _ hHeld ?_;clear HK_ hq o0 P0
  all_goals first
   |have hX_:=HPb.out
    clear hX_;refine zac (i:=9) kQ fun o_ ho_ K_ hK_=>?_
    obtain rfl:=waB ho_;have HK_:=waV hK_;clear hK_ ho_
   |refine zbG (i:=9) (i':=23) kQ (fun o_ ho_ K_ hK_=>?_) (fun o_ ho_ K_ hK_=>?_)
    all_goals obtain rfl:=waB ho_
    all_goals have HK_:=waV hK_
    all_goals clear hK_ ho_
    rotate_left
    obtain⟨hp0,hpb,hq⟩:=zda hHeld.out;go_wp2_with fail;replace hHeld:=waV (hHeld.out.below hq)
    (try replace HPb:=waV (HPb.out.below hq))
    (try replace HRd:=waV (HRd.out.below hq (waJ _)))
    replace HO:=waV (HO.out.below hq);have HPb:=waV hp0;refine HK_.out _ _ hHeld ?_;clear HK_ hq hp0;generalize World.alloc V _=Va at *;generalize V.heap.size=pb at *;refine zac (i:=9) kQ fun o_ ho_ K_ hK_=>?_
    obtain rfl:=waB ho_;have HK_:=waV hK_;clear hK_ ho_
    rotate_left
  all_goals
   go_wp2_with fail;refine(HOf.out 1 12 mo HB.out.2.1 _ hHeld.out.be).mono ?_;rintro e V ⟨v,rfl,o0,hq⟩;have P0:=zar o0 hHeld.out.be.size;replace hHeld:=waV (hHeld.out.below hq)
   (try replace HPb:=waV (HPb.out.below hq))
   (try replace HRd:=waV (HRd.out.below hq (waJ _)))
   replace HO:=waV (HO.out.below hq);replace HO:=waV (HO.out.cons P0);go_wp2_with fail;refine HK_.out _ _ hHeld ?_;clear HK_ hq o0 P0
  all_goals first
   |have hX_:=HPb.out
    clear hX_;refine zac (i:=13) kQ fun o_ ho_ K_ hK_=>?_
    obtain rfl:=waB ho_;have HK_:=waV hK_;clear hK_ ho_
   |refine zbG (i:=13) (i':=23) kQ (fun o_ ho_ K_ hK_=>?_) (fun o_ ho_ K_ hK_=>?_)
    all_goals obtain rfl:=waB ho_
    all_goals have HK_:=waV hK_
    all_goals clear hK_ ho_
    rotate_left
    obtain⟨hp0,hpb,hq⟩:=zda hHeld.out;go_wp2_with fail;replace hHeld:=waV (hHeld.out.below hq)
    (try replace HPb:=waV (HPb.out.below hq))
    (try replace HRd:=waV (HRd.out.below hq (waJ _)))
    replace HO:=waV (HO.out.below hq);have HPb:=waV hp0;refine HK_.out _ _ hHeld ?_;clear HK_ hq hp0;generalize World.alloc V _=Va at *;generalize V.heap.size=pb at *;refine zac (i:=13) kQ fun o_ ho_ K_ hK_=>?_
    obtain rfl:=waB ho_;have HK_:=waV hK_;clear hK_ ho_
    rotate_left
  all_goals
   go_wp2_with fail;refine(HOf.out 0 23 ho HB.out.1.2.2 _ hHeld.out.be).mono ?_;rintro e V ⟨v,rfl,o0,hq⟩;have P0:=zar o0 hHeld.out.be.size;replace hHeld:=waV (hHeld.out.below hq)
   (try replace HPb:=waV (HPb.out.below hq))
   (try replace HRd:=waV (HRd.out.below hq (waJ _)))
   replace HO:=waV (HO.out.below hq);replace HO:=waV (HO.out.cons P0);go_wp2_with fail;refine HK_.out _ _ hHeld ?_;clear HK_ hq o0 P0
  all_goals first
   |have hX_:=HPb.out
    clear hX_;refine zac (i:=17) kQ fun o_ ho_ K_ hK_=>?_
    obtain rfl:=waB ho_;have HK_:=waV hK_;clear hK_ ho_
   |refine zbG (i:=17) (i':=23) kQ (fun o_ ho_ K_ hK_=>?_) (fun o_ ho_ K_ hK_=>?_)
    all_goals obtain rfl:=waB ho_
    all_goals have HK_:=waV hK_
    all_goals clear hK_ ho_
    rotate_left
    obtain⟨hp0,hpb,hq⟩:=zda hHeld.out;go_wp2_with fail;replace hHeld:=waV (hHeld.out.below hq)
    (try replace HPb:=waV (HPb.out.below hq))
    (try replace HRd:=waV (HRd.out.below hq (waJ _)))
    replace HO:=waV (HO.out.below hq);have HPb:=waV hp0;refine HK_.out _ _ hHeld ?_;clear HK_ hq hp0;generalize World.alloc V _=Va at *;generalize V.heap.size=pb at *;refine zac (i:=17) kQ fun o_ ho_ K_ hK_=>?_
    obtain rfl:=waB ho_;have HK_:=waV hK_;clear hK_ ho_
    rotate_left
  all_goals
   go_wp2_with fail;refine(HOf.out 0 59 mi HB.out.1.2.1 _ hHeld.out.be).mono ?_;rintro e V ⟨v,rfl,o0,hq⟩;have P0:=zar o0 hHeld.out.be.size;replace hHeld:=waV (hHeld.out.below hq)
   (try replace HPb:=waV (HPb.out.below hq))
   (try replace HRd:=waV (HRd.out.below hq (waJ _)))
   replace HO:=waV (HO.out.below hq);replace HO:=waV (HO.out.cons P0);go_wp2_with fail;refine HK_.out _ _ hHeld ?_;clear HK_ hq o0 P0
  all_goals first
   |have hX_:=HPb.out
    clear hX_;refine zac (i:=21) kQ fun o_ ho_ K_ hK_=>?_
    obtain rfl:=waB ho_;have HK_:=waV hK_;clear hK_ ho_
   |refine zbG (i:=21) (i':=23) kQ (fun o_ ho_ K_ hK_=>?_) (fun o_ ho_ K_ hK_=>?_)
    all_goals obtain rfl:=waB ho_
    all_goals have HK_:=waV hK_
    all_goals clear hK_ ho_
    rotate_left
    obtain⟨hp0,hpb,hq⟩:=zda hHeld.out;go_wp2_with fail;replace hHeld:=waV (hHeld.out.below hq)
    (try replace HPb:=waV (HPb.out.below hq))
    (try replace HRd:=waV (HRd.out.below hq (waJ _)))
    replace HO:=waV (HO.out.below hq);have HPb:=waV hp0;refine HK_.out _ _ hHeld ?_;clear HK_ hq hp0;generalize World.alloc V _=Va at *;generalize V.heap.size=pb at *;refine zac (i:=21) kQ fun o_ ho_ K_ hK_=>?_
    obtain rfl:=waB ho_;have HK_:=waV hK_;clear hK_ ho_
    rotate_left
  all_goals
   go_wp2_with fail;refine(HOf.out 0 59 se HB.out.1.1 _ hHeld.out.be).mono ?_;rintro e V ⟨v,rfl,o0,hq⟩;have P0:=zar o0 hHeld.out.be.size;replace hHeld:=waV (hHeld.out.below hq)
   (try replace HPb:=waV (HPb.out.below hq))
   (try replace HRd:=waV (HRd.out.below hq (waJ _)))
   replace HO:=waV (HO.out.below hq);replace HO:=waV (HO.out.cons P0);go_wp2_with fail;refine HK_.out _ _ hHeld ?_;clear HK_ hq o0 P0
  all_goals
   obtain⟨S0,d0,S1,d1,S3,d3,S4,d4,S5,d5,S6,d6,rfl,rfl,rfl,rfl,rfl,rfl⟩:=zrB HO.out;refine(kP 22 34 (h:=?_));simp only[Act.put,zbj,zbk,zbl]
  all_goals first
   |have hX_:=HPb.out
    clear hX_
   |refine zac (i:=23) kQ fun o_ ho_ K_ hK_=>?_
    obtain rfl:=waB ho_;have HK_:=waV hK_;clear hK_ ho_;obtain⟨hp0,hpb,hq⟩:=zda hHeld.out;go_wp2_with fail;replace hHeld:=waV (hHeld.out.below hq)
    (try replace HPb:=waV (HPb.out.below hq))
    (try replace HRd:=waV (HRd.out.below hq (waJ _)))
    replace HO:=waV (HO.out.below hq);have HPb:=waV hp0;refine HK_.out _ _ hHeld ?_;clear HK_ hq hp0;generalize World.alloc V _=Va at *;generalize V.heap.size=pb at *
  all_goals
   refine zaq (j:=1) dQ (.inr rfl) dQ kQ ?_;simp only[wbQ,waG,List.length_nil,Nat.reduceAdd,Nat.reduceSub,waZ,wbA];refine za0 rfl _ _ rfl _ HPb.out rfl rfl rfl kQ (by simp[Value.oneCell']) ?_
   intro V8 hc8 hr8;refine⟨rfl,⟨A1,n1,c1,pb,zxV (.slice S0 (zeG wk).length d0) (.slice S1 (zae 1970 2369 (zbg y) true).length d1) (.slice S3 (zae 1 12 (zbx mo) true).length d3) (.slice S4 (zae 0 23 (zbx ho) true).length d4) (.slice S5 (zae 0 59 (zbx mi) true).length d5) (.slice S6 (zae 0 59 (zbx se) true).length d6)⟩,?_,?_⟩
   ·simp only[zdO,List.foldl,Act.put,wbU,wbW,wbV,zxV]
   ·exact EvR.mk' hHeld.out HPb.out hpb hc8 hr8 HO.out
 case on=>
  rintro ⟨A,n,c,pb,s⟩ w9 ⟨hS,hP,hn,ho⟩;dsimp only at hP hn ho;simp only[zdO,List.foldl,Act.put,wbU,wbW,wbV];generalize s 0=s0 at *;generalize s 1=s1 at *;generalize s 2=s2 at *;generalize s 5=s5 at *;generalize s 6=s6 at *;generalize s 7=s7 at *;obtain⟨S0,d0,S1,d1,S2,d2,S5,d5,S6,d6,S7,d7,rfl,rfl,rfl,rfl,rfl,rfl⟩:=zrB ho;have HO:=waV ho;have HP:=waV hP;have HS:=waV hS;have HN:=waV hn;have HL9:=waV (zdM (HLd.out w9 hS));clear hS hP hn ho HOf HRu HYr HIy HLd
  go_wp2_with (first|(refine zag (by rfl) 43 _ rfl cs w.heap.size 0 rfl underlying43 rfl HFi.out HL9.out ?_)|fail)
  refine(HWh.out _ HS.out.be).mono ?_;rintro e V ⟨rfl,hq⟩;replace HS:=waV (HS.out.below hq);replace HP:=waV (HP.out.below hq);replace HO:=waV (HO.out.below hq)
  (try replace P3:=zak P3 hq)
  clear hq HWh HL9;cases hab:zlN mo dm
  case' true=>
   have HE:Hid (evL se mi ho mo dm en wk y bk=⟨zeG wk,zae 1970 2369 (zbg y) true,zae 1 12 (zbx mo) true,[⟨0,0,0,1⟩],false,zae 0 23 (zbx ho) true,zae 0 59 (zbx mi) true,zae 0 59 (zbx se) true⟩):=by show _=_;unfold evL;rw[hab];rfl
   clear hab;go_wp2_with fail;refine(HAl.out _).mono ?_;rintro e V ⟨v3,rfl,o3,hq⟩;have P3:=zar o3 HS.out.be.size;replace HS:=waV (HS.out.below hq);replace HP:=waV (HP.out.below hq);replace HO:=waV (HO.out.below hq)
   (try replace P3:=zak P3 hq)
  case' false=>
   cases bk
   case' true=>
    have HE:Hid (evL se mi ho mo dm en wk y true=⟨zeG wk,zae 1970 2369 (zbg y) true,zae 1 12 (zbx mo) true,zae 1 31 (zbx en) false,true,zae 0 23 (zbx ho) true,zae 0 59 (zbx mi) true,zae 0 59 (zbx se) true⟩):=by show _=_;unfold evL;rw[hab];rfl
    have HBK:Hid True:=trivial;have cc:=HC.out V HS.out 5 dQ;rw[HGe.out.2.2.2.2.2.1] at cc;have hm:=HB.out.2.2.2
   case' false=>
    have HE:Hid (evL se mi ho mo dm en wk y false=⟨zeG wk,zae 1970 2369 (zbg y) true,zae 1 12 (zbx mo) true,zae 1 31 (zbx dm) false,false,zae 0 23 (zbx ho) true,zae 0 59 (zbx mi) true,zae 0 59 (zbx se) true⟩):=by show _=_;unfold evL;rw[hab];rfl
    have cc:=HC.out V HS.out 4 dQ;rw[HGe.out.2.2.2.2.1] at cc;have hm:=HB.out.2.2.1
   all_goals
    have lb:=waR _ _ cc;have HM:=waV hm;clear hab hm;go_wp2_with fail;clear cc lb;refine(HLi.out _ HM.out _ HS.out.be).mono ?_;rintro e V ⟨A1,n1,c1,rfl,hr1,hnc1,hcm1,hq,hn1⟩;replace HS:=waV (HS.out.below hq);replace HP:=waV (HP.out.below hq);replace HO:=waV (HO.out.below hq)
    (try replace P3:=zak P3 hq)
    have HIr:=waV (HIt.out A1 n1 c1 _ V hr1 hnc1 hcm1);clear hr1 hnc1 hcm1 hn1 hq HIt;go_wp2_with fail;refine HIr.out.mono ?_;rintro e V ⟨v3,rfl,o3,hq⟩;have P3:=zar o3 HS.out.be.size;replace HS:=waV (HS.out.below hq);replace HP:=waV (HP.out.below hq);replace HO:=waV (HO.out.below hq)
    (try replace P3:=zak P3 hq)
  all_goals
   obtain⟨S3,d3,rfl⟩:=zaP P3;have HD:=waV (EvD.mk3 HS.out HP.out HN.out HO.out P3)
   (try(have hX_:=HBK.out;clear hX_;replace HD:=waV (HD.out.mk4 HN.out)))
   obtain⟨x3,x4,f3,f4,lx⟩:=HP.out.c34;clear P3 o3 hq;have HL8:=waV HD.out.p.ld;have HR8:=waV HD.out.e.r
   go_wp2_with (first|(refine zag (by rfl) 26 _ rfl #[_,_,_,_,_,_,_,_] pb 0 rfl underlying26 rfl (by kernel_rfl) HL8.out ?_)|(refine za0 rfl _ _ rfl _ HR8.out rfl rfl rfl (by kernel_rfl) (by simp[Value.oneCell']) ?_;intro V8 hc8 hr8)|fail)
   refine waY (zcl rfl rfl rfl hc8 kQ) rfl ?_;exact⟨hr8.to_below' HD.out.e.be (by omega),_,rfl,by rw[HE.out];exact HD.out.o.rls HD.out.e.r hr8⟩
def zu6 (n:Nat) (L:List Cl) (w:World) (e:Ending) (w':World):Prop:=Below w.heap.size w w'/\((zbI n L≠0/\e=.returned (.tuple #[.agg zcT,.int .i64 (zbI n L)]))\/(zbI n L=0/\((zoJ (zay L) none/\e=.returned (.tuple #[.agg zcT,.int .i64 15]))\/∃c v,zoJ (zay L) (some c)/\e=.returned (.tuple #[v,.int .i64 0])/\zb0 w' w.heap.size v c/\∀j,j<8->j≠4->(zhx c j).length<=100000)))
structure RaE (W V:World) (g:Nat->Value) (fb:Nat):Prop where
 f:FaceAt V fb g
 r:zb9 V W.heap.size zcT
 be:Below W.heap.size W V
 n:W.heap.size<fb
theorem RaE.below {W V X:World} {g:Nat->Value} {fb:Nat} (h:RaE W V g fb) (hb:Below V.heap.size V X):RaE W X g fb:=⟨h.f.below hb,h.r.below hb,zaf h.be hb h.be.size,h.n⟩
theorem zrC:∀j,j<8->j≠4->(zhx zoI j).length<=100000:=fun j hj h4=>by
 obtain rfl|rfl|rfl|rfl|rfl|rfl|rfl:j=0\/j=1\/j=2\/j=3\/j=5\/j=6\/j=7:=by omega
 all_goals decide
theorem zoP (A:Option Addr) (n cc:Nat) (L:List Cl) (W:World) (hA:zbh W A n L) (hn:n<=4294967296) (hnil:A=none->n=0) (hbit:∀c,c∈L->zbC c/\c.s<=9223372036854775807) (hw:Tz W):
 Calls prog 6 #[.slice A n cc] W (zu6 n L W):=by
 have HOf:=waV (fun V (hV:Below W.heap.size W V)=>zih A n cc L V (hA.below hV (waJ _)) hn hnil hbit (hw.below hV))
 have HNo:=waV (fun V=>zrv V)
 go_enter func6,ntmps6;go_wp2_with fail;have hb0:Below W.heap.size W (W.alloc (.cells #[.slice none 0 0,.slice none 0 0,.slice none 0 0,.slice none 0 0,.bool false,.slice none 0 0,.slice none 0 0,.slice none 0 0] 26)):=(waC _ W).alloc (waJ _) _;have hO:zb9 (W.alloc (.cells #[.slice none 0 0,.slice none 0 0,.slice none 0 0,.slice none 0 0,.bool false,.slice none 0 0,.slice none 0 0,.slice none 0 0] 26)) W.heap.size #[.slice none 0 0,.slice none 0 0,.slice none 0 0,.slice none 0 0,.bool false,.slice none 0 0,.slice none 0 0,.slice none 0 0]:=zb9.new _ _;generalize W.alloc (.cells #[.slice none 0 0,.slice none 0 0,.slice none 0 0,.slice none 0 0,.bool false,.slice none 0 0,.slice none 0 0,.slice none 0 0] 26)=V0 at *;refine wp_scope_straight ?_;go_wp2_with fail;refine(HOf.out _ hb0).mono ?_;rintro e w1 ⟨hb1,hres⟩;have hb01:=zaf hb0 hb1 hb0.size;replace hO:=hO.below hb1;have lb1:W.heap.size<w1.heap.size:=hO.lt;have HFn:Hid (FaceAt (w1.alloc (.cells (zaU (gZ false)) 43)) w1.heap.size (gZ false)):=FaceAt.new _ _ (zek false);have hbA:Below w1.heap.size w1 (w1.alloc (.cells (zaU (gZ false)) 43)):=(waC _ _).alloc (waJ _) _;have HMk:Hid (∀g' w2,FaceAt w2 w1.heap.size g'->RlS (·=w1.heap.size) (w1.alloc (.cells (zaU (gZ false)) 43)) w2->RaE W w2 g' w1.heap.size):=fun g' w2 hf2 hr2=>
  ⟨hf2,(hO.below hbA).rls hr2 oQ,hr2.to_below' (zaf hb01 hbA hb01.size) oQ,lb1⟩
 clear hbA hO hb01 hb1 hb0;obtain(⟨hE,rfl⟩|⟨hE,g,rfl,hg⟩):=hres
 ·have HQ:=waV (fun V (h:Below W.heap.size W V)=>(show zu6 n L W (.returned (.tuple #[.agg zcT,.int .i64 (zbI n L)])) V from⟨h,.inl ⟨hE,rfl⟩⟩))
  have hne:((zbI n L:Int)==0)=false:=by rw[wbE];exact hE
  clear hE HOf HNo hA hn hnil hbit hw;generalize zbI n L=er at *
  go_wp2_with (first|(refine zaV rfl _ _ rfl (gZ false) HFn.out (zek false) rfl rfl ?_;intro w2 hf2 hr2;have HS:=waV (HMk.out _ w2 hf2 hr2);clear hf2 hr2)|(refine za0 rfl _ _ rfl _ HS.out.r rfl rfl rfl (by kernel_rfl) (by kernel_rfl) ?_;intro V8 hc8 hr8)|fail)
  refine waY (zcl rfl rfl rfl hc8 kQ) rfl ?_;exact HQ.out _ (hr8.to_below' HS.out.be (waJ _))
 ·have h8:n<=8/\zeJ L=true:=by
   unfold zbI at hE;split at hE
   ·cases hE
   ·split at hE
    ·exact⟨by omega,by assumption⟩
    ·cases hE
  have hE':=waV hE;obtain⟨z,hz,hza⟩:=hg.d;have HG:=waV hg;have HZa:=waV hza;have h48:=fun(V:World) (h:RaE W V g w1.heap.size)=>h.f.cell (show 48<51 by decide)
  rw[hz] at h48;have H48:=waV h48;have HEvt:=waV (fun(ha:zk6 (zay L)) bk V (hV:RaE W V g w1.heap.size)=>ziu (zay L) g hg ha bk V (hw.below hV.be))
  have HMe:=waV (fun(c:CalV) (v:Value) V (hV:RaE W V g w1.heap.size) (hl:∀j,j<8->j≠4->(zhx c j).length<=100000) (ho:zb0 V W.heap.size v c)=>(show Calls prog 18 #[v,.slice A n cc] V (zu5 c (zay L) V) by
   obtain⟨A',n',m',e,hr,_,hn'⟩:=ho.rd;rw[e];exact zoK A' n' m' c A n cc L V hr (fun j hj h4=>by rw[hn' j,if_pos ⟨hj,h4⟩];exact hl j hj h4) (hA.below hV.be (waJ _)) h8.1 hnil hbit h8.2 (hw.below hV.be)))
  clear hg hz hza h48 HOf hE hA hnil hbit hw hn h8
  by_cases e0:z=0
  ·have hna:¬zk6 (zay L):=HZa.out.1 e0;subst e0
   go_wp2_with (first|(refine zaV rfl _ _ rfl g HFn.out HG.out.f rfl rfl ?_;intro w2 hf2 hr2;have HS:=waV (HMk.out _ w2 hf2 hr2);have f48:=H48.out _ HS.out;clear hf2 hr2)|fail)
   clear f48;refine(HNo.out _).mono ?_;rintro e w3 ⟨v,rfl,ho,hb3⟩;have HO:=waV (ho.base HS.out.be.size);replace HS:=waV (HS.out.below hb3);obtain⟨S0,n0,d0,S1,n1,d1,S2,n2,d2,S3,n3,d3,S5,n5,d5,S6,n6,d6,S7,n7,d7,hv⟩:=HO.out.eight;generalize hkb:zoI.back=kb at hv;subst hv;clear ho hb3
   go_wp2_with (first|(refine za0 rfl _ _ rfl _ HS.out.r rfl rfl rfl (by kernel_rfl) (by kernel_rfl) ?_;intro V8 hc8 hr8)|fail)
   refine waY (zcl rfl rfl rfl hc8 kQ) rfl ?_;exact⟨hr8.to_below' HS.out.be (waJ _),.inr ⟨hE'.out,.inr ⟨zoI,_,.inl ⟨hna,rfl⟩,rfl,HO.out.rls HS.out.r hr8,zrC⟩⟩⟩
  ·have ez:((z:Int)==0)=false:=by rw[wbE];omega
   have han:Hid (zk6 (zay L)):=Classical.not_not.1 fun h=>e0 (HZa.out.2 h)
   replace HEvt:=waV (HEvt.out han.out);have HFi:=waV (zdo g);have HLd0:=waV (fun V (h:RaE W V g w1.heap.size)=>zdM h.f.lies)
   obtain⟨cs,hcs⟩:∃cs,zaU g=cs:=⟨_,rfl⟩;rw[hcs] at HFi HLd0 HEvt;clear e0 hcs HNo
   go_wp2_with (first|(refine zaV rfl _ _ rfl g HFn.out HG.out.f rfl rfl ?_;intro w2 hf2 hr2;have HS:=waV (HMk.out _ w2 hf2 hr2);have f48:=H48.out _ HS.out;clear hf2 hr2)|fail)
   clear f48;refine wp_label ?_;go_wp2_with fail;have c1:World.cell? (w2.alloc (.cells #[.bool false,.bool true] 4)) ⟨w2.heap.size,1,none⟩=some (.bool true):=zaa rfl rfl;have c0:World.cell? (w2.alloc (.cells #[.bool false,.bool true] 4)) ⟨w2.heap.size,0,none⟩=some (.bool false):=zaa rfl rfl;replace HS:=waV (HS.out.below (X:=(w2.alloc (.cells #[.bool false,.bool true] 4))) ((waC _ w2).alloc (waJ _) _));generalize (w2.alloc (.cells #[.bool false,.bool true] 4))=V3 at *;generalize w2.heap.size=ab at *;have lb0:=waR _ _ c0;have lb1:=waR _ _ c1;refine wp_loop_rounds 3 ?_;rw[rounds_succ];have HLf:=waV (HLd0.out _ HS.out)
   go_wp2_with (first|(refine zag (by rfl) 43 _ rfl cs w1.heap.size 0 rfl underlying43 rfl HFi.out HLf.out ?_)|fail)
   refine(HEvt.out false _ HS.out).mono ?_;rintro e w3 ⟨hb3,v,rfl,ho⟩;have HO:=waV (ho.base HS.out.be.size);replace HS:=waV (HS.out.below hb3);replace c0:=((zad hb3).1 _ _ lb0).trans c0;replace c1:=((zad hb3).1 _ _ lb1).trans c1;clear lb0 lb1;have lb0:=waR _ _ c0;have lb1:=waR _ _ c1;obtain⟨S0,n0,d0,S1,n1,d1,S2,n2,d2,S3,n3,d3,S5,n5,d5,S6,n6,d6,S7,n7,d7,hv⟩:=HO.out.eight;generalize (evP (zay L) false).back=kb at hv;subst hv;clear ho hb3 HLf;go_wp2_with fail;have hbX:Below (World.heap w3).size w3 (World.alloc w3 (.cells #[.slice S0 n0 d0,.slice S1 n1 d1,.slice S2 n2 d2,.slice S3 n3 d3,.bool kb,.slice S5 n5 d5,.slice S6 n6 d6,.slice S7 n7 d7] 26)):=(waC _ _).alloc (waJ _) _;have hC:zb9 (World.alloc w3 (.cells #[.slice S0 n0 d0,.slice S1 n1 d1,.slice S2 n2 d2,.slice S3 n3 d3,.bool kb,.slice S5 n5 d5,.slice S6 n6 d6,.slice S7 n7 d7] 26)) (World.heap w3).size #[.slice S0 n0 d0,.slice S1 n1 d1,.slice S2 n2 d2,.slice S3 n3 d3,.bool kb,.slice S5 n5 d5,.slice S6 n6 d6,.slice S7 n7 d7]:=zb9.new _ _;replace c0:=((zad hbX).1 _ _ lb0).trans c0;replace c1:=((zad hbX).1 _ _ lb1).trans c1;replace HS:=waV (HS.out.below hbX);replace HO:=waV (zb0.below HO.out hbX);clear lb0 lb1 hbX;generalize World.alloc w3 (.cells #[.slice S0 n0 d0,.slice S1 n1 d1,.slice S2 n2 d2,.slice S3 n3 d3,.bool kb,.slice S5 n5 d5,.slice S6 n6 d6,.slice S7 n7 d7] 26)=V5 at *;generalize (World.heap w3).size=b8 at *;refine(HMe.out _ _ _ HS.out (zhq _ false) HO.out).mono ?_;rintro e w7 ⟨hb7,bm,rfl,hbm⟩;replace hC:=hC.below hb7;have HLc:=waV hC.ld;replace c0:=((zad hb7).1 _ _ (waR _ _ c0)).trans c0;replace c1:=((zad hb7).1 _ _ (waR _ _ c1)).trans c1;have lb0:=waR _ _ c0;have lb1:=waR _ _ c1;replace HS:=waV (HS.out.below hb7);replace HO:=waV (zb0.below HO.out hb7);clear hb7;cases bm
   rotate_left
   ·have hR:zoJ (zay L) (some (evP (zay L) false)):=.inr (.inl ⟨han.out,hbm.1 rfl,rfl⟩);have HR:=waV hR;clear hbm hR c0 c1 lb0 lb1
    go_wp2_with (first|(refine zag (by rfl) 26 _ rfl #[_,_,_,_,_,_,_,_] b8 0 rfl underlying26 rfl (by kernel_rfl) HLc.out ?_)|(refine za0 rfl _ _ rfl _ HS.out.r rfl rfl rfl (by kernel_rfl) (by simp[Value.oneCell']) ?_;intro V8 hc8 hr8)|fail)
    refine waY (zcl rfl rfl rfl hc8 kQ) rfl ?_;exact⟨hr8.to_below' HS.out.be (waJ _),.inr ⟨hE'.out,.inr ⟨_,_,HR.out,rfl,HO.out.rls HS.out.r hr8,zhq _ _⟩⟩⟩
   ·have HF1:Hid (¬zfw (evP (zay L) false) (zay L)):=fun h=>Bool.noConfusion (hbm.2 h)
    clear hbm HO hC HLc;go_wp2_with fail;rw[rounds_succ];have HLf:=waV (HLd0.out _ HS.out)
    go_wp2_with (first|(refine zag (by rfl) 43 _ rfl cs w1.heap.size 0 rfl underlying43 rfl HFi.out HLf.out ?_)|fail)
    refine(HEvt.out true _ HS.out).mono ?_;rintro e w4 ⟨hb3,v,rfl,ho⟩;have HO:=waV (ho.base HS.out.be.size);replace HS:=waV (HS.out.below hb3);replace c0:=((zad hb3).1 _ _ lb0).trans c0;replace c1:=((zad hb3).1 _ _ lb1).trans c1;clear lb0 lb1;have lb0:=waR _ _ c0;have lb1:=waR _ _ c1;obtain⟨S0,n0,d0,S1,n1,d1,S2,n2,d2,S3,n3,d3,S5,n5,d5,S6,n6,d6,S7,n7,d7,hv⟩:=HO.out.eight;generalize (evP (zay L) true).back=kb at hv;subst hv;clear ho hb3 HLf;go_wp2_with fail;have hbX:Below (World.heap w4).size w4 (World.alloc w4 (.cells #[.slice S0 n0 d0,.slice S1 n1 d1,.slice S2 n2 d2,.slice S3 n3 d3,.bool kb,.slice S5 n5 d5,.slice S6 n6 d6,.slice S7 n7 d7] 26)):=(waC _ _).alloc (waJ _) _;have hC:zb9 (World.alloc w4 (.cells #[.slice S0 n0 d0,.slice S1 n1 d1,.slice S2 n2 d2,.slice S3 n3 d3,.bool kb,.slice S5 n5 d5,.slice S6 n6 d6,.slice S7 n7 d7] 26)) (World.heap w4).size #[.slice S0 n0 d0,.slice S1 n1 d1,.slice S2 n2 d2,.slice S3 n3 d3,.bool kb,.slice S5 n5 d5,.slice S6 n6 d6,.slice S7 n7 d7]:=zb9.new _ _;replace c0:=((zad hbX).1 _ _ lb0).trans c0;replace c1:=((zad hbX).1 _ _ lb1).trans c1;replace HS:=waV (HS.out.below hbX);replace HO:=waV (zb0.below HO.out hbX);clear lb0 lb1 hbX;generalize World.alloc w4 (.cells #[.slice S0 n0 d0,.slice S1 n1 d1,.slice S2 n2 d2,.slice S3 n3 d3,.bool kb,.slice S5 n5 d5,.slice S6 n6 d6,.slice S7 n7 d7] 26)=V5 at *;generalize (World.heap w4).size=b8 at *;refine(HMe.out _ _ _ HS.out (zhq _ true) HO.out).mono ?_;rintro e w7 ⟨hb7,bm,rfl,hbm⟩;replace hC:=hC.below hb7;have HLc:=waV hC.ld;replace c0:=((zad hb7).1 _ _ (waR _ _ c0)).trans c0;replace c1:=((zad hb7).1 _ _ (waR _ _ c1)).trans c1;have lb0:=waR _ _ c0;have lb1:=waR _ _ c1;replace HS:=waV (HS.out.below hb7);replace HO:=waV (zb0.below HO.out hb7);clear hb7;cases bm
    rotate_left
    ·have hR:zoJ (zay L) (some (evP (zay L) true)):=.inr (.inr (.inl ⟨han.out,HF1.out,hbm.1 rfl,rfl⟩));have HR:=waV hR;clear hbm hR c0 c1 lb0 lb1
     go_wp2_with (first|(refine zag (by rfl) 26 _ rfl #[_,_,_,_,_,_,_,_] b8 0 rfl underlying26 rfl (by kernel_rfl) HLc.out ?_)|(refine za0 rfl _ _ rfl _ HS.out.r rfl rfl rfl (by kernel_rfl) (by simp[Value.oneCell']) ?_;intro V8 hc8 hr8)|fail)
     refine waY (zcl rfl rfl rfl hc8 kQ) rfl ?_;exact⟨hr8.to_below' HS.out.be (waJ _),.inr ⟨hE'.out,.inr ⟨_,_,HR.out,rfl,HO.out.rls HS.out.r hr8,zhq _ _⟩⟩⟩
    ·have hR:zoJ (zay L) none:=.inr (.inr (.inr ⟨han.out,HF1.out,fun h=>Bool.noConfusion (hbm.2 h),rfl⟩))
     have HR:=waV hR;clear hbm HO hC HLc hR c0 c1 lb0 lb1;go_wp2_with fail;rw[rounds_succ]
     go_wp2_with (first|(refine za0 rfl _ _ rfl _ HS.out.r rfl rfl rfl (by kernel_rfl) (by kernel_rfl) ?_;intro V8 hc8 hr8)|fail)
     refine waY (zcl rfl rfl rfl hc8 kQ) rfl ?_;exact⟨hr8.to_below' HS.out.be (waJ _),.inr ⟨hE'.out,.inl ⟨HR.out,rfl⟩⟩⟩
end Go.Proofs.YtllcdbgjeidlkaaGreatDoor
