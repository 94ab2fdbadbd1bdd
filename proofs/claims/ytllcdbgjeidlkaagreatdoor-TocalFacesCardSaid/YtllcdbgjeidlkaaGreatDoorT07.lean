/- A part of the proof: WClL -/
import Derived.Test.YtllcdbgjeidlkaaGreatDoorT06
import Derived.Test.YtllcdbgjeidlkaaGreatDoorT02
import Derived.Test.YtllcdbgjeidlkaaGreatDoorT03
import Derived.Test.YtllcdbgjeidlkaaGreatDoorT04
import Derived.Deep.RegionWith
import Derived.Laws.IdiomStrings
import Derived.StillTailTactics
set_option maxHeartbeats 80000000
set_option maxRecDepth 100000
set_option linter.unusedSimpArgs false
set_option linter.unusedVariables false
namespace Go.Proofs.YtllcdbgjeidlkaaGreatDoor
open Go.Proofs.Tryz
open Go.RowKit
structure Cl where
 m:Nat->Int
 or:Bool
 oi:Int
 ob:Bool
 od:Nat->Int
 y:Nat->Int
 u:Int
 s:Int
 a:Int
 f:Int
 t:Int
abbrev clA (c:Cl):Array Value:=#[.int .u64 (c.m 0),.int .u64 (c.m 1),.int .u64 (c.m 2),.int .u64 (c.m 3),.int .u64 (c.m 4),.int .u64 (c.m 5),.int .u64 (c.m 6),.bool c.or,.int .i64 c.oi,.bool c.ob,.int .u64 (c.od 0),.int .u64 (c.od 1),.int .u64 (c.od 2),.int .u64 (c.od 3),.int .u64 (c.od 4),.int .u64 (c.od 5),.int .u64 (c.od 6),.int .u64 (c.od 7),.int .u64 (c.y 0),.int .u64 (c.y 1),.int .u64 (c.y 2),.int .u64 (c.y 3),.int .u64 (c.y 4),.int .u64 (c.y 5),.int .u64 (c.y 6),.int .i64 c.u,.int .i64 c.s,.int .i64 c.a,.int .i64 c.f,.int .i64 c.t]
def fullM (i:Nat):Int:=if i=0 then zas 0 59 else if i=1 then zas 0 59 else if i=2 then zas 0 23 else if i=3 then zas 1 12 else if i=4 then zas 1 31 else if i=5 then zas 1 31 else zas 1 7
def zbn:Cl:={m:=fullM,or:=false,oi:=0,ob:=false,od:=fun _=>0,y:=zcW,u:=0,s:=1,a:=0,f:=0,t:=12622780799}
theorem znM {op:Oper} {a:Act} {K:Act->World->Prop} {Q:Exit->Act->World->Prop} {w W:World} (t:TypeId) (cs:Array Value) {d:TypeDesc} {R:Result Unit}
 (hrun:(Instr.storeAt t (.pointer (some ⟨w.heap.size,0,none⟩)) (.agg cs)).run prog W=R) (hu:prog.underlying t=some d) (hd:d.isRow=true) (hi:(prog.info? t).map (·.size)=some cs.size) (h1:cs.all (·.oneCell')=true)
 (hb:Below w.heap.size w W) (ht:W.there w.heap.size 0 cs.size)
 (h:∀W',Hid ((loadVar t ⟨w.heap.size,0,none⟩).run prog W'=.ok (.agg cs) W')->Below w.heap.size w W'->W'.there w.heap.size 0 cs.size->(∀b o,b≠w.heap.size->W'.cell? ⟨b,o,none⟩=W.cell? ⟨b,o,none⟩)->K (a.put op.dst undef) W'):Oper.upon prog op a K Q (R.andThen fun _ w'=>.ok Next.skip w'):=by
 rw[<-hrun,run_storeAt_mid W w.heap.size 0 t cs ht hi h1];refine h _ ?_ (zba (waJ _) _ _ _ hb) (zhA ht _ _ (fun j hj=>(ht j (by simpa using hj)).1)) (fun b o hne=>World.cell?_setCells_out _ _ _ _ _ (fun e _=>absurd e hne))
 have:=run_loadVar_mid (P:=prog) (W.setCells w.heap.size 0 cs.toList) w.heap.size 0 t cs.toList d (World.rangeAt_setCells_same _ _ _ _ (by simpa using ht)) hu hd (by simpa using hi)
 show _=_;simpa using this
theorem zjV (w:World):Calls prog 63 #[] w (Ret (.agg (clA zbn)) w):=by
 have H1:=waV (fun W=>zbB 0 59 dQ dQ dQ dQ W)
 have H2:=waV (fun W=>zbB 1 31 dQ dQ dQ dQ W)
 have H3:=waV (fun W=>zbB 0 23 dQ dQ dQ dQ W)
 have H4:=waV (fun W=>zbB 1 12 dQ dQ dQ dQ W)
 have H5:=waV (fun W=>zbB 1 7 dQ dQ dQ dQ W)
 have HY:=waV (fun W=>zjU W)
 have HW:=waV (fun W=>zhT W)
 have HE:Hid (clA zbn=#[.int .u64 (zas 0 59),.int .u64 (zas 0 59),.int .u64 (zas 0 23),.int .u64 (zas 1 12),.int .u64 (zas 1 31),.int .u64 (zas 1 31),.int .u64 (zas 1 7),.bool false,.int .i64 0,.bool false,.int .u64 0,.int .u64 0,.int .u64 0,.int .u64 0,.int .u64 0,.int .u64 0,.int .u64 0,.int .u64 0,.int .u64 (zcW 0),.int .u64 (zcW 1),.int .u64 (zcW 2),.int .u64 (zcW 3),.int .u64 (zcW 4),.int .u64 (zcW 5),.int .u64 (zcW 6),.int .i64 0,.int .i64 1,.int .i64 0,.int .i64 0,.int .i64 12622780799]):=rfl;rw[HE.out];clear HE;unfold wdV at HY;generalize zas 0 59=p1 at *;generalize zas 1 31=p2 at *;generalize zas 0 23=p3 at *;generalize zas 1 12=p4 at *;generalize zas 1 7=p5 at *;generalize zcW=y at *;have hB:∀W,(Instr.build 60 #[(0,.int .u64 p1),(1,.int .u64 p1),(2,.int .u64 p3),(3,.int .u64 p4),(4,.int .u64 p2),(5,.int .u64 p2),(6,.int .u64 p5),(9,.agg #[.int .u64 (y 0),.int .u64 (y 1),.int .u64 (y 2),.int .u64 (y 3),.int .u64 (y 4),.int .u64 (y 5),.int .u64 (y 6)]),(11,.int .i64 1),(13,.int .i64 0),(14,.int .i64 12622780799)]).run prog W=.ok (.agg #[.int .u64 p1,.int .u64 p1,.int .u64 p3,.int .u64 p4,.int .u64 p2,.int .u64 p2,.int .u64 p5,.bool false,.int .i64 0,.bool false,.int .u64 0,.int .u64 0,.int .u64 0,.int .u64 0,.int .u64 0,.int .u64 0,.int .u64 0,.int .u64 0,.int .u64 (y 0),.int .u64 (y 1),.int .u64 (y 2),.int .u64 (y 3),.int .u64 (y 4),.int .u64 (y 5),.int .u64 (y 6),.int .i64 0,.int .i64 1,.int .i64 0,.int .i64 0,.int .i64 12622780799]) W:=fun W=>run_build W _ _ _ kQ
 go_enter func63,ntmps63;go_wp2_with fail;refine(H1.out _).mono ?_;rintro e w1 ⟨rfl,rfl⟩;go_wp2_with fail;refine(H2.out _).mono ?_;rintro e w1 ⟨rfl,rfl⟩;go_wp2_with fail;have hT0:=zcK w #[.int .u64 0,.int .u64 0,.int .u64 0,.int .u64 0,.int .u64 0,.int .u64 0,.int .u64 0,.bool false,.int .i64 0,.bool false,.int .u64 0,.int .u64 0,.int .u64 0,.int .u64 0,.int .u64 0,.int .u64 0,.int .u64 0,.int .u64 0,.int .u64 0,.int .u64 0,.int .u64 0,.int .u64 0,.int .u64 0,.int .u64 0,.int .u64 0,.int .i64 0,.int .i64 0,.int .i64 0,.int .i64 0,.int .i64 0] 60;generalize hW1:World.alloc w _=W1 at *;have hb1:Below w.heap.size w W1:=by rw[<-hW1];exact(waC _ _).alloc (waJ _) _
 have hz1:w.heap.size<W1.heap.size:=by rw[<-hW1];simp
 clear hW1;refine(HW.out _).mono ?_;rintro e w1 ⟨rfl,hb2⟩;have HT:=waV (zaK hT0 hz1 hb2);have hbw:=zaf hb1 hb2 hb1.size;have hz2:w.heap.size<w1.heap.size:=waD hz1 hb2.size;clear hT0 hb1 hb2 hz1 H1 H2 HW;go_wp2_with fail;generalize hW1:World.alloc w1 _=W2;have s0:W2.cell? ⟨w1.heap.size,0,none⟩=some (.int .i64 0):=by rw[<-hW1];exact zaa rfl rfl
 have s1:W2.cell? ⟨w1.heap.size,1,none⟩=some (.int .i64 12622780799):=by rw[<-hW1];exact zaa rfl rfl
 have hb1:Below w1.heap.size w1 W2:=by rw[<-hW1];exact(waC _ _).alloc (waJ _) _
 have hq:w.heap.size<w1.heap.size:=hz2;have hS0:Below w.heap.size w W2/\W2.there w.heap.size 0 30/\W2.cell? ⟨w1.heap.size,0,none⟩=some (.int .i64 0)/\W2.cell? ⟨w1.heap.size,1,none⟩=some (.int .i64 12622780799):=
  ⟨zaf hbw hb1 hbw.size,zaK HT.out hz2 hb1,s0,s1⟩
 have HS:Hid (∀w' w'',(Below w.heap.size w w'/\w'.there w.heap.size 0 30/\w'.cell? ⟨w1.heap.size,0,none⟩=some (.int .i64 0)/\w'.cell? ⟨w1.heap.size,1,none⟩=some (.int .i64 12622780799))->Below w'.heap.size w' w''->(Below w.heap.size w w''/\w''.there w.heap.size 0 30/\w''.cell? ⟨w1.heap.size,0,none⟩=some (.int .i64 0)/\w''.cell? ⟨w1.heap.size,1,none⟩=some (.int .i64 12622780799))):=fun w' w'' h hb=>
  ⟨zaf h.1 hb h.1.size,zaK h.2.1 (waR _ ⟨w.heap.size,0,none⟩ (Option.eq_some_of_isSome (by simpa using (h.2.1 0 dQ).1))) hb,(⟨w'',hb⟩:Ext w').cell h.2.2.1,(⟨w'',hb⟩:Ext w').cell h.2.2.2⟩
 have HS0:=waV hS0;clear hW1 s0 s1 hb1 HT hbw hz2 hS0
 go_region_held3 (fun w'=>Below w.heap.size w w'/\w'.there w.heap.size 0 30/\w'.cell? ⟨w1.heap.size,0,none⟩=some (.int .i64 0)/\w'.cell? ⟨w1.heap.size,1,none⟩=some (.int .i64 12622780799))
  (first|exact HS0.out|(go_split_ands;exact HS.out _ _ ⟨by assumption,by assumption,by assumption,by assumption⟩ hb1)|(go_split_ands;exact⟨by assumption,by assumption,by assumption,by assumption⟩)|(go_split_ands;exact HS.out _ _ HS0.out (Below.drew (waC _ _)))|(go_split_ands;exact⟨hbE,htE,(hcE _ _ (by omega)).trans (by assumption),(hcE _ _ (by omega)).trans (by assumption)⟩))
  (first|(go_at_call 121;(with_reducible refine(H3.out _).mono ?_);rintro e w3 ⟨rfl,rfl⟩)|(go_at_call 121;(with_reducible refine(H4.out _).mono ?_);rintro e w3 ⟨rfl,rfl⟩)|(go_at_call 121;(with_reducible refine(H5.out _).mono ?_);rintro e w3 ⟨rfl,rfl⟩)|(go_at_call 123;(with_reducible refine(HY.out _).mono ?_);rintro e w3 ⟨rfl,hb1⟩)|(refine znM (w:=w) (W:=w3) 60 #[.int .u64 p1,.int .u64 p1,.int .u64 p3,.int .u64 p4,.int .u64 p2,.int .u64 p2,.int .u64 p5,.bool false,.int .i64 0,.bool false,.int .u64 0,.int .u64 0,.int .u64 0,.int .u64 0,.int .u64 0,.int .u64 0,.int .u64 0,.int .u64 0,.int .u64 (y 0),.int .u64 (y 1),.int .u64 (y 2),.int .u64 (y 3),.int .u64 (y 4),.int .u64 (y 5),.int .u64 (y 6),.int .i64 0,.int .i64 1,.int .i64 0,.int .i64 0,.int .i64 12622780799] ?_ underlying60 rfl (by kernel_rfl) (by kernel_rfl) ?_ ?_ ?_;(focus go_simp);(focus (go_split_ands;assumption));(focus (go_split_ands;assumption));intro W' hLd hbE htE hcE))
 simp only[Exit.then]
 go_wp2
 (try simp only[Exit.inBlock,Exit.then])
 refine waY (v:=.agg #[.int .u64 p1,.int .u64 p1,.int .u64 p3,.int .u64 p4,.int .u64 p2,.int .u64 p2,.int .u64 p5,.bool false,.int .i64 0,.bool false,.int .u64 0,.int .u64 0,.int .u64 0,.int .u64 0,.int .u64 0,.int .u64 0,.int .u64 0,.int .u64 0,.int .u64 (y 0),.int .u64 (y 1),.int .u64 (y 2),.int .u64 (y 3),.int .u64 (y 4),.int .u64 (y 5),.int .u64 (y 6),.int .i64 0,.int .i64 1,.int .i64 0,.int .i64 0,.int .i64 12622780799]) ?_ rfl ⟨rfl,hbE⟩;rw[zah rfl];exact hLd.out
theorem zjW (c:Cl) (w:World):Calls prog 133 #[.agg (clA c)] w (Ret (.agg #[.int .i64 (zaw c.f c.t),.int .i64 (zao c.f c.t)]) w):=by
 have HH:=waV (fun W=>zd3 c.f c.t W)
 generalize zaw c.f c.t=F at *;generalize zao c.f c.t=U at *;unfold clA;go_enter func133,ntmps133;go_wp2_with fail;have hT0:=zcK (w.alloc (.cells #[.int .u64 (c.m 0),.int .u64 (c.m 1),.int .u64 (c.m 2),.int .u64 (c.m 3),.int .u64 (c.m 4),.int .u64 (c.m 5),.int .u64 (c.m 6),.bool c.or,.int .i64 c.oi,.bool c.ob,.int .u64 (c.od 0),.int .u64 (c.od 1),.int .u64 (c.od 2),.int .u64 (c.od 3),.int .u64 (c.od 4),.int .u64 (c.od 5),.int .u64 (c.od 6),.int .u64 (c.od 7),.int .u64 (c.y 0),.int .u64 (c.y 1),.int .u64 (c.y 2),.int .u64 (c.y 3),.int .u64 (c.y 4),.int .u64 (c.y 5),.int .u64 (c.y 6),.int .i64 c.u,.int .i64 c.s,.int .i64 c.a,.int .i64 c.f,.int .i64 c.t] 60)) #[.int .i64 0,.int .i64 0] 129;generalize hV:World.alloc w _=V at *;have hz:V.heap.size=w.heap.size+1:=by rw[<-hV];simp
 have hbV:Below w.heap.size w V:=by rw[<-hV];exact(waC _ _).alloc (waJ _) _
 clear hV;have hb1:Below w.heap.size w (V.alloc (.cells #[.int .i64 0,.int .i64 0] 129)):=hbV.alloc oQ _;rw[hz] at hT0;have hzz:w.heap.size+1<(V.alloc (.cells #[.int .i64 0,.int .i64 0] 129)).heap.size:=by simp;omega
 generalize V.alloc (.cells #[.int .i64 0,.int .i64 0] 129)=W2 at *;refine(HH.out _).mono ?_;rintro e w1 ⟨rfl,hb2⟩;have HT:=waV (zaK hT0 hzz hb2);have hbw:=zaf hb1 hb2 hb1.size;clear hT0 hb1 hb2 hzz HH hbV hz
 go_wp2_with (refine zcL (w:=w) rfl 129 _ _ rfl #[.int .i64 F,.int .i64 U] (w.heap.size+1) oQ rfl rfl underlying129 rfl kQ kQ hbw HT.out ?_;intro W' hLd hbE)
 (try simp only[Exit.inBlock,Exit.then])
 refine waY (v:=.agg #[.int .i64 F,.int .i64 U]) ?_ rfl ⟨rfl,hbE⟩;rw[zah rfl];exact hLd.out
def zhZ (c:Cl) (n:Int):Bool:=
 decide (c.oi=0)||zbA (c.od (wdD n).toNat) (if c.oi=1/\c.ob=true then shN n (yD n) (mD n) (dD n) 7 else if c.oi=1 then shN n (yD n) (mD n) (dD n) 6 else if c.ob=true then shN n (yD n) (mD n) (dD n) 9 else shN n (yD n) (mD n) (dD n) 8)
theorem zeH (n:Int):1<=wdD n/\wdD n<=7:=by unfold wdD;omega
abbrev zdI (c:Cl):Array Value:=#[.int .i64 c.oi,.bool c.ob,.int .u64 (c.od 0),.int .u64 (c.od 1),.int .u64 (c.od 2),.int .u64 (c.od 3),.int .u64 (c.od 4),.int .u64 (c.od 5),.int .u64 (c.od 6),.int .u64 (c.od 7)]
theorem zsu (c:Cl) (n:Int) (h0:c.oi=0) (w:World):Calls prog 191 #[.agg (zdI c),shV n] w (Ret (.bool (zhZ c n)) w):=by
 have HR:Hid (zhZ c n=true):=by show _=_;unfold zhZ;rw[waP h0];rfl
 rw[HR.out];have hV:∃g:Nat->Int,shV n=.agg #[.int .i64 (g 0),.int .i64 (g 1),.int .i64 (g 2),.int .i64 (g 3),.int .i64 (g 4),.int .i64 (g 5),.int .i64 (g 6),.int .i64 (g 7),.int .i64 (g 8),.int .i64 (g 9)]:=⟨_,rfl⟩;obtain⟨g,hg⟩:=hV;rw[hg];have h0':(c.oi==0)=true:=by simpa using h0
 unfold zdI;clear HR hg h0;go_enter func191,ntmps191;go_wp2;go_ret;exact⟨rfl,by exact zaE⟩
theorem zw9 (c:Cl) (n:Int) (h1:c.oi=1) (hb:c.ob=true) (hd:∀k,k<8->M64 (c.od k)) (w:World):Calls prog 191 #[.agg (zdI c),shV n] w (Ret (.bool (zhZ c n)) w):=by
 have hw:=zeH n;obtain⟨k,hk⟩:=wbD (show 0<=wdD n by omega)
 have hdk:=hd k oQ;have HH:=waV (fun x W=>zcp (c.od k) x hdk.1 hdk.2 W)
 have HR:Hid (zhZ c n=zbA (c.od k) (shN n (yD n) (mD n) (dD n) 7)):=by
  show _=_;unfold zhZ;rw[waO (by omega),hk,if_pos ⟨h1,hb⟩]
  rfl
 rw[HR.out];have HV:Hid (shN n (yD n) (mD n) (dD n) 5=(k:Int)):=hk;unfold shV;rw[HV.out];generalize shN n (yD n) (mD n) (dD n)=g at *;have h0':(c.oi==0)=false:=by rw[h1];rfl
 have h1':(c.oi==1)=true:=by rw[h1];rfl
 have hkk:k=1\/k=2\/k=3\/k=4\/k=5\/k=6\/k=7:=by omega
 clear HR HV hk hw hd hdk;unfold zdI;rw[hb];clear hb;generalize c.oi=oi at *;clear h1;rcases hkk with rfl|rfl|rfl|rfl|rfl|rfl|rfl
 all_goals (
  go_enter func191,ntmps191;go_wp2_with fail;refine(HH.out _ _).mono ?_;rintro e w1 ⟨rfl,rfl⟩;go_wp2;go_ret;exact⟨rfl,by exact zaE⟩)
theorem nth_m (c:Cl) (n:Int) (h1:c.oi=1) (hb:c.ob=false) (hd:∀k,k<8->M64 (c.od k)) (w:World):Calls prog 191 #[.agg (zdI c),shV n] w (Ret (.bool (zhZ c n)) w):=by
 have hw:=zeH n;obtain⟨k,hk⟩:=wbD (show 0<=wdD n by omega)
 have hdk:=hd k oQ;have HH:=waV (fun x W=>zcp (c.od k) x hdk.1 hdk.2 W)
 have HR:Hid (zhZ c n=zbA (c.od k) (shN n (yD n) (mD n) (dD n) 6)):=by
  show _=_;unfold zhZ;rw[waO (by omega),hk,if_neg (by rw[hb];simp),if_pos h1]
  rfl
 rw[HR.out];have HV:Hid (shN n (yD n) (mD n) (dD n) 5=(k:Int)):=hk;unfold shV;rw[HV.out];generalize shN n (yD n) (mD n) (dD n)=g at *;have h0':(c.oi==0)=false:=by rw[h1];rfl
 have h1':(c.oi==1)=true:=by rw[h1];rfl
 have hkk:k=1\/k=2\/k=3\/k=4\/k=5\/k=6\/k=7:=by omega
 clear HR HV hk hw hd hdk;unfold zdI;rw[hb];clear hb;generalize c.oi=oi at *;clear h1;rcases hkk with rfl|rfl|rfl|rfl|rfl|rfl|rfl
 all_goals (
  go_enter func191,ntmps191;go_wp2_with fail;refine(HH.out _ _).mono ?_;rintro e w1 ⟨rfl,rfl⟩;go_wp2;go_ret;exact⟨rfl,by exact zaE⟩)
theorem zxa (c:Cl) (n:Int) (h0:c.oi≠0) (h1:c.oi≠1) (hb:c.ob=true) (hd:∀k,k<8->M64 (c.od k)) (w:World):Calls prog 191 #[.agg (zdI c),shV n] w (Ret (.bool (zhZ c n)) w):=by
 have hw:=zeH n;obtain⟨k,hk⟩:=wbD (show 0<=wdD n by omega)
 have hdk:=hd k oQ;have HH:=waV (fun x W=>zcp (c.od k) x hdk.1 hdk.2 W)
 have HR:Hid (zhZ c n=zbA (c.od k) (shN n (yD n) (mD n) (dD n) 9)):=by
  show _=_;unfold zhZ;rw[waO (by omega),hk,if_neg (fun h=>h1 h.1),if_neg h1,if_pos hb]
  rfl
 rw[HR.out];have HV:Hid (shN n (yD n) (mD n) (dD n) 5=(k:Int)):=hk;unfold shV;rw[HV.out];generalize shN n (yD n) (mD n) (dD n)=g at *;have h0':(c.oi==0)=false:=by simpa using h0
 have h1':(c.oi==1)=false:=by simpa using h1
 clear h0;have hkk:k=1\/k=2\/k=3\/k=4\/k=5\/k=6\/k=7:=by omega
 clear HR HV hk hw hd hdk;unfold zdI;rw[hb];clear hb;generalize c.oi=oi at *;clear h1;rcases hkk with rfl|rfl|rfl|rfl|rfl|rfl|rfl
 all_goals (
  go_enter func191,ntmps191;go_wp2_with fail;refine(HH.out _ _).mono ?_;rintro e w1 ⟨rfl,rfl⟩;go_wp2;go_ret;exact⟨rfl,by exact zaE⟩)
theorem nth_y (c:Cl) (n:Int) (h0:c.oi≠0) (h1:c.oi≠1) (hb:c.ob=false) (hd:∀k,k<8->M64 (c.od k)) (w:World):Calls prog 191 #[.agg (zdI c),shV n] w (Ret (.bool (zhZ c n)) w):=by
 have hw:=zeH n;obtain⟨k,hk⟩:=wbD (show 0<=wdD n by omega)
 have hdk:=hd k oQ;have HH:=waV (fun x W=>zcp (c.od k) x hdk.1 hdk.2 W)
 have HR:Hid (zhZ c n=zbA (c.od k) (shN n (yD n) (mD n) (dD n) 8)):=by
  show _=_;unfold zhZ;rw[waO (by omega),hk,if_neg (fun h=>h1 h.1),if_neg h1,if_neg (by rw[hb];simp)]
  rfl
 rw[HR.out];have HV:Hid (shN n (yD n) (mD n) (dD n) 5=(k:Int)):=hk;unfold shV;rw[HV.out];generalize shN n (yD n) (mD n) (dD n)=g at *;have h0':(c.oi==0)=false:=by simpa using h0
 have h1':(c.oi==1)=false:=by simpa using h1
 clear h0;have hkk:k=1\/k=2\/k=3\/k=4\/k=5\/k=6\/k=7:=by omega
 clear HR HV hk hw hd hdk;unfold zdI;rw[hb];clear hb;generalize c.oi=oi at *;clear h1;rcases hkk with rfl|rfl|rfl|rfl|rfl|rfl|rfl
 all_goals (
  go_enter func191,ntmps191;go_wp2_with fail;refine(HH.out _ _).mono ?_;rintro e w1 ⟨rfl,rfl⟩;go_wp2;go_ret;exact⟨rfl,by exact zaE⟩)
theorem zvp (c:Cl) (n:Int) (hd:∀k,k<8->M64 (c.od k)) (w:World):Calls prog 191 #[.agg (zdI c),shV n] w (Ret (.bool (zhZ c n)) w):=by
 by_cases h0:c.oi=0
 ·exact zsu c n h0 w
 ·by_cases h1:c.oi=1
  ·cases hb:c.ob with
   |true=>exact zw9 c n h1 hb hd w
   |false=>exact nth_m c n h1 hb hd w
  ·cases hb:c.ob with
   |true=>exact zxa c n h0 h1 hb hd w
   |false=>exact nth_y c n h0 h1 hb hd w
def prEnc (p:Int×Int):List Value:=[.int .u64 p.1,.int .u64 p.2]
abbrev zle (w:World) (A:Option Addr) (n:Nat) (l:List (Int×Int)):Prop:=Rd 2 prEnc w A n l
theorem zle.at_ {w:World} {A:Option Addr} {n:Nat} {l:List (Int×Int)} (h:zle w A n l) {i:Nat} (hi:i<n):
 ∃b o p,A=some ⟨b,o,none⟩/\b<w.heap.size/\l[i]?=some p/\w.cell? ⟨b,o+i * 2,none⟩=some (.int .u64 p.1)/\w.cell? ⟨b,o+i * 2+1,none⟩=some (.int .u64 p.2):=by
 obtain⟨b,o,hA,hb,hc⟩:=h.2 oQ;have hx:l[i]?=some (l[i]'(by have:=h.1;omega)):=waE _
 exact⟨b,o,_,hA,hb,hx,hc i _ hx 0 _ rfl,hc i _ hx 1 _ rfl⟩
def zaz (p:Int×Int):Bool:=bits .andNot .u64 p.1 p.2==0
theorem zlf (A:Option Addr) (n c:Nat) (l:List (Int×Int)) (w:World) (hA:zle w A n l) (hn:n<=1000000):Calls prog 114 #[.slice A n c] w (Ret (.bool (l.all zaz)) w):=by
 have HL:Hid (l.length=n):=hA.1;have HA:=waV hA;clear hA;go_enter func114,ntmps114;go_wp2
 go_loopw [7] (fun i wr=>∃k:Nat,k<=n/\i=.int .i64 k/\Hid (∀j p,j<k->l[j]?=some p->zaz p=true)/\Below w.heap.size w wr) (fun i _=>n - (intOf i).toNat)
 case atStart=>exact⟨0,waK _,rfl,fun j _ h=>absurd h (Nat.not_lt_zero _),waC _ _⟩
 case round=>
  obtain⟨k,hk,rfl,H,hb⟩:=hrel;have hsz:=hb.size
  by_cases hlt:k<n
  ·obtain⟨b,o,p,rfl,hbl,hx,c0,c1⟩:=zle.at_ (HA.out.below hb (waJ _)) hlt
   have hlt':(k:Int)<(n:Int):=by omega
   have Hx:=waV hx;clear hx;have Hm:Hid (zaz p=(bits .andNot .u64 p.1 p.2==0)):=rfl;cases hm:zaz p with
   |true=>
    have hq:bits .andNot .u64 p.1 p.2=0:=by rw[Hm.out] at hm;simpa using hm
    have HM:=waV hm;have hne:(bits .andNot .u64 p.1 p.2 !=0)=false:=by rw[hq];rfl
    clear hm Hm;go_wp2;go_roundw
    case rel=>
     refine⟨k+1,by omega,by go_num,?_,by exact zaE⟩
     intro j q hj hq';rcases Nat.lt_or_ge j k with h|h
     ·exact H.out j q h hq'
     ·obtain rfl:j=k:=by omega
      rw[Hx.out] at hq';cases hq';exact HM.out
    case measure=>simp [intOf];omega
   |false=>
    have hq:¬bits .andNot .u64 p.1 p.2=0:=by rw[Hm.out] at hm;simpa using hm
    have HF:Hid (l.all zaz=false):=by
     show _=_;rw[List.all_eq_false];exact⟨p,List.mem_of_getElem? Hx.out,by rw[hm];simp⟩
    have hne:(bits .andNot .u64 p.1 p.2 !=0)=true:=by simpa using hq
    clear hm Hm hq;go_wp2;go_ret;exact⟨zab HF.out.symm,by exact zaE⟩
  ·obtain rfl:k=n:=by omega
   have HT:Hid (l.all zaz=true):=by
    show _=_;rw[List.all_eq_true];intro p hp;obtain⟨j,hj⟩:=List.getElem?_of_mem hp;exact H.out j p (by have:=(waI.1 hj).1;have:=HL.out;omega) hj
   go_wp2;go_ret;exact⟨zab HT.out.symm,hb⟩
def zvq (c:Cl):Bool:=decide (c.oi=0)&&(decide (c.ob=false)&&(decide (c.od 0=0)&&(decide (c.od 1=0)&&(decide (c.od 2=0)&&(decide (c.od 3=0)&&(decide (c.od 4=0)&&(decide (c.od 5=0)&&(decide (c.od 6=0)&&decide (c.od 7=0)))))))))
theorem zvr (c:Cl) (w:World):(binOp .eql 58 (.agg (zdI c)) (.agg #[.int .i64 0,.bool false,.int .u64 0,.int .u64 0,.int .u64 0,.int .u64 0,.int .u64 0,.int .u64 0,.int .u64 0,.int .u64 0])).run prog w=.ok (.bool (zvq c)) w:=by
 obtain⟨i,hi⟩:=info_of_underlying underlying39;have hc:prog.cellsOf 39=1:=by kernel_rfl
 have hr:List.range 8=[0,1,2,3,4,5,6,7]:=rfl;have hA:∀(d:Nat) (xs ys:Array Value) (w:World),(Op.equalIn (d+1) 41 (.agg xs) (.agg ys)).run prog w=(Op.eqItems d 39 1 xs ys [0,1,2,3,4,5,6,7]).run prog w:=fun d xs ys w=>by
  rw[run_equalIn_array w d xs ys underlying41 hi,hc,hr]
 rw[run_eql_struct];unfold zvq zdI
 by_cases h0:c.oi=0
 case neg=>simp [go_sem,hA,Op.eqItems,h0]
 by_cases h1:c.ob=false
 case neg=>simp [go_sem,hA,Op.eqItems,h0,h1]
 by_cases d0:c.od 0=0
 case neg=>simp [go_sem,hA,Op.eqItems,h0,h1,d0]
 by_cases d1:c.od 1=0
 case neg=>simp [go_sem,hA,Op.eqItems,h0,h1,d0,d1]
 by_cases d2:c.od 2=0
 case neg=>simp [go_sem,hA,Op.eqItems,h0,h1,d0,d1,d2]
 by_cases d3:c.od 3=0
 case neg=>simp [go_sem,hA,Op.eqItems,h0,h1,d0,d1,d2,d3]
 by_cases d4:c.od 4=0
 case neg=>simp [go_sem,hA,Op.eqItems,h0,h1,d0,d1,d2,d3,d4]
 by_cases d5:c.od 5=0
 case neg=>simp [go_sem,hA,Op.eqItems,h0,h1,d0,d1,d2,d3,d4,d5]
 by_cases d6:c.od 6=0
 case neg=>simp [go_sem,hA,Op.eqItems,h0,h1,d0,d1,d2,d3,d4,d5,d6]
 by_cases d7:c.od 7=0
 case neg=>simp [go_sem,hA,Op.eqItems,h0,h1,d0,d1,d2,d3,d4,d5,d6,d7]
 simp[go_sem,hA,Op.eqItems,h0,h1,d0,d1,d2,d3,d4,d5,d6,d7]
def zvs (i:Int):Int:=if i=2 then 53 else 5
def zh0 (c:Cl):Bool:=if c.oi=0 then zvq c else if c.oi=1\/c.oi=2 then decide (c.od 0=0)&&(List.range 8).all (fun k=>zaz (c.od k,zas 1 (zvs c.oi))) else false
theorem zxb (f:Nat->Int) (k:Nat) (hk:k<8) (W:World):(Instr.index 41 (.agg #[.int .u64 (f 0),.int .u64 (f 1),.int .u64 (f 2),.int .u64 (f 3),.int .u64 (f 4),.int .u64 (f 5),.int .u64 (f 6),.int .u64 (f 7)]) (.int .i64 (k:Int))).run prog W=.ok (.int .u64 (f k)) W:=by
 obtain rfl|rfl|rfl|rfl|rfl|rfl|rfl|rfl:k=0\/k=1\/k=2\/k=3\/k=4\/k=5\/k=6\/k=7:=by omega
 all_goals kernel_rfl
theorem zsv (c:Cl) (h:c.oi=0) (w:World):Calls prog 115 #[.agg (zdI c)] w (Ret (.bool (zh0 c)) w):=by
 have HR:Hid (zh0 c=zvq c):=if_pos h;rw[HR.out];have hq:=fun W=>zvr c W
 generalize zvq c=q at *;have h0':(c.oi==0)=true:=by simpa using h
 unfold zdI at *;clear HR h;go_enter func115,ntmps115;go_wp2;go_ret;exact⟨rfl,by exact zaE⟩
theorem zvt (c:Cl) (h0:c.oi≠0) (h1:c.oi≠1) (h2:c.oi≠2) (w:World):Calls prog 115 #[.agg (zdI c)] w (Ret (.bool (zh0 c)) w):=by
 have HR:Hid (zh0 c=false):=by show _=_;unfold zh0;rw[if_neg h0,if_neg (by omega)]
 rw[HR.out];have h0':(c.oi==0)=false:=by simpa using h0
 have h1':(c.oi==1)=false:=by simpa using h1
 have h2':(c.oi==2)=false:=by simpa using h2
 unfold zdI at *;clear HR h0 h1 h2;go_enter func115,ntmps115;go_wp2;go_ret;exact⟨rfl,by exact zaE⟩
theorem ord_m (c:Cl) (h1:c.oi=1) (w:World):Calls prog 115 #[.agg (zdI c)] w (Ret (.bool (zh0 c)) w):=by
 have HR:Hid (zh0 c=(decide (c.od 0=0)&&(List.range 8).all (fun k=>zaz (c.od k,zas 1 5)))):=by
  show _=_;unfold zh0 zvs;rw[if_neg (by omega),if_pos (.inl h1),h1]
  rfl
 rw[HR.out];have HS:=waV (fun W=>zbB 1 5 dQ dQ dQ dQ W)
 generalize zas 1 5=S at *;have h0':(c.oi==0)=false:=by rw[h1];rfl
 have h1':(c.oi==1)=true:=by rw[h1];rfl
 have h2':(c.oi==2)=false:=by rw[h1];rfl
 unfold zdI at *;clear HR h1;generalize c.oi=oi at *
 by_cases hz:c.od 0=0
 ·rw[waP hz,Bool.true_and];have hz':(c.od 0 !=0)=false:=by rw[hz];rfl
  clear hz;go_enter func115,ntmps115;go_wp2_with fail
  go_loopw [23] (fun i wr=>∃k:Nat,k<=8/\i=.int .i64 k/\Hid (∀j,j<k->zaz (c.od j,S)=true)/\Below w.heap.size w wr) (fun i _=>8 - (intOf i).toNat)
  case atStart=>exact⟨0,by omega,rfl,fun j h=>absurd h (Nat.not_lt_zero _),by exact zaE⟩
  case round=>
   obtain⟨k,hk,rfl,H,hb⟩:=hrel;have hsz:=hb.size
   by_cases h8:k<8
   ·have h8':(k:Int)<8:=by omega
    have hk0:¬(k:Int)<0:=by omega
    have hix:∀W,(Instr.index 41 (.agg #[.int .u64 (c.od 0),.int .u64 (c.od 1),.int .u64 (c.od 2),.int .u64 (c.od 3),.int .u64 (c.od 4),.int .u64 (c.od 5),.int .u64 (c.od 6),.int .u64 (c.od 7)]) (.int .i64 (k:Int))).run prog W=.ok (.int .u64 (c.od k)) W:=fun W=>zxb c.od k h8 W
    have Hm:Hid (zaz (c.od k,S)=(bits .andNot .u64 (c.od k) S==0)):=rfl;cases hm:zaz (c.od k,S) with
    |true=>
     have hq:bits .andNot .u64 (c.od k) S=0:=by rw[Hm.out] at hm;simpa using hm
     have HM:=waV hm;have hne:(bits .andNot .u64 (c.od k) S !=0)=false:=by rw[hq];rfl
     clear hm Hm hq;go_wp2_with fail;refine(HS.out _).mono ?_;rintro e w2 ⟨rfl,rfl⟩;go_wp2;go_roundw
     case rel=>
      refine⟨k+1,by omega,by go_num,?_,hb⟩
      intro j hj;rcases Nat.lt_or_ge j k with h|h
      ·exact H.out j h
      ·obtain rfl:j=k:=by omega
       exact HM.out
     case measure=>simp [intOf];omega
    |false=>
     have hq:¬bits .andNot .u64 (c.od k) S=0:=by rw[Hm.out] at hm;simpa using hm
     have HF:Hid ((List.range 8).all (fun k=>zaz (c.od k,S))=false):=by
      show _=_;rw[List.all_eq_false];exact⟨k,wbG.2 h8,by rw[hm];simp⟩
     have hne:(bits .andNot .u64 (c.od k) S !=0)=true:=by simpa using hq
     clear hm Hm hq;go_wp2_with fail;refine(HS.out _).mono ?_;rintro e w2 ⟨rfl,rfl⟩;go_wp2;go_ret;exact⟨zab HF.out.symm,hb⟩
   ·obtain rfl:k=8:=by omega
    have HT:Hid ((List.range 8).all (fun k=>zaz (c.od k,S))=true):=by
     show _=_;rw[List.all_eq_true];intro j hj;exact H.out j (wbG.1 hj)
    go_wp2;go_ret;exact⟨zab HT.out.symm,hb⟩
 ·rw[waO hz,Bool.false_and];have hz':(c.od 0 !=0)=true:=by simpa using hz
  clear hz HS;go_enter func115,ntmps115;go_wp2;go_ret;exact⟨rfl,by exact zaE⟩
theorem ord_y (c:Cl) (h1:c.oi=2) (w:World):Calls prog 115 #[.agg (zdI c)] w (Ret (.bool (zh0 c)) w):=by
 have HR:Hid (zh0 c=(decide (c.od 0=0)&&(List.range 8).all (fun k=>zaz (c.od k,zas 1 53)))):=by
  show _=_;unfold zh0 zvs;rw[if_neg (by omega),if_pos (.inr h1),h1]
  rfl
 rw[HR.out];have HS:=waV (fun W=>zbB 1 53 dQ dQ dQ dQ W)
 generalize zas 1 53=S at *;have h0':(c.oi==0)=false:=by rw[h1];rfl
 have h1':(c.oi==1)=false:=by rw[h1];rfl
 have h2':(c.oi==2)=true:=by rw[h1];rfl
 unfold zdI at *;clear HR h1;generalize c.oi=oi at *
 by_cases hz:c.od 0=0
 ·rw[waP hz,Bool.true_and];have hz':(c.od 0 !=0)=false:=by rw[hz];rfl
  clear hz;go_enter func115,ntmps115;go_wp2_with fail
  go_loopw [23] (fun i wr=>∃k:Nat,k<=8/\i=.int .i64 k/\Hid (∀j,j<k->zaz (c.od j,S)=true)/\Below w.heap.size w wr) (fun i _=>8 - (intOf i).toNat)
  case atStart=>exact⟨0,by omega,rfl,fun j h=>absurd h (Nat.not_lt_zero _),by exact zaE⟩
  case round=>
   obtain⟨k,hk,rfl,H,hb⟩:=hrel;have hsz:=hb.size
   by_cases h8:k<8
   ·have h8':(k:Int)<8:=by omega
    have hk0:¬(k:Int)<0:=by omega
    have hix:∀W,(Instr.index 41 (.agg #[.int .u64 (c.od 0),.int .u64 (c.od 1),.int .u64 (c.od 2),.int .u64 (c.od 3),.int .u64 (c.od 4),.int .u64 (c.od 5),.int .u64 (c.od 6),.int .u64 (c.od 7)]) (.int .i64 (k:Int))).run prog W=.ok (.int .u64 (c.od k)) W:=fun W=>zxb c.od k h8 W
    have Hm:Hid (zaz (c.od k,S)=(bits .andNot .u64 (c.od k) S==0)):=rfl;cases hm:zaz (c.od k,S) with
    |true=>
     have hq:bits .andNot .u64 (c.od k) S=0:=by rw[Hm.out] at hm;simpa using hm
     have HM:=waV hm;have hne:(bits .andNot .u64 (c.od k) S !=0)=false:=by rw[hq];rfl
     clear hm Hm hq;go_wp2_with fail;refine(HS.out _).mono ?_;rintro e w2 ⟨rfl,rfl⟩;go_wp2;go_roundw
     case rel=>
      refine⟨k+1,by omega,by go_num,?_,hb⟩
      intro j hj;rcases Nat.lt_or_ge j k with h|h
      ·exact H.out j h
      ·obtain rfl:j=k:=by omega
       exact HM.out
     case measure=>simp [intOf];omega
    |false=>
     have hq:¬bits .andNot .u64 (c.od k) S=0:=by rw[Hm.out] at hm;simpa using hm
     have HF:Hid ((List.range 8).all (fun k=>zaz (c.od k,S))=false):=by
      show _=_;rw[List.all_eq_false];exact⟨k,wbG.2 h8,by rw[hm];simp⟩
     have hne:(bits .andNot .u64 (c.od k) S !=0)=true:=by simpa using hq
     clear hm Hm hq;go_wp2_with fail;refine(HS.out _).mono ?_;rintro e w2 ⟨rfl,rfl⟩;go_wp2;go_ret;exact⟨zab HF.out.symm,hb⟩
   ·obtain rfl:k=8:=by omega
    have HT:Hid ((List.range 8).all (fun k=>zaz (c.od k,S))=true):=by
     show _=_;rw[List.all_eq_true];intro j hj;exact H.out j (wbG.1 hj)
    go_wp2;go_ret;exact⟨zab HT.out.symm,hb⟩
 ·rw[waO hz,Bool.false_and];have hz':(c.od 0 !=0)=true:=by simpa using hz
  clear hz HS;go_enter func115,ntmps115;go_wp2;go_ret;exact⟨rfl,by exact zaE⟩
theorem zpK (c:Cl) (w:World):Calls prog 115 #[.agg (zdI c)] w (Ret (.bool (zh0 c)) w):=by
 by_cases h0:c.oi=0
 ·exact zsv c h0 w
 ·by_cases h1:c.oi=1
  ·exact ord_m c h1 w
  ·by_cases h2:c.oi=2
   ·exact ord_y c h2 w
   ·exact zvt c h0 h1 h2 w
def zoY (k:Nat):List UInt8:=if k=0 then [83,69,67,79,78,68,76,89] else if k=1 then [77,73,78,85,84,69,76,89] else if k=2 then [72,79,85,82,76,89] else if k=3 then [68,65,73,76,89] else if k=4 then [87,69,69,75,76,89] else if k=5 then [77,79,78,84,72,76,89] else [89,69,65,82,76,89]
def ziY:Value:=.agg #[.string (za2 (zoY 0)),.string (za2 (zoY 1)),.string (za2 (zoY 2)),.string (za2 (zoY 3)),.string (za2 (zoY 4)),.string (za2 (zoY 5)),.string (za2 (zoY 6))]
theorem zlg (w:World):Calls prog 180 #[] w (Ret ziY w):=by
 go_enter func180,ntmps180;go_wp2;refine waY (v:=ziY) ?_ rfl ⟨rfl,by exact zaE⟩
 rw[zah rfl];unfold ziY
 go_simp
 exact⟨rfl,rfl,rfl,rfl,rfl,rfl,rfl⟩
theorem znN (k:Nat) (hk:k<7) (W:World):(Instr.index 277 ziY (.int .i64 (k:Int))).run prog W=.ok (.string (za2 (zoY k))) W:=by
 obtain rfl|rfl|rfl|rfl|rfl|rfl|rfl:k=0\/k=1\/k=2\/k=3\/k=4\/k=5\/k=6:=by omega
 all_goals kernel_rfl
def unT (u:Int):List UInt8:=if 0<=u/\u<7 then zoY u.toNat else []
theorem zuJ {u:Int}:unT u=[]↔¬(0<=u/\u<7):=by
 unfold unT;split
 ·rename_i h;constructor
  ·intro e;exfalso;unfold zoY at e
   repeat' split at e
   all_goals cases e
  ·intro h2;exact absurd h h2
 ·rename_i h;exact⟨fun _=>h,fun _=>rfl⟩
theorem zpL (u:Int) (w:World):Calls prog 117 #[.int .i64 u] w (Ret (.string (za2 (unT u))) w):=by
 by_cases h:0<=u/\u<7
 ·obtain⟨k,rfl⟩:=wbD h.1;have hk:k<7:=by omega
  have HR:Hid (unT (k:Int)=zoY k):=by show _=_;unfold unT;rw[if_pos h,Int.toNat_natCast]
  have hix:=fun W=>znN k hk W
  have h0:¬(k:Int)<0:=by omega
  have h7:¬7<=(k:Int):=by omega
  clear h;go_enter func117,ntmps117;go_wp2_with fail;refine(zlg _).mono ?_;rintro e w1 ⟨rfl,hb1⟩;go_wp2;go_ret;exact⟨zbT (by rw[HR.out,zbd]),hb1⟩
 ·have HR:Hid (unT u=[]):=zuJ.2 h
  by_cases h0:u<0
  ·clear h;go_enter func117,ntmps117;go_wp2;go_ret;exact⟨zbT (by rw[HR.out]),waC _ _⟩
  ·have h7:7<=u:=by omega
   clear h;go_enter func117,ntmps117;go_wp2;go_ret;exact⟨zbT (by rw[HR.out]),waC _ _⟩
end Go.Proofs.YtllcdbgjeidlkaaGreatDoor
