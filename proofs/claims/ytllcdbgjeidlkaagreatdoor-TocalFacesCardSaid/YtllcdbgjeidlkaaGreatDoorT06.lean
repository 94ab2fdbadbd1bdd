/- A part of the proof: WClF -/
import Derived.Test.YtllcdbgjeidlkaaGreatDoorT05
import Derived.ChangeKeysEq
import Derived.DeepKeys
set_option maxHeartbeats 80000000
set_option maxRecDepth 100000
set_option linter.unusedSimpArgs false
set_option linter.unusedVariables false
namespace Go.Proofs.YtllcdbgjeidlkaaGreatDoor
open Go.Proofs.Tryz
open Go.RowKit
def zap (u:Int):Int:=if u=0 then 1 else if u=1 then 60 else if u=2 then 3600 else 0
def zb1 (u n:Int):Int:=if u=3 then n else if u=4 then wkD n else if u=5 then 12 * yD n+mD n - 1 else yD n
def zbi (u t:Int):Int:=if 0<zap u then t / zap u else zb1 u (t / 86400)
def okU (u t:Int):Bool:=decide (inC t=true/\0<=u/\u<7)
def onU (u s a t:Int):Bool:=decide (okU u a=true/\okU u t=true/\1<=s/\(zbi u t - zbi u a)%s=0)
theorem zd5 (u:Int) (w:World):Calls prog 137 #[.int .i64 u] w (Ret (.int .i64 (zap u)) w):=by
 by_cases h0:u=0
 ·subst h0;go_enter func137,ntmps137;go_wp2;go_ret;exact⟨rfl,by exact zaE⟩
 ·by_cases h1:u=1
  ·subst h1;go_enter func137,ntmps137;go_wp2;go_ret;exact⟨rfl,by exact zaE⟩
  ·by_cases h2:u=2
   ·subst h2;go_enter func137,ntmps137;go_wp2;go_ret;exact⟨rfl,by exact zaE⟩
   ·have HR:Hid (zap u=0):=by show _=_;unfold zap;rw[if_neg h0,if_neg h1,if_neg h2]
    by_cases hn:u<0
    ·clear h0 h1 h2;go_enter func137,ntmps137;go_wp2;go_ret;exact⟨zaR HR.out.symm,by exact zaE⟩
    ·have h3:¬u<3:=by omega
     clear h0 h1 h2;go_enter func137,ntmps137;go_wp2;go_ret;exact⟨zaR HR.out.symm,by exact zaE⟩
theorem zhV (u n:Int) (h:0<=n) (h1:n<146097) (w:World):Calls prog 236 #[.int .i64 u,shV n] w (Ret (.int .i64 (zb1 u n)) w):=by
 have HN:=waV (fun W=>zld n h oQ W)
 obtain⟨y0,y1,m0,m1,d0,d1,l0,l1,c0,c1⟩:=zbm h h1;have HG:Hid (shN n (yD n) (mD n) (dD n) 0=n/\shN n (yD n) (mD n) (dD n) 1=yD n/\shN n (yD n) (mD n) (dD n) 2=mD n):=⟨rfl,rfl,rfl⟩;unfold shV;rw[HG.out.1,HG.out.2.1,HG.out.2.2];generalize shN n (yD n) (mD n) (dD n)=g at *;have H3:Hid (u=3->zb1 u n=n):=by intro e;unfold zb1;rw[if_pos e]
 have H4:Hid (u=4->zb1 u n=wkD n):=by intro e;subst e;rfl
 have H5:Hid (u=5->zb1 u n=12 * yD n+mD n - 1):=by intro e;subst e;rfl
 have H6:Hid (u≠3->u≠4->u≠5->zb1 u n=yD n):=by intro e1 e2 e3;unfold zb1;rw[if_neg e1,if_neg e2,if_neg e3]
 generalize zb1 u n=R at *;generalize wkD n=k at *;generalize yD n=y at *;generalize mD n=m at *;clear d0 d1 l0 l1 c0 c1 HG
 by_cases e3:u=3
 ·have HR:=waV (H3.out e3);subst e3;clear H3 H4 H5 H6;go_enter func236,ntmps236;go_wp2;go_ret;exact⟨zaR HR.out.symm,by exact zaE⟩
 ·by_cases e4:u=4
  ·have HR:=waV (H4.out e4);subst e4;clear H3 H4 H5 H6 e3;go_enter func236,ntmps236;go_wp2_with fail;refine(HN.out _).mono ?_;rintro e w1 ⟨rfl,rfl⟩;go_wp2;go_ret;exact⟨zaR HR.out.symm,by exact zaE⟩
  ·by_cases e5:u=5
   ·have HR:=waV (H5.out e5);subst e5;clear H3 H4 H5 H6 e3 e4;go_enter func236,ntmps236;go_wp2;go_ret;exact⟨zaR HR.out.symm,by exact zaE⟩
   ·have HR:=waV (H6.out e3 e4 e5);have b3:(u==3)=false:=by simpa using e3
    have b4:(u==4)=false:=by simpa using e4
    have b5:(u==5)=false:=by simpa using e5
    clear H3 H4 H5 H6 e3 e4 e5;go_enter func236,ntmps236;go_wp2;go_ret;exact⟨zaR HR.out.symm,by exact zaE⟩
theorem zvo {t:Int} (h:inC t=true):0<=t/\t<12622780800:=waA h
theorem zjR {u t:Int} (h:okU u t=true):inC t=true/\0<=u/\u<7:=waA h
theorem zmz {u t:Int} (h:okU u t=true):0<=zbi u t/\zbi u t<=12622780800:=by
 obtain⟨h1,h2,h3⟩:=zjR h;have h4:=zvo h1;have h5:=zbm (n:=t / 86400) oQ oQ;have hk:0<=wkD (t / 86400)/\wkD (t / 86400)<=1000000:=by unfold wkD;split<;>omega
 unfold zbi zb1 zap
 (repeat' split)<;>omega
theorem zhW (u t:Int) (h:okU u t=false) (w:World):Calls prog 195 #[.int .i64 u,.int .i64 t] w (Ret (.tuple #[.int .i64 0,.bool false]) w):=by
 cases hi:inC t with
 |false=>
  have HS:=waV (fun W=>zgB t hi W)
  clear h hi;go_enter func195,ntmps195;go_wp2_with fail;refine(HS.out _).mono ?_;rintro e w1 ⟨rfl,rfl⟩;go_wp2;refine waY (wbM rfl _ _ _) rfl ?_;exact⟨rfl,by exact zaE⟩
 |true=>
  have HS:=waV (fun W=>zes t hi W)
  by_cases hu:u<0
  ·clear h hi;go_enter func195,ntmps195;go_wp2_with fail;refine(HS.out _).mono ?_;rintro e w1 ⟨rfl,rfl⟩;go_wp2;refine waY (wbM rfl _ _ _) rfl ?_;exact⟨rfl,by exact zaE⟩
  ·have h7:7<=u:=by
    by_cases h7:7<=u
    ·exact h7
    ·rw[show okU u t=true from waP ⟨hi,by omega,by omega⟩] at h;cases h
   clear h hi;go_enter func195,ntmps195;go_wp2_with fail;refine(HS.out _).mono ?_;rintro e w1 ⟨rfl,rfl⟩;go_wp2;refine waY (wbM rfl _ _ _) rfl ?_;exact⟨rfl,by exact zaE⟩
theorem zjS (u t:Int) (h:okU u t=true) (w:World):Calls prog 195 #[.int .i64 u,.int .i64 t] w (Ret (.tuple #[.int .i64 (zbi u t),.bool true]) w):=by
 obtain⟨hi,hu0,hu7⟩:=zjR h;obtain⟨ht0,ht1⟩:=zvo hi;have HS:=waV (fun W=>zes t hi W)
 have HZ:=waV (fun W=>zd5 u W)
 have HSh:=waV (fun W=>zjQ (t / 86400) oQ oQ W)
 have HO:=waV (fun W=>zhV u (t / 86400) oQ oQ W)
 have hu0':¬u<0:=by omega
 have hu7':¬7<=u:=by omega
 by_cases hz:0<zap u
 ·have HR:Hid (zbi u t=t / zap u):=if_pos hz;have hz1:zap u<=3600:=by unfold zap;(repeat' split)<;>omega
  have E1:Int.tdiv t (zap u)=t / zap u:=Int.tdiv_eq_ediv_of_nonneg ht0;have hq0:0<=t / zap u:=Int.ediv_nonneg ht0 oQ;have hq1:t / zap u<=t:=Int.ediv_le_self _ ht0;have hne:(zap u==0)=false:=by rw[wbE];omega
  rw[HR.out];clear h hi HR HSh HO;generalize zap u=z at *;generalize t / z=q at *;go_enter func195,ntmps195;go_wp2_with fail;refine(HS.out _).mono ?_;rintro e w1 ⟨rfl,rfl⟩;go_wp2_with fail;refine(HZ.out _).mono ?_;rintro e w2 ⟨rfl,hb2⟩;go_wp2;refine waY (wbM rfl _ _ _) rfl ?_;exact⟨rfl,by exact zaE⟩
 ·have HR:Hid (zbi u t=zb1 u (t / 86400)):=if_neg hz;rw[HR.out];clear h hi HR;generalize zb1 u (t / 86400)=R at *;generalize zap u=z at *;have HV:Hid (∃g:Nat->Int,shV (t / 86400)=.agg #[.int .i64 (g 0),.int .i64 (g 1),.int .i64 (g 2),.int .i64 (g 3),.int .i64 (g 4),.int .i64 (g 5),.int .i64 (g 6),.int .i64 (g 7),.int .i64 (g 8),.int .i64 (g 9)]):=⟨_,rfl⟩;obtain⟨g,hg⟩:=HV.out;rw[hg] at HSh HO;clear hg HV;go_enter func195,ntmps195;go_wp2_with fail;refine(HS.out _).mono ?_;rintro e w1 ⟨rfl,rfl⟩;go_wp2_with fail;refine(HZ.out _).mono ?_;rintro e w2 ⟨rfl,hb2⟩;go_wp2_with fail;refine(HSh.out _).mono ?_;rintro e w3 ⟨rfl,hb3⟩;have hb23:=zaf hb2 hb3 hb2.size;go_wp2_with fail;refine(HO.out _).mono ?_;rintro e w4 ⟨rfl,hb4⟩;have hb5:Below w.heap.size w w4:=(hb23.alloc hb23.size _).trans (hb4.mono (by have:=hb23.size;simp;omega))
  clear hb4;go_wp2;refine waY (wbM rfl _ _ _) rfl ?_;exact⟨rfl,hb5⟩
theorem zpE {x s:Int} (hs:1<=s):(Int.tmod x s==0)=decide (x%s=0):=by
 rw[waQ,beq_iff_eq,waM];constructor
 ·intro h;exact Int.emod_eq_zero_of_dvd (Int.dvd_of_tmod_eq_zero h)
 ·intro h;exact Int.tmod_eq_zero_of_dvd (Int.dvd_of_emod_eq_zero h)
def zbu (g:Nat) (lb:Array Value) (p:Int->Bool) (lo hi:Nat) (w:World):Prop:=∀W,KpI lo hi w W->∀n,0<=n->n<146097->Calls prog g (#[shV n]++lb) W (Ret (.bool (p n)) W)
def ziV (u s a n:Int):Bool:=decide (okU u a=true/\1<=s/\(0<zap u\/s=1\/(zb1 u n - zbi u a)%s=0))
def zw7 (p:Int->Bool) (w:World) (x:Ending) (w':World):Prop:=∃g lb,x=.returned (.func (.func g) #[] lb)/\(∀args w,(callFunc g args).run prog w=.ok (.enter g args) w)/\zbu g lb p w.heap.size w'.heap.size w'/\Below w.heap.size w w'
theorem ziW {u s a n:Int} (ha:okU u a=true) (hs:1<=s) (h:0<zap u\/s=1):ziV u s a n=true:=waP ⟨ha,hs,h.elim .inl (fun h=>.inr (.inl h))⟩
theorem zpF {u s a n:Int} (h:¬(okU u a=true/\1<=s)):ziV u s a n=false:=waO (fun g=>h ⟨g.1,g.2.1⟩)
theorem zhX (lo hi:Nat) (w:World):zbu 233 #[] (fun _=>false) lo hi w:=by
 intro W _ n _ _;have HV:Hid (∃g:Nat->Int,shV n=.agg #[.int .i64 (g 0),.int .i64 (g 1),.int .i64 (g 2),.int .i64 (g 3),.int .i64 (g 4),.int .i64 (g 5),.int .i64 (g 6),.int .i64 (g 7),.int .i64 (g 8),.int .i64 (g 9)]):=⟨_,rfl⟩;obtain⟨g,hg⟩:=HV.out;rw[hg];clear hg HV;go_enter func233,ntmps233;go_wp2;go_ret;exact⟨rfl,by exact zaE⟩
theorem zhY (lo hi:Nat) (w:World):zbu 234 #[] (fun _=>true) lo hi w:=by
 intro W _ n _ _;have HV:Hid (∃g:Nat->Int,shV n=.agg #[.int .i64 (g 0),.int .i64 (g 1),.int .i64 (g 2),.int .i64 (g 3),.int .i64 (g 4),.int .i64 (g 5),.int .i64 (g 6),.int .i64 (g 7),.int .i64 (g 8),.int .i64 (g 9)]):=⟨_,rfl⟩;obtain⟨g,hg⟩:=HV.out;rw[hg];clear hg HV;go_enter func234,ntmps234;go_wp2;go_ret;exact⟨rfl,by exact zaE⟩
theorem zss (u n:Int) (h:0<=n) (h1:n<146097):0<=zb1 u n/\zb1 u n<=1000000:=by
 have h5:=zbm h h1;have hk:0<=wkD n/\wkD n<=1000000:=by unfold wkD;split<;>omega
 unfold zb1
 (repeat' split)<;>omega
theorem znL (u s a:Int) (ha:okU u a=true) (hs:1<=s) (hz:¬(0<zap u\/s=1)) (bu ba bs lo hi:Nat) (w:World)
 (ku:lo<=bu/\bu<hi) (ka:lo<=ba/\ba<hi) (ks:lo<=bs/\bs<hi) (cu:w.cell? ⟨bu,0,none⟩=some (.int .i64 u)) (ca:w.cell? ⟨ba,0,none⟩=some (.int .i64 (zbi u a))) (cs:w.cell? ⟨bs,0,none⟩=some (.int .i64 s)):
 zbu 235 #[.pointer (some ⟨bu,0,none⟩),.pointer (some ⟨ba,0,none⟩),.pointer (some ⟨bs,0,none⟩)] (ziV u s a) lo hi w:=by
 intro W hW n h0 h1;have HO:=waV (fun W=>zhV u n h0 h1 W)
 have ho:=zss u n h0 h1;have hw:=zmz ha;have HD:Hid (ziV u s a n=(Int.tmod (zb1 u n - zbi u a) s==0)):=by
  show _=_;rw[zpE hs];unfold ziV;rw[waQ,waM,waM];constructor
  ·rintro ⟨_,_,h|h|h⟩
   ·exact absurd (.inl h) hz
   ·exact absurd (.inr h) hz
   ·exact h
  ·intro h;exact⟨ha,hs,.inr (.inr h)⟩
 rw[HD.out];have hV:∃g:Nat->Int,shV n=.agg #[.int .i64 (g 0),.int .i64 (g 1),.int .i64 (g 2),.int .i64 (g 3),.int .i64 (g 4),.int .i64 (g 5),.int .i64 (g 6),.int .i64 (g 7),.int .i64 (g 8),.int .i64 (g 9)]:=⟨_,rfl⟩;obtain⟨g,hg⟩:=hV;rw[hg] at HO ⊢;clear hg HD hz ha;generalize zb1 u n=x at *;generalize zbi u a=p at *;obtain⟨x0,x1⟩:=ho;obtain⟨p0,p1⟩:=hw;have lu:=waR w _ cu;have la:=waR w _ ca;have ls:=waR w _ cs;have du:=hW.cell ku.1 ku.2 cu;have da:=hW.cell ka.1 ka.2 ca;have ds:=hW.cell ks.1 ks.2 cs;have hz:=hW.size;have hne:(s==0)=false:=by rw[wbE];omega
 have hne1:(s==-1)=false\/True:=.inr trivial;clear hne1;go_enter func235,ntmps235;go_wp2_with fail;generalize hW1:World.alloc W _=W1;have hb1:Below W.heap.size W W1:=by rw[<-hW1];exact(waC _ _).alloc (waJ _) _
 have eu:=(⟨W1,hb1⟩:Ext W).cell du;have ea:=(⟨W1,hb1⟩:Ext W).cell da;have es:=(⟨W1,hb1⟩:Ext W).cell ds;have s0:W1.cell? ⟨W.heap.size,0,none⟩=some (.int .i64 (g 0)):=by rw[<-hW1];exact zaa rfl rfl
 have s1:W1.cell? ⟨W.heap.size,1,none⟩=some (.int .i64 (g 1)):=by rw[<-hW1];exact zaa rfl rfl
 have s2:W1.cell? ⟨W.heap.size,2,none⟩=some (.int .i64 (g 2)):=by rw[<-hW1];exact zaa rfl rfl
 have s3:W1.cell? ⟨W.heap.size,3,none⟩=some (.int .i64 (g 3)):=by rw[<-hW1];exact zaa rfl rfl
 have s4:W1.cell? ⟨W.heap.size,4,none⟩=some (.int .i64 (g 4)):=by rw[<-hW1];exact zaa rfl rfl
 have s5:W1.cell? ⟨W.heap.size,5,none⟩=some (.int .i64 (g 5)):=by rw[<-hW1];exact zaa rfl rfl
 have s6:W1.cell? ⟨W.heap.size,6,none⟩=some (.int .i64 (g 6)):=by rw[<-hW1];exact zaa rfl rfl
 have s7:W1.cell? ⟨W.heap.size,7,none⟩=some (.int .i64 (g 7)):=by rw[<-hW1];exact zaa rfl rfl
 have s8:W1.cell? ⟨W.heap.size,8,none⟩=some (.int .i64 (g 8)):=by rw[<-hW1];exact zaa rfl rfl
 have s9:W1.cell? ⟨W.heap.size,9,none⟩=some (.int .i64 (g 9)):=by rw[<-hW1];exact zaa rfl rfl
 clear hW1 du da ds lu la ls;have fu:∀y:Ext W1,y.W.cell? ⟨bu,0,none⟩=some (.int .i64 u):=fun y=>y.cell eu
 have fa:∀y:Ext W1,y.W.cell? ⟨ba,0,none⟩=some (.int .i64 p):=fun y=>y.cell ea
 have fs:∀y:Ext W1,y.W.cell? ⟨bs,0,none⟩=some (.int .i64 s):=fun y=>y.cell es
 have h0':∀y:Ext W1,y.W.cell? ⟨W.heap.size,0,none⟩=some (.int .i64 (g 0)):=fun y=>y.cell s0
 have h1':∀y:Ext W1,y.W.cell? ⟨W.heap.size,1,none⟩=some (.int .i64 (g 1)):=fun y=>y.cell s1
 have h2':∀y:Ext W1,y.W.cell? ⟨W.heap.size,2,none⟩=some (.int .i64 (g 2)):=fun y=>y.cell s2
 have h3':∀y:Ext W1,y.W.cell? ⟨W.heap.size,3,none⟩=some (.int .i64 (g 3)):=fun y=>y.cell s3
 have h4':∀y:Ext W1,y.W.cell? ⟨W.heap.size,4,none⟩=some (.int .i64 (g 4)):=fun y=>y.cell s4
 have h5':∀y:Ext W1,y.W.cell? ⟨W.heap.size,5,none⟩=some (.int .i64 (g 5)):=fun y=>y.cell s5
 have h6':∀y:Ext W1,y.W.cell? ⟨W.heap.size,6,none⟩=some (.int .i64 (g 6)):=fun y=>y.cell s6
 have h7':∀y:Ext W1,y.W.cell? ⟨W.heap.size,7,none⟩=some (.int .i64 (g 7)):=fun y=>y.cell s7
 have h8':∀y:Ext W1,y.W.cell? ⟨W.heap.size,8,none⟩=some (.int .i64 (g 8)):=fun y=>y.cell s8
 have h9':∀y:Ext W1,y.W.cell? ⟨W.heap.size,9,none⟩=some (.int .i64 (g 9)):=fun y=>y.cell s9
 clear s0 s1 s2 s3 s4 s5 s6 s7 s8 s9 eu ea es cu ca cs;refine zaA kQ kQ ?_
 repeat (first|go_big_quiet_skip|(go_big_quiet_want;go_big_quiet_op;(first|go_big_quiet_on|go_big_quiet_call ((with_reducible first|exact zbP _ (HO.out _))))))
 refine wpQuiet_nil ?_;rintro _ ⟨xw,rfl⟩;have hbx:=zaf hb1 (Ext.h xw) hb1.size;go_wp2;go_ret;exact⟨rfl,hbx⟩
theorem zpG (u s a:Int) (w:World):Calls prog 188 #[.int .i64 u,.int .i64 s,.int .i64 a] w (zw7 (ziV u s a) w):=by
 have eg1:∀args w,(callFunc 233 args).run prog w=.ok (.enter 233 args) w:=enters_of func233 kQ rfl;have eg2:∀args w,(callFunc 234 args).run prog w=.ok (.enter 234 args) w:=enters_of func234 kQ rfl;have eg3:∀args w,(callFunc 235 args).run prog w=.ok (.enter 235 args) w:=enters_of func235 kQ rfl;have E1:=waV eg1;have E2:=waV eg2;have E3:=waV eg3;clear eg1 eg2 eg3;cases ha:okU u a with
 |false=>
  have H1:=waV (fun W=>zhW u a ha W)
  have HP:Hid (∀lo hi w',zbu 233 #[] (ziV u s a) lo hi w'):=fun lo hi w' W hW n h0 h1=>by
   rw[zpF (fun h=>by rw[ha] at h;cases h.1)]
   exact zhX lo hi w' W hW n h0 h1
  clear ha;go_enter func188,ntmps188;go_wp2_with fail;refine(H1.out _).mono ?_;rintro e w1 ⟨rfl,hb1⟩;obtain⟨hc,hf⟩:=zad hb1;have hbw:Below w.heap.size w w1:=(((waC _ w).alloc (waJ _) _).alloc (by simp) _).trans (hb1.mono (by simp;omega))
  have c0:w1.cell? ⟨w.heap.size,0,none⟩=some (.int .i64 u):=by rw[hc _ _ (by simp;omega)];go_simp
  have c1:w1.cell? ⟨w.heap.size+1,0,none⟩=some (.int .i64 s):=by rw[hc _ _ (by simp)];go_simp
  have hz1:w.heap.size+1<w1.heap.size:=waR _ _ c1;have hz0:w.heap.size<w1.heap.size:=by omega
  clear hb1 hc hf H1;go_wp2;go_ret;exact⟨_,_,rfl,E1.out,HP.out _ _ _,by exact zaE⟩
 |true=>
  have H1:=waV (fun W=>zjS u a ha W)
  by_cases hs:s<1
  ·have HP:Hid (∀lo hi w',zbu 233 #[] (ziV u s a) lo hi w'):=fun lo hi w' W hW n h0 h1=>by
    rw[zpF (fun h=>by have:=h.2;omega)]
    exact zhX lo hi w' W hW n h0 h1
   clear ha;generalize zbi u a=p at *;go_enter func188,ntmps188;go_wp2_with fail;refine(H1.out _).mono ?_;rintro e w1 ⟨rfl,hb1⟩;obtain⟨hc,hf⟩:=zad hb1;have hbw:Below w.heap.size w w1:=(((waC _ w).alloc (waJ _) _).alloc (by simp) _).trans (hb1.mono (by simp;omega))
   have c0:w1.cell? ⟨w.heap.size,0,none⟩=some (.int .i64 u):=by rw[hc _ _ (by simp;omega)];go_simp
   have c1:w1.cell? ⟨w.heap.size+1,0,none⟩=some (.int .i64 s):=by rw[hc _ _ (by simp)];go_simp
   have hz1:w.heap.size+1<w1.heap.size:=waR _ _ c1;have hz0:w.heap.size<w1.heap.size:=by omega
   clear hb1 hc hf H1;go_wp2;go_ret;exact⟨_,_,rfl,E1.out,HP.out _ _ _,by exact zaE⟩
  ·have HZ:=waV (fun W=>zd5 u W)
   by_cases hz:0<zap u
   ·have HP:Hid (∀lo hi w',zbu 234 #[] (ziV u s a) lo hi w'):=fun lo hi w' W hW n h0 h1=>by
     rw[ziW ha (by omega) (.inl hz)]
     exact zhY lo hi w' W hW n h0 h1
    clear ha;generalize zbi u a=p at *;generalize zap u=z at *;go_enter func188,ntmps188;go_wp2_with fail;refine(H1.out _).mono ?_;rintro e w1 ⟨rfl,hb1⟩;obtain⟨hc,hf⟩:=zad hb1;have hbw:Below w.heap.size w w1:=(((waC _ w).alloc (waJ _) _).alloc (by simp) _).trans (hb1.mono (by simp;omega))
    have c0:w1.cell? ⟨w.heap.size,0,none⟩=some (.int .i64 u):=by rw[hc _ _ (by simp;omega)];go_simp
    have c1:w1.cell? ⟨w.heap.size+1,0,none⟩=some (.int .i64 s):=by rw[hc _ _ (by simp)];go_simp
    have hz1:w.heap.size+1<w1.heap.size:=waR _ _ c1;have hz0:w.heap.size<w1.heap.size:=by omega
    clear hb1 hc hf H1;go_wp2_with fail;generalize hW:World.alloc w1 _=W2;have hbW:Below w1.heap.size w1 W2:=by rw[<-hW];exact(waC _ _).alloc (waJ _) _
    have ca:W2.cell? ⟨w1.heap.size,0,none⟩=some (.int .i64 p):=by rw[<-hW];exact zaa rfl rfl
    have d0:W2.cell? ⟨w.heap.size,0,none⟩=some (.int .i64 u):=(⟨W2,hbW⟩:Ext w1).cell c0;have d1:W2.cell? ⟨w.heap.size+1,0,none⟩=some (.int .i64 s):=(⟨W2,hbW⟩:Ext w1).cell c1;have hbw2:=zaf hbw hbW hbw.size;clear hW c0 c1;refine(HZ.out _).mono ?_;rintro e w2 ⟨rfl,hb2⟩;have v0:w2.cell? ⟨w.heap.size,0,none⟩=some (.int .i64 u):=(⟨w2,hb2⟩:Ext W2).cell d0;have v1:w2.cell? ⟨w.heap.size+1,0,none⟩=some (.int .i64 s):=(⟨w2,hb2⟩:Ext W2).cell d1;have va:w2.cell? ⟨w1.heap.size,0,none⟩=some (.int .i64 p):=(⟨w2,hb2⟩:Ext W2).cell ca;have hbw3:=zaf hbw2 hb2 hbw2.size;clear hb2 d0 d1 ca hbw hbw2 hbW HZ;go_wp2;go_ret;exact⟨_,_,rfl,E2.out,HP.out _ _ _,by exact zaE⟩
   ·by_cases h1:s=1
    ·have HP:Hid (∀lo hi w',zbu 234 #[] (ziV u s a) lo hi w'):=fun lo hi w' W hW n h0 h2=>by
      rw[ziW ha (by omega) (.inr h1)]
      exact zhY lo hi w' W hW n h0 h2
     have h1':(s==1)=true:=by simpa using h1
     clear ha h1;generalize zbi u a=p at *;generalize zap u=z at *;go_enter func188,ntmps188;go_wp2_with fail;refine(H1.out _).mono ?_;rintro e w1 ⟨rfl,hb1⟩;obtain⟨hc,hf⟩:=zad hb1;have hbw:Below w.heap.size w w1:=(((waC _ w).alloc (waJ _) _).alloc (by simp) _).trans (hb1.mono (by simp;omega))
     have c0:w1.cell? ⟨w.heap.size,0,none⟩=some (.int .i64 u):=by rw[hc _ _ (by simp;omega)];go_simp
     have c1:w1.cell? ⟨w.heap.size+1,0,none⟩=some (.int .i64 s):=by rw[hc _ _ (by simp)];go_simp
     have hz1:w.heap.size+1<w1.heap.size:=waR _ _ c1;have hz0:w.heap.size<w1.heap.size:=by omega
     clear hb1 hc hf H1;go_wp2_with fail;generalize hW:World.alloc w1 _=W2;have hbW:Below w1.heap.size w1 W2:=by rw[<-hW];exact(waC _ _).alloc (waJ _) _
     have ca:W2.cell? ⟨w1.heap.size,0,none⟩=some (.int .i64 p):=by rw[<-hW];exact zaa rfl rfl
     have d0:W2.cell? ⟨w.heap.size,0,none⟩=some (.int .i64 u):=(⟨W2,hbW⟩:Ext w1).cell c0;have d1:W2.cell? ⟨w.heap.size+1,0,none⟩=some (.int .i64 s):=(⟨W2,hbW⟩:Ext w1).cell c1;have hbw2:=zaf hbw hbW hbw.size;clear hW c0 c1;refine(HZ.out _).mono ?_;rintro e w2 ⟨rfl,hb2⟩;have v0:w2.cell? ⟨w.heap.size,0,none⟩=some (.int .i64 u):=(⟨w2,hb2⟩:Ext W2).cell d0;have v1:w2.cell? ⟨w.heap.size+1,0,none⟩=some (.int .i64 s):=(⟨w2,hb2⟩:Ext W2).cell d1;have va:w2.cell? ⟨w1.heap.size,0,none⟩=some (.int .i64 p):=(⟨w2,hb2⟩:Ext W2).cell ca;have hbw3:=zaf hbw2 hb2 hbw2.size;clear hb2 d0 d1 ca hbw hbw2 hbW HZ;go_wp2;go_ret;exact⟨_,_,rfl,E2.out,HP.out _ _ _,by exact zaE⟩
    ·have HP:Hid (∀(bu ba bs lo hi:Nat) (w':World),(lo<=bu/\bu<hi)->(lo<=ba/\ba<hi)->(lo<=bs/\bs<hi)->w'.cell? ⟨bu,0,none⟩=some (.int .i64 u)->w'.cell? ⟨ba,0,none⟩=some (.int .i64 (zbi u a))->w'.cell? ⟨bs,0,none⟩=some (.int .i64 s)->zbu 235 #[.pointer (some ⟨bu,0,none⟩),.pointer (some ⟨ba,0,none⟩),.pointer (some ⟨bs,0,none⟩)] (ziV u s a) lo hi w'):=
      fun bu ba bs lo hi w' ku ka ks cu ca cs=>znL u s a ha oQ (fun h=>h.elim hz h1) bu ba bs lo hi w' ku ka ks cu ca cs
     have h1':(s==1)=false:=by simpa using h1
     clear ha h1;generalize zbi u a=p at *;generalize zap u=z at *;go_enter func188,ntmps188;go_wp2_with fail;refine(H1.out _).mono ?_;rintro e w1 ⟨rfl,hb1⟩;obtain⟨hc,hf⟩:=zad hb1;have hbw:Below w.heap.size w w1:=(((waC _ w).alloc (waJ _) _).alloc (by simp) _).trans (hb1.mono (by simp;omega))
     have c0:w1.cell? ⟨w.heap.size,0,none⟩=some (.int .i64 u):=by rw[hc _ _ (by simp;omega)];go_simp
     have c1:w1.cell? ⟨w.heap.size+1,0,none⟩=some (.int .i64 s):=by rw[hc _ _ (by simp)];go_simp
     have hz1:w.heap.size+1<w1.heap.size:=waR _ _ c1;have hz0:w.heap.size<w1.heap.size:=by omega
     clear hb1 hc hf H1;go_wp2_with fail;generalize hW:World.alloc w1 _=W2;have hbW:Below w1.heap.size w1 W2:=by rw[<-hW];exact(waC _ _).alloc (waJ _) _
     have ca:W2.cell? ⟨w1.heap.size,0,none⟩=some (.int .i64 p):=by rw[<-hW];exact zaa rfl rfl
     have d0:W2.cell? ⟨w.heap.size,0,none⟩=some (.int .i64 u):=(⟨W2,hbW⟩:Ext w1).cell c0;have d1:W2.cell? ⟨w.heap.size+1,0,none⟩=some (.int .i64 s):=(⟨W2,hbW⟩:Ext w1).cell c1;have hbw2:=zaf hbw hbW hbw.size;clear hW c0 c1;refine(HZ.out _).mono ?_;rintro e w2 ⟨rfl,hb2⟩;have v0:w2.cell? ⟨w.heap.size,0,none⟩=some (.int .i64 u):=(⟨w2,hb2⟩:Ext W2).cell d0;have v1:w2.cell? ⟨w.heap.size+1,0,none⟩=some (.int .i64 s):=(⟨w2,hb2⟩:Ext W2).cell d1;have va:w2.cell? ⟨w1.heap.size,0,none⟩=some (.int .i64 p):=(⟨w2,hb2⟩:Ext W2).cell ca;have hbw3:=zaf hbw2 hb2 hbw2.size;clear hb2 d0 d1 ca hbw hbw2 hbW HZ;go_wp2;go_ret;exact⟨_,_,rfl,E3.out,HP.out _ _ _ _ _ _ ⟨by(first|exact waJ _|omega|(simp;omega)),waR _ _ v0⟩ ⟨by(first|exact waJ _|omega|(simp;omega)),waR _ _ va⟩ ⟨by(first|exact waJ _|omega|(simp;omega)),waR _ _ v1⟩ v0 va v1,by exact zaE⟩
def zcW (i:Nat):Int:=zas 0 (399 - (i:Int) * 64)
def wdV (g:Nat->Int):Value:=.agg #[.int .u64 (g 0),.int .u64 (g 1),.int .u64 (g 2),.int .u64 (g 3),.int .u64 (g 4),.int .u64 (g 5),.int .u64 (g 6)]
def wdG (g:Nat->Int) (k:Nat) (j:Nat):Value:=.int .u64 (if j<k then g j else 0)
theorem zdv (w:World) (t:TypeId) (v0 v1 v2 v3 v4 v5 v6:Value) (g:Nat->Value) (h0:g 0=v0) (h1:g 1=v1) (h2:g 2=v2) (h3:g 3=v3) (h4:g 4=v4) (h5:g 5=v5) (h6:g 6=v6):Arr (w.alloc (.cells #[v0,v1,v2,v3,v4,v5,v6] t)) w.heap.size 7 g:=
 zdq w #[v0,v1,v2,v3,v4,v5,v6] t g (by
  intro j hj;obtain rfl|rfl|rfl|rfl|rfl|rfl|rfl:j=0\/j=1\/j=2\/j=3\/j=4\/j=5\/j=6:=by simp at hj;omega
  ·rw[h0];rfl
  ·rw[h1];rfl
  ·rw[h2];rfl
  ·rw[h3];rfl
  ·rw[h4];rfl
  ·rw[h5];rfl
  ·rw[h6];rfl)
theorem arr7 {w:World} {b:Nat} {g:Nat->Value} (h:Arr w b 7 g):w.cell? ⟨b,0,none⟩=some (g 0)/\w.cell? ⟨b,1,none⟩=some (g 1)/\w.cell? ⟨b,2,none⟩=some (g 2)/\w.cell? ⟨b,3,none⟩=some (g 3)/\w.cell? ⟨b,4,none⟩=some (g 4)/\w.cell? ⟨b,5,none⟩=some (g 5)/\w.cell? ⟨b,6,none⟩=some (g 6)/\∀j,w.frozen? ⟨b,j,none⟩=false:=
 ⟨h.1 0 dQ,h.1 1 dQ,h.1 2 dQ,h.1 3 dQ,h.1 4 dQ,h.1 5 dQ,h.1 6 dQ,h.2⟩
theorem zjT {w:World} {b m:Nat} {g:Nat->Value} (h:Arr w b m g):w.there b 0 m:=fun j hj=>by
 rw[waH,h.1 j hj];exact⟨rfl,h.2 j⟩
theorem zjU (w:World):Calls prog 123 #[] w (Ret (wdV zcW) w):=by
 have HS:=waV (fun(k:Nat) (h:k<7) W=>zbB 0 (399 - (k:Int) * 64) dQ dQ oQ oQ W)
 have HF:Hid (∀k,zcW k=zas 0 (399 - (k:Int) * 64)):=fun k=>rfl
 go_enter func123,ntmps123;go_wp2;have h0:=zdv w 40 (.int .u64 0) (.int .u64 0) (.int .u64 0) (.int .u64 0) (.int .u64 0) (.int .u64 0) (.int .u64 0) (fun _=>.int .u64 0) rfl rfl rfl rfl rfl rfl rfl
 have H0:=waV (Arr.alloc h0 (Arr.lt h0 dQ) (.cells #[.int .u64 0,.int .u64 0,.int .u64 0,.int .u64 0,.int .u64 0,.int .u64 0,.int .u64 0] 40));have H1:=waV (zdv (w.alloc (.cells #[.int .u64 0,.int .u64 0,.int .u64 0,.int .u64 0,.int .u64 0,.int .u64 0,.int .u64 0] 40)) 40 (.int .u64 0) (.int .u64 0) (.int .u64 0) (.int .u64 0) (.int .u64 0) (.int .u64 0) (.int .u64 0) (wdG zcW 0) rfl rfl rfl rfl rfl rfl rfl)
 go_loopw [3] (fun i wr=>∃k:Nat,k<=7/\i=.int .i64 k/\Hid (Arr wr (w.heap.size+1) 7 (wdG zcW k))/\Hid (Arr wr w.heap.size 7 (fun _=>.int .u64 0))/\Below w.heap.size w wr) (fun i _=>7 - (intOf i).toNat)
 case atStart=>exact⟨0,by omega,rfl,by show Arr _ _ _ _;have:=H1.out;simpa using this,H0.out,by exact zaE⟩
 case round=>
  clear H0 H1 h0;obtain⟨k,hk,rfl,HA,HR,hb⟩:=hrel;have hsz:=hb.size;have zA:=Arr.lt HA.out dQ;have zR:=Arr.lt HR.out dQ
  by_cases h7:k<7
  ·have h7':(k:Int)<7:=by omega
   have hk0:¬(k:Int)<0:=by omega
   have HSk:=waV (HS.out k h7);have ck:=HA.out.1 k h7;have fk:=HA.out.2;have HN:Hid (∀W,Arr W (w.heap.size+1) 7 (wdG zcW k)->Arr (W.setCell ⟨w.heap.size+1,k,none⟩ (.int .u64 (zas 0 (399 - (k:Int) * 64)))) (w.heap.size+1) 7 (wdG zcW (k+1))):=fun W h=>
    h.set k h7 _ (by unfold wdG;rw[if_pos (by omega),HF.out]) (fun j hj hn=>by unfold wdG;by_cases hjk:j<k;rw[if_pos hjk,if_pos (by omega)];rw[if_neg hjk,if_neg (by omega)])
   unfold wdG at ck;rw[if_neg (by omega)] at ck
   generalize zas 0 (399 - (k:Int) * 64)=M at *;go_wp2_with fail;refine(HSk.out _).mono ?_;rintro e w1 ⟨rfl,rfl⟩;go_wp2;go_roundw
   case rel=>exact⟨k+1,by omega,by go_num,HN.out _ HA.out,Arr.other HR.out oQ,by exact zaE⟩
   case measure=>simp [intOf];omega
  ·obtain rfl:k=7:=by omega
   obtain⟨a0,a1,a2,a3,a4,a5,a6,af⟩:=arr7 HA.out;have HT:=waV (zjT HR.out);have e:∀j,j<7->wdG zcW 7 j=.int .u64 (zcW j):=fun j h=>by unfold wdG;rw[if_pos h]
   rw[e _ (by decide)] at a0 a1 a2 a3 a4 a5 a6
   clear e HS HF;unfold wdV;generalize zcW=g at *
   go_wp2_with (refine zd4 (w:=w) rfl 40 _ _ rfl #[.int .u64 (g 0),.int .u64 (g 1),.int .u64 (g 2),.int .u64 (g 3),.int .u64 (g 4),.int .u64 (g 5),.int .u64 (g 6)] rfl rfl underlying40 rfl kQ kQ hb HT.out ?_;intro W' hLd hbE)
   (try simp only[Exit.inBlock,Exit.then])
   refine waY (v:=.agg #[.int .u64 (g 0),.int .u64 (g 1),.int .u64 (g 2),.int .u64 (g 3),.int .u64 (g 4),.int .u64 (g 5),.int .u64 (g 6)]) ?_ rfl ⟨rfl,hbE⟩;rw[zah rfl];exact hLd.out
def ziX (g:Nat->Int) (i:Nat):Int:=bits .and .u64 (g i) (zcW i)
theorem zcL {ops:Array Oper} {rest:List Oper} {op:Oper} {a:Act} {Q:Exit->Act->World->Prop} {w W:World} (hgd:op.guard=none) (t:TypeId) (x y:Operand) (ho:op.op=.store t x y) (cs:Array Value) {d:TypeDesc} (b:Nat) (hB:w.heap.size<=b)
 (hx:a.eval x=.pointer (some ⟨b,0,none⟩)) (hy:a.eval y=.agg cs) (hu:prog.underlying t=some d) (hd:d.isRow=true) (hi:(prog.info? t).map (·.size)=some cs.size) (h1:cs.all (·.oneCell')=true)
 (hb:Below w.heap.size w W) (ht:W.there b 0 cs.size)
 (h:∀W',Hid ((loadVar t ⟨b,0,none⟩).run prog W'=.ok (.agg cs) W')->Below w.heap.size w W'->wpList prog ops Q rest (a.put op.dst undef) W'):wpList prog ops Q (op::rest) a W:=by
 refine wpList_store_mid (P:=prog) hgd t x y ho b 0 cs hx hy ht hi h1 (h _ ?_ (zba hB _ _ _ hb));have:=run_loadVar_mid (P:=prog) (W.setCells b 0 cs.toList) b 0 t cs.toList d (World.rangeAt_setCells_same _ _ _ _ (by simpa using ht)) hu hd (by simpa using hi)
 show _=_;simpa using this
theorem zw8 (f:Nat->Int) (k:Nat) (hk:k<7) (W:World):(Instr.index 40 (.agg #[.int .u64 (f 0),.int .u64 (f 1),.int .u64 (f 2),.int .u64 (f 3),.int .u64 (f 4),.int .u64 (f 5),.int .u64 (f 6)]) (.int .i64 (k:Int))).run prog W=.ok (.int .u64 (f k)) W:=by
 obtain rfl|rfl|rfl|rfl|rfl|rfl|rfl:k=0\/k=1\/k=2\/k=3\/k=4\/k=5\/k=6:=by omega
 all_goals kernel_rfl
def zst (a g:Nat->Int) (k:Nat) (j:Nat):Value:=.int .u64 (if j<k then a j else g j)
theorem zgG (g:Nat->Int) (w:World):Calls prog 157 #[wdV g] w (Ret (wdV (ziX g)) w):=by
 have HF:=waV (fun W=>zjU W)
 have HG:Hid (∀k,bits .and .u64 (g k) (zcW k)=ziX g k):=fun k=>rfl
 unfold wdV at *;generalize ziX g=a at *;generalize zcW=f at *;go_enter func157,ntmps157;go_wp2_with fail;have h0:=zdv w 40 (.int .u64 (g 0)) (.int .u64 (g 1)) (.int .u64 (g 2)) (.int .u64 (g 3)) (.int .u64 (g 4)) (.int .u64 (g 5)) (.int .u64 (g 6)) (zst a g 0) rfl rfl rfl rfl rfl rfl rfl;have h1:=zdv (w.alloc (.cells #[.int .u64 (g 0),.int .u64 (g 1),.int .u64 (g 2),.int .u64 (g 3),.int .u64 (g 4),.int .u64 (g 5),.int .u64 (g 6)] 40)) 40 (.int .u64 0) (.int .u64 0) (.int .u64 0) (.int .u64 0) (.int .u64 0) (.int .u64 0) (.int .u64 0) (fun _=>.int .u64 0) rfl rfl rfl rfl rfl rfl rfl
 have h0':=Arr.alloc h0 (Arr.lt h0 dQ) (.cells #[.int .u64 0,.int .u64 0,.int .u64 0,.int .u64 0,.int .u64 0,.int .u64 0,.int .u64 0] 40);have h1':Arr ((w.alloc (.cells #[.int .u64 (g 0),.int .u64 (g 1),.int .u64 (g 2),.int .u64 (g 3),.int .u64 (g 4),.int .u64 (g 5),.int .u64 (g 6)] 40)).alloc (.cells #[.int .u64 0,.int .u64 0,.int .u64 0,.int .u64 0,.int .u64 0,.int .u64 0,.int .u64 0] 40)) (w.heap.size+1) 7 (fun _=>.int .u64 0):=by simpa using h1
 refine(HF.out _).mono ?_;rintro e w1 ⟨rfl,hb1⟩;have HP0:=waV (Arr.below h0' (Arr.lt h0' dQ) hb1);have HR0:=waV (Arr.below h1' (Arr.lt h1' dQ) hb1);have hbw:Below w.heap.size w w1:=(((waC _ w).alloc (waJ _) _).alloc (by simp) _).trans (hb1.mono (by simp;omega))
 clear h0 h1 h0' h1' hb1 HF;go_wp2
 go_loopw [6] (fun i wr=>∃k:Nat,k<=7/\i=.int .i64 k/\Hid (Arr wr w.heap.size 7 (zst a g k))/\Hid (Arr wr (w.heap.size+1) 7 (fun _=>.int .u64 0))/\Below w.heap.size w wr) (fun i _=>7 - (intOf i).toNat)
 case atStart=>exact⟨0,by omega,rfl,HP0.out,HR0.out,hbw⟩
 case round=>
  clear HP0 HR0 hbw;obtain⟨k,hk,rfl,HA,HR,hb⟩:=hrel;have hsz:=hb.size;have zA:=Arr.lt HA.out dQ;have zR:=Arr.lt HR.out dQ;have HN:Hid (∀k,k<7->∀W,Arr W w.heap.size 7 (zst a g k)->Arr (W.setCell ⟨w.heap.size,k,none⟩ (.int .u64 (bits .and .u64 (g k) (f k)))) w.heap.size 7 (zst a g (k+1))):=fun k h7 W h=>
   h.set k h7 _ (by unfold zst;rw[if_pos (by omega),HG.out]) (fun j hj hn=>by unfold zst;by_cases hjk:j<k;rw[if_pos hjk,if_pos (by omega)];rw[if_neg hjk,if_neg (by omega)])
  by_cases h7:k<7
  ·have h7':(k:Int)<7:=by omega
   have hk0:¬(k:Int)<0:=by omega
   have hix:∀W,(Instr.index 40 (.agg #[.int .u64 (f 0),.int .u64 (f 1),.int .u64 (f 2),.int .u64 (f 3),.int .u64 (f 4),.int .u64 (f 5),.int .u64 (f 6)]) (.int .i64 (k:Int))).run prog W=.ok (.int .u64 (f k)) W:=fun W=>zw8 f k h7 W
   have ck:wr.cell? ⟨w.heap.size,k,none⟩=some (.int .u64 (g k)):=by have:=HA.out.1 k h7;unfold zst at this;rw[if_neg (by omega)] at this;exact this
   have fk:=HA.out.2;go_wp2;go_roundw
   case rel=>exact⟨k+1,by omega,by go_num,HN.out k h7 _ HA.out,Arr.other HR.out oQ,by exact zaE⟩
   case measure=>simp [intOf];omega
  ·obtain rfl:k=7:=by omega
   obtain⟨a0,a1,a2,a3,a4,a5,a6,af⟩:=arr7 HA.out;have HT:=waV (zjT HR.out);have e:∀j,j<7->zst a g 7 j=.int .u64 (a j):=fun j h=>by unfold zst;rw[if_pos h]
   rw[e _ (by decide)] at a0 a1 a2 a3 a4 a5 a6
   clear e HG HN HA HR
   go_wp2_with (refine zcL (w:=w) rfl 40 _ _ rfl #[.int .u64 (a 0),.int .u64 (a 1),.int .u64 (a 2),.int .u64 (a 3),.int .u64 (a 4),.int .u64 (a 5),.int .u64 (a 6)] (w.heap.size+1) oQ rfl rfl underlying40 rfl kQ kQ hb HT.out ?_;intro W' hLd hbE)
   (try simp only[Exit.inBlock,Exit.then])
   refine waY (v:=.agg #[.int .u64 (a 0),.int .u64 (a 1),.int .u64 (a 2),.int .u64 (a 3),.int .u64 (a 4),.int .u64 (a 5),.int .u64 (a 6)]) ?_ rfl ⟨rfl,hbE⟩;rw[zah rfl];exact hLd.out
theorem zpH (n:Int) (w:World):Calls prog 185 #[.int .i64 n] w (zbE (.bool (decide (0<=n/\n<400))) w):=by
 obtain⟨B,hB⟩:∃B,B=decide (0<=n/\n<400):=⟨_,rfl⟩;rw[<-hB]
 by_cases h0:0<=n
 ·by_cases h1:n<400
  ·have HQ:Hid (B=true):=by show _=_;rw[hB];exact waP ⟨h0,h1⟩
   clear hB;go_enter func185,ntmps185;go_wp2;go_ret;exact⟨zab HQ.out.symm,rfl⟩
  ·have HQ:Hid (B=false):=by show _=_;rw[hB];exact waO (fun h=>h1 h.2)
   clear hB;go_enter func185,ntmps185;go_wp2;go_ret;exact⟨zab HQ.out.symm,rfl⟩
 ·have HQ:Hid (B=false):=by show _=_;rw[hB];exact waO (fun h=>h0 h.1)
  clear hB;go_enter func185,ntmps185;go_wp2;go_ret;exact⟨zab HQ.out.symm,rfl⟩
def zgb (g:Nat->Int) (n:Int):Bool:=decide (0<=n/\n<400)&&zbA (g (n / 64).toNat) (n%64)
def eqW (a g:Nat->Int):Bool:=(a 0==g 0)&&((a 1==g 1)&&((a 2==g 2)&&((a 3==g 3)&&((a 4==g 4)&&((a 5==g 5)&&(a 6==g 6))))))
theorem zuI (a g:Nat->Int) (w:World):(binOp .eql 40 (.agg #[.int .u64 (a 0),.int .u64 (a 1),.int .u64 (a 2),.int .u64 (a 3),.int .u64 (a 4),.int .u64 (a 5),.int .u64 (a 6)]) (.agg #[.int .u64 (g 0),.int .u64 (g 1),.int .u64 (g 2),.int .u64 (g 3),.int .u64 (g 4),.int .u64 (g 5),.int .u64 (g 6)])).run prog w=.ok (.bool (eqW a g)) w:=by
 obtain⟨i,hi⟩:=info_of_underlying underlying39;have hc:prog.cellsOf 39=1:=by kernel_rfl
 have hr:List.range 7=[0,1,2,3,4,5,6]:=rfl;rw[run_eql_struct,run_equalIn_array w 9999 _ _ underlying40 hi,hc,hr];unfold eqW
 by_cases h0:a 0=g 0
 case neg=>simp [Op.eqItems,go_sem,h0]
 by_cases h1:a 1=g 1
 case neg=>simp [Op.eqItems,go_sem,h0,h1]
 by_cases h2:a 2=g 2
 case neg=>simp [Op.eqItems,go_sem,h0,h1,h2]
 by_cases h3:a 3=g 3
 case neg=>simp [Op.eqItems,go_sem,h0,h1,h2,h3]
 by_cases h4:a 4=g 4
 case neg=>simp [Op.eqItems,go_sem,h0,h1,h2,h3,h4]
 by_cases h5:a 5=g 5
 case neg=>simp [Op.eqItems,go_sem,h0,h1,h2,h3,h4,h5]
 by_cases h6:a 6=g 6
 case neg=>simp [Op.eqItems,go_sem,h0,h1,h2,h3,h4,h5,h6]
 simp[Op.eqItems,go_sem,h0,h1,h2,h3,h4,h5,h6]
theorem zpI (g:Nat->Int) (w:World):Calls prog 116 #[wdV g] w (Ret (.bool (eqW (ziX g) g)) w):=by
 have HF:=waV (fun W=>zgG g W)
 have hq:=fun W=>zuI (ziX g) g W
 unfold wdV at *;generalize eqW (ziX g) g=q at *;generalize ziX g=a at *;go_enter func116,ntmps116;go_wp2_with fail;generalize hW1:World.alloc w _=W1;have hb1:Below w.heap.size w W1:=by rw[<-hW1];exact(waC _ _).alloc (waJ _) _
 have s0:W1.cell? ⟨w.heap.size,0,none⟩=some (.int .u64 (g 0)):=by rw[<-hW1];exact zaa rfl rfl
 have s1:W1.cell? ⟨w.heap.size,1,none⟩=some (.int .u64 (g 1)):=by rw[<-hW1];exact zaa rfl rfl
 have s2:W1.cell? ⟨w.heap.size,2,none⟩=some (.int .u64 (g 2)):=by rw[<-hW1];exact zaa rfl rfl
 have s3:W1.cell? ⟨w.heap.size,3,none⟩=some (.int .u64 (g 3)):=by rw[<-hW1];exact zaa rfl rfl
 have s4:W1.cell? ⟨w.heap.size,4,none⟩=some (.int .u64 (g 4)):=by rw[<-hW1];exact zaa rfl rfl
 have s5:W1.cell? ⟨w.heap.size,5,none⟩=some (.int .u64 (g 5)):=by rw[<-hW1];exact zaa rfl rfl
 have s6:W1.cell? ⟨w.heap.size,6,none⟩=some (.int .u64 (g 6)):=by rw[<-hW1];exact zaa rfl rfl
 clear hW1;have h0':∀y:Ext W1,y.W.cell? ⟨w.heap.size,0,none⟩=some (.int .u64 (g 0)):=fun y=>y.cell s0
 have h1':∀y:Ext W1,y.W.cell? ⟨w.heap.size,1,none⟩=some (.int .u64 (g 1)):=fun y=>y.cell s1
 have h2':∀y:Ext W1,y.W.cell? ⟨w.heap.size,2,none⟩=some (.int .u64 (g 2)):=fun y=>y.cell s2
 have h3':∀y:Ext W1,y.W.cell? ⟨w.heap.size,3,none⟩=some (.int .u64 (g 3)):=fun y=>y.cell s3
 have h4':∀y:Ext W1,y.W.cell? ⟨w.heap.size,4,none⟩=some (.int .u64 (g 4)):=fun y=>y.cell s4
 have h5':∀y:Ext W1,y.W.cell? ⟨w.heap.size,5,none⟩=some (.int .u64 (g 5)):=fun y=>y.cell s5
 have h6':∀y:Ext W1,y.W.cell? ⟨w.heap.size,6,none⟩=some (.int .u64 (g 6)):=fun y=>y.cell s6
 clear s0 s1 s2 s3 s4 s5 s6;refine zaA kQ kQ ?_
 repeat (first|go_big_quiet_skip|(go_big_quiet_want;go_big_quiet_op;(first|go_big_quiet_on|go_big_quiet_call ((with_reducible first|exact zbP _ (HF.out _))))))
 refine wpQuiet_nil ?_;rintro _ ⟨xw,rfl⟩;have hbx:=zaf hb1 (Ext.h xw) hb1.size;go_wp2;go_ret;exact⟨rfl,hbx⟩
theorem zpJ (g:Nat->Int) (hg:∀k,k<7->M64 (g k)) (n:Int) (w:World):Calls prog 190 #[wdV g,.int .i64 n] w (Ret (.bool (zgb g n)) w):=by
 have HM:=waV (fun W=>zpH n W)
 unfold wdV
 by_cases hn:0<=n/\n<400
 ·obtain⟨h0,h1⟩:=hn;obtain⟨k,hk⟩:=wbD (show 0<=n / 64 by omega)
  have h7:k<7:=by omega
  have hgk:=hg k h7;have HH:=waV (fun W=>zcp (g k) (n%64) hgk.1 hgk.2 W)
  have HR:Hid (zgb g n=zbA (g k) (n%64)):=by show _=_;unfold zgb;rw[waP ⟨h0,h1⟩,hk];simp
  have E1:Int.tdiv n 64=(k:Int):=by rw[Int.tdiv_eq_ediv_of_nonneg h0,hk]
  have E2:Int.tmod n 64=n%64:=Int.tmod_eq_emod_of_nonneg h0;rw[HR.out];rw[waP ⟨h0,h1⟩] at HM;have h7':(k:Int)<7:=by omega
  have hk0:¬(k:Int)<0:=by omega
  clear HR hg hgk hk;generalize zbA (g k) (n%64)=q at *;have hr0:0<=n%64:=by omega
  have hr1:n%64<64:=by omega
  generalize n%64=r at *;go_enter func190,ntmps190;go_wp2_with fail;have hA:=zdv w 40 (.int .u64 (g 0)) (.int .u64 (g 1)) (.int .u64 (g 2)) (.int .u64 (g 3)) (.int .u64 (g 4)) (.int .u64 (g 5)) (.int .u64 (g 6)) (fun j=>.int .u64 (g j)) rfl rfl rfl rfl rfl rfl rfl
  generalize hW1:World.alloc w _=W1 at *;have hb1:Below w.heap.size w W1:=by rw[<-hW1];exact(waC _ _).alloc (waJ _) _
  have ck:=hA.1 k h7;have hz:=hb1.size;clear hW1 hA;refine(HM.out _).mono ?_;rintro e w1 ⟨rfl,rfl⟩;go_wp2_with fail;refine(HH.out _).mono ?_;rintro e w2 ⟨rfl,rfl⟩;go_wp2;go_ret;exact⟨rfl,hb1⟩
 ·have HR:Hid (zgb g n=false):=by show _=_;unfold zgb;rw[waO hn];rfl
  rw[HR.out];rw[waO hn] at HM;clear HR hn hg;go_enter func190,ntmps190;go_wp2_with fail;refine(HM.out _).mono ?_;rintro e w1 ⟨rfl,rfl⟩;go_wp2;go_ret;exact⟨rfl,by exact zaE⟩
end Go.Proofs.YtllcdbgjeidlkaaGreatDoor
