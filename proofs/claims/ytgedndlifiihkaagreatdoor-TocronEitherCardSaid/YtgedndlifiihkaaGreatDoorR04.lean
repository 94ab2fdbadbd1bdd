/- A part of the proof: WMoA WLex5 RPlain -/
import Derived.Test.YtgedndlifiihkaaGreatDoorR03
import Derived.OwnWalk
import Derived.Laws.ResultCell
import Derived.Test.YtgedndlifiihkaaGreatDoorRows
import Derived.Test.YtgedndlifiihkaaGreatDoorR00
import Derived.Deep.LoopGhost
set_option maxHeartbeats 80000000
set_option maxRecDepth 100000
set_option linter.unusedSimpArgs false
set_option linter.unusedVariables false
namespace Go.Proofs.YtgedndlifiihkaaGreatDoor
open Go.Proofs.Tryz
open Go.RowKit
theorem zgR (a b:Int) (ha:0≤a) (ha1:a≤1000000000000000) (hb:1≤b) (hb1:b≤1000000) (w:World):Calls prog 184 #[.int .i64 a,.int .i64 b] w (zbU (.int .i64 (a / b)) w):=by
 have h1:0≤a / b:=Int.ediv_nonneg ha oQ;have h2:0≤a%b:=Int.emod_nonneg _ oQ;have h3:¬a%b<0:=by omega
 have hq:¬b<1:=by omega
 have hb0:(b==0)=false:=by simp;omega
 go_enter func184,ntmps184;go_wp2;go_ret;exact⟨rfl,rfl⟩
theorem ziF (a b:Int) (ha:0≤a) (ha1:a≤1000000000000000) (hb:1≤b) (hb1:b≤1000000) (w:World):Calls prog 185 #[.int .i64 a,.int .i64 b] w (zbU (.int .i64 (a%b)) w):=by
 have h2:0≤a%b:=Int.emod_nonneg _ oQ;have h3:¬a%b<0:=by omega
 have hq:¬b<1:=by omega
 have hb0:(b==0)=false:=by simp;omega
 go_enter func185,ntmps185;go_wp2;go_ret;exact⟨rfl,rfl⟩
theorem zl6 (y:Int) (h0:0≤y) (h1:y≤3000000000) (w:World):Calls prog 187 #[.int .i64 y] w (zbU (.bool (zcJ y)) w):=by
 generalize hq:zcJ y=q;have HQ:=waV hq;clear hq;go_enter func187,ntmps187;go_wp2
 all_goals go_ret
 all_goals (refine⟨zak ?_,rfl⟩;rw[←HQ.out];((try simp only[beq_iff_eq,wbE,bne_iff_ne,ne_eq,zcJ,waM,decide_eq_false_iff_not,waN,wbF,Bool.not_eq_true',Bool.not_eq_false',Bool.and_eq_false_iff,Bool.or_eq_false_iff] at *)
                                            rw[waQ]
                                            (try simp only[zcJ,waM,beq_iff_eq,bne_iff_ne,ne_eq,waN,wbF,Bool.not_eq_true',Bool.not_eq_false',wbE,decide_eq_false_iff_not,iff_true,true_iff,Bool.false_eq_true,false_iff,iff_false,reduceCtorEq])
                                            omega))
theorem ziG {y m:Int} (h1:1≤m) (h2:m≤12) (h:¬(m=2∧zcJ y=true)):zbe y m=zre m:=by
 unfold zbe;rw[if_neg (by omega),if_neg h]
theorem zdm (y m:Int) (h0:0≤y) (h1:y≤3000000000) (w:World):Calls prog 132 #[.int .i64 y,.int .i64 m] w (Ret (.int .i64 (zbe y m)) w):=by
 by_cases hm1:m<1
 ·have HR:Hid (zbe y m=0):=by show _=_;unfold zbe;rw[if_pos (.inl hm1)]
  go_enter func132,ntmps132;go_wp2;go_ret;exact⟨zaN HR.out.symm,waC _ _⟩
 by_cases hm2:12<m
 ·have HR:Hid (zbe y m=0):=by show _=_;unfold zbe;rw[if_pos (.inr hm2)]
  go_enter func132,ntmps132;go_wp2;go_ret;exact⟨zaN HR.out.symm,waC _ _⟩
 by_cases hm:m=2
 ·subst hm;have HL:=waV (zl6 y h0 h1);cases hl:zcJ y with
  |true=>
   have HR:Hid (zbe y 2=29):=by show _=_;unfold zbe;rw[if_neg (by omega),if_pos ⟨rfl,hl⟩]
   rw[hl] at HL;clear hl;go_enter func132,ntmps132;go_wp2_with fail;refine(HL.out _).mono ?_;rintro e w1 ⟨rfl,rfl⟩;go_wp2;go_ret;exact⟨zaN HR.out.symm,by exact zaG⟩
  |false=>
   have HR:Hid (zbe y 2=28):=by show _=_;rw[ziG (by omega) (by omega) (by rw[hl];simp)];rfl
   rw[hl] at HL;clear hl;go_enter func132,ntmps132;go_wp2_with fail;refine(HL.out _).mono ?_;rintro e w1 ⟨rfl,rfl⟩;go_wp2;go_ret;exact⟨zaN HR.out.symm,by exact zaG⟩
 ·have HR:Hid (zbe y m=zre m):=ziG oQ oQ oQ;obtain rfl|rfl|rfl|rfl|rfl|rfl|rfl|rfl|rfl|rfl|rfl:m=1∨m=3∨m=4∨m=5∨m=6∨m=7∨m=8∨m=9∨m=10∨m=11∨m=12:=by omega
  all_goals
   clear hm1 hm2 hm;go_enter func132,ntmps132;go_wp2;go_ret;exact⟨zaN HR.out.symm,by exact zaG⟩
theorem zjL (y m d:Int) (h0:0≤y) (h1:y≤1000000000) (w:World):Calls prog 186 #[.int .i64 y,.int .i64 m,.int .i64 d] w (Ret (.bool (zrf y m d)) w):=by
 have HL:=waV (zdm y m h0 oQ);have hy:-1000000000≤y:=by omega
 by_cases hd:1≤d
 ·have HR:Hid (zrf y m d=decide (d≤zbe y m)):=by show _=_;unfold zrf;simp only[hy,h1,hd,true_and]
  generalize zbe y m=q at *;go_enter func186,ntmps186;go_wp2_with fail;refine(HL.out _).mono ?_;rintro e w1 ⟨rfl,hb⟩;go_wp2;go_ret;exact⟨zak HR.out.symm,hb⟩
 ·have HR:Hid (zrf y m d=false):=by show _=_;unfold zrf;exact waO oQ
  go_enter func186,ntmps186;go_wp2;go_ret;exact⟨zak HR.out.symm,waC _ _⟩
theorem zd6 {fn:Func} {t u v x:Tmp} (h:fn.results=#[.tmp t,.tmp u,.tmp v,.tmp x]) (tmps:Array Value) (P:Program) (w:World):
 (results fn tmps).run P w=.ok (.tuple #[tmps.getD t undef,tmps.getD u undef,tmps.getD v undef,tmps.getD x undef]) w:=by
 simp[results,h]
theorem zl7 (n:Int) (h:0≤n) (h1:n<146097) (w:World):Calls prog 129 #[.int .i64 n] w (Ret (.tuple #[.int .i64 (yD n),.int .i64 (mD n),.int .i64 (dD n),.bool true]) w):=by
 obtain⟨o0,o1⟩:=zk7 h;obtain⟨e0,e1⟩:=zoX h h1;obtain⟨y0,y1,_,_⟩:=zl4 o0 o1;obtain⟨l0,l1,l2⟩:=zoW o0 o1;obtain⟨m0,m1,d0,d1,q0,q1⟩:=zuT l1 l2;obtain⟨hmay,hy0,hy1⟩:=ziE h h1;have HM:=waV (zjL (yD n) (mD n) (dD n) oQ oQ);rw[hmay] at HM;have HF1:=waV (zgR n 365 h oQ oQ oQ);have HF2:=waV (zgR (n+719468) 146097 oQ oQ oQ oQ);have HM2:=waV (ziF (n+719468) 146097 oQ oQ oQ oQ);have f0:0≤n / 365:=by omega
 have f1:n / 365≤2000000000:=by omega
 have HY:Hid (yD n=if mD n≤2 then zjK n * 400+yrs (zbP n)+1 else zjK n * 400+yrs (zbP n)):=by
  show _=_;unfold yD;split<;>omega
 rw[show (n+719468) / 146097=zjK n from rfl] at HF2
 rw[show (n+719468)%146097=zbP n from rfl] at HM2
 have E1:(zbP n - zbP n / 1460+zbP n / 36524 - zbP n / 146096) / 365=yrs (zbP n):=rfl;have E2:zbP n - (yrs (zbP n) * 365+yrs (zbP n) / 4 - yrs (zbP n) / 100)=lft (zbP n):=rfl;have E3:(5 * lft (zbP n)+2) / 153=mm (zbP n):=rfl;have E4:lft (zbP n) - (153 * mm (zbP n)+2) / 5+1=dD n:=rfl;have E5:(mm (zbP n)+2)%12+1=mD n:=rfl
 change 1≤dD n at d0
 change dD n≤31 at d1
 change 1≤mD n at q0
 change mD n≤12 at q1
 clear hmay l0;generalize yD n=YY at *;generalize mD n=MM at *;generalize dD n=DD at *;generalize mm (zbP n)=M at *;generalize lft (zbP n)=L at *;generalize yrs (zbP n)=Y at *;generalize zjK n=E at *;generalize zbP n=o at *
 by_cases hm:MM≤2
 ·have HY2:=HY.out;rw[if_pos hm] at HY2;subst HY2;clear HY;go_enter func129,ntmps129;go_wp2_with fail;refine(HF1.out _).mono ?_;rintro e w1 ⟨rfl,rfl⟩;go_wp2_with fail;refine(HF1.out _).mono ?_;rintro e w1 ⟨rfl,rfl⟩;go_wp2_with fail;refine(HF2.out _).mono ?_;rintro e w1 ⟨rfl,rfl⟩;go_wp2_with fail;refine(HM2.out _).mono ?_;rintro e w1 ⟨rfl,rfl⟩;go_wp2_with fail;refine(HM.out _).mono ?_;rintro e w1 ⟨rfl,hb⟩;go_wp2
  (try simp only[Exit.inBlock,Exit.then])
  refine waY (zd6 rfl _ _ _) rfl ?_;exact⟨rfl,hb⟩
 ·have HY2:=HY.out;rw[if_neg hm] at HY2;subst HY2;clear HY;go_enter func129,ntmps129;go_wp2_with fail;refine(HF1.out _).mono ?_;rintro e w1 ⟨rfl,rfl⟩;go_wp2_with fail;refine(HF1.out _).mono ?_;rintro e w1 ⟨rfl,rfl⟩;go_wp2_with fail;refine(HF2.out _).mono ?_;rintro e w1 ⟨rfl,rfl⟩;go_wp2_with fail;refine(HM2.out _).mono ?_;rintro e w1 ⟨rfl,rfl⟩;go_wp2_with fail;refine(HM.out _).mono ?_;rintro e w1 ⟨rfl,hb⟩;go_wp2
  (try simp only[Exit.inBlock,Exit.then])
  refine waY (zd6 rfl _ _ _) rfl ?_;exact⟨rfl,hb⟩
theorem zjM (s:Int) (h:0≤s) (h1:s<86400) (w:World):Calls prog 180 #[.int .i64 s] w (zbU (.tuple #[.int .i64 (s / 3600),.int .i64 (s / 60%60),.int .i64 (s%60),.bool true]) w):=by
 have e1:0≤s / 60:=by omega
 have h2:¬s<0:=by omega
 have h3:¬86400≤s:=by omega
 go_enter func180,ntmps180;go_wp2
 (try simp only[Exit.inBlock,Exit.then])
 refine waY (zd6 rfl _ _ _) rfl ?_;exact⟨rfl,rfl⟩
def inC (t:Int):Bool:=decide (0≤t∧t<12622780800)
theorem zoY (t:Int) (w:World):Calls prog 158 #[.int .i64 t] w (zbU (.bool (inC t)) w):=by
 generalize hq:inC t=q;have HQ:=waV hq;clear hq;go_enter func158,ntmps158;go_wp2
 all_goals go_ret
 all_goals (refine⟨zak ?_,rfl⟩;rw[←HQ.out];((try simp only[beq_iff_eq,wbE,bne_iff_ne,ne_eq,inC,waM,decide_eq_false_iff_not,waN,wbF,Bool.not_eq_true',Bool.not_eq_false',Bool.and_eq_false_iff,Bool.or_eq_false_iff] at *)
                                            rw[waQ]
                                            (try simp only[inC,waM,beq_iff_eq,bne_iff_ne,ne_eq,waN,wbF,Bool.not_eq_true',Bool.not_eq_false',wbE,decide_eq_false_iff_not,iff_true,true_iff,Bool.false_eq_true,false_iff,iff_false,reduceCtorEq])
                                            omega))
theorem zez (t:Int) (h:inC t=true) (w:World):Calls prog 219 #[.int .i64 t] w (zbU (.tuple #[.int .i64 (t / 86400),.int .i64 (t%86400),.bool true]) w):=by
 have HI:=waV (zoY t);rw[h] at HI;unfold inC at h;rw[waM] at h;obtain⟨h0,h1⟩:=h;go_enter func219,ntmps219;go_wp2_with fail;refine(HI.out _).mono ?_;rintro e w1 ⟨rfl,rfl⟩;go_wp2
 go_ret3
 exact⟨rfl,rfl⟩
theorem zgS (t:Int) (h:inC t=false) (w:World):Calls prog 219 #[.int .i64 t] w (zbU (.tuple #[.int .i64 0,.int .i64 0,.bool false]) w):=by
 have HI:=waV (zoY t);rw[h] at HI;clear h;go_enter func219,ntmps219;go_wp2_with fail;refine(HI.out _).mono ?_;rintro e w1 ⟨rfl,rfl⟩;go_wp2
 go_ret3
 exact⟨rfl,rfl⟩
def Rdr (w:World) (b:Nat) (s:ByteArray) (k:Nat) (bad e:Int):Prop:=
 w.heap[b]?=some (.cells #[.string s,.int .i64 k,.int .i64 bad,.int .i64 e] 168 (0,0))
section
variable {w w' : World} {b : Nat} {s : ByteArray} {k : Nat} {bad e : Int}
theorem Rdr.lt (h:Rdr w b s k bad e):b<w.heap.size:=(waL.1 h).1
theorem Rdr.cells (h:Rdr w b s k bad e):w.cell? ⟨b,0,none⟩=some (.string s)∧w.cell? ⟨b,1,none⟩=some (.int .i64 k)∧w.cell? ⟨b,2,none⟩=some (.int .i64 bad)∧w.cell? ⟨b,3,none⟩=some (.int .i64 e):=by
 unfold Rdr at h;simp[World.cell?,h]
theorem Rdr.free (h:Rdr w b s k bad e) (o:Nat):w.frozen? ⟨b,o,none⟩=false:=by
 unfold Rdr at h;simp[World.frozen?,h]
theorem Rdr.drewN (h:Rdr w b s k bad e) (q:Nat):Rdr (w.drewN q) b s k bad e:=h
theorem Rdr.kept (h:Rdr w b s k bad e) {B:Nat} (hb:Below B w w') (hB:b<B):Rdr w' b s k bad e:=(hb.block b hB).trans h
theorem ziH {w:World} {b o:Nat} {cs:Array Value} {t:TypeId} {v:Value} (h:w.heap[b]?=some (.cells cs t (0,0))):(w.setCell ⟨b,o,none⟩ v).heap[b]?=some (.cells (cs.setIfInBounds o v) t (0,0)):=by
 have hlt:=(waL.1 h).1;have h':w.heap[b]=.cells cs t (0,0):=(waL.1 h).2;show(w.heap.modify b _)[b]?=_;rw[wbI (by simpa using hlt),Array.getElem_modify_self,h']
 rfl
theorem Rdr.setAt (h:Rdr w b s k bad e) (k':Nat):Rdr (w.setCell ⟨b,1,none⟩ (.int .i64 k')) b s k' bad e:=ziH h
theorem Rdr.setBad (h:Rdr w b s k bad e) (x:Int):Rdr (w.setCell ⟨b,2,none⟩ (.int .i64 x)) b s k x e:=ziH h
theorem Rdr.setE (h:Rdr w b s k bad e) (x:Int):Rdr (w.setCell ⟨b,3,none⟩ (.int .i64 x)) b s k bad x:=ziH h
end
abbrev Chg (b:Nat) (w w':World):Prop:=w.grownBy w' (some b)
theorem Chg.refl (b:Nat) (w:World):Chg b w w:=⟨rfl,rfl,rfl,waJ _,fun _ _ _=>rfl⟩
theorem Chg.trans {b:Nat} {w w1 w2:World} (h:Chg b w w1) (g:Chg b w1 w2):Chg b w w2:=
 ⟨g.os.trans h.os,g.tape.trans h.tape,g.output.trans h.output,waW h.size g.size,fun k hk hn=>(g.block k (waD hk h.size) hn).trans (h.block k hk hn)⟩
theorem Chg.drewN {b:Nat} {w w1:World} (h:Chg b w w1) (q:Nat):Chg b w (w1.drewN q):=⟨h.os,h.tape,h.output,h.size,h.block⟩
theorem Chg.set {b:Nat} {w w1:World} (h:Chg b w w1) (o:Nat) (v:Value):Chg b w (w1.setCell ⟨b,o,none⟩ v):=
 h.trans ⟨rfl,rfl,rfl,by simp[World.setCell],fun k _ hn=>wbJ _ _ _ _ (fun e=>hn (by simp[e]))⟩
theorem Chg.alloc {b:Nat} {w w1:World} (h:Chg b w w1) (o:Obj):Chg b w (w1.alloc o):=h.trans (World.grownBy_alloc _ _ _)
theorem Chg.of_below {b:Nat} {w w1:World} (h:Below w.heap.size w w1):Chg b w w1:=⟨h.os,h.tape,h.output,h.size,fun k hk _=>h.block k hk⟩
theorem Chg.below {b B:Nat} {w w1 w2:World} (h:Below B w w1) (g:Chg b w1 w2) (hB:B≤b) (hs:B≤w1.heap.size):Below B w w2:=
 h.trans ⟨g.os,g.tape,g.output,g.size,fun k hk=>g.block k oQ (fun e=>by injection e;omega)⟩
def zcX (s:ByteArray) (k:Nat) (e:Int):Bool:=decide (e≠0∨k=s.size)
theorem zoZ {s:ByteArray} {k:Nat} {e:Int} (h:e≠0):zcX s k e=true:=waP (.inl h)
theorem ziI (s:ByteArray) (k:Nat):zcX s k 0=decide (k=s.size):=by simp[zcX]
theorem zgw {s:ByteArray} {k:Nat} {e:Int} (hk:k≤s.size) (h:zcX s k e=false):e=0∧k<s.size:=by
 simp only[zcX,decide_eq_false_iff_not] at h;omega
theorem zfg (b:Nat) (s:ByteArray) (k:Nat) (bad e:Int) (w:World) (h:Rdr w b s k bad e):Calls prog 104 #[.pointer (some ⟨b,0,none⟩)] w (zq0 (.bool (zcX s k e)) w):=by
 obtain⟨c0,c1,c2,c3⟩:=h.cells;clear h
 by_cases he:e=0
 ·subst he;rw[ziI];have e1:decide (k=s.size)=((k:Int)==(s.size:Int)):=by rw[waQ];simp;omega
  rw[e1];generalize hq:((k:Int)==(s.size:Int))=q;go_enter func104,ntmps104;go_wp2
  go_quiet (fail)
  go_wp2;go_ret;exact⟨rfl,_,rfl⟩
 ·have he':(e !=0)=true:=by simpa using he
  rw[zoZ he];clear he;go_enter func104,ntmps104;go_wp2
  go_quiet (fail)
  go_wp2;go_ret;exact⟨rfl,_,rfl⟩
theorem zo0 (b:Nat) (s:ByteArray) (k:Nat) (bad e:Int) (w:World) (h:Rdr w b s k bad e):Calls prog 56 #[.pointer (some ⟨b,0,none⟩)] w (zbU (.int .i64 k) w):=by
 obtain⟨c0,c1,c2,c3⟩:=h.cells;clear h;go_enter func56,ntmps56;go_wp2;go_ret;exact⟨rfl,rfl⟩
theorem zo1 (b:Nat) (s:ByteArray) (k:Nat) (bad e:Int) (w:World) (h:Rdr w b s k bad e):Calls prog 61 #[.pointer (some ⟨b,0,none⟩)] w (zq0 (.tuple #[.int .i64 bad,.int .i64 e]) w):=by
 obtain⟨c0,c1,c2,c3⟩:=h.cells;clear h;go_enter func61,ntmps61;go_wp2
 go_quiet (fail)
 go_wp2
 go_ret2
 exact⟨rfl,_,rfl⟩
def zty (v:Value) (b:Nat) (s:ByteArray) (k:Nat) (bad e:Int) (w:World) (x:Ending) (w':World):Prop:=x=.returned v∧Rdr w' b s k bad e∧Chg b w w'
def zcp (bad e p q:Int):Int:=if e=0∧q≠0 then p else bad
def zfP (e q:Int):Int:=if e=0 then q else e
theorem zgx (b:Nat) (s:ByteArray) (k:Nat) (bad e p q:Int) (w:World) (h:Rdr w b s k bad e):
 Calls prog 55 #[.pointer (some ⟨b,0,none⟩),.int .i64 p,.int .i64 q] w (zty (.tuple #[]) b s k (zcp bad e p q) (zfP e q) w):=by
 obtain⟨c0,c1,c2,c3⟩:=h.cells;have f2:=h.free 2;have f3:=h.free 3;have H:=waV h;clear h
 by_cases he:e=0
 ·subst he
  by_cases hq:q=0
  ·subst hq;have e1:zcp bad 0 p 0=bad:=by simp[zcp]
   have e2:zfP 0 0=0:=by simp[zfP]
   rw[e1,e2];clear e1 e2;go_enter func55,ntmps55;go_wp2
   go_end0
   exact⟨rfl,H.out,Chg.refl _ _⟩
  ·have hq':(q !=0)=true:=by simpa using hq
   have e1:zcp bad 0 p q=p:=by simp[zcp,hq]
   have e2:zfP 0 q=q:=by simp[zfP]
   rw[e1,e2];clear hq e1 e2;go_enter func55,ntmps55;go_wp2
   go_end0
   exact⟨rfl,(H.out.setBad p).setE q,((Chg.refl _ _).set _ _).set _ _⟩
 ·have he':(e==0)=false:=by simpa using he
  have e1:zcp bad e p q=bad:=by simp[zcp,he]
  have e2:zfP e q=e:=by simp[zfP,he]
  rw[e1,e2];clear he e1 e2;go_enter func55,ntmps55;go_wp2
  go_end0
  exact⟨rfl,H.out,Chg.refl _ _⟩
theorem zo2 (b:Nat) (s:ByteArray) (k:Nat) (bad e:Int) (w:World) (h:Rdr w b s k bad e) (hd:zcX s k e=true):Calls prog 54 #[.pointer (some ⟨b,0,none⟩)] w (zq0 (.int .u8 0) w):=by
 have HD:=waV (zfg b s k bad e w h);rw[hd] at HD;clear h hd;go_enter func54,ntmps54;go_wp2_with fail;refine HD.out.mono ?_;rintro e w1 ⟨rfl,q,rfl⟩;go_wp2;go_ret;exact⟨rfl,_,rfl⟩
theorem zo3 (b:Nat) (s:ByteArray) (k:Nat) (bad:Int) (w:World) (h:Rdr w b s k bad 0) (hk:k<s.size):Calls prog 54 #[.pointer (some ⟨b,0,none⟩)] w (zq0 (.int .u8 (s[k].toNat:Int)) w):=by
 have HD:=waV (zfg b s k bad 0 w h);rw[ziI,waO (by omega)] at HD
 obtain⟨c0,c1,c2,c3⟩:=h.cells;have hk':(k:Int)<(s.size:Int):=by omega
 clear h;go_enter func54,ntmps54;go_wp2_with fail;refine HD.out.mono ?_;rintro e w1 ⟨rfl,q,rfl⟩;go_wp2
 go_quiet (fail)
 go_wp2;go_ret;exact⟨rfl,_,World.drewN_drewN ..⟩
def zk8 (c:UInt8):List Value:=[.int .u8 (c.toNat:Int)]
abbrev zdE (w:World) (A:Option Addr) (n:Nat) (l:List UInt8):Prop:=Rd 1 zk8 w A n l
theorem zdE.at_ {w:World} {A:Option Addr} {n:Nat} {l:List UInt8} (h:zdE w A n l) {i:Nat} (hi:i<n):
 ∃b o x,A=some ⟨b,o,none⟩∧b<w.heap.size∧l[i]?=some x∧w.cell? ⟨b,o+i,none⟩=some (.int .u8 (x.toNat:Int)):=zsQ (f:=fun(x:UInt8)=>.int .u8 (x.toNat:Int)) h hi
theorem zo4 {P:Program} {f:FuncId} {args:Array Value} {w:World} {n:Nat} {v:Value} (h:Calls P f args (w.drewN n) (zq0 v (w.drewN n))):Calls P f args (w.drewN n) fun e w''=>e=.returned v∧∃m,w''=w.drewN m:=
 h.mono fun _ _ ⟨he,m,hm⟩=>⟨he,n+m,by rw[hm,World.drewN_drewN]⟩
theorem zl8 {P:Program} {f:FuncId} {args:Array Value} {w:World} {n:Nat} {v:Value} (h:Calls P f args (w.drewN n) (zbU v (w.drewN n))):Calls P f args (w.drewN n) fun e w''=>e=.returned v∧∃m,w''=w.drewN m:=
 h.mono fun _ _ ⟨he,hm⟩=>⟨he,n,hm.symm⟩
def zs0 (c:UInt8) (l:List UInt8):Int:=match l.idxOf? c with|some i=>i|none=>-1
theorem zrh {c:UInt8} {l:List UInt8} {k:Nat} {x:UInt8} (H:∀j it,j<k→l[j]?=some it→decide (c=it)=false) (hx:l[k]?=some x) (h:c=x):zs0 c l=k:=by
 subst h;have:l.idxOf? c=some k:=by
  rw[List.idxOf?_eq_some_iff];have hk:=waI.1 hx;refine⟨hk.1,by simp[hk.2],fun j hj=>?_⟩
  have:=H j _ hj (waE (Nat.lt_trans hj hk.1));simp only[decide_eq_false_iff_not] at this;simpa using fun e=>this e.symm
 simp[zs0,this]
theorem zo5 {c:UInt8} {l:List UInt8} (H:∀j it,j<l.length→l[j]?=some it→decide (c=it)=false):zs0 c l=-1:=by
 have:l.idxOf? c=none:=by
  rw[List.idxOf?_eq_none_iff];intro hx;obtain⟨j,hj⟩:=List.getElem?_of_mem hx;have:=H j c (waI.1 hj).1 hj;simp at this
 simp[zs0,this]
theorem zo6 (c:UInt8) (l:List UInt8):decide (0≤zs0 c l)=l.elem c:=by
 unfold zs0;cases h:l.idxOf? c with
 |none=>
  rw[List.idxOf?_eq_none_iff] at h;simp[h]
 |some i=>
  have:c∈l:=by
   rcases Decidable.em (c∈l) with h1|h1
   ·exact h1
   ·rw[List.idxOf?_eq_none_iff.2 h1] at h;cases h
  simp[this]
theorem zuV (a b:UInt8):(((a.toNat:Nat):Int)==((b.toNat:Nat):Int))=decide (a=b):=by
 rw[waQ];simp only[beq_iff_eq,waM];exact⟨fun h=>UInt8.toNat_inj.1 (by omega),fun h=>by rw[h]⟩
theorem zne (A:Option Addr) (n c:Nat) (l:List UInt8) (x:UInt8) (w:World) (hA:zdE w A n l) (hn:n≤9223372036854775807):
 Calls prog 205 #[.slice A n c,.int .u8 (x.toNat:Int)] w (zbU (.int .i64 (zs0 x l)) w):=by
 have HL:Hid (l.length=n):=hA.1;go_enter func205,ntmps205;go_wp2
 go_loop [8] (fun i=>∃k:Nat,k≤n∧i=.int .i64 k∧Hid (∀j it,j<k→l[j]?=some it→decide (x=it)=false)) (fun i=>n - (intOf i).toNat)
 case atStart=>exact⟨0,waK _,rfl,fun j _ h=>absurd h (Nat.not_lt_zero _)⟩
 case round=>
  obtain⟨k,hk,rfl,H⟩:=hrel
  by_cases hlt:k<n
  ·obtain⟨b,o,y,rfl,_,hx,c0⟩:=zdE.at_ hA hlt
   have hlt':(k:Int)<(n:Int):=by omega
   have Hx:=waV hx;clear hx
   by_cases he:x=y
   ·have He:=waV he;have hb:(((x.toNat:Nat):Int)==((y.toNat:Nat):Int))=true:=by rw[zuV];simpa using he
    clear he;go_wp2;go_ret;exact⟨zaN (zrh H.out Hx.out He.out).symm,rfl⟩
   ·have He:Hid (decide (x=y)=false):=waO he;have hb:(((x.toNat:Nat):Int)==((y.toNat:Nat):Int))=false:=by rw[zuV];exact waO he
    clear he;go_wp2
    go_round
    case rel=>exact⟨k+1,by omega,by go_num,zgt (p:=fun it=>decide (x=it)) H.out Hx.out He.out⟩
    case measure=>simp [intOf];omega
  ·obtain rfl:k=n:=by omega
   go_wp2;go_ret;exact⟨zaN (zo5 (HL.out▸H.out)).symm,rfl⟩
theorem ziJ (A:Option Addr) (n c:Nat) (l:List UInt8) (x:UInt8) (w:World) (hA:zdE w A n l) (hn:n≤9223372036854775807):
 Calls prog 159 #[.slice A n c,.int .u8 (x.toNat:Int)] w (zbU (.bool (l.elem x)) w):=by
 have HC:=waV (zne A n c l x w hA hn);rw[←zo6];generalize zs0 x l=q at HC ⊢;clear hA;go_enter func159,ntmps159
 go_wp2_with (go_at_call 205;refine HC.out.mono ?_;rintro e w1 ⟨rfl,rfl⟩)
 go_ret;exact⟨rfl,rfl⟩
def isB (s:ByteArray) (k:Nat) (e:Int) (cs:List UInt8):Bool:=if h:e=0∧k<s.size then cs.elem (s[k]'h.2) else false
theorem zl9 {s:ByteArray} {k:Nat} {e:Int} {cs:List UInt8} (h:zcX s k e=true):isB s k e cs=false:=by
 simp only[zcX,waM] at h;exact dif_neg oQ
theorem zo7 {s:ByteArray} {k:Nat} {cs:List UInt8} (h:k<s.size):isB s k 0 cs=cs.elem s[k]:=dif_pos ⟨rfl,h⟩
def isK (s:ByteArray) (k:Nat) (e:Int) (cs:List UInt8):Nat:=if isB s k e cs then k+1 else k
theorem zs1 (b:Nat) (s:ByteArray) (k:Nat) (bad e:Int) (A:Option Addr) (n c:Nat) (cs:List UInt8) (w:World) (h:Rdr w b s k bad e) (hs:s.size≤9223372036854775807) (hk:k≤s.size) (hA:zdE w A n cs) (hn:n≤9223372036854775807):
 Calls prog 105 #[.pointer (some ⟨b,0,none⟩),.slice A n c] w (zty (.bool (isB s k e cs)) b s (isK s k e cs) bad e w):=by
 have HD:=waV (fun q=>zfg b s k bad e (w.drewN q) h)
 have H:=waV h;cases hd:zcX s k e with
 |true=>
  rw[hd] at HD;have e1:=zl9 (cs:=cs) hd;rw[isK,e1];clear e1 hd h hA;go_enter func105,ntmps105;go_wp2
  go_quiet ((go_at_call 104;exact zo4 (HD.out _)))
  go_wp2;go_ret;exact⟨rfl,H.out.drewN _,(Chg.refl _ _).drewN _⟩
 |false=>
  rw[hd] at HD;obtain⟨rfl,hlt⟩:=zgw hk hd;have hlt':(k:Int)<(s.size:Int):=by omega
  have HC:=waV (fun q=>ziJ A n c cs s[k] (w.drewN q) hA hn)
  have e1:=zo7 (cs:=cs) hlt;rw[isK,e1];obtain⟨c0,c1,c2,c3⟩:=h.cells;have f1:=h.free 1;clear e1 hd h hA hk;cases hq:cs.elem s[k] with
  |false=>
   rw[hq] at HC;clear hq;go_enter func105,ntmps105;go_wp2
   go_quiet ((first|(go_at_call 104;exact zo4 (HD.out _))|(go_at_call 159;exact zl8 (HC.out _))))
   go_wp2;go_ret;exact⟨rfl,H.out.drewN _,(Chg.refl _ _).drewN _⟩
  |true=>
   rw[hq] at HC;clear hq;go_enter func105,ntmps105;go_wp2
   go_quiet ((first|(go_at_call 104;exact zo4 (HD.out _))|(go_at_call 159;exact zl8 (HC.out _))))
   go_wp2;go_ret;exact⟨rfl,(H.out.drewN _).setAt _,((Chg.refl _ _).drewN _).set _ _⟩
def ztz (g:Nat) (p:UInt8→Bool):Prop:=∀(W:World) (x:UInt8),Calls prog g #[.int .u8 (x.toNat:Int)] W (zbU (.bool (p x)) W)
def zbQ (c:UInt8):Bool:=decide (c=32∨c=9)
def zaM (c:UInt8):Bool:=decide (48≤c.toNat∧c.toNat≤57)
theorem zs2 (a:UInt8) (b:Nat) (hb:b<256):(a.toNat=b)↔a=UInt8.ofNat b:=by
 constructor
 ·intro h;apply UInt8.toNat_inj.1;rw[h];simp;omega
 ·rintro rfl;simp;omega
theorem znf:ztz 103 zbQ:=by
 intro W x;have e:zbQ x=decide ((x.toNat:Int)=32∨(x.toNat:Int)=9):=by
  unfold zbQ;rw[waQ];simp only[waM];have h1:=zs2 x 32 oQ;have h2:=zs2 x 9 oQ;constructor
  ·rintro (h|h)
   ·left;have:=h1.2 h;omega
   ·right;have:=h2.2 h;omega
  ·rintro (h|h)
   ·left;exact h1.1 oQ
   ·right;exact h2.1 oQ
 rw[e];generalize (x.toNat:Int)=c;clear e
 by_cases h1:c=32
 ·subst h1;go_enter func103,ntmps103;go_wp2;go_ret;exact⟨rfl,rfl⟩
 ·have h1':(c==32)=false:=by simpa using h1
  have e2:decide (c=32∨c=9)=(c==9):=by rw[waQ];simp[h1]
  rw[e2];generalize hq:(c==9)=q;clear h1 e2;go_enter func103,ntmps103;go_wp2;go_ret;exact⟨rfl,rfl⟩
theorem zng:ztz 206 zaM:=by
 intro W x;have e:zaM x=decide (48≤(x.toNat:Int)∧(x.toNat:Int)≤57):=by
  unfold zaM;rw[waQ];simp only[waM];omega
 rw[e];generalize hc:(x.toNat:Int)=c;clear e hc
 by_cases h1:48≤c
 ·have e2:decide (48≤c∧c≤57)=decide (c≤57):=by rw[waQ];simp[h1]
  rw[e2];clear e2;go_enter func206,ntmps206;go_wp2;go_ret;exact⟨rfl,rfl⟩
 ·have e2:decide (48≤c∧c≤57)=false:=by simp[h1]
  rw[e2];clear e2;go_enter func206,ntmps206;go_wp2;go_ret;exact⟨rfl,rfl⟩
def zge (p:UInt8→Bool) (s:ByteArray) (k:Nat):Nat:=((s.data.toList.drop k).takeWhile p).length
def zbC (p:UInt8→Bool) (s:ByteArray) (k:Nat) (e:Int):Nat:=if zcX s k e then k else k+zge p s k
theorem zri {p:UInt8→Bool} {l:List UInt8} {j:Nat} (H:∀i x,i<j→l[i]?=some x→p x=true) (hj:j≤l.length) (h:∀x,l[j]?=some x→p x=false):(l.takeWhile p).length=j:=by
 induction l generalizing j with
 |nil=>simp at hj ⊢;omega
 |cons a l ih=>
  cases j with
  |zero=>
   have:=h a rfl;simp[List.takeWhile_cons,this]
  |succ j=>
   have h0:=H 0 a oQ rfl;rw[List.takeWhile_cons,h0];simp only[if_true,waG];rw[ih (j:=j) (fun i x hi hx=>H (i+1) x (by omega) (by simpa using hx)) (by simpa using hj) (fun x hx=>h x (by simpa using hx))]
theorem zgT {p:UInt8→Bool} {s:ByteArray} {k j:Nat} (hkj:k≤j) (hj:j≤s.size) (H:∀i x,k≤i→i<j→s.data.toList[i]?=some x→p x=true) (h:∀x,s.data.toList[j]?=some x→p x=false):zge p s k=j - k:=by
 unfold zge;apply zri
 ·intro i x hi hx;rw[List.getElem?_drop] at hx;exact H (k+i) x oQ oQ hx
 ·simp;have:s.data.size=s.size:=rfl;omega
 ·intro x hx;rw[List.getElem?_drop] at hx;exact h x (by rw[show j=k+(j - k) from by omega];exact hx)
theorem zk9 (s:ByteArray) (k:Nat) (h:k<s.size):s.data.toList[k]?=some s[k]:=by
 rw[waE (by simpa using h)]
 rfl
theorem zgf (s:ByteArray) (k:Nat):s.extract k k=⟨#[]⟩:=by
 apply ByteArray.ext;simp
theorem zma (b:Nat) (s:ByteArray) (k:Nat) (bad e:Int) (g:Nat) (p:UInt8→Bool) (w:World) (h:Rdr w b s k bad e) (hs:s.size≤9223372036854775807) (hk:k≤s.size)
 (eg:∀args w,(callFunc g args).run prog w=.ok (.enter g args) w) (hp:ztz g p):
 Calls prog 102 #[.pointer (some ⟨b,0,none⟩),.func (.func g) #[] #[]] w (zty (.string (s.extract k (zbC p s k e))) b s (zbC p s k e) bad e w):=by
 have HD:=waV (zfg b s k bad e w h);have H:=waV h;cases hd:zcX s k e with
 |true=>
  rw[hd] at HD;rw[zbC,hd,if_pos rfl,zgf];clear hd h hp eg;go_enter func102,ntmps102;go_wp2_with fail;refine HD.out.mono ?_;rintro e w1 ⟨rfl,q,rfl⟩;go_wp2;go_ret;exact⟨rfl,H.out.drewN _,(Chg.refl _ _).drewN _⟩
 |false=>
  rw[hd] at HD;obtain⟨rfl,hlt⟩:=zgw hk hd;rw[zbC,hd,if_neg (by decide)]
  obtain⟨c0,c1,c2,c3⟩:=h.cells;have HP:=waV hp;clear hd h hk hp;generalize hr:k+zge p s k=r;have HR:=waV hr;clear hr;go_enter func102,ntmps102;go_wp2_with fail;refine HD.out.mono ?_;rintro e w1 ⟨rfl,q,rfl⟩;go_wp2
  go_loopg [] (s.size - k) (fun gg wr=>∃j:Nat,k≤j∧j≤s.size∧gg=s.size - j∧Hid (∀i x,k≤i→i<j→s.data.toList[i]?=some x→p x=true)∧Hid (Rdr wr b s j bad 0)∧Hid (Chg b w wr))
  case atStart=>exact⟨k,waJ _,by omega,rfl,fun i x h1 h2=>by omega,H.out.drewN _,(Chg.refl _ _).drewN _⟩
  case round=>
   obtain⟨j,hkj,hj,hgj,HI,HJ,HC⟩:=hrel;obtain⟨d0,d1,d2,d3⟩:=HJ.out.cells;have f1:=HJ.out.free 1
   by_cases hlj:j<s.size
   ·have hlj':(j:Int)<(s.size:Int):=by omega
    have HQ:=waV (fun W=>HP.out W s[j])
    cases hq:p s[j] with
    |true=>
     have Hq:Hid (p s[j]=true):=hq;rw[hq] at HQ;clear hq;go_wp2
     go_quiet ((go_at_fn g;exact zl8 (HQ.out _)))
     go_wp2
     go_roundg (s.size - (j+1))
     case measure=>omega
     case rel=>
      exact⟨j+1,by omega,by omega,rfl,(fun i x h1 h2 hx=>by
       rcases Nat.lt_or_ge i j with h3|h3
       ·exact HI.out i x h1 h3 hx
       ·obtain rfl:i=j:=by omega
        rw[zk9 s i hlj] at hx;cases hx;exact Hq.out),(HJ.out.drewN _).setAt _,(HC.out.drewN _).set _ _⟩
    |false=>
     have Hr:Hid (r=j):=by
      show r=j;rw[←HR.out,zgT hkj hj HI.out (fun x hx=>by rw[zk9 s j hlj] at hx;cases hx;exact hq)]
      omega
     rw[hq] at HQ;clear hq;go_wp2
     go_quiet ((go_at_fn g;exact zl8 (HQ.out _)))
     go_wp2
     go_quiet (fail)
     go_wp2;go_ret;refine⟨?_,?_,?_⟩
     ·rw[Hr.out];rfl
     ·rw[Hr.out];exact HJ.out
     ·exact(HC.out.drewN _).drewN _
   ·obtain rfl:j=s.size:=by omega
    have Hr:Hid (r=s.size):=by
     show r=s.size;rw[←HR.out,zgT hkj (waJ _) HI.out (fun x hx=>by
      have:=(waI.1 hx).1;rw[Array.length_toList] at this;have e:s.data.size=s.size:=rfl;omega)]
     omega
    go_wp2
    go_quiet (fail)
    go_wp2
    go_quiet (fail)
    go_wp2;go_ret;refine⟨?_,?_,?_⟩
    ·rw[Hr.out];rfl
    ·rw[Hr.out];exact HJ.out
    ·exact(HC.out.drewN _).drewN _
def znh (s:ByteArray) (k:Nat):Int:=if k=s.size then 2 else 3
theorem zo8 (b:Nat) (s:ByteArray) (k:Nat) (bad e:Int) (w:World) (h:Rdr w b s k bad e):
 Calls prog 166 #[.pointer (some ⟨b,0,none⟩)] w (zty (.tuple #[]) b s k (zcp bad e k (znh s k)) (zfP e (znh s k)) w):=by
 obtain⟨c0,c1,c2,c3⟩:=h.cells;have HF:=waV (fun W q (h:Rdr W b s k bad e)=>zgx b s k bad e k q W h)
 have H:=waV h;clear h
 by_cases he:k=s.size
 ·have he':((k:Int)==(s.size:Int))=true:=by simp;omega
  have e1:znh s k=2:=if_pos he;rw[e1];clear he e1;go_enter func166,ntmps166;go_wp2
  go_quiet (fail)
  go_wp2_with fail;refine(HF.out _ _ (H.out.drewN _)).mono ?_;rintro x w1 ⟨rfl,h1,g1⟩;go_wp2
  first|go_end0|(refine waY (results_none rfl _ _ _) rfl ?_)
  exact⟨rfl,h1,((Chg.refl _ _).drewN _).trans g1⟩
 ·have he':((k:Int)==(s.size:Int))=false:=by simp;omega
  have e1:znh s k=3:=if_neg he;rw[e1];clear he e1;go_enter func166,ntmps166;go_wp2
  go_quiet (fail)
  go_wp2_with fail;refine(HF.out _ _ (H.out.drewN _)).mono ?_;rintro x w1 ⟨rfl,h1,g1⟩;go_wp2
  first|go_end0|(refine waY (results_none rfl _ _ _) rfl ?_)
  exact⟨rfl,h1,((Chg.refl _ _).drewN _).trans g1⟩
def zrj (s:ByteArray) (k:Nat) (e:Int):Int:=if h:e=0∧k<s.size then((s[k]'h.2).toNat:Int) else 0
theorem zhZ {s:ByteArray} {k:Nat} {e:Int} (h:zcX s k e=true):zrj s k e=0:=by
 simp only[zcX,waM] at h;exact dif_neg oQ
theorem zmb {s:ByteArray} {k:Nat} (h:k<s.size):zrj s k 0=(s[k].toNat:Int):=dif_pos ⟨rfl,h⟩
theorem zrk (b:Nat) (s:ByteArray) (k:Nat) (bad e:Int) (w:World) (h:Rdr w b s k bad e) (hk:k≤s.size):Calls prog 54 #[.pointer (some ⟨b,0,none⟩)] w (zq0 (.int .u8 (zrj s k e)) w):=by
 cases hd:zcX s k e with
 |true=>rw [zhZ hd];exact zo2 b s k bad e w h hd
 |false=>
  obtain⟨rfl,hlt⟩:=zgw hk hd;rw[zmb hlt];exact zo3 b s k bad w h hlt
theorem zni (b:Nat) (s:ByteArray) (k:Nat) (bad e:Int) (w:World) (h:Rdr w b s k bad e) (hs:s.size≤9223372036854775807) (hk:k≤s.size):
 Calls prog 53 #[.pointer (some ⟨b,0,none⟩)] w (zty (.int .i64 ((s.extract k (zbC zbQ s k e)).size:Nat)) b s (zbC zbQ s k e) bad e w):=by
 have HS:=waV (zma b s k bad e 103 zbQ w h hs hk (enters_of func103 kQ rfl) znf);generalize zbC zbQ s k e=j at HS ⊢;clear h;go_enter func53,ntmps53;go_wp2_with fail;refine HS.out.mono ?_;rintro x w1 ⟨rfl,h1,g1⟩;generalize ht:s.extract k j=t;have HT:=waV ht;clear ht;go_wp2;go_ret;exact⟨by rw[HT.out];rfl,h1,g1⟩
theorem ztA (b:Nat) (s:ByteArray) (k:Nat) (bad e:Int) (w:World) (h:Rdr w b s k bad e) (hk:k≤s.size):
 Calls prog 60 #[.pointer (some ⟨b,0,none⟩)] w (zty (.tuple #[]) b s k (if zcX s k e then bad else k) (if zcX s k e then e else 3) w):=by
 have HD:=waV (zfg b s k bad e w h);have H:=waV h;cases hd:zcX s k e with
 |true=>
  rw[hd] at HD;simp only[if_true];clear hd h;go_enter func60,ntmps60;go_wp2_with fail;refine HD.out.mono ?_;rintro x w1 ⟨rfl,q,rfl⟩;go_wp2
  first|go_end0|(refine waY (results_none rfl _ _ _) rfl ?_)
  exact⟨rfl,H.out.drewN _,(Chg.refl _ _).drewN _⟩
 |false=>
  rw[hd] at HD;obtain⟨rfl,hlt⟩:=zgw hk hd;simp only[Bool.false_eq_true,if_false];have HF:=waV (fun q=>zgx b s k bad 0 k 3 (w.drewN q) (h.drewN q))
  rw[show zcp bad 0 k 3=k from by simp[zcp],show zfP 0 3=3 from by simp[zfP]] at HF
  obtain⟨c0,c1,c2,c3⟩:=h.cells;clear hd h;go_enter func60,ntmps60;go_wp2_with fail;refine HD.out.mono ?_;rintro x w1 ⟨rfl,q,rfl⟩;go_wp2_with fail;refine(HF.out _).mono ?_;rintro x w1 ⟨rfl,h1,g1⟩;go_wp2
  first|go_end0|(refine waY (results_none rfl _ _ _) rfl ?_)
  exact⟨rfl,h1,((Chg.refl _ _).drewN _).trans g1⟩
def zuW (s:ByteArray) (bad e:Int) (w:World) (x:Ending) (w':World):Prop:=∃b,w.heap.size≤b∧x=.returned (.pointer (some ⟨b,0,none⟩))∧Rdr w' b s 0 bad e∧Below w.heap.size w w'
def zmc (s:ByteArray):Int:=if 8192<s.size then 8192 else 0
def newE (s:ByteArray):Int:=if 8192<s.size then 5 else 0
theorem ztB (s:ByteArray) (w:World) (hs:s.size≤9223372036854775807):Calls prog 52 #[.string s] w (zuW s (zmc s) (newE s) w):=by
 have HF:=waV (fun W b h=>zgx b s 0 0 0 8192 5 W h)
 rw[show zcp 0 0 8192 5=8192 from by simp[zcp],show zfP 0 5=5 from by simp[zfP]] at HF
 by_cases hl:8192<s.size
 ·have hl':(8192:Int)<(s.size:Int):=by omega
  rw[zmc,newE,if_pos hl,if_pos hl];clear hl;go_enter func52,ntmps52;go_wp2_with fail;refine(HF.out _ _ (heap_alloc_new w _)).mono ?_;rintro x w1 ⟨rfl,h1,g1⟩;go_wp2;go_ret;exact⟨w.heap.size,waJ _,rfl,h1,Chg.below ((waC _ w).alloc (waJ _) _) g1 (waJ _) (by simp)⟩
 ·have hl':¬(8192:Int)<(s.size:Int):=by omega
  rw[zmc,newE,if_neg hl,if_neg hl];clear hl;go_enter func52,ntmps52;go_wp2;go_ret;exact⟨w.heap.size,waJ _,rfl,heap_alloc_new w _,(waC _ w).alloc (waJ _) _⟩
def zfh (l:List UInt8):Int:=l.foldl (fun n c=>10 * n+((c.toNat:Int) - 48)) 0
theorem znj (l:List UInt8) (c:UInt8):zfh (l++[c])=10 * zfh l+((c.toNat:Int) - 48):=by simp[zfh,List.foldl_append]
theorem zrl (l:List UInt8) (h:∀c∈l,zaM c=true) (a:Int) (ha:0≤a):
 0≤l.foldl (fun n (c:UInt8)=>10 * n+((c.toNat:Int) - 48)) a∧l.foldl (fun n (c:UInt8)=>10 * n+((c.toNat:Int) - 48)) a<(a+1) * 10^l.length:=by
 induction l generalizing a with
 |nil=>simp;omega
 |cons c l ih=>
  have h2:=h c (by simp)
  simp only[zaM,waM] at h2;have h3:=ih (fun c hc=>h c (List.mem_cons_of_mem _ hc)) (10 * a+((c.toNat:Int) - 48)) oQ
  rw[List.foldl_cons,waG,Int.pow_succ];refine⟨h3.1,Int.lt_of_lt_of_le h3.2 ?_⟩;have h4:(0:Int)≤10^l.length:=Int.pow_nonneg dQ;generalize (10:Int)^l.length=q at h4 ⊢
  calc (10 * a+((c.toNat:Int) - 48)+1) * q≤((a+1) * 10) * q:=Int.mul_le_mul_of_nonneg_right oQ h4
   _=(a+1) * (q * 10):=by rw[Int.mul_assoc,Int.mul_comm 10 q]
theorem zrm (l:List UInt8) (h:∀c∈l,zaM c=true):0≤zfh l∧zfh l<10^l.length:=by
 have:=zrl l h 0 dQ;simpa[zfh] using this
theorem zrn {k:Nat} (h:k≤17):(10:Int)^k≤100000000000000000:=by
 have:k=0∨k=1∨k=2∨k=3∨k=4∨k=5∨k=6∨k=7∨k=8∨k=9∨k=10∨k=11∨k=12∨k=13∨k=14∨k=15∨k=16∨k=17:=by omega
 rcases this with rfl|rfl|rfl|rfl|rfl|rfl|rfl|rfl|rfl|rfl|rfl|rfl|rfl|rfl|rfl|rfl|rfl|rfl<;>decide
theorem ztC {p:UInt8→Bool} (l:List UInt8):∀x∈l.takeWhile p,p x=true:=by
 induction l with
 |nil=>simp
 |cons a l ih=>
  intro x hx;rw[List.takeWhile_cons] at hx;split at hx
  ·simp only[List.mem_cons] at hx;rcases hx with rfl|hx
   ·assumption
   ·exact ih x hx
  ·simp at hx
theorem ziK (p:UInt8→Bool) (s:ByteArray) (k:Nat) (e:Int) (hk:k≤s.size):k≤zbC p s k e∧zbC p s k e≤s.size:=by
 unfold zbC;split
 ·exact⟨waJ _,hk⟩
 ·refine⟨Nat.le_add_right _ _,?_⟩;have h1:((s.data.toList.drop k).takeWhile p).length≤(s.data.toList.drop k).length:=(List.takeWhile_prefix p).length_le;rw[List.length_drop] at h1;have e0:s.data.toList.length=s.data.size:=Array.length_toList;have e:s.data.size=s.size:=rfl;have e2:zge p s k=((s.data.toList.drop k).takeWhile p).length:=rfl;omega
def zuF (p:UInt8→Bool) (s:ByteArray) (k:Nat) (e:Int):List UInt8:=(s.data.toList.drop k).take (zbC p s k e - k)
theorem zro (p:UInt8→Bool) (s:ByteArray) (k:Nat) (e:Int):∀x∈zuF p s k e,p x=true:=by
 unfold zuF zbC;split
 ·simp
 ·rw[show k+zge p s k - k=zge p s k from by omega]
  unfold zge;rw[show (s.data.toList.drop k).take ((s.data.toList.drop k).takeWhile p).length=(s.data.toList.drop k).takeWhile p from(List.prefix_iff_eq_take.1 (List.takeWhile_prefix p)).symm]
  exact ztC _
theorem zd7 (s:ByteArray) (k j:Nat):(s.extract k j).data.toList=(s.data.toList.drop k).take (j - k):=by
 rw[ByteArray.data_extract,Array.toList_extract,List.extract_eq_take_drop]
def zq1 (s:ByteArray) (k:Nat) (e most:Int):Bool:=decide (zbC zaM s k e≠k∧((zbC zaM s k e - k:Nat):Int)≤most∧most≤18)
def zmd (s:ByteArray) (k:Nat) (e:Int):Int:=if zbC zaM s k e=k then znh s k else 4
theorem znk (t:ByteArray) (w:World):∃cap C,(convert 9 242 (.string t)).run prog w=.ok (.slice (some ⟨w.heap.size,0,none⟩) t.size cap) (w.drew.alloc (.cells C 5 (C.size,C.size+1)))∧
 ∀(i:Nat) (x:UInt8),t.data.toList[i]?=some x→C[i]?=some (Value.int .u8 (x.toNat:Int)):=by
 refine⟨_,_,run_bytes_of_string w 9 242 5 t underlying9 underlying242 underlying5,?_⟩;intro i x hx;have hi:=(waI.1 hx).1;rw[Array.length_toList] at hi;rw[bytesRow,Array.getElem?_append_left (by simpa using hi),Array.getElem?_map]
 simp only[Array.getElem?_toList] at hx;rw[hx];rfl
theorem znl (b:Nat) (s:ByteArray) (k:Nat) (bad e most:Int) (w:World) (h:Rdr w b s k bad e) (hs:s.size≤9223372036854775807) (hk:k≤s.size):
 Calls prog 160 #[.pointer (some ⟨b,0,none⟩),.int .i64 most] w
  (zty (.tuple #[.int .i64 (if zq1 s k e most then zfh (zuF zaM s k e) else 0),.bool (zq1 s k e most)]) b s (if zq1 s k e most then zbC zaM s k e else k)
    (if zq1 s k e most then bad else zcp bad e k (zmd s k e)) (if zq1 s k e most then e else zfP e (zmd s k e)) w):=by
 have HA:=waV (zo0 b s k bad e w h);have HS:=waV (zma b s k bad e 206 zaM w h hs hk (enters_of func206 kQ rfl) zng);have hj:=ziK zaM s k e hk;have HL:=waV (fun W (h:Rdr W b s k bad e)=>zo8 b s k bad e W h)
 have HF:=waV (fun W (h:Rdr W b s k bad e)=>zgx b s k bad e k 4 W h)
 clear h
 by_cases h0:zbC zaM s k e=k
 ·have e1:zq1 s k e most=false:=by simp[zq1,h0]
  have e2:zmd s k e=znh s k:=if_pos h0;rw[e1,e2];simp only[Bool.false_eq_true,if_false];rw[h0,zgf] at HS;clear h0 e1 e2 hj;go_enter func160,ntmps160;go_wp2_with fail;refine HA.out.mono ?_;rintro x w1 ⟨rfl,rfl⟩;go_wp2_with fail;refine HS.out.mono ?_;rintro x w1 ⟨rfl,h1,g1⟩;go_wp2_with fail;refine(HL.out _ h1).mono ?_;rintro x w2 ⟨rfl,h2,g2⟩;go_wp2
  go_ret2
  exact⟨rfl,h2,g1.trans g2⟩
 have hlen:(s.extract k (zbC zaM s k e)).size=zbC zaM s k e - k:=by simp;omega
 have ht0:(s.extract k (zbC zaM s k e)).toList.isEmpty=false:=by
  rw[ByteArray.toList_eq];cases hq:(s.extract k (zbC zaM s k e)).data.toList with
  |nil=>
   have:(s.extract k (zbC zaM s k e)).data.size=0:=by rw[←Array.length_toList,hq];rfl
   have e3:(s.extract k (zbC zaM s k e)).data.size=(s.extract k (zbC zaM s k e)).size:=rfl;omega
  |cons a l=>rfl
 have hrl:(s.extract k (zbC zaM s k e)).data.toList=zuF zaM s k e:=zd7 _ _ _;have hall:=zro zaM s k e;have hjp:k<zbC zaM s k e:=by omega
 by_cases hm:((zbC zaM s k e - k:Nat):Int)≤most∧most≤18
 ·have e1:zq1 s k e most=true:=waP ⟨h0,hm⟩;rw[e1];simp only[if_true];clear e1 h0 HL HF;generalize zbC zaM s k e=j at *;generalize ht:s.extract k j=t at *;generalize zuF zaM s k e=L at *;have hm1:¬most<(t.size:Int):=by omega
  have hm2:¬18<most:=by omega
  have hsz18:t.size≤18:=by omega
  have HRL:=waV hrl;have HAll:=waV hall;clear ht hrl hall hlen hm hj;go_enter func160,ntmps160;go_wp2_with fail;refine HA.out.mono ?_;rintro x w1 ⟨rfl,rfl⟩;go_wp2_with fail;refine HS.out.mono ?_;rintro x w1 ⟨rfl,h1,g1⟩;obtain⟨cap,C,hconv,hC⟩:=znk t w1;have HC:=waV hC;have H1:=waV h1;clear hC h1;have hcell:∀(i:Nat) (x:UInt8),t.data.toList[i]?=some x→(w1.alloc (.cells C 5 (C.size,C.size+1))).cell? ⟨w1.heap.size,i,none⟩=some (.int .u8 (x.toNat:Int)):=by
   intro i x hx;have h1:=heap_alloc_new w1 (.cells C 5 (C.size,C.size+1));unfold World.cell?;rw[h1];exact HC.out i x hx
  have HCell:=waV hcell;have htl:t.data.toList.length=t.size:=Array.length_toList;clear hcell;go_wp2
  go_loop [8,39] (fun v i=>∃q:Nat,q≤t.size∧i=.int .i64 q∧v=.int .i64 (zfh (t.data.toList.take q))) (fun _ i=>t.size - (intOf i).toNat)
  case atStart=>exact⟨0,waK _,rfl,rfl⟩
  case round=>
   obtain⟨q,hq,rfl,rfl⟩:=hrel
   by_cases hlt:q<t.size
   ·have hx:t.data.toList[q]?=some t[q]:=zk9 t q hlt;have c0:=HCell.out q _ hx;have hd:zaM t[q]=true:=HAll.out _ (HRL.out▸List.mem_of_getElem? hx);simp only[zaM,waM] at hd;have hb1:(48:Int)≤(t[q].toNat:Int):=by omega
    have hb2:(t[q].toNat:Int)≤57:=by omega
    have hbd:=zrm (t.data.toList.take q) (fun c hc=>HAll.out c (HRL.out▸List.mem_of_mem_take hc))
    rw[List.length_take_of_le (by omega)] at hbd
    have hp:=zrn (k:=q) oQ;have hs1:t.data.toList.take (q+1)=t.data.toList.take q++[t[q]]:=by
     rw[List.take_add_one,hx];rfl
    have HS1:Hid (zfh (t.data.toList.take (q+1))=10 * zfh (t.data.toList.take q)+((t[q].toNat:Int) - 48)):=by
     show _=_;rw[hs1,znj]
    have hlt':(q:Int)<(t.size:Int):=by omega
    have hn1:0≤zfh (t.data.toList.take q):=hbd.1;have hn2:zfh (t.data.toList.take q)≤100000000000000000:=by omega
    clear hx hd hbd hp hs1 htl;generalize hg:zfh (t.data.toList.take q)=nq at *;clear hg;generalize hc:(t[q].toNat:Int)=cq at *;clear hc;go_wp2
    go_round
    case rel=>exact⟨q+1,by omega,by go_num,by rw[HS1.out]⟩
    case measure=>simp [intOf];omega
   ·obtain rfl:q=t.size:=by omega
    have HE:Hid (t.data.toList.take t.size=L):=by
     show _=_;rw[List.take_of_length_le (by omega),HRL.out]
    go_wp2
    go_ret2
    refine⟨?_,?_,?_⟩
    ·rw[←HE.out];rfl
    ·exact(H1.out.kept (((waC _ w1).alloc (waJ _) _).drew) H1.out.lt)
    ·exact(g1.alloc _).drewN 1
 ·have e1:zq1 s k e most=false:=waO (fun h=>hm h.2)
  have e2:zmd s k e=4:=if_neg h0;rw[e1,e2];simp only[Bool.false_eq_true,if_false];clear e1 e2 h0 HL hall hrl;generalize zbC zaM s k e=j at *;generalize ht:s.extract k j=t at *;clear ht
  by_cases hm1:most<(t.size:Int)
  ·go_enter func160,ntmps160;go_wp2_with fail;refine HA.out.mono ?_;rintro x w1 ⟨rfl,rfl⟩;go_wp2_with fail;refine HS.out.mono ?_;rintro x w1 ⟨rfl,h1,g1⟩;obtain⟨c0,c1,c2,c3⟩:=h1.cells;have f1:=h1.free 1;have H1:=waV h1;clear h1;go_wp2_with fail;refine(HF.out _ (H1.out.setAt k)).mono ?_;rintro x w2 ⟨rfl,h2,g2⟩;go_wp2
   go_ret2
   exact⟨rfl,h2,(g1.set _ _).trans g2⟩
  ·have hm2:18<most:=by omega
   go_enter func160,ntmps160;go_wp2_with fail;refine HA.out.mono ?_;rintro x w1 ⟨rfl,rfl⟩;go_wp2_with fail;refine HS.out.mono ?_;rintro x w1 ⟨rfl,h1,g1⟩;obtain⟨c0,c1,c2,c3⟩:=h1.cells;have f1:=h1.free 1;have H1:=waV h1;clear h1;go_wp2_with fail;refine(HF.out _ (H1.out.setAt k)).mono ?_;rintro x w2 ⟨rfl,h2,g2⟩;go_wp2
   go_ret2
   exact⟨rfl,h2,(g1.set _ _).trans g2⟩
abbrev PR (α:Type):=Except (Nat×Int) (α×List UInt8)
def pIs (cs:List UInt8):List UInt8→Option (List UInt8)
 |[]=>none
 |c::l=>if cs.elem c then some l else none
def pLack (l:List UInt8):Int:=if l=[] then 2 else 3
def zuX (most:Nat) (l:List UInt8):PR Int:=
 if l.takeWhile zaM=[] then .error (l.length,pLack l) else if most<(l.takeWhile zaM).length then .error (l.length,4) else .ok (zfh (l.takeWhile zaM),l.dropWhile zaM)
section
variable {α : Type} {l l' : List UInt8} {Q R : α → Prop}
end
theorem zrp {cs l r:List UInt8} (h:pIs cs l=some r):∃c,l=c::r∧cs.elem c=true:=by
 unfold pIs at h;split at h
 ·cases h
 ·split at h
  ·cases h;exact⟨_,rfl,by assumption⟩
  ·cases h
end Go.Proofs.YtgedndlifiihkaaGreatDoor
