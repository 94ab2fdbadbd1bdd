/- A part of the proof: WMoA -/
import Derived.Test.YtgedndlifiihkaaGreatDoorQ03
import Derived.OwnWalk
import Derived.Laws.ResultCell
set_option maxHeartbeats 80000000
set_option maxRecDepth 100000
set_option linter.unusedSimpArgs false
set_option linter.unusedVariables false
namespace Go.Proofs.YtgedndlifiihkaaGreatDoor
open Go.Proofs.Tryz
open Go.RowKit
theorem zgS (a b:Int) (ha:0≤a) (ha1:a≤1000000000000000) (hb:1≤b) (hb1:b≤1000000) (w:World):Calls prog 184 #[.int .i64 a,.int .i64 b] w (zb0 (.int .i64 (a / b)) w):=by
 have h1:0≤a / b:=Int.ediv_nonneg ha oQ;have h2:0≤a%b:=Int.emod_nonneg _ oQ;have h3:¬a%b<0:=by omega
 have hq:¬b<1:=by omega
 have hb0:(b==0)=false:=by simp;omega
 go_enter func184,ntmps184;go_wp2;go_ret;exact⟨rfl,rfl⟩
theorem ziJ (a b:Int) (ha:0≤a) (ha1:a≤1000000000000000) (hb:1≤b) (hb1:b≤1000000) (w:World):Calls prog 185 #[.int .i64 a,.int .i64 b] w (zb0 (.int .i64 (a%b)) w):=by
 have h2:0≤a%b:=Int.emod_nonneg _ oQ;have h3:¬a%b<0:=by omega
 have hq:¬b<1:=by omega
 have hb0:(b==0)=false:=by simp;omega
 go_enter func185,ntmps185;go_wp2;go_ret;exact⟨rfl,rfl⟩
theorem zl3 (y:Int) (h0:0≤y) (h1:y≤3000000000) (w:World):Calls prog 187 #[.int .i64 y] w (zb0 (.bool (zdR y)) w):=by
 generalize hq:zdR y=q;have HQ:=waV hq;clear hq;go_enter func187,ntmps187;go_wp2
 all_goals go_ret
 all_goals (refine⟨zap ?_,rfl⟩;rw[←HQ.out];((try simp only[beq_iff_eq,wbE,bne_iff_ne,ne_eq,zdR,waM,decide_eq_false_iff_not,waN,wbF,Bool.not_eq_true',Bool.not_eq_false',Bool.and_eq_false_iff,Bool.or_eq_false_iff] at *)
                                            rw[waQ]
                                            (try simp only[zdR,waM,beq_iff_eq,bne_iff_ne,ne_eq,waN,wbF,Bool.not_eq_true',Bool.not_eq_false',wbE,decide_eq_false_iff_not,iff_true,true_iff,Bool.false_eq_true,false_iff,iff_false,reduceCtorEq])
                                            omega))
theorem zoR {y m:Int} (h1:1≤m) (h2:m≤12) (h:¬(m=2∧zdR y=true)):zbl y m=zsR m:=by
 unfold zbl;rw[if_neg (by omega),if_neg h]
theorem zdi (y m:Int) (h0:0≤y) (h1:y≤3000000000) (w:World):Calls prog 132 #[.int .i64 y,.int .i64 m] w (Ret (.int .i64 (zbl y m)) w):=by
 by_cases hm1:m<1
 ·have HR:Hid (zbl y m=0):=by show _=_;unfold zbl;rw[if_pos (.inl hm1)]
  go_enter func132,ntmps132;go_wp2;go_ret;exact⟨zaS HR.out.symm,waC _ _⟩
 by_cases hm2:12<m
 ·have HR:Hid (zbl y m=0):=by show _=_;unfold zbl;rw[if_pos (.inr hm2)]
  go_enter func132,ntmps132;go_wp2;go_ret;exact⟨zaS HR.out.symm,waC _ _⟩
 by_cases hm:m=2
 ·subst hm;have HL:=waV (zl3 y h0 h1);cases hl:zdR y with
  |true=>
   have HR:Hid (zbl y 2=29):=by show _=_;unfold zbl;rw[if_neg (by omega),if_pos ⟨rfl,hl⟩]
   rw[hl] at HL;clear hl;go_enter func132,ntmps132;go_wp2_with fail;refine(HL.out _).mono ?_;rintro e w1 ⟨rfl,rfl⟩;go_wp2;go_ret;exact⟨zaS HR.out.symm,by exact zaH⟩
  |false=>
   have HR:Hid (zbl y 2=28):=by show _=_;rw[zoR (by omega) (by omega) (by rw[hl];simp)];rfl
   rw[hl] at HL;clear hl;go_enter func132,ntmps132;go_wp2_with fail;refine(HL.out _).mono ?_;rintro e w1 ⟨rfl,rfl⟩;go_wp2;go_ret;exact⟨zaS HR.out.symm,by exact zaH⟩
 ·have HR:Hid (zbl y m=zsR m):=zoR oQ oQ oQ;obtain rfl|rfl|rfl|rfl|rfl|rfl|rfl|rfl|rfl|rfl|rfl:m=1∨m=3∨m=4∨m=5∨m=6∨m=7∨m=8∨m=9∨m=10∨m=11∨m=12:=by omega
  all_goals
   clear hm1 hm2 hm;go_enter func132,ntmps132;go_wp2;go_ret;exact⟨zaS HR.out.symm,by exact zaH⟩
theorem zjM (y m d:Int) (h0:0≤y) (h1:y≤1000000000) (w:World):Calls prog 186 #[.int .i64 y,.int .i64 m,.int .i64 d] w (Ret (.bool (zq9 y m d)) w):=by
 have HL:=waV (zdi y m h0 oQ);have hy:-1000000000≤y:=by omega
 by_cases hd:1≤d
 ·have HR:Hid (zq9 y m d=decide (d≤zbl y m)):=by show _=_;unfold zq9;simp only[hy,h1,hd,true_and]
  generalize zbl y m=q at *;go_enter func186,ntmps186;go_wp2_with fail;refine(HL.out _).mono ?_;rintro e w1 ⟨rfl,hb⟩;go_wp2;go_ret;exact⟨zap HR.out.symm,hb⟩
 ·have HR:Hid (zq9 y m d=false):=by show _=_;unfold zq9;exact waO oQ
  go_enter func186,ntmps186;go_wp2;go_ret;exact⟨zap HR.out.symm,waC _ _⟩
theorem zd3 {fn:Func} {t u v x:Tmp} (h:fn.results=#[.tmp t,.tmp u,.tmp v,.tmp x]) (tmps:Array Value) (P:Program) (w:World):
 (results fn tmps).run P w=.ok (.tuple #[tmps.getD t undef,tmps.getD u undef,tmps.getD v undef,tmps.getD x undef]) w:=by
 simp[results,h]
theorem zl4 (n:Int) (h:0≤n) (h1:n<146097) (w:World):Calls prog 129 #[.int .i64 n] w (Ret (.tuple #[.int .i64 (yD n),.int .i64 (mD n),.int .i64 (dD n),.bool true]) w):=by
 obtain⟨o0,o1⟩:=zk4 h;obtain⟨e0,e1⟩:=zoQ h h1;obtain⟨y0,y1,_,_⟩:=zl1 o0 o1;obtain⟨l0,l1,l2⟩:=zoP o0 o1;obtain⟨m0,m1,d0,d1,q0,q1⟩:=zuO l1 l2;obtain⟨hmay,hy0,hy1⟩:=ziI h h1;have HM:=waV (zjM (yD n) (mD n) (dD n) oQ oQ);rw[hmay] at HM;have HF1:=waV (zgS n 365 h oQ oQ oQ);have HF2:=waV (zgS (n+719468) 146097 oQ oQ oQ oQ);have HM2:=waV (ziJ (n+719468) 146097 oQ oQ oQ oQ);have f0:0≤n / 365:=by omega
 have f1:n / 365≤2000000000:=by omega
 have HY:Hid (yD n=if mD n≤2 then zjL n * 400+yrs (zbO n)+1 else zjL n * 400+yrs (zbO n)):=by
  show _=_;unfold yD;split<;>omega
 rw[show (n+719468) / 146097=zjL n from rfl] at HF2
 rw[show (n+719468)%146097=zbO n from rfl] at HM2
 have E1:(zbO n - zbO n / 1460+zbO n / 36524 - zbO n / 146096) / 365=yrs (zbO n):=rfl;have E2:zbO n - (yrs (zbO n) * 365+yrs (zbO n) / 4 - yrs (zbO n) / 100)=lft (zbO n):=rfl;have E3:(5 * lft (zbO n)+2) / 153=mm (zbO n):=rfl;have E4:lft (zbO n) - (153 * mm (zbO n)+2) / 5+1=dD n:=rfl;have E5:(mm (zbO n)+2)%12+1=mD n:=rfl
 change 1≤dD n at d0
 change dD n≤31 at d1
 change 1≤mD n at q0
 change mD n≤12 at q1
 clear hmay l0;generalize yD n=YY at *;generalize mD n=MM at *;generalize dD n=DD at *;generalize mm (zbO n)=M at *;generalize lft (zbO n)=L at *;generalize yrs (zbO n)=Y at *;generalize zjL n=E at *;generalize zbO n=o at *
 by_cases hm:MM≤2
 ·have HY2:=HY.out;rw[if_pos hm] at HY2;subst HY2;clear HY;go_enter func129,ntmps129;go_wp2_with fail;refine(HF1.out _).mono ?_;rintro e w1 ⟨rfl,rfl⟩;go_wp2_with fail;refine(HF1.out _).mono ?_;rintro e w1 ⟨rfl,rfl⟩;go_wp2_with fail;refine(HF2.out _).mono ?_;rintro e w1 ⟨rfl,rfl⟩;go_wp2_with fail;refine(HM2.out _).mono ?_;rintro e w1 ⟨rfl,rfl⟩;go_wp2_with fail;refine(HM.out _).mono ?_;rintro e w1 ⟨rfl,hb⟩;go_wp2
  (try simp only[Exit.inBlock,Exit.then])
  refine waY (zd3 rfl _ _ _) rfl ?_;exact⟨rfl,hb⟩
 ·have HY2:=HY.out;rw[if_neg hm] at HY2;subst HY2;clear HY;go_enter func129,ntmps129;go_wp2_with fail;refine(HF1.out _).mono ?_;rintro e w1 ⟨rfl,rfl⟩;go_wp2_with fail;refine(HF1.out _).mono ?_;rintro e w1 ⟨rfl,rfl⟩;go_wp2_with fail;refine(HF2.out _).mono ?_;rintro e w1 ⟨rfl,rfl⟩;go_wp2_with fail;refine(HM2.out _).mono ?_;rintro e w1 ⟨rfl,rfl⟩;go_wp2_with fail;refine(HM.out _).mono ?_;rintro e w1 ⟨rfl,hb⟩;go_wp2
  (try simp only[Exit.inBlock,Exit.then])
  refine waY (zd3 rfl _ _ _) rfl ?_;exact⟨rfl,hb⟩
theorem zjN (s:Int) (h:0≤s) (h1:s<86400) (w:World):Calls prog 180 #[.int .i64 s] w (zb0 (.tuple #[.int .i64 (s / 3600),.int .i64 (s / 60%60),.int .i64 (s%60),.bool true]) w):=by
 have e1:0≤s / 60:=by omega
 have h2:¬s<0:=by omega
 have h3:¬86400≤s:=by omega
 go_enter func180,ntmps180;go_wp2
 (try simp only[Exit.inBlock,Exit.then])
 refine waY (zd3 rfl _ _ _) rfl ?_;exact⟨rfl,rfl⟩
def inC (t:Int):Bool:=decide (0≤t∧t<12622780800)
theorem zoS (t:Int) (w:World):Calls prog 158 #[.int .i64 t] w (zb0 (.bool (inC t)) w):=by
 generalize hq:inC t=q;have HQ:=waV hq;clear hq;go_enter func158,ntmps158;go_wp2
 all_goals go_ret
 all_goals (refine⟨zap ?_,rfl⟩;rw[←HQ.out];((try simp only[beq_iff_eq,wbE,bne_iff_ne,ne_eq,inC,waM,decide_eq_false_iff_not,waN,wbF,Bool.not_eq_true',Bool.not_eq_false',Bool.and_eq_false_iff,Bool.or_eq_false_iff] at *)
                                            rw[waQ]
                                            (try simp only[inC,waM,beq_iff_eq,bne_iff_ne,ne_eq,waN,wbF,Bool.not_eq_true',Bool.not_eq_false',wbE,decide_eq_false_iff_not,iff_true,true_iff,Bool.false_eq_true,false_iff,iff_false,reduceCtorEq])
                                            omega))
theorem zex (t:Int) (h:inC t=true) (w:World):Calls prog 219 #[.int .i64 t] w (zb0 (.tuple #[.int .i64 (t / 86400),.int .i64 (t%86400),.bool true]) w):=by
 have HI:=waV (zoS t);rw[h] at HI;unfold inC at h;rw[waM] at h;obtain⟨h0,h1⟩:=h;go_enter func219,ntmps219;go_wp2_with fail;refine(HI.out _).mono ?_;rintro e w1 ⟨rfl,rfl⟩;go_wp2
 go_ret3
 exact⟨rfl,rfl⟩
theorem zgT (t:Int) (h:inC t=false) (w:World):Calls prog 219 #[.int .i64 t] w (zb0 (.tuple #[.int .i64 0,.int .i64 0,.bool false]) w):=by
 have HI:=waV (zoS t);rw[h] at HI;clear h;go_enter func219,ntmps219;go_wp2_with fail;refine(HI.out _).mono ?_;rintro e w1 ⟨rfl,rfl⟩;go_wp2
 go_ret3
 exact⟨rfl,rfl⟩
end Go.Proofs.YtgedndlifiihkaaGreatDoor
