/- A part of the proof: WRoll6 WPair WMeet0 WWkD WDay1 WRoll8 WDisc7 ROrN -/
import Derived.Test.YtgedndlifiihkaaGreatDoorT20
import Derived.Test.YtgedndlifiihkaaGreatDoorT15
import Derived.Test.YtgedndlifiihkaaGreatDoorT18
import Derived.Test.YtgedndlifiihkaaGreatDoorT16
import Derived.Test.YtgedndlifiihkaaGreatDoorT11
import Derived.Test.YtgedndlifiihkaaGreatDoorT05
import Derived.Test.YtgedndlifiihkaaGreatDoorT13
import Derived.Test.YtgedndlifiihkaaGreatDoorT14
import Derived.Test.YtgedndlifiihkaaGreatDoorT00
import Derived.Test.YtgedndlifiihkaaGreatDoorT09
set_option maxHeartbeats 80000000
set_option maxRecDepth 100000
set_option linter.unusedSimpArgs false
set_option linter.unusedVariables false
namespace Go.Proofs.YtgedndlifiihkaaGreatDoor
open Go.Proofs.Tryz
open Go.RowKit
open Go.Maps
theorem RollF.apart {V W:World} {d:RollD} {L:List Cl} {lo hi:Nat} {S:Nat→Prop} (h:RollF W d L lo hi) (hr:RlS S W V) (hS:∀k,S k→k<lo∨hi≤k):RollF V d L lo hi:=by
 have out:∀k,lo≤k∧k<hi→¬S k:=fun k hk g=>by have:=hS k g;omega
 have nb:=out _ h.lb0;refine {h with hw:=waW h.hw hr.size,c0:=hr.cell h.c0 nb,c1:=hr.cell h.c1 nb,c2:=hr.cell h.c2 nb,c3:=hr.cell h.c3 nb,fz:=fun j=>(za6 hr (waR W _ h.c0) nb).trans (h.fz j),rd:=?_,fn:=?_,pc:=?_}
 ·refine⟨h.rd.1,fun hp=>?_⟩
  obtain⟨b,o,e,hb,hc⟩:=h.rd.2 hp;obtain⟨h1,h2,_⟩:=h.rA _ hp e;exact⟨b,o,e,waD hb hr.size,fun i x hx j v hv=>hr.cell (hc i x hx j v hv) (out _ ⟨h1,h2⟩)⟩
 ·intro i hi';obtain⟨f1,f2,f3,f4,f5,f6⟩:=h.fn i hi';obtain⟨_,h1,h2,_⟩:=h.al oQ;have hw:=h.hw;exact⟨hr.cell f1 (out _ ⟨h1,h2⟩),f2,f3.later ⟨hr.size,fun k g1 g2=>hr.block k oQ (out k ⟨by omega,by omega⟩)⟩,f4,f5,f6⟩
 ·intro i hi';obtain⟨_,h1,h2,_⟩:=h.ap oQ;exact hr.cell (h.pc i hi') (out _ ⟨h1,h2⟩)
theorem RollAt.apart {V W:World} {d:RollD} {L:List Cl} {lo hi D:Nat} {S:Nat→Prop} (h:RollAt W d L lo hi D) (hr:RlS S W V) (hS:∀k,S k→k<D∧(k<lo∨hi≤k)) (ht:¬S 0):RollAt V d L lo hi D:=by
 have out:∀k,lo≤k∧k<hi→¬S k:=fun k hk g=>by have:=hS k g;omega
 exact⟨h.f.apart hr fun k g=>(hS k g).2,h.m.still hr (fun k g=>(hS k g).1) (out _ h.f.lb0) (out _ h.f.lk) (fun i hi'=>(h.m.parts i hi').rls hr (fun k g=>.inl (hS k g).1) (out _ (h.f.lp i hi'))),h.hiD,waW h.dw hr.size,h.tz.rls hr ht,h.tl⟩
theorem zbo.rls {S:Nat→Prop} {W V:World} {D:Nat} {v:Value} {p:Nat→Bool} (h:zbo W D v p) (hr:RlS S W V) (hS:∀k,S k→k<D):zbo V D v p:=by
 rcases h with h|⟨b,h1,h2,h3⟩
 ·exact .inl h
 ·exact .inr ⟨b,h1,h2,h3.rls hr (fun g=>by have:=hS b g;omega)⟩
theorem zbo.v {W:World} {D:Nat} {v:Value} {p:Nat→Bool} (h:zbo W D v p):zeQ W v p:=by
 rcases h with h|⟨b,h1,_,h3⟩
 ·exact .inl h
 ·exact .inr ⟨b,h1,h3⟩
theorem zjr.first {W0 W1 W2:World} {d:RollD} {L:List Cl} {lo hi D:Nat} {n:Int} {e:Ending} (h:zjr d L lo hi D n W1 e W2) (hb:Below W0.heap.size W0 W1):zjr d L lo hi D n W0 e W2:=by
 obtain⟨v,h1,h2,h3,h4⟩:=h;exact⟨v,h1,h2,h3,((RlS.refl _ W0).below hb (waJ _)).trans h4⟩
theorem zsD (d:RollD) (L:List Cl) (lo hi D:Nat) (W:World) (hR:RollAt W d L lo hi D) (n:Int) (h0:0≤n) (h1:n<146097):
 Calls prog 89 #[.pointer (some ⟨d.b,0,none⟩),.int .i64 n] W (zjr d L lo hi D n W):=by
 have HS:=waV (fun V=>zj3 n h0 h1 V)
 have HA:=waV (fun V (hV:Below W.heap.size W V)=>zkN d L lo hi D V (hR.below hV) n h0 h1)
 have hV:∃y m d b k i1 i2 i3 i4:Int,shV n=.agg #[.int .i64 n,.int .i64 y,.int .i64 m,.int .i64 d,.int .i64 b,.int .i64 k,.int .i64 i1,.int .i64 i2,.int .i64 i3,.int .i64 i4]:=⟨_,_,_,_,_,_,_,_,_,rfl⟩;obtain⟨y,m,d',b',k',i1,i2,i3,i4,hV⟩:=hV;rw[hV] at HS HA;clear hV hR;go_enter func89,ntmps89;go_wp2_with fail;refine(HS.out _).mono ?_;rintro e w1 ⟨rfl,hb1⟩;have hz1:=hb1.size;go_wp2_with fail;refine(HA.out _ (by exact zaI)).mono ?_
 rintro e w2 hr;have HRt:=waV (hr.first (W0:=W) (by exact zaI))
 obtain⟨v,rfl,_⟩:=hr;go_wp2;go_ret;exact HRt.out
def zsE (p:Nat→Bool):Bool:=(List.range 86400).any p
theorem zgJ {p:Nat→Bool}:zsE p=true↔∃s,s<86400∧p s=true:=by
 unfold zsE;rw[List.any_eq_true];constructor
 ·rintro ⟨s,h1,h2⟩;exact⟨s,wbG.1 h1,h2⟩
 ·rintro ⟨s,h1,h2⟩;exact⟨s,wbG.2 h1,h2⟩
theorem zga {p:Nat→Bool} (h:∀s,s<86400→p s=false):zsE p=false:=by
 rw[Bool.eq_false_iff];intro g;obtain⟨s,h1,h2⟩:=zgJ.1 g;rw[h s h1] at h2;cases h2
theorem zqv (v:Value) (p:Nat→Bool) (w:World) (hd:zeQ w v p) (hw:Tz w):Calls prog 124 #[v] w (zbO (.bool (zsE p)) w):=by
 rcases hd with ⟨rfl,hp⟩|⟨b,rfl,hd⟩
 ·rw[zga hp];have HN:=waV (fun W=>zkC 0 W)
  go_enter func124,ntmps124;go_wp2_with fail;refine(HN.out _).mono ?_;rintro e w1 ⟨rfl,rfl⟩;go_wp2;go_ret;exact⟨rfl,rfl⟩
 ·have HN:=waV (zho b 0 p w hd hw dQ);clear hd;go_enter func124,ntmps124;go_wp2_with fail;refine HN.out.mono ?_;rintro e w1 ⟨rfl,(⟨x,rfl,h1,h2,h3,h4⟩|⟨rfl,h⟩)⟩
  ·have HR:Hid (zsE p=true):=zgJ.2 ⟨x,h1,h3⟩;clear h1 h2 h3 h4;go_wp2;go_ret;exact⟨by rw[HR.out];rfl,rfl⟩
  ·have HR:Hid (zsE p=false):=zga fun s hs=>h s (waK _) hs
   clear h;go_wp2;go_ret;exact⟨by rw[HR.out];rfl,rfl⟩
def bdF (L:List Cl) (f:Int):Int:=if zas (zaH L).1 (zaH L).2<0 then 0 else max f (zaE (zaE (zaH L).1 (zaH L).2) (zas (zaH L).1 (zaH L).2) / 86400)
def bdT (L:List Cl) (t:Int):Int:=if zas (zaH L).1 (zaH L).2<0 then -1 else min t (zas (zaE (zaH L).1 (zaH L).2) (zas (zaH L).1 (zaH L).2) / 86400)
theorem zgb (f u:Int):zaE (zaE f u) (zas f u)=zaE f u:=by
 unfold zaE zas
 (repeat' split)<;>omega
theorem zuM {L:List Cl} {f t n:Int} (hf:f≤n) (ht:n≤t) (hl:∃s,s<86400∧zao L n s=true):bdF L f≤n∧n≤bdT L t:=by
 obtain⟨s,hs,hc⟩:=hl;obtain⟨h1,h2,h3⟩:=zm2 hc;unfold bdF bdT;rw[if_neg h3,if_neg h3,zgb,zdB];omega
theorem ztM {k:IntKind} {a b x y:Int} (h1:a=x) (h2:b=y):Ending.returned (.tuple #[.int k a,.int k b])=.returned (.tuple #[.int k x,.int k y]):=by rw[h1,h2]
theorem zkO (d:RollD) (L:List Cl) (lo hi D:Nat) (W:World) (hR:RollAt W d L lo hi D) (f t:Int):
 Calls prog 122 #[.pointer (some ⟨d.b,0,none⟩),.int .i64 f,.int .i64 t] W (Ret (.tuple #[.int .i64 (bdF L f),.int .i64 (bdT L t)]) W):=by
 have HH:=waV (fun V (hV:Below W.heap.size W V)=>zjs d.A L.length d.cc L V (hR.f.rd.below hV (waJ _)) (by have:=hR.f.n8;omega))
 have c0:=hR.f.c0;have lb:=waR W _ c0;have HE:=waV (fun V=>zim (zaE (zaH L).1 (zaH L).2) (zas (zaH L).1 (zaH L).2) V)
 have HD:=waV (fun V=>zhk (zaE (zaH L).1 (zaH L).2) (zas (zaH L).1 (zaH L).2) V)
 have HB:Hid (bdF L f=if zas (zaH L).1 (zaH L).2<0 then 0 else max f (zaE (zaE (zaH L).1 (zaH L).2) (zas (zaH L).1 (zaH L).2) / 86400)):=rfl
 have HC:Hid (bdT L t=if zas (zaH L).1 (zaH L).2<0 then -1 else min t (zas (zaE (zaH L).1 (zaH L).2) (zas (zaH L).1 (zaH L).2) / 86400)):=rfl
 have hu:=zdB (zaH L).1 (zaH L).2;unfold zkr at HD;rw[hu] at HE HD HC;clear hR hu;generalize zaE (zaE (zaH L).1 (zaH L).2) (zas (zaH L).1 (zaH L).2)=F2 at *;generalize zaE (zaH L).1 (zaH L).2=F at *;generalize zas (zaH L).1 (zaH L).2=U at *;generalize bdF L f=X at *;generalize bdT L t=Y at *;generalize d.A=A at *;generalize d.cc=cc at *;generalize L.length=nL at *
 by_cases h:U<0
 ·rw[waP h] at HE;have h1:Hid (X=0):=by show _=_;rw[HB.out,if_pos h]
  have h2:Hid (Y=-1):=by show _=_;rw[HC.out,if_pos h]
  clear HB HC HD h;go_enter func122,ntmps122;go_wp2_with fail;refine(HH.out _ (by exact zaI)).mono ?_
  rintro e w1 ⟨rfl,hb1⟩;have y0:w1.cell? ⟨W.heap.size,0,none⟩=some (.int .i64 0):=((zad hb1).1 _ _ (by simp)).trans (zaa rfl rfl)
  have y1:w1.cell? ⟨W.heap.size,1,none⟩=some (.int .i64 0):=((zad hb1).1 _ _ (by simp)).trans (zaa rfl rfl)
  have yf:∀j,w1.frozen? ⟨W.heap.size,j,none⟩=false:=fun j=>by rw[(zad hb1).2 _ _ (by simp)];go_simp
  have hz1:W.heap.size<w1.heap.size:=by have:=hb1.size;simp at this;omega
  have hbw:Below W.heap.size W w1:=((waC _ W).alloc (waJ _) _).trans (hb1.mono (by simp))
  clear hb1;go_wp2_with fail;refine(HE.out _).mono ?_;rintro e w2 ⟨rfl,hb2⟩;have hbz:=Below.trans (show Below W.heap.size W _ from(((hbw.setCell (p:=⟨W.heap.size,0,none⟩) (waJ _) (.int .i64 F)).setCell (p:=⟨W.heap.size,1,none⟩) (waJ _) (.int .i64 U)))) (hb2.mono (by simp;omega))
  clear hb2 hbw;go_wp2
  (try simp only[Exit.inBlock,Exit.then])
  refine waY (wbM rfl _ _ _) rfl ?_;exact⟨ztM h1.out.symm h2.out.symm,hbz⟩
 ·rw[waO h] at HE;rw[if_neg h] at HD;have h1:Hid (X=max f (F2 / 86400)):=by show _=_;rw[HB.out,if_neg h]
  have h2:Hid (Y=min t (U / 86400)):=by show _=_;rw[HC.out,if_neg h]
  clear HB HC h;go_enter func122,ntmps122;go_wp2_with fail;refine(HH.out _ (by exact zaI)).mono ?_
  rintro e w1 ⟨rfl,hb1⟩;have y0:w1.cell? ⟨W.heap.size,0,none⟩=some (.int .i64 0):=((zad hb1).1 _ _ (by simp)).trans (zaa rfl rfl)
  have y1:w1.cell? ⟨W.heap.size,1,none⟩=some (.int .i64 0):=((zad hb1).1 _ _ (by simp)).trans (zaa rfl rfl)
  have yf:∀j,w1.frozen? ⟨W.heap.size,j,none⟩=false:=fun j=>by rw[(zad hb1).2 _ _ (by simp)];go_simp
  have hz1:W.heap.size<w1.heap.size:=by have:=hb1.size;simp at this;omega
  have hbw:Below W.heap.size W w1:=((waC _ W).alloc (waJ _) _).trans (hb1.mono (by simp))
  clear hb1;go_wp2_with fail;refine(HE.out _).mono ?_;rintro e w2 ⟨rfl,hb2⟩;have g0:w2.cell? ⟨W.heap.size,0,none⟩=some (.int .i64 F):=by
   rw[(zad hb2).1 _ _ (by simp;omega)];exact(waU _ _ _ _ (by simp)).trans (waT _ _ _ y0)
  have g1:w2.cell? ⟨W.heap.size,1,none⟩=some (.int .i64 U):=by
   rw[(zad hb2).1 _ _ (by simp;omega)];exact waT _ _ _ ((waU _ _ _ _ (by simp)).trans y1)
  have hbz:=Below.trans (show Below W.heap.size W _ from(((hbw.setCell (p:=⟨W.heap.size,0,none⟩) (waJ _) (.int .i64 F)).setCell (p:=⟨W.heap.size,1,none⟩) (waJ _) (.int .i64 U)))) (hb2.mono (by simp;omega))
  have hz2:W.heap.size<w2.heap.size:=by have:=hb2.size;simp at this;omega
  clear hb2 hbw y0 y1 yf;go_wp2_with fail;refine(HD.out _).mono ?_;rintro e w3 ⟨rfl,hb3⟩;have hbz3:=hbz.trans (hb3.mono oQ);clear hb3 hbz;go_wp2
  all_goals (try simp only[Exit.inBlock,Exit.then])
            refine waY (wbM rfl _ _ _) rfl ?_
  all_goals (have e1:=h1.out;have e2:=h2.out;exact⟨ztM oQ oQ,hbz3⟩)
end Go.Proofs.YtgedndlifiihkaaGreatDoor
namespace Go.Proofs.YtgedndlifiihkaaGreatDoor
open Go.Proofs.Tryz
open Go.RowKit
def zvq (w:World) (v:Value):Prop:=v=.pointer none∨zgn w v
def zhA (w:World) (v:Value):Prop:=∃v1 v2,v=.agg #[v1,v2]∧zvq w v1∧zvq w v2
theorem zgo (d:Nat) {w:World} {x y:Value} (hx:zvq w x) (hy:zvq w y):∃r:Bool,(Op.equalIn (d+1) 126 x y).run prog w=.ok r w∧(r=true↔y=x):=by
 have hp:prog.underlying 126=some (.pointer 200):=underlying126;obtain⟨j,hte⟩:=info_of_underlying underlying200;have hsz:j.size≠0:=by
  have h:(prog.info? 200).map (·.size)=some 1350:=by kernel_rfl
  rw[hte] at h;have h:j.size=1350:=waB h;omega
 rcases hx with rfl|⟨b,cs,t,rfl,hb⟩<;>rcases hy with rfl|⟨b',cs',t',rfl,hb'⟩
 ·exact⟨true,by simp[Op.equalIn,run_underlying hp],by simp⟩
 ·exact⟨false,by simp[Op.equalIn,run_underlying hp],by simp⟩
 ·exact⟨false,by simp[Op.equalIn,run_underlying hp],by simp⟩
 ·by_cases e:b=b'
  ·subst e;exact⟨true,by simp[Op.equalIn,run_underlying hp,sizeOf,typeInfo,hte,run_sameAddr_same],by simp⟩
  ·have he':¬b'=b:=fun h=>e h.symm
   have hne:(⟨b,0,none⟩:Addr)≠⟨b',0,none⟩:=by simp[e]
   refine⟨false,?_,by simp[he']⟩
   simp[Op.equalIn,run_underlying hp,sizeOf,typeInfo,hte,hsz,run_sameAddr_other w hne hb hb']
theorem zoc {w:World} {x y:Value} (hx:zhA w x) (hy:zhA w y):∃r:Bool,(Op.equal 291 x y).run prog w=.ok r w∧(r=true↔y=x):=by
 obtain⟨x1,x2,rfl,h1,h2⟩:=hx;obtain⟨y1,y2,rfl,h3,h4⟩:=hy;obtain⟨i,hi⟩:=info_of_underlying underlying126;have hc:prog.cellsOf 126=1:=by kernel_rfl
 have hr:List.range 2=[0,1]:=rfl;obtain⟨r1,e1,g1⟩:=zgo 9998 h1 h3;obtain⟨r2,e2,g2⟩:=zgo 9998 h2 h4;have hA:(Op.equalIn (9999+1) 291 (.agg #[x1,x2]) (.agg #[y1,y2])).run prog w=(Op.eqItems 9999 126 1 #[x1,x2] #[y1,y2] [0,1]).run prog w:=by
  rw[run_equalIn_array w 9999 _ _ underlying291 hi,hc,hr]
 refine⟨r1&&r2,?_,?_⟩
 ·show(Op.equalIn (9999+1) _ _ _).run _ _=_;rw[hA];cases r1<;>cases r2<;>simp [go_sem,Op.eqItems,e1,e2]
 ·rw[waN,g1,g2];simp
theorem zm3 (w:World):KeyRun prog 291 w (zhA w):=by
 have hp:prog.underlying 126=some (.pointer 200):=underlying126;have ha:prog.underlying 291=some (.array 2 126):=underlying291;refine⟨fun em v ⟨v1,v2,hv,h1,h2⟩=>?_,fun x hx es hes=>?_⟩
 ·subst hv;have hk:∀d u,zvq w u→(Instr.checkKey em (d+1) 126 u).run prog w=.ok () w:=fun d u hu=>by
   rcases hu with rfl|⟨b,cs,t,rfl,_⟩<;>
   ·unfold Instr.checkKey;simp only[Sem.run_bind,run_underlying hp,Result.andThen];rfl
  show(Instr.checkKey em (9999+1) 291 _).run prog w=_;have k1:=hk 9998 v1 h1;have k2:=hk 9998 v2 h2;unfold Instr.checkKey;simp only[Sem.run_bind,run_underlying ha,Result.andThen];simp[Std.Legacy.Range.forIn_eq_forIn_range',Std.Legacy.Range.size,List.range',go_sem,k1,k2]
 ·have hf:(Instr.findKey 291 x es).run prog w=(Instr.findAsking 291 x es).run prog w:=by
   obtain⟨x1,x2,rfl,_⟩:=hx;unfold Instr.findKey;simp only[Sem.run_bind,run_underlying ha,Result.andThen];cases es with
   |nil=>rfl
   |cons e es=>
    obtain⟨y1,y2,hk,_⟩:=hes e (by simp)
    have h:Instr.findNow (.array 2 126) (.agg #[x1,x2]) (e::es) 0=none:=by
     simp[Instr.findNow,Instr.sameNow]
    rw[h]
  rw[hf];rcases zf9 (fun hx hy=>zoc hx hy) hx es 0 hes with h|⟨j,q,h1,h2,h3⟩
  ·exact .inl h
  ·exact .inr ⟨j,q,by rw[waH] at h1;exact h1,h2,h3⟩
end Go.Proofs.YtgedndlifiihkaaGreatDoor
namespace Go.Proofs.YtgedndlifiihkaaGreatDoor
open Go.Proofs.Tryz
open Go.RowKit
open Go.Maps
structure FineE (W:World) (D:Nat) (h:Bool→Bool→Bool) (es:List MapEntry):Prop where
 one:zfE es
 all:∀q∈es,∃v1 v2 p1 p2,q.key=.agg #[v1,v2]∧q.val=.bool true∧zbo W D v1 p1∧zbo W D v2 p2∧zdc (fun x=>h (p1 x) (p2 x)) 0
theorem FineE.rls {S:Nat→Prop} {W V:World} {D:Nat} {h:Bool→Bool→Bool} {es:List MapEntry} (k:FineE W D h es) (hr:RlS S W V) (hS:∀k,S k→k<D):FineE V D h es:=⟨k.one,fun q hq=>by
 obtain⟨v1,v2,p1,p2,h1,h2,h3,h4,h5⟩:=k.all q hq;exact⟨v1,v2,p1,p2,h1,h2,h3.rls hr hS,h4.rls hr hS,h5⟩⟩
theorem FineE.nil (W:World) (D:Nat) (h:Bool→Bool→Bool):FineE W D h []:=⟨(fun q hq=>by cases hq),fun q hq=>by cases hq⟩
theorem zbo.ptr {W:World} {D:Nat} {v:Value} {p:Nat→Bool} (h:zbo W D v p):zvq W v:=by
 rcases h with ⟨h,_⟩|⟨b,h1,_,h3⟩
 ·exact .inl h
 ·obtain⟨cs,hc⟩:=h3.obj;exact .inr ⟨b,cs,_,h1,hc⟩
theorem zqw {p q:Nat→Bool} (h:∀j,j<1350→zaw p j=zaw q j):zf8 p q:=fun x hx=>by
 have h1:=zcb p (x / 64) (x%64) (Nat.mod_lt _ dQ);have h2:=zcb q (x / 64) (x%64) (Nat.mod_lt _ dQ);rw[h (x / 64) (by omega),h2] at h1
 rw[show 64 * (x / 64)+x%64=x by omega] at h1
 exact h1.symm
theorem zbo.same {W:World} {D D':Nat} {v:Value} {p q:Nat→Bool} (h:zbo W D v p) (k:zbo W D' v q):zf8 p q:=by
 rcases h with ⟨rfl,h⟩|⟨b,rfl,_,h⟩<;>rcases k with ⟨e,k⟩|⟨b',e,_,k⟩
 ·exact fun x hx=>by rw[h x hx,k x hx]
 ·cases e
 ·cases e
 ·cases e;refine zqw fun j hj=>?_
  have h1:=h.cells j hj;rw[k.cells j hj] at h1
  injection h1 with h1
  injection h1 with _ h1
  omega
theorem zdc.same {p q p' q':Nat→Bool} {h:Bool→Bool→Bool} (k:zdc (fun x=>h (p x) (q x)) 0) (h1:zf8 p p') (h2:zf8 q q'):zdc (fun x=>h (p' x) (q' x)) 0:=fun y h0 hy=>by
 have:=k y h0 hy;show h (p' y) (q' y)=false;rw[←h1 y hy,←h2 y hy];exact this
theorem zkP {W:World} {D:Nat} {h:Bool→Bool→Bool} {es:List MapEntry} (k:FineE W D h es):∀q∈es,zhA W q.key:=fun q hq=>by
 obtain⟨v1,v2,p1,p2,h1,h2,h3,h4,h5⟩:=k.all q hq;exact⟨v1,v2,h1,h3.ptr,h4.ptr⟩
theorem FineE.push {W:World} {D:Nat} {h:Bool→Bool→Bool} {es:Array MapEntry} (k:FineE W D h es.toList) {v1 v2:Value} {p1 p2:Nat→Bool} (hno:∀q∈es.toList,q.key≠.agg #[v1,v2]) (h1:zbo W D v1 p1) (h2:zbo W D v2 p2) (h3:zdc (fun x=>h (p1 x) (p2 x)) 0) {n:Nat}:
 FineE W D h (es.push {key:=.agg #[v1,v2],val:=.bool true,born:=n}).toList:=⟨k.one.push hno,fun q hq=>by
 rw[Array.toList_push,wbB,wbC] at hq;rcases hq with hq|rfl
 ·exact k.all q hq
 ·exact⟨v1,v2,p1,p2,rfl,rfl,h1,h2,h3⟩⟩
structure AskD where
 b:Nat
 fm:Nat
 g:Nat
 d1:RollD
 d2:RollD
 lo1:Nat
 hi1:Nat
 lo2:Nat
 hi2:Nat
 D:Nat
def AskD.mv (x:AskD) (n1 n2 k:Nat):Prop:=k=x.b∨k=x.fm∨x.d1.mv n1 k∨x.d2.mv n2 k
def zsF (g:Nat) (h:Bool→Bool→Bool):Prop:=(∀args w,(callFunc g args).run prog w=.ok (.enter g args) w)∧∀va vb p q w,Tz w→zeQ w va p→zeQ w vb q→Calls prog g #[va,vb] w (zjl (fun x=>h (p x) (q x)) 0 w)
structure MeetAt (W:World) (x:AskD) (L1 L2:List Cl) (h:Bool→Bool→Bool) (f1 u1 f2 u2:Int):Prop where
 c0:W.cell? ⟨x.b,0,none⟩=some (.pointer (some ⟨x.d1.b,0,none⟩))
 c1:W.cell? ⟨x.b,1,none⟩=some (.pointer (some ⟨x.d2.b,0,none⟩))
 c2:W.cell? ⟨x.b,2,none⟩=some (.func (.func x.g) #[] #[])
 c3:W.cell? ⟨x.b,3,none⟩=some (.map (some x.fm))
 c4:∃z,W.cell? ⟨x.b,4,none⟩=some (.int .i64 z)
 c5:W.cell? ⟨x.b,5,none⟩=some (.int .i64 f1)
 c6:W.cell? ⟨x.b,6,none⟩=some (.int .i64 u1)
 c7:W.cell? ⟨x.b,7,none⟩=some (.int .i64 f2)
 c8:W.cell? ⟨x.b,8,none⟩=some (.int .i64 u2)
 fz:∀j,W.frozen? ⟨x.b,j,none⟩=false
 r1:RollAt W x.d1 L1 x.lo1 x.hi1 x.D
 r2:RollAt W x.d2 L2 x.lo2 x.hi2 x.D
 ap:x.hi1≤x.lo2
 bf:x.b≠x.fm∧x.b<x.lo1∧x.fm<x.lo1∧x.lo1≤x.hi1∧0<x.b∧0<x.fm
 fine:∃es k,W.heap[x.fm]?=some (.map es k)∧FineE W x.D h es.toList
 fnd:zsF x.g h
theorem MeetAt.mb {W:World} {x:AskD} {L1 L2:List Cl} {h:Bool→Bool→Bool} {f1 u1 f2 u2:Int} (k:MeetAt W x L1 L2 h f1 u1 f2 u2):∀j,x.mv L1.length L2.length j→j<x.D∧j≠0:=by
 have b1:=k.bf;have h1:=k.r1.hiD;have h2:=k.r2.hiD;have t1:=k.r1.tl;have t2:=k.r2.tl;rintro j (rfl|rfl|h|h)
 ·omega
 ·omega
 ·have:=k.r1.f.mb j h;omega
 ·have:=k.r2.f.mb j h;omega
theorem MeetAt.below {W V:World} {x:AskD} {L1 L2:List Cl} {h:Bool→Bool→Bool} {f1 u1 f2 u2:Int} (k:MeetAt W x L1 L2 h f1 u1 f2 u2) (hb:Below W.heap.size W V):MeetAt V x L1 L2 h f1 u1 f2 u2:=by
 have hr:RlS (fun _=>False) W V:=(RlS.refl _ W).below hb (waJ _)
 have nf:¬False:=fun g=>g
 have hlt:=waR W _ k.c0;refine⟨hr.cell k.c0 nf,hr.cell k.c1 nf,hr.cell k.c2 nf,hr.cell k.c3 nf,?_,hr.cell k.c5 nf,hr.cell k.c6 nf,hr.cell k.c7 nf,hr.cell k.c8 nf,fun j=>(za6 hr hlt nf).trans (k.fz j),k.r1.below hb,k.r2.below hb,k.ap,k.bf,?_,k.fnd⟩
 ·obtain⟨z,hz⟩:=k.c4;exact⟨z,hr.cell hz nf⟩
 ·obtain⟨es,n,h1,h2⟩:=k.fine;exact⟨es,n,(hr.block _ (waL.1 h1).1 nf).trans h1,h2.rls hr (fun _ g=>g.elim)⟩
theorem MeetAt.turn1 {W V:World} {x:AskD} {L1 L2:List Cl} {h:Bool→Bool→Bool} {f1 u1 f2 u2:Int} (k:MeetAt W x L1 L2 h f1 u1 f2 u2) (hr:RlS (x.d1.mv L1.length) W V) (hR:RollAt V x.d1 L1 x.lo1 x.hi1 x.D):MeetAt V x L1 L2 h f1 u1 f2 u2:=by
 have hb:=k.bf;have hmb:=k.r1.f.mb;have hap:=k.ap;have hD:=k.r1.hiD;have t1:=k.r1.tl;have nf:¬x.d1.mv L1.length x.b:=fun g=>by have:=hmb _ g;omega
 have nm:¬x.d1.mv L1.length x.fm:=fun g=>by have:=hmb _ g;omega
 have hlt:=waR W _ k.c0;refine⟨hr.cell k.c0 nf,hr.cell k.c1 nf,hr.cell k.c2 nf,hr.cell k.c3 nf,?_,hr.cell k.c5 nf,hr.cell k.c6 nf,hr.cell k.c7 nf,hr.cell k.c8 nf,fun j=>(za6 hr hlt nf).trans (k.fz j),hR,k.r2.apart hr (fun j g=>by have:=hmb _ g;omega) (fun g=>by have:=hmb _ g;omega),k.ap,k.bf,?_,k.fnd⟩
 ·obtain⟨z,hz⟩:=k.c4;exact⟨z,hr.cell hz nf⟩
 ·obtain⟨es,n,h1,h2⟩:=k.fine;exact⟨es,n,(hr.block _ (waL.1 h1).1 nm).trans h1,h2.rls hr (fun j g=>by have:=hmb _ g;omega)⟩
theorem MeetAt.turn2 {W V:World} {x:AskD} {L1 L2:List Cl} {h:Bool→Bool→Bool} {f1 u1 f2 u2:Int} (k:MeetAt W x L1 L2 h f1 u1 f2 u2) (hr:RlS (x.d2.mv L2.length) W V) (hR:RollAt V x.d2 L2 x.lo2 x.hi2 x.D):MeetAt V x L1 L2 h f1 u1 f2 u2:=by
 have hb:=k.bf;have hmb:=k.r2.f.mb;have hap:=k.ap;have hD:=k.r2.hiD;have t1:=k.r2.tl;have nf:¬x.d2.mv L2.length x.b:=fun g=>by have:=hmb _ g;omega
 have nm:¬x.d2.mv L2.length x.fm:=fun g=>by have:=hmb _ g;omega
 have hlt:=waR W _ k.c0;refine⟨hr.cell k.c0 nf,hr.cell k.c1 nf,hr.cell k.c2 nf,hr.cell k.c3 nf,?_,hr.cell k.c5 nf,hr.cell k.c6 nf,hr.cell k.c7 nf,hr.cell k.c8 nf,fun j=>(za6 hr hlt nf).trans (k.fz j),k.r1.apart hr (fun j g=>by have:=hmb _ g;omega) (fun g=>by have:=hmb _ g;omega),hR,k.ap,k.bf,?_,k.fnd⟩
 ·obtain⟨z,hz⟩:=k.c4;exact⟨z,hr.cell hz nf⟩
 ·obtain⟨es,n,h1,h2⟩:=k.fine;exact⟨es,n,(hr.block _ (waL.1 h1).1 nm).trans h1,h2.rls hr (fun j g=>by have:=hmb _ g;omega)⟩
theorem MeetAt.putF {W:World} {x:AskD} {L1 L2:List Cl} {h:Bool→Bool→Bool} {f1 u1 f2 u2:Int} (k:MeetAt W x L1 L2 h f1 u1 f2 u2) {es:Array MapEntry} {n:Nat} (hes:FineE W x.D h es.toList):MeetAt (W.putObj x.fm (.map es n)) x L1 L2 h f1 u1 f2 u2:=by
 have hr:RlS (·=x.fm) W (W.putObj x.fm (.map es n)):=(RlS.refl _ W).put _ _ rfl;obtain⟨b0,b1,b2,b3,b4,b5⟩:=k.bf;have hap:=k.ap;have h1:=k.r1.hiD;have h2:=k.r2.hiD;have l1:=k.r1.f.lb0;have l2:=k.r2.f.lb0;have hlt:=waR W _ k.c0;refine⟨hr.cell k.c0 b0,hr.cell k.c1 b0,hr.cell k.c2 b0,hr.cell k.c3 b0,?_,hr.cell k.c5 b0,hr.cell k.c6 b0,hr.cell k.c7 b0,hr.cell k.c8 b0,fun j=>(za6 hr hlt b0).trans (k.fz j),k.r1.apart hr (fun j g=>by have:j=x.fm:=g;omega) (fun g=>by have:_=x.fm:=g;omega),k.r2.apart hr (fun j g=>by have:j=x.fm:=g;omega) (fun g=>by have:_=x.fm:=g;omega),k.ap,k.bf,?_,k.fnd⟩
 ·obtain⟨z,hz⟩:=k.c4;exact⟨z,hr.cell hz b0⟩
 ·obtain⟨es',n',h1,_⟩:=k.fine;exact⟨es,n,World.putObj_heap_same (waL.1 h1).1,hes.rls hr (fun j g=>by have:j=x.fm:=g;omega)⟩
theorem MeetAt.count {W:World} {x:AskD} {L1 L2:List Cl} {h:Bool→Bool→Bool} {f1 u1 f2 u2:Int} (k:MeetAt W x L1 L2 h f1 u1 f2 u2) (z:Int):MeetAt (W.setCell ⟨x.b,4,none⟩ (.int .i64 z)) x L1 L2 h f1 u1 f2 u2:=by
 have hr:RlS (·=x.b) W (W.setCell ⟨x.b,4,none⟩ (.int .i64 z)):=(RlS.refl _ W).set _ _ rfl;obtain⟨b0,b1,b2,b3,b4,b5⟩:=k.bf;have hap:=k.ap;have h1:=k.r1.hiD;have h2:=k.r2.hiD;have l1:=k.r1.f.lb0;have l2:=k.r2.f.lb0;have o:∀j,j≠4→(W.setCell ⟨x.b,4,none⟩ (.int .i64 z)).cell? ⟨x.b,j,none⟩=W.cell? ⟨x.b,j,none⟩:=fun j hj=>waU _ _ _ _ (fun g=>hj (by injection g with _ g _;exact g.symm))
 refine⟨(o 0 dQ).trans k.c0,(o 1 dQ).trans k.c1,(o 2 dQ).trans k.c2,(o 3 dQ).trans k.c3,?_,(o 5 dQ).trans k.c5,(o 6 dQ).trans k.c6,(o 7 dQ).trans k.c7,(o 8 dQ).trans k.c8,fun j=>(waS _ _ _ _).trans (k.fz j),k.r1.apart hr (fun j g=>by have:j=x.b:=g;omega) (fun g=>by have:_=x.b:=g;omega),k.r2.apart hr (fun j g=>by have:j=x.b:=g;omega) (fun g=>by have:_=x.b:=g;omega),k.ap,k.bf,?_,k.fnd⟩
 ·obtain⟨z',hz⟩:=k.c4;exact⟨z,waT _ _ _ hz⟩
 ·obtain⟨es',n',h1,h2⟩:=k.fine;exact⟨es',n',(hr.block _ (waL.1 h1).1 (fun g=>b0 (by exact(show x.fm=x.b from g).symm))).trans h1,h2.rls hr (fun j g=>by have:j=x.b:=g;omega)⟩
end Go.Proofs.YtgedndlifiihkaaGreatDoor
namespace Go.Proofs.YtgedndlifiihkaaGreatDoor
open Go.Proofs.Tryz
open Go.RowKit
def zuN (f t:Int) (w:World) (e:Ending) (w':World):Prop:=
 ∃b1 b2,e=.returned (.func (.func 128) #[] #[.pointer (some ⟨b1,0,none⟩),.pointer (some ⟨b2,0,none⟩)])∧w.heap.size≤b1∧w.heap.size≤b2∧b1≠b2∧w'.cell? ⟨b1,0,none⟩=some (.int .i64 (mxI f 0))∧w'.cell? ⟨b2,0,none⟩=some (.int .i64 (mnI t 146096))∧Below w.heap.size w w'
theorem zsG (w:World) (x y:Value) (t t':TypeId):(((w.alloc (.cells #[x] t)).alloc (.cells #[y] t')).drew).cell? ⟨w.heap.size,0,none⟩=some x:=by
 have h:=(zad ((waC _ (w.alloc (.cells #[x] t))).alloc (waJ _) (.cells #[y] t'))).1 w.heap.size 0 (by simp)
 exact h.trans (zaa rfl rfl)
theorem zsH (w:World) (x y:Value) (t t':TypeId):(((w.alloc (.cells #[x] t)).alloc (.cells #[y] t')).drew).cell? ⟨w.heap.size+1,0,none⟩=some y:=by
 have h:(w.alloc (.cells #[x] t)).heap.size=w.heap.size+1:=by simp
 rw[←h];exact zaa rfl rfl
theorem zhB (f t:Int) (w:World):Calls prog 74 #[.int .i64 f,.int .i64 t] w (zuN f t w):=by
 go_enter func74,ntmps74;go_wp2_with fail
 go_region
 all_goals go_wp2
 all_goals go_ret
 all_goals (
  refine⟨w.heap.size,w.heap.size+1,rfl,waJ _,by omega,by omega,?_,?_,by exact zaI⟩
  ·unfold mxI;rw[zsG];congr 2;split<;>omega
  ·unfold mnI;rw[zsH];congr 2;split<;>omega)
end Go.Proofs.YtgedndlifiihkaaGreatDoor
namespace Go.Proofs.YtgedndlifiihkaaGreatDoor
open Go.Proofs.Tryz
open Go.RowKit Go.Shelf
attribute [local go_sem] Oper.semAt_some
theorem zb4 {β:Type} {B:Nat} {J:β→World→Prop} (h:AbidesFrom B J) {s:β} {X Y:World} (hs:J s X) (hb:Below X.heap.size X Y):J s Y:=
 h s X Y none hs ⟨hb.os,hb.tape,hb.output,hb.size,fun k hk _=>hb.block k hk⟩ (fun r e=>by cases e)
def zqx (a z:Int) (k:Nat) (h:a+(k:Int)≤z):{x // x∈zcI a z}:=⟨a+k,zaS.2 ⟨by omega,h⟩⟩
def zfF (a z:Int) (k:Nat):List {x // x∈zcI a z}:=(zcI a z).attach.take k
theorem zod {a z:Int} {k:Nat} (h:a+(k:Int)≤z):zfF a z k++[zqx a z k h]=zfF a z (k+1):=by
 unfold zfF;have hk:k<(zcI a z).attach.length:=by rw[List.length_attach,zg2];omega
 rw[List.take_add_one,waE hk];congr 1;simp only[Option.toList_some,List.cons.injEq,and_true];apply Subtype.ext;rw[List.getElem_attach];simp[zcI,zhO,zqx]
theorem zkQ {a z:Int} {k:Nat} (h:(z+1 - a).toNat≤k):zfF a z k=(zcI a z).attach:=by
 unfold zfF;rw[List.take_of_length_le (by rw[List.length_attach,zg2];exact h)]
theorem zqy (a z:Int) (k:Nat):zfF a z k<+:(zcI a z).attach:=List.take_prefix _ _
theorem zsI {a z:Int} {k:Nat} (h:a+(k:Int)≤z):(zfF a z k).length=k∧k<(z+1 - a).toNat:=by
 refine⟨?_,by omega⟩
 unfold zfF;rw[List.length_take,List.length_attach,zg2];omega
theorem ze6 (Kp:World→World→Prop) (n b1 b2:Nat) (a z:Int) (hn:1≤n) (a0:0≤a) (a1:a≤9223372036854775807) (z0:-9223372036854775808≤z) (z1:z≤146096) (hKb:∀X Y,Kp X Y→X.cell? ⟨b2,0,none⟩=some (.int .i64 z)→Y.cell? ⟨b2,0,none⟩=some (.int .i64 z))
 (w:World) (hb1:w.cell? ⟨b1,0,none⟩=some (.int .i64 a)) (hb2:w.cell? ⟨b2,0,none⟩=some (.int .i64 z)):
 SeqStopsK Fence.wide n prog 128 #[.pointer (some ⟨b1,0,none⟩),.pointer (some ⟨b2,0,none⟩)] (fun k:{x // x∈zcI a z}=> #[shV k.1]) Kp (fun xs=>xs=(zcI a z).attach) (fun pre=>pre<+:(zcI a z).attach) 146098 w:=by
 intro l J Jx W hW hJ hJx hY h0;have c1:W.cell? ⟨b1,0,none⟩=some (.int .i64 a):=(hW.cell (p:=⟨b1,0,none⟩) (waR w _ hb1)).trans hb1;have c2:W.cell? ⟨b2,0,none⟩=some (.int .i64 z):=(hW.cell (p:=⟨b2,0,none⟩) (waR w _ hb2)).trans hb2;have HJ:=waV h0
 by_cases haz:z<a
 ·have HE:Hid ([]=(zcI a z).attach):=by show _=_;have h:=zkQ (a:=a) (z:=z) (k:=0) (by omega);rw[←h];rfl
  clear hb1 hb2 hW h0 hY;refine callsIn_of_wp func128 rfl trivial ?_ rfl;simp only[ntmps128,wbQ,waG,List.length_nil,Nat.reduceAdd,Nat.reduceSub,wbR,wbS,List.push_toArray,List.append_toArray,wbN,wbT]
  gi_wp2
  refine waY (results_none rfl _ _ _) rfl ?_;exact⟨⟨_,rfl⟩,.inl ⟨[],HE.out,HJ.out⟩⟩
 ·have HD:=waV (fun V=>wbP (n:=n - 1).2 (zmk a a0 oQ V))
  obtain⟨y0,y1,m0,m1,d0,d1,l0,l1,o0,o1⟩:=za2 a0 (show a<146097 by omega)
  have HO:=waV (fun V=>wbP (n:=n - 1).2 (zg0 (yD a) (mD a) (dD a) y0 oQ m0 m1 d0 d1 V))
  have HV:Hid (∀x y m d o:Int,a≤x→x≤z→(y=yD x∧m=mD x∧d=dD x∧o=zcG (yD x) (mD x)+dD x)→∀V,CallsIn Fence.wide (n - 1) prog 131 #[.int .i64 x,.int .i64 y,.int .i64 m,.int .i64 d,.int .i64 o] V (Ret (shV x) V)):=by
   rintro x y m d o h1 h2 ⟨rfl,rfl,rfl,rfl⟩ V;exact wbP.2 (zic x oQ oQ V)
  have HN:Hid (∀x y m d o:Int,a≤x→x≤z→(y=yD x∧m=mD x∧d=dD x∧o=zcG (yD x) (mD x)+dD x)→(0≤y∧y≤3000∧1≤m∧m≤12∧1≤d∧d≤31∧1≤o∧o≤1000)∧(∀V,CallsIn Fence.wide (n - 1) prog 132 #[.int .i64 y,.int .i64 m] V (Ret (.int .i64 (zbw y m)) V))∧
   (d+1≤zbw y m→x+1≤z→(y=yD (x+1)∧m=mD (x+1)∧d+1=dD (x+1)∧o+1=zcG (yD (x+1)) (mD (x+1))+dD (x+1)))∧
   (¬d+1≤zbw y m→m<12→x+1≤z→(y=yD (x+1)∧m+1=mD (x+1)∧1=dD (x+1)∧o+1=zcG (yD (x+1)) (mD (x+1))+dD (x+1)))∧
   (¬d+1≤zbw y m→¬m<12→x+1≤z→(y+1=yD (x+1)∧1=mD (x+1)∧1=dD (x+1)∧1=zcG (yD (x+1)) (mD (x+1))+dD (x+1)))):=by
   rintro x y m d o h1 h2 ⟨rfl,rfl,rfl,rfl⟩;obtain⟨y0,y1,m0,m1,d0,d1,l0,l1,o0,o1⟩:=za2 (show 0≤x by omega) (show x<146097 by omega)
   refine⟨by omega,fun V=>wbP.2 (zdo _ _ y0 oQ V),fun hl hz=>?_,fun hl hm hz=>?_,fun hl hm hz=>?_⟩
   ·obtain⟨e1,e2,e3⟩:=(zg1 (show 0≤x by omega) oQ).1 hl
    rw[e1,e2,e3];exact⟨rfl,rfl,rfl,by omega⟩
   ·obtain⟨e1,e2,e3,e4⟩:=(zg1 (show 0≤x by omega) oQ).2.1 hl hm
    rw[e1,e2,e3,e4];exact⟨rfl,rfl,rfl,rfl⟩
   ·obtain⟨e1,e2,e3⟩:=(zg1 (show 0≤x by omega) oQ).2.2 hl hm
    rw[e1,e2,e3,zdJ];exact⟨rfl,rfl,rfl,rfl⟩
  obtain⟨y,hy⟩:∃y,y=yD a:=⟨_,rfl⟩;obtain⟨m,hm⟩:∃y,y=mD a:=⟨_,rfl⟩;obtain⟨d,hd⟩:∃y,y=dD a:=⟨_,rfl⟩;obtain⟨o,ho⟩:∃y,y=zcG (yD a) (mD a)+dD a:=⟨_,rfl⟩;have HA:Hid (a≤z→y=yD a∧m=mD a∧d=dD a∧o=zcG (yD a) (mD a)+dD a):=fun _=>⟨hy,hm,hd,ho⟩
  rw[←ho,←hy,←hm,←hd] at HO;rw[←hy,←hm,←hd] at HD;clear hb1 hb2 hW h0 hy hm hd ho y0 y1 m0 m1 d0 d1 l0 l1 o0 o1;have HY:=waV hY;clear hY;refine callsIn_of_wp func128 rfl trivial ?_ rfl;simp only[ntmps128,wbQ,waG,List.length_nil,Nat.reduceAdd,Nat.reduceSub,wbR,wbS,List.push_toArray,List.append_toArray,wbN,wbT]
  gi_wp2_with (refine⟨trivial,?_⟩;gi_at_call 129;refine(HD.out _).mono ?_;rintro e w1 ⟨rfl,hq1⟩)
  have c21:=(hq1.cell (p:=⟨b2,0,none⟩) (waR W _ c2)).trans c2;have c11:=(hq1.cell (p:=⟨b1,0,none⟩) (waR W _ c1)).trans c1;have HJ1:Hid (J [] w1):=zb4 hJ HJ.out hq1
  gi_wp2_with (refine⟨trivial,?_⟩;gi_at_call 130;refine(HO.out _).mono ?_;rintro e w2 ⟨rfl,hq2⟩;have c22:=(hq2.cell (p:=⟨b2,0,none⟩) (waR w1 _ c21)).trans c21;have c12:=(hq2.cell (p:=⟨b1,0,none⟩) (waR w1 _ c11)).trans c11)
  have HJ2:Hid (J [] w2):=zb4 hJ HJ1.out hq2;clear HJ HJ1 c1 c11 c2 c21 hq1 hq2 HD HO
  gi_loopw [10,4,5,6,8] (fun xv yv mv dv ov wr=>∃(k:Nat) (y m d o:Int),xv=.int .i64 (a+k)∧yv=.int .i64 y∧mv=.int .i64 m∧dv=.int .i64 d∧ov=.int .i64 o∧a+k≤z+1∧Hid (a+k≤z→y=yD (a+k)∧m=mD (a+k)∧d=dD (a+k)∧o=zcG (yD (a+k)) (mD (a+k))+dD (a+k))∧Hid (J (zfF a z k) wr)∧wr.cell? ⟨b2,0,none⟩=some (.int .i64 z)) (fun xv _ _ _ _ _=>(z+1 - intOf xv).toNat)
  case atStart=>exact⟨0,y,m,d,o,by simp,rfl,rfl,rfl,rfl,by omega,by simpa using HA,HJ2.out,c22⟩
  case round=>
   clear HA HJ2 c22 c12;obtain⟨k,y,m,d,o,rfl,rfl,rfl,rfl,rfl,hkz,HX,HJ,hb⟩:=hrel
   by_cases hlt:a+(k:Int)≤z
   ·have hx:=HX.out hlt;obtain⟨bd,HL,n1,n2,n3⟩:=HN.out _ _ _ _ _ oQ hlt hx;have HS:=waV (HV.out _ _ _ _ _ oQ hlt hx);have HL:=waV HL;obtain⟨y0,y1,m0,m1,d0,d1,o0,o1⟩:=bd;have N1:=waV n1;have N2:=waV n2;have N3:=waV n3;have hj:=zsI (show a+(k:Int)≤z from hlt)
    have HR1:=waV (fun V (hV:Below wr.heap.size wr V)=>HY.out (zfF a z k) (zqx a z k hlt) V (zb4 hJ HJ.out hV) (by have:=hj.1;omega))
    have HX2:Hid (zfF a z k++[zqx a z k hlt]=zfF a z (k+1)):=zod hlt;clear n1 n2 n3 hx hj;generalize zbw y m=L at *
    gi_wp2_with (refine⟨trivial,?_⟩;gi_at_call 131;refine(HS.out _).mono ?_;rintro e w3 ⟨rfl,hq3⟩;obtain⟨fn,tmps,assign,body,hy,hR⟩:=HR1.out w3 hq3;simp only[zqx] at hy)
    refine hR.mono ?_;have hb3:w3.cell? ⟨b2,0,none⟩=some (.int .i64 z):=(hq3.cell (p:=⟨b2,0,none⟩) (waR wr _ hb)).trans hb;clear hR hy HS HR1 HX HJ hb hq3;rintro e W3 (⟨rfl,hJ3,hk3⟩|⟨rfl,hJx3⟩)
    ·have hb4:=hKb _ _ hk3 hb3;rw[HX2.out] at hJ3;have HJ3:=waV hJ3;clear hJ3 hk3 hb3 HX2;rcases Int.lt_or_le L (d+1) with hl|hl
     ·by_cases h12:m<12
      ·gi_wp2_with (refine⟨trivial,?_⟩;gi_at_call 132;refine(HL.out _).mono ?_;rintro e w4 ⟨rfl,hq4⟩;have hb5:w4.cell? ⟨b2,0,none⟩=some (.int .i64 z):=(hq4.cell (p:=⟨b2,0,none⟩) (waR W3 _ hb4)).trans hb4;have HJ4:=waV (zb4 hJ HJ3.out hq4);clear hb4 HJ3 hq4)
       go_roundw
       case rel=>
        refine⟨k+1,y,m+1,1,o+1,by go_num,by go_num,by go_num,by go_num,by go_num,by omega,?_,HJ4.out,hb5⟩
        intro hz;have e:a+((k+1:Nat):Int)=a+(k:Int)+1:=by omega
        rw[e];exact N2.out oQ h12 oQ
       case measure=>simp [intOf];omega
      ·gi_wp2_with (refine⟨trivial,?_⟩;gi_at_call 132;refine(HL.out _).mono ?_;rintro e w4 ⟨rfl,hq4⟩;have hb5:w4.cell? ⟨b2,0,none⟩=some (.int .i64 z):=(hq4.cell (p:=⟨b2,0,none⟩) (waR W3 _ hb4)).trans hb4;have HJ4:=waV (zb4 hJ HJ3.out hq4);clear hb4 HJ3 hq4)
       go_roundw
       case rel=>
        refine⟨k+1,y+1,1,1,1,by go_num,by go_num,by go_num,by go_num,by go_num,by omega,?_,HJ4.out,hb5⟩
        intro hz;have e:a+((k+1:Nat):Int)=a+(k:Int)+1:=by omega
        rw[e];exact N3.out oQ h12 oQ
       case measure=>simp [intOf];omega
     ·gi_wp2_with (refine⟨trivial,?_⟩;gi_at_call 132;refine(HL.out _).mono ?_;rintro e w4 ⟨rfl,hq4⟩;have hb5:w4.cell? ⟨b2,0,none⟩=some (.int .i64 z):=(hq4.cell (p:=⟨b2,0,none⟩) (waR W3 _ hb4)).trans hb4;have HJ4:=waV (zb4 hJ HJ3.out hq4);clear hb4 HJ3 hq4)
      go_roundw
      case rel=>
       refine⟨k+1,y,m,d+1,o+1,by go_num,by go_num,by go_num,by go_num,by go_num,by omega,?_,HJ4.out,hb5⟩
       intro hz;have e:a+((k+1:Nat):Int)=a+(k:Int)+1:=by omega
       rw[e];exact N1.out hl oQ
      case measure=>simp [intOf];omega
    ·rw[HX2.out] at hJx3;have HJx:=waV hJx3;clear hJx3 hb3 HX2
     gi_wp2
     refine waY (results_none rfl _ _ _) rfl ?_;exact⟨⟨_,rfl⟩,.inr ⟨zfF a z (k+1),zqy _ _ _,HJx.out⟩⟩
   ·have HP:Hid (zfF a z k=(zcI a z).attach):=zkQ oQ;clear HN HV HY HX
    gi_wp2
    go_end0
    rw[←HP.out];exact⟨⟨_,rfl⟩,.inl HJ.out⟩
end Go.Proofs.YtgedndlifiihkaaGreatDoor
namespace Go.Proofs.YtgedndlifiihkaaGreatDoor
open Go.Proofs.Tryz
open Go.RowKit Go.Shelf
attribute [local go_sem] Oper.semAt_some
open Go.Maps
theorem DiscAt.rl00 {B b:Nat} {W V:World} {p:Nat→Bool} (h:DiscAt W b p) (hr:Rl 0 0 B W V):DiscAt V b p:=by
 obtain⟨cs,hc⟩:=h.obj;exact h.same ((hr.block b _ hc (.inr (waK _)) (.inr rfl)).trans hc.symm)
theorem PartE.imp {W V:World} {c:Cl} {D X:Nat} {es:List MapEntry} (h:PartE W c D X es) (k:∀e p,DiscAt W e p→DiscAt V e p):PartE V c D X es:=⟨h.one,fun q hq=>by
 obtain⟨y,e,h1,h2,h3,h4,h6,h5⟩:=h.all q hq;exact⟨y,e,h1,h2,h3,h4,h6,k _ _ h5⟩⟩
theorem KnownE.imp {W V:World} {L:List Cl} {D:Nat} {es:List MapEntry} (h:KnownE W L D es) (k:∀e p,DiscAt W e p→DiscAt V e p):KnownE V L D es:=⟨h.one,fun q hq=>by
 obtain⟨y,e,h1,h2,h3,h4,h5⟩:=h.all q hq;exact⟨y,e,h1,h2,h3,h4,k _ _ h5⟩⟩
theorem RollAt.rl00 {B:Nat} {V W:World} {d:RollD} {L:List Cl} {lo hi D:Nat} (h:RollAt W d L lo hi D) (hr:Rl 0 0 B W V) (hB:D≤B):RollAt V d L lo hi D:=by
 have hD:=h.hiD;have hdw:=h.dw;have hblk:∀k,k<D→V.heap[k]?=W.heap[k]? :=fun k hk=>by
  rw[hr.block k _ (wbI (show k<W.heap.size by omega)) (.inr (waK _)) (.inl (by omega)),wbI (show k<W.heap.size by omega)]
 have hrs:RlS (fun k=>D≤k) W V:=⟨hr.os,hr.tape,hr.output,hr.size,fun i hi hs=>hblk i oQ⟩
 have hd:∀e p,DiscAt W e p→DiscAt V e p:=fun e p g=>g.rl00 hr
 have hb:¬D≤d.b:=by have:=h.f.lb0;omega
 refine⟨h.f.apart hrs fun k g=>.inr (by have:D≤k:=g;omega),⟨fun i hi=>?_,?_,fun a ha=>?_,?_⟩,hD,waW hdw hr.size,h.tz.rls hrs (fun g=>by have:=h.tl;have:=h.f.lb0;omega),h.tl⟩
 ·obtain⟨es,k,h1,h2⟩:=h.m.parts i hi;exact⟨es,k,(hblk _ (by have:=h.f.lp i hi;omega)).trans h1,h2.imp hd⟩
 ·obtain⟨es,k,h1,h2⟩:=h.m.known;exact⟨es,k,(hblk _ (by have:=h.f.lk;omega)).trans h1,h2.imp hd⟩
 ·obtain⟨v,h1,h2⟩:=h.m.whole a ha;refine⟨v,hrs.cell h1 hb,h2.imp id ?_⟩;rintro ⟨e,h3,h4,h5⟩;exact⟨e,h3,h4,hd _ _ h5⟩
 ·obtain⟨z,hz⟩:=h.m.many;exact⟨z,hrs.cell hz hb⟩
structure KpR (M:Nat→Prop) (d:RollD) (L:List Cl) (lo hi D:Nat) (W W':World):Prop where
 k:KpM M W W'
 r:RollAt W d L lo hi D→RollAt W' d L lo hi D
theorem KpR.refl (M:Nat→Prop) (d:RollD) (L:List Cl) (lo hi D:Nat) (W:World):KpR M d L lo hi D W W:=⟨KpM.refl _ _,id⟩
theorem KpR.trans {M:Nat→Prop} {d:RollD} {L:List Cl} {lo hi D:Nat} {X Y Z:World} (h:KpR M d L lo hi D X Y) (k:KpR M d L lo hi D Y Z):KpR M d L lo hi D X Z:=⟨h.k.trans k.k,fun g=>k.r (h.r g)⟩
theorem KpR.below {M:Nat→Prop} {d:RollD} {L:List Cl} {lo hi D:Nat} {W V:World} (hb:Below W.heap.size W V):KpR M d L lo hi D W V:=⟨KpM.of_below hb,fun g=>g.below hb⟩
theorem KpR.put {M:Nat→Prop} {d:RollD} {L:List Cl} {lo hi D:Nat} {W:World} {l:Nat} {o:Obj} (o':Obj) (hl:W.heap[l]?=some o) (ho:o.isCells=false) (hD:D≤l):KpR M d L lo hi D W (W.putObj l o'):=
 ⟨KpM.putObj o' hl ho,fun g=>g.rl00 ((Rl.refl 0 0 D W).put o' hl ho hD) (waJ _)⟩
theorem KpM.of_roll {M:Nat→Prop} {d:RollD} {L:List Cl} {lo hi D:Nat} {W V:World} (h:RollAt W d L lo hi D) (hr:RlS (d.mv L.length) W V) (hM:M d.b):KpM M W V:=⟨hr.size,fun k o hk ho hn=>by
 refine(hr.block k (waL.1 hk).1 ?_).trans hk;rintro (rfl|rfl|⟨i,hi,rfl⟩)
 ·exact hn hM
 ·obtain⟨es,n,h1,_⟩:=h.m.known;rw[h1] at hk;cases hk;cases ho
 ·obtain⟨es,n,h1,_⟩:=h.m.parts i hi;rw[h1] at hk;cases hk;cases ho⟩
def zhC (L:List Cl) (n:Int):Bool:=zsE (zao L n)
def zh2 (L:List Cl) (a z:Int):List Int:=(zcI a z).filter (zhC L)
def zwd (d:RollD) (L:List Cl) (f t:Int) (w:World) (e:Ending) (w':World):Prop:=
 ∃b1 b2 b3,e=.returned (.func (.func 123) #[] #[.pointer (some ⟨b1,0,none⟩),.pointer (some ⟨b2,0,none⟩),.pointer (some ⟨b3,0,none⟩)])∧w.heap.size≤b1∧w.heap.size≤b2∧w.heap.size≤b3∧
  w'.cell? ⟨b1,0,none⟩=some (.int .i64 (bdF L f))∧w'.cell? ⟨b2,0,none⟩=some (.int .i64 (bdT L t))∧w'.cell? ⟨b3,0,none⟩=some (.pointer (some ⟨d.b,0,none⟩))∧Below w.heap.size w w'
end Go.Proofs.YtgedndlifiihkaaGreatDoor
namespace Go.Proofs.YtgedndlifiihkaaGreatDoor
open Go.Proofs.Tryz
open Go.RowKit Go.Shelf
def zwe (p:Nat→Bool) (w:World) (e:Ending) (w':World):Prop:=
 ∃b,e=.returned (.func (.func 224) #[] #[.pointer (some ⟨b,0,none⟩)])∧w.heap.size≤b∧(∀j,j<1350→w'.cell? ⟨b,j,none⟩=some (.int .u64 (zaw p j:Nat)))∧Below w.heap.size w w'
theorem zix:Tryz.zeroCells198=Array.replicate 1350 (.int .u64 0):=by kernel_rfl
theorem zqz (w:World) (p:Nat→Bool) (hp:∀s,s<86400→p s=false):∀j,j<1350→(w.alloc (.cells Tryz.zeroCells198 198)).cell? ⟨w.heap.size,j,none⟩=some (.int .u64 (zaw p j:Nat)):=fun j hj=>by
 have e:zaw p j=0:=by
  unfold zaw;rw[zbr (q:=fun _=>false) (fun i hi=>hp _ (by omega))]
  exact zfd 64
 rw[e];refine zaa rfl ?_;rw[zix,Array.getElem?_replicate,if_pos hj];rfl
theorem zsJ (v:Value) (p:Nat→Bool) (w:World) (hd:zeQ w v p):Calls prog 179 #[v] w (zwe p w):=by
 rcases hd with ⟨rfl,hp⟩|⟨b,rfl,hd⟩
 ·have HN:=waV (zqz w p hp);clear hp;go_enter func179,ntmps179;go_wp2;go_ret;exact⟨w.heap.size,rfl,waJ _,HN.out,by exact zaI⟩
 ·have HL:=waV (zhq hd);have HI:Hid ((prog.info? 198).map (·.size)=some (zc1 p).size):=by show _=_;rw[zcw];kernel_rfl
  have H1:Hid ((zc1 p).all (·.oneCell')=true):=by
   show _=_;rw[Array.all_eq_true];intro i hi;have h:=zfC p i (by rwa [zcw] at hi)
   rw[wbI hi] at h;rw[waB h];rfl
  have HZ:Hid ((Tryz.zeroCells198).size=(zc1 p).size):=by show _=_;rw[zcw,zix,Array.size_replicate]
  have HC:Hid (∀j,j<1350→(zc1 p).getD j undef=.int .u64 (zaw p j:Nat)):=fun j hj=>by rw[wbL,zfC p j hj];rfl
  have HS:Hid ((zc1 p).size=1350):=zcw p;have hb:=hd.lt;generalize zc1 p=cs at *;clear hd;go_enter func179,ntmps179
  go_wp2_with (first|(refine zai (by rfl) 198 _ rfl cs b 0 rfl underlying198 rfl HI.out (fun j v hj=>((zad ((waC _ w).alloc (waJ _) _)).1 _ _ hb).trans (HL.out j v hj)) ?_)|(refine zaQ (by rfl) 198 _ _ rfl cs _ rfl rfl HI.out H1.out HZ.out ?_;intro w2 hq2 HS2 hz2)|fail)
  all_goals go_wp2
  all_goals go_ret
  exact⟨w.heap.size,rfl,waJ _,fun j hj=>by rw[HS2.1 j (by rw[HS.out];exact hj)];exact congrArg some (HC.out j hj),hq2⟩
def popA (x:Int):Int:=IntKind.u64.wrap (bits .and .u64 (x / 2) 6148914691236517205+bits .and .u64 x 6148914691236517205)
def popB (x:Int):Int:=IntKind.u64.wrap (bits .and .u64 (x / 4) 3689348814741910323+bits .and .u64 x 3689348814741910323)
def popC (x:Int):Int:=bits .and .u64 (IntKind.u64.wrap (x / 16+x)) 1085102592571150095
def popD (d x:Int):Int:=IntKind.u64.wrap (x+x / d)
def zsK (x:Int):Int:=bits .and .i64 (wrap64 (popD 4294967296 (popD 65536 (popD 256 (popC (popB (popA x))))))) 127
theorem zsL (x:Int) (w:World):Calls prog 143 #[.int .u64 x] w (zbO (.int .i64 (zsK x)) w):=by
 go_enter func143,ntmps143;go_wp2;go_ret;refine⟨?_,rfl⟩;generalize hA:IntKind.u64.wrap (bits .and .u64 (x / 2) 6148914691236517205+bits .and .u64 x 6148914691236517205)=A;generalize hB:IntKind.u64.wrap (bits .and .u64 (A / 4) 3689348814741910323+bits .and .u64 A 3689348814741910323)=B;generalize hC:bits .and .u64 (IntKind.u64.wrap (B / 16+B)) 1085102592571150095=C;generalize hD:IntKind.u64.wrap (C+C / 256)=D;generalize hE:IntKind.u64.wrap (D+D / 65536)=E;generalize hG:IntKind.u64.wrap (E+E / 4294967296)=G;show Ending.returned (.int .i64 (bits .and .i64 (wrap64 G) 127))=_;unfold zsK popD popC popB popA;rw[hA,hB,hC,hD,hE,hG]
theorem zfG (x:Int) (w:World):Calls prog 83 #[.int .u64 x] w (zbO (.int .i64 (zsK x)) w):=by
 have H:=waV (fun W=>zsL x W)
 generalize zsK x=k at *;go_enter func83,ntmps83;go_wp2_with fail;refine(H.out _).mono ?_;rintro e w1 ⟨rfl,rfl⟩;go_wp2;go_ret;exact⟨rfl,rfl⟩
theorem zgp (m a b:Int) (h0:0≤a) (h1:a≤64) (hb:b≤1000000) (hb0:-1000000≤b) (w:World):Calls prog 76 #[.int .u64 m,.int .i64 a,.int .i64 b] w (zbO (.int .u64 (bits .andNot .u64 (zaC a b) m)) w):=by
 have H:=waV (fun W=>zbC a b h0 h1 hb hb0 W)
 generalize zaC a b=k at *;go_enter func76,ntmps76;go_wp2_with fail;refine(H.out _).mono ?_;rintro e w1 ⟨rfl,rfl⟩;go_wp2;go_ret;exact⟨rfl,rfl⟩
theorem zoe (h m s:Nat) (h1:h<18446744073709551616) (m1:m<18446744073709551616) (s1:s<18446744073709551616) (w:World):Calls prog 120 #[.int .u64 h,.int .u64 m,.int .u64 s] w (fun e w'=>(∃k:Int,e=.returned (.int .i64 k))∧w'=w):=by
 have HH:=waV (fun V=>zmJ h m s h1 m1 s1 V)
 have H1:=waV (fun V=>zfG (h&&&16777215:Nat) V)
 have H2:=waV (fun V=>zfG (m&&&1152921504606846975:Nat) V)
 have H3:=waV (fun V=>zfG (s&&&1152921504606846975:Nat) V)
 generalize zsK (h&&&16777215:Nat)=k1 at *;generalize zsK (m&&&1152921504606846975:Nat)=k2 at *;generalize zsK (s&&&1152921504606846975:Nat)=k3 at *;generalize (h&&&16777215:Nat)=A at *;generalize (m&&&1152921504606846975:Nat)=B at *;generalize (s&&&1152921504606846975:Nat)=C at *;go_enter func120,ntmps120;go_wp2_with fail;refine(HH.out _).mono ?_;rintro e w1 ⟨rfl,rfl⟩;go_wp2_with fail;refine(H1.out _).mono ?_;rintro e w1 ⟨rfl,rfl⟩;go_wp2_with fail;refine(H2.out _).mono ?_;rintro e w1 ⟨rfl,rfl⟩;go_wp2_with fail;refine(H3.out _).mono ?_;rintro e w1 ⟨rfl,rfl⟩;go_wp2;go_ret;exact⟨⟨_,rfl⟩,rfl⟩
theorem zsM (v:Value) (p:Nat→Bool) (w:World) (hd:zeQ w v p):Calls prog 121 #[v] w (fun e w'=>(∃k:Int,e=.returned (.int .i64 k))∧w'=w):=by
 rcases hd with ⟨rfl,hp⟩|⟨b,rfl,hd⟩
 ·clear hp;go_enter func121,ntmps121;go_wp2;go_ret;exact⟨⟨_,rfl⟩,rfl⟩
 ·have HL:=waV (fun x W=>zfG x W)
  have HC:=waV hd.cells;have hb:=hd.lt;clear hd;go_enter func121,ntmps121;go_wp2
  go_loopw [7,3] (fun i m wr=>∃(j:Nat) (k:Int),j≤1350∧i=.int .i64 (j:Int)∧m=.int .i64 k∧wr=w) (fun i _ _=>1350 - (intOf i).toNat)
  case atStart=>exact⟨0,0,by omega,rfl,rfl,rfl⟩
  case round=>
   obtain⟨j,k,hj,rfl,rfl,rfl⟩:=hrel
   by_cases hlt:j<1350
   ·have c0:=HC.out j hlt;have i0:(0:Int)≤(j:Int):=by omega
    have i1:(j:Int)<1350:=by omega
    go_wp2_with fail;refine(HL.out _ _).mono ?_;rintro e w1 ⟨rfl,rfl⟩;go_wp2;go_roundw
    case rel=>exact⟨j+1,_,by omega,by go_num,rfl,trivial⟩
    case measure=>simp [intOf];omega
   ·have hn:¬(j:Int)<1350:=by omega
    go_wp2;go_ret;exact⟨⟨_,rfl⟩,rfl⟩
end Go.Proofs.YtgedndlifiihkaaGreatDoor
namespace Go.Proofs.YtgedndlifiihkaaGreatDoor
open Go.Proofs.Tryz
def orN (f:Nat→Nat) (l:List Nat):Nat:=l.foldl (fun a s=>a|||2^f s) 0
theorem zjt (f:Nat→Nat) (l:List Nat) (x:Nat):orN f (l++[x])=orN f l|||2^f x:=by simp[orN]
theorem zqA (f:Nat→Nat) (l:List Nat) (k:Nat):(orN f l).testBit k=true↔∃s∈l,f s=k:=by
 have:∀(l:List Nat) (a:Nat),(l.foldl (fun a s=>a|||2^f s) a).testBit k=true↔a.testBit k=true∨∃s∈l,f s=k:=by
  intro l;induction l with
  |nil=>intro a;simp
  |cons b l ih=>
   intro a;rw[List.foldl_cons,ih,Nat.testBit_or,wbF,Nat.testBit_two_pow];simp only[List.mem_cons,waM];constructor
   ·rintro ((h|h)|⟨s,hs,h⟩)
    ·exact .inl h
    ·exact .inr ⟨b,.inl rfl,h⟩
    ·exact .inr ⟨s,.inr hs,h⟩
   ·rintro (h|⟨s,(rfl|hs),h⟩)
    ·exact .inl (.inl h)
    ·exact .inl (.inr h)
    ·exact .inr ⟨s,hs,h⟩
 have h:=this l 0;rw[Nat.zero_testBit] at h;unfold orN;rw[h];simp
theorem zeH {m:Nat} (h:∀k,m.testBit k=true→k<64):m<18446744073709551616:=by
 refine Nat.lt_of_not_le fun hge=>?_
 obtain⟨k,hk,hb⟩:=Nat.exists_ge_and_testBit_of_ge_two_pow (n:=64) (x:=m) hge;have:=h k hb;omega
theorem zc2 (f:Nat→Nat) (l:List Nat) (h:∀s∈l,f s<64):orN f l<18446744073709551616:=zeH fun k hk=>by
 obtain⟨s,hs,rfl⟩:=(zqA f l k).1 hk;exact h s hs
end Go.Proofs.YtgedndlifiihkaaGreatDoor
