/- A part of the proof: WRoll5b -/
import Derived.Test.YtllcdbgjeidlkaaGreatDoorT19
import Derived.Test.YtllcdbgjeidlkaaGreatDoorT09
import Derived.Test.YtllcdbgjeidlkaaGreatDoorT08
import Derived.Test.YtllcdbgjeidlkaaGreatDoorT13
import Derived.Test.YtllcdbgjeidlkaaGreatDoorT17
set_option maxHeartbeats 80000000
set_option maxRecDepth 100000
set_option linter.unusedSimpArgs false
set_option linter.unusedVariables false
namespace Go.Proofs.YtllcdbgjeidlkaaGreatDoor
open Go.Proofs.Tryz
open Go.RowKit
open Go.Maps
theorem At_B (d:RollD) (L:List Cl) (lo hi D:Nat) (W:World) (hR:RollAt W d L lo hi D) (n:Int) (h0:0<=n) (h1:n<146097) (ha:¬zdR (stN L n) L.length=0) (hw:¬whB (stN L n) L.length=true):
 Calls prog 81 #[.pointer (some ⟨d.b,0,none⟩),shV n] W (zjc d L lo hi D n W):=by
 have hs:=hR.f.set;have HAt:=waV (fun V (hV:Below W.heap.size W V)=>zm1 (hR.below hV) h0 h1)
 have HMd:=waV (fun V (hV:RollAt V d L lo hi D)=>zko d L lo hi D (stN L n) V hV.f hV.hiD hV.dw hV.m.parts (fun i _=>zm0 hV.f.bits n i) hV.tz (by have:=hV.tl;omega))
 have HNo:Hid (zdR (stN L n) L.length=0->∀s,s<86400->zay L n s=false):=fun ha s hs'=>by rw[<-ziZ hs h0 h1 hs'];exact zjZ ha s
 have HWh:Hid (whB (stN L n) L.length=true->∀s,zbF L (whS (zdR (stN L n) L.length)) s=zbF L (stN L n) s):=fun hw s=>zh1 (fun i hi ha=>zlz hw i hi ha) s
 have HCon:Hid (∀(V:World) (q:Nat) (p:Nat->Bool),D<=q->DiscAt V q p->(∀s,p s=zbF L (stN L n) s)->zbp V D (.pointer (some ⟨q,0,none⟩)) (zay L n)):=fun V q p hD hq hp=>zbp.con hs h0 h1 hD hq hp
 have HWf:=waV (zm0 hR.f.bits n);have hal:=zgL (stN L n) L.length;have h256:zdR (stN L n) L.length<256:=by
  have h8:=hR.f.n8;have:2^L.length<=2^8:=Nat.pow_le_pow_right dQ h8;omega
 clear hal;have HR:=waV hR;have hDW:=hR.dw;have hV:∃y m d b k i1 i2 i3 i4:Int,shV n=.agg #[.int .i64 n,.int .i64 y,.int .i64 m,.int .i64 d,.int .i64 b,.int .i64 k,.int .i64 i1,.int .i64 i2,.int .i64 i3,.int .i64 i4]:=⟨_,_,_,_,_,_,_,_,_,rfl⟩;obtain⟨y,m,d',b',k',i1,i2,i3,i4,hV⟩:=hV;rw[hV] at HAt ⊢;have c0:=hR.f.c0;have lb:=waR W _ c0;have HSz:=waV (zaS (stN L n));have HI:Hid ((prog.info? 240).map (·.size)=some (zb4 (stN L n)).size):=by show _=_;rw[zaS];kernel_rfl
 have HO1:Hid ((zb4 (stN L n)).all (·.oneCell')=true):=by
  show _=_;rw[Array.all_eq_true];intro i hi;have h32:i<32:=by rwa [zaS] at hi
  have h:=zc5 (stN L n) i h32;rw[wbI hi] at h;rw[waB h];unfold stG
  repeat' split
  all_goals rfl
 have HMr:Hid (∀(V:World),RollAt V d L lo hi D->Calls prog 149 #[.pointer (some ⟨d.b,0,none⟩),.agg (zb4 (stN L n))] V (zly d L D (stN L n) V)):=HMd.out;unfold zbW at HAt;clear hV hR HMd;have hn0:¬n<0:=by omega
 have hn1:¬n>=146097:=by omega
 obtain⟨xs,hxs⟩:∃xs,xs=zb4 (stN L n):=⟨_,rfl⟩;rw[<-hxs] at HAt HSz HI HO1 HMr;have Hxs:=waV hxs;clear hxs;have HA3:Hid (∀(V1 V3:World),Below W.heap.size W V1->Below V1.heap.size V1 V3->Arr V3 V1.heap.size xs.size (fun j=>xs.getD j undef)->AtS W V3 d L lo hi D V1.heap.size xs):=fun V1 V3 hb1 hb3 ha=>by
  have hb:Below W.heap.size W V3:=zaf hb1 hb3 hb1.size;refine⟨HR.out.below hb,(RlS.refl _ W).below hb (waJ _),fun j v hj=>?_,hb1.size,hDW⟩
  have hlt:=(waL.1 hj).1;rw[ha.1 j hlt];show some (xs.getD j undef)=some v;rw[wbL,hj];rfl
 have ha':¬((zdR (stN L n) L.length:Nat):Int)=0:=by omega
 clear HNo;obtain⟨a,hax⟩:∃a,a=zdR (stN L n) L.length:=⟨_,rfl⟩;rw[<-hax] at ha ha' HAt h256 HWh;clear hax;have hwf:whB (stN L n) L.length=false:=by simpa using hw
 rw[hwf] at HAt;clear HWh hw hwf;have hT:prog.underlying 136=some (.map 240 82):=underlying136;have hkx:∃l,keyOf prog 240 (zbW (stN L n))=some l:=zg0 (fun i _=>HWf.out i)
 obtain⟨es,ck,hE,hes⟩:=HR.out.m.known;have lm:=(waL.1 hE).1;have c2:=HR.out.f.c2;rcases zmX (z:=.pointer none) hT (fun w=>rfl) zg1 hkx (zib hes) hes.one W hE with ⟨q0,hq0',hk,hl⟩|⟨hno,hl⟩
 ·obtain⟨x',e',hx',hk',hv',hDe,hde⟩:=hes.all q0 hq0';have HQ:Hid (DiscAt W e' (zbF L (stN L n))):=by
   show DiscAt _ _ _;rw[<-zlA HR.out.f.n8 (hk'.symm.trans hk)];exact hde
  have HL:Hid (∀V:World,V.heap[d.km]?=some (.map es ck)->(Instr.lookup 136 (.map (some d.km)) (.agg xs) true).run prog V=.ok (.tuple #[.pointer (some ⟨e',0,none⟩),.bool true]) V):=fun V hV=>by
   rw[Hxs.out,<-hv'];exact hl V hV
  clear hl hes hq0' hk hk' hv' hde hx' hkx hT;go_enter func81,ntmps81;go_wp2_with fail;refine(HAt.out _ ((waC _ W).alloc (waJ _) _)).mono ?_;rintro e w1 ⟨rfl,hq1⟩;have hq0:=Below.trans ((waC W.heap.size W).alloc (waJ _) (.cells #[.int .i64 n,.int .i64 y,.int .i64 m,.int .i64 d',.int .i64 b',.int .i64 k',.int .i64 i1,.int .i64 i2,.int .i64 i3,.int .i64 i4] 81)) (hq1.mono (by simp))
  go_wp2_with (first|(refine zaL (by rfl) 240 _ _ rfl xs _ rfl rfl HI.out HO1.out HSz.out.symm ?_;intro w3 hq3 HS3 hz3;have HA:=waV (HA3.out w1 w3 hq0 hq3 HS3);have hb3:=zaf hq0 hq3 hq0.size;clear HS3 hq3 hq1 HA3)|fail)
  have c2y:∀y:Ext w3,y.W.cell? ⟨d.b,2,none⟩=some (.map (some d.km)):=fun y=>y.cell (((zad hb3).1 _ _ lb).trans c2)
  have hly:∀y:Ext w3,(Instr.lookup 136 (.map (some d.km)) (.agg xs) true).run prog y.W=.ok (.tuple #[.pointer (some ⟨e',0,none⟩),.bool true]) y.W:=fun y=>HL.out _ ((y.h.block _ (by have:=hb3.size;omega)).trans ((hb3.block _ lm).trans hE))
  have HLx:Hid (∀W',zwW w3 W'->∀j v,xs[j]?=some v->W'.cell? ⟨w1.heap.size,0+j,none⟩=some v):=fun W' hW' j v hj=>by
   obtain⟨y,rfl⟩:=hW';rw[waH];exact y.cell (HA.out.x j v hj)
  refine zaA kQ kQ ?_
  (try simp only[Act.put,List.append,wbT,wbN])
  repeat (first|go_big_quiet_skip|(go_big_quiet_want;(first|((refine zcF 240 _ rfl xs w1.heap.size 0 rfl underlying240 rfl HI.out HLx.out ?_);simp only[Act.put,wbU,wbV,wbW];go_big_quiet_on)|(go_big_quiet_op;(first|go_big_quiet_on|go_big_quiet_call (fail))))))
  refine wpQuiet_nil ?_;rintro _ ⟨xw,rfl⟩;have HA4:=waV (HA.out.below xw.h);have HQ4:=waV (HQ.out.below (zaf hb3 xw.h hb3.size));clear HA hly HLx c2y;go_wp2;go_ret;exact HA4.out.ret (HCon.out _ e' _ hDe HQ4.out (fun _=>rfl))
 ·have HL:Hid (∀V:World,V.heap[d.km]?=some (.map es ck)->(Instr.lookup 136 (.map (some d.km)) (.agg xs) true).run prog V=.ok (.tuple #[.pointer none,.bool false]) V):=fun V hV=>by
   rw[Hxs.out];exact hl V hV
  have HT:=waV hT;have HUp:Hid (∀(B:Nat) (V6:World) (es5:Array MapEntry) (q:Nat),(es5=es\/es5=#[])->AtS W V6 d L lo hi D B xs->V6.heap[d.km]?=some (.map es5 ck)->KnownE V6 L D es5.toList->D<=q->DiscAt V6 q (zbF L (stN L n))->
   ∀k,(Instr.mapUpdate 136 (.map (some d.km)) (.agg xs) (.pointer (some ⟨q,0,none⟩))).run prog (V6.drewN k)=.ok () ((V6.drewN k).putObj d.km (.map (es5.push {key:=.agg xs,val:=.pointer (some ⟨q,0,none⟩),born:=ck}) (ck+1)))/\
    zjc d L lo hi D n W (.returned (.pointer (some ⟨q,0,none⟩))) ((V6.drewN k).putObj d.km (.map (es5.push {key:=.agg xs,val:=.pointer (some ⟨q,0,none⟩),born:=ck}) (ck+1)))):=fun B V6 es5 q he hA hE5 hK hq hd k=>by
   have hno':∀q∈es5.toList,q.key≠zbW (stN L n):=by
    rcases he with rfl|rfl
    ·exact hno
    ·intro q hq;cases hq
   have ex:(.agg xs:Value)=zbW (stN L n):=by rw[Hxs.out];rfl
   rw[ex];have hKd:KnownE (V6.drewN k) L D es5.toList:=hK.rls (S:=fun _=>False) ((RlS.refl _ V6).drewN k) (fun _ g=>g.elim)
   have hdd:DiscAt (V6.drewN k) q (zbF L (stN L n)):=hd.same rfl;have hup:=zb3 (w:=V6.drewN k) (x:=zbW (stN L n)) (v:=.pointer (some ⟨q,0,none⟩)) HT.out hE5 (KeyRun.of_keyed zg1 _) hkx (zib hKd) hno';refine⟨hup,?_⟩;have hA2:=(hA.drewN k).putK (k:=ck+1) (hKd.push (n:=ck) (fun i _=>HWf.out i) hno' hq hdd)
   refine hA2.ret (HCon.out _ q _ hq (hdd.rls (S:=(·=d.km)) ((RlS.refl _ _).put _ _ rfl) (fun g=>?_)) (fun _=>rfl))
   have:q=d.km:=g;have:=hA.roll.f.lk;have:=hA.roll.hiD;omega
  have HEs:=waV hes;clear hl hes hno hkx hT HWf HCon;go_enter func81,ntmps81;go_wp2_with fail;refine(HAt.out _ ((waC _ W).alloc (waJ _) _)).mono ?_;rintro e w1 ⟨rfl,hq1⟩;have hq0:=Below.trans ((waC W.heap.size W).alloc (waJ _) (.cells #[.int .i64 n,.int .i64 y,.int .i64 m,.int .i64 d',.int .i64 b',.int .i64 k',.int .i64 i1,.int .i64 i2,.int .i64 i3,.int .i64 i4] 81)) (hq1.mono (by simp))
  go_wp2_with (first|(refine zaL (by rfl) 240 _ _ rfl xs _ rfl rfl HI.out HO1.out HSz.out.symm ?_;intro w3 hq3 HS3 hz3;have HA:=waV (HA3.out w1 w3 hq0 hq3 HS3);have hb3:=zaf hq0 hq3 hq0.size;clear HS3 hq3 hq1 HA3)|fail)
  have c2y:∀y:Ext w3,y.W.cell? ⟨d.b,2,none⟩=some (.map (some d.km)):=fun y=>y.cell (((zad hb3).1 _ _ lb).trans c2)
  have hly:∀y:Ext w3,(Instr.lookup 136 (.map (some d.km)) (.agg xs) true).run prog y.W=.ok (.tuple #[.pointer none,.bool false]) y.W:=fun y=>HL.out _ ((y.h.block _ (by have:=hb3.size;omega)).trans ((hb3.block _ lm).trans hE))
  have HLx:Hid (∀W',zwW w3 W'->∀j v,xs[j]?=some v->W'.cell? ⟨w1.heap.size,0+j,none⟩=some v):=fun W' hW' j v hj=>by
   obtain⟨y,rfl⟩:=hW';rw[waH];exact y.cell (HA.out.x j v hj)
  refine zaA kQ kQ ?_
  (try simp only[Act.put,List.append,wbT,wbN])
  repeat (first|go_big_quiet_skip|(go_big_quiet_want;(first|((refine zcF 240 _ rfl xs w1.heap.size 0 rfl underlying240 rfl HI.out HLx.out ?_);simp only[Act.put,wbU,wbV,wbW];go_big_quiet_on)|(go_big_quiet_op;(first|go_big_quiet_on|go_big_quiet_call (fail))))))
  refine wpQuiet_nil ?_;rintro _ ⟨xw,rfl⟩;have HA4:=waV (HA.out.below xw.h);have hbx:=zaf hb3 xw.h hb3.size;have hE4:xw.W.heap[d.km]?=some (.map es ck):=(hbx.block _ lm).trans hE;have HK4:Hid (KnownE xw.W L D es.toList):=HEs.out.rls (S:=fun _=>False) ((RlS.refl _ W).below hbx (waJ _)) (fun _ g=>g.elim)
  have c24:=c2y xw;clear HA hly HLx c2y HEs HL hE;generalize xw.W=V4 at *;have lb4:=waR V4 _ c24;have hln:(Builtin.len_ #[136] 3 #[.map (some d.km)]).run prog V4=.ok (.int .i64 (es.size:Int)) V4:=zex HT.out hE4;have hcr:(Builtin.clear_ #[136] 0 #[.map (some d.km)]).run prog V4=.ok (.tuple #[]) (V4.putObj d.km (.map #[] ck)):=zc4 HT.out hE4
  by_cases h6:es.size=256
  ·rw[h6] at hln;have HA5:=waV (HA4.out.putK (k:=ck) (es:=#[]) (KnownE.nil _ _ _));have hE5:(V4.putObj d.km (.map #[] ck)).heap[d.km]?=some (.map #[] ck):=World.putObj_heap_same (waL.1 hE4).1;have HK5:Hid (KnownE (V4.putObj d.km (.map #[] ck)) L D (#[]:Array MapEntry).toList):=KnownE.nil _ _ _;clear HA4 HK4 hE4;have HLd:=waV (fun j v (hj:xs[j]?=some v)=>(AtS.limbs h256 HA5.out).1 j v (by simpa using hj))
   go_wp2_with (first|(refine zag (by rfl) 240 _ rfl xs w1.heap.size 0 rfl underlying240 rfl HI.out HLd.out ?_)|(go_at_call 149;refine(HMr.out _ HA5.out.roll).mono ?_;rintro e w6 ⟨q,rfl,hq6,hqd,hqp,hqr⟩;have hq:D<=q:=waW HA5.out.roll.dw hq6;have HA6:=waV (HA5.out.made hqr hqp);have HQ:=waV hqd;obtain⟨z,hz⟩:=HA6.out.roll.m.many;have hfz:=HA6.out.roll.f.fz;have lb6:=waR w6 _ hz;have hE6:w6.heap[d.km]?=some (.map #[] ck):=(hqr.block _ (waL.1 hE5).1 (by rintro ⟨i,hi,e⟩;exact(HA5.out.roll.f.kne.2 i hi).2 e.symm)).trans hE5;have HK6:=waV (HK5.out.rls hqr (by rintro k ⟨i,hi,rfl⟩;have h8:=HA5.out.roll.f.lp i hi;have h9:=HA5.out.roll.hiD;omega));clear hqd hqp hqr hq6 HA5 HK5 hE5)|fail)
   have HA7:=waV (HA6.out.cell 260 (.int .i64 (wrap64 (z+1))) dQ (.inr ⟨rfl,_,rfl⟩));have hE7:(w6.setCell ⟨d.b,260,none⟩ (.int .i64 (wrap64 (z+1)))).heap[d.km]?=some (.map #[] ck):=(wbJ _ _ _ _ HA6.out.roll.f.kne.1).trans hE6;have HK7:Hid (KnownE (w6.setCell ⟨d.b,260,none⟩ (.int .i64 (wrap64 (z+1)))) L D (#[]:Array MapEntry).toList):=HK6.out.rls (S:=(·=d.b)) ((RlS.refl _ w6).set _ _ rfl) (by intro k g;have h7:k=d.b:=g;have h8:=HA6.out.roll.f.lb0;have h9:=HA6.out.roll.hiD;omega)
   have HQ7:=waV (HQ.out.setb (v:=.int .i64 (wrap64 (z+1))) (o:=260) HA6.out hq);clear HA6 HK6 HQ hE6 hz hfz;generalize w6.setCell ⟨d.b,260,none⟩ (.int .i64 (wrap64 (z+1)))=V7 at *;have c27:=HA7.out.roll.f.c2;have HLd7:Hid (∀W',(∃n,W'=V7.drewN n)->∀j v,xs[j]?=some v->W'.cell? ⟨w1.heap.size,0+j,none⟩=some v):=fun W' hW' j v hj=>by
    obtain⟨k,rfl⟩:=hW';exact(AtS.limbs h256 HA7.out).1 j v (by simpa using hj)
   refine za6 6 kQ dQ kQ kQ kQ kQ kQ kQ ?_;dsimp only[List.take,List.drop]
   (try simp only[Act.put,List.append,wbT,wbN])
   repeat (first|go_big_quiet_skip|(go_big_quiet_want;(first|((refine zcF 240 _ rfl xs w1.heap.size 0 rfl underlying240 rfl HI.out HLd7.out ?_);simp only[Act.put,wbU,wbV,wbW];go_big_quiet_on)|(go_big_quiet_op;(first|go_big_quiet_on|go_big_quiet_call (fail))))))
   refine wpQuiet_nil ?_;rintro _ ⟨nq,rfl⟩;obtain⟨hup,hret⟩:=HUp.out w1.heap.size V7 #[] q (.inr rfl) HA7.out hE7 HK7.out hq HQ7.out nq;have HRet:=waV hret;clear hret HLd7 HLd HUp HA7 HK7 HQ7;go_wp2;go_ret;exact HRet.out
  ·have h7:¬((es.size:Int)=256):=by omega
   have HA5:=HA4;have hE5:=hE4;have HK5:=HK4;clear HA4 HK4 hE4;have HLd:=waV (fun j v (hj:xs[j]?=some v)=>(AtS.limbs h256 HA5.out).1 j v (by simpa using hj))
   go_wp2_with (first|(refine zag (by rfl) 240 _ rfl xs w1.heap.size 0 rfl underlying240 rfl HI.out HLd.out ?_)|(go_at_call 149;refine(HMr.out _ HA5.out.roll).mono ?_;rintro e w6 ⟨q,rfl,hq6,hqd,hqp,hqr⟩;have hq:D<=q:=waW HA5.out.roll.dw hq6;have HA6:=waV (HA5.out.made hqr hqp);have HQ:=waV hqd;obtain⟨z,hz⟩:=HA6.out.roll.m.many;have hfz:=HA6.out.roll.f.fz;have lb6:=waR w6 _ hz;have hE6:w6.heap[d.km]?=some (.map es ck):=(hqr.block _ (waL.1 hE5).1 (by rintro ⟨i,hi,e⟩;exact(HA5.out.roll.f.kne.2 i hi).2 e.symm)).trans hE5;have HK6:=waV (HK5.out.rls hqr (by rintro k ⟨i,hi,rfl⟩;have h8:=HA5.out.roll.f.lp i hi;have h9:=HA5.out.roll.hiD;omega));clear hqd hqp hqr hq6 HA5 HK5 hE5)|fail)
   have HA7:=waV (HA6.out.cell 260 (.int .i64 (wrap64 (z+1))) dQ (.inr ⟨rfl,_,rfl⟩));have hE7:(w6.setCell ⟨d.b,260,none⟩ (.int .i64 (wrap64 (z+1)))).heap[d.km]?=some (.map es ck):=(wbJ _ _ _ _ HA6.out.roll.f.kne.1).trans hE6;have HK7:Hid (KnownE (w6.setCell ⟨d.b,260,none⟩ (.int .i64 (wrap64 (z+1)))) L D (es:Array MapEntry).toList):=HK6.out.rls (S:=(·=d.b)) ((RlS.refl _ w6).set _ _ rfl) (by intro k g;have h7:k=d.b:=g;have h8:=HA6.out.roll.f.lb0;have h9:=HA6.out.roll.hiD;omega)
   have HQ7:=waV (HQ.out.setb (v:=.int .i64 (wrap64 (z+1))) (o:=260) HA6.out hq);clear HA6 HK6 HQ hE6 hz hfz;generalize w6.setCell ⟨d.b,260,none⟩ (.int .i64 (wrap64 (z+1)))=V7 at *;have c27:=HA7.out.roll.f.c2;have HLd7:Hid (∀W',(∃n,W'=V7.drewN n)->∀j v,xs[j]?=some v->W'.cell? ⟨w1.heap.size,0+j,none⟩=some v):=fun W' hW' j v hj=>by
    obtain⟨k,rfl⟩:=hW';exact(AtS.limbs h256 HA7.out).1 j v (by simpa using hj)
   refine za6 6 kQ dQ kQ kQ kQ kQ kQ kQ ?_;dsimp only[List.take,List.drop]
   (try simp only[Act.put,List.append,wbT,wbN])
   repeat (first|go_big_quiet_skip|(go_big_quiet_want;(first|((refine zcF 240 _ rfl xs w1.heap.size 0 rfl underlying240 rfl HI.out HLd7.out ?_);simp only[Act.put,wbU,wbV,wbW];go_big_quiet_on)|(go_big_quiet_op;(first|go_big_quiet_on|go_big_quiet_call (fail))))))
   refine wpQuiet_nil ?_;rintro _ ⟨nq,rfl⟩;obtain⟨hup,hret⟩:=HUp.out w1.heap.size V7 es q (.inl rfl) HA7.out hE7 HK7.out hq HQ7.out nq;have HRet:=waV hret;clear hret HLd7 HLd HUp HA7 HK7 HQ7;go_wp2;go_ret;exact HRet.out
theorem zm2 (d:RollD) (L:List Cl) (lo hi D:Nat) (W:World) (hR:RollAt W d L lo hi D) (n:Int) (h0:0<=n) (h1:n<146097):
 Calls prog 81 #[.pointer (some ⟨d.b,0,none⟩),shV n] W (zjc d L lo hi D n W):=by
 by_cases ha:zdR (stN L n) L.length=0
 ·exact At_A d L lo hi D W hR n h0 h1 (.inl ha)
 ·by_cases hw:whB (stN L n) L.length=true
  ·exact At_A d L lo hi D W hR n h0 h1 (.inr hw)
  ·exact At_B d L lo hi D W hR n h0 h1 ha hw
end Go.Proofs.YtllcdbgjeidlkaaGreatDoor
namespace Go.Proofs.YtllcdbgjeidlkaaGreatDoor
open Go.Proofs.Tryz
open Go.RowKit
theorem zdl (f u:Int):zao (zaw f u) (zao f u)=zao f u:=by
 unfold zaw zao
 (repeat' split)<;>omega
def zgc (s:Int×Int) (c:Cl):Int×Int:=if zao c.f c.t<0 then s else(if zaw c.f c.t<s.1 then zaw c.f c.t else s.1,if s.2<zao c.f c.t then zao c.f c.t else s.2)
def zax (l:List Cl):Int×Int:=l.foldl zgc (12622780800,-1)
theorem zqo {l:List Cl} {k:Nat} {c:Cl} (h:l[k]?=some c):zax (l.take (k+1))=zgc (zax (l.take k)) c:=by
 unfold zax;rw[List.take_add_one,h,List.foldl_append];rfl
theorem zjd (A:Option Addr) (n c:Nat) (l:List Cl) (w:World) (hA:zbh w A n l) (hn:n<=9223372036854775807):
 Calls prog 125 #[.slice A n c] w (Ret (.agg #[.int .i64 (zaw (zax l).1 (zax l).2),.int .i64 (zao (zax l).1 (zax l).2)]) w):=by
 have HL:Hid (l.length=n):=hA.1;have HH:=waV (fun f u W=>zd3 f u W)
 go_enter func125,ntmps125;go_wp2
 go_loopw [3,4,10] (fun x y i wr=>∃k:Nat,k<=n/\i=.int .i64 k/\x=.int .i64 (zax (l.take k)).1/\y=.int .i64 (zax (l.take k)).2/\Below (w.heap.size+1) (w.alloc (.cells #[.int .i64 0,.int .i64 0] 129)) wr) (fun _ _ i _=>n - (intOf i).toNat)
 case atStart=>exact⟨0,waK _,rfl,rfl,rfl,waC _ _⟩
 case round=>
  obtain⟨k,hk,rfl,rfl,rfl,hb⟩:=hrel;have hbw:Below w.heap.size w wr:=((waC _ w).alloc (waJ _) _).trans (hb.mono (by simp))
  have hsz:w.heap.size<wr.heap.size:=by have:=hb.size;simp at this;omega
  by_cases hlt:k<n
  ·obtain⟨b,o,x,rfl,hbl,hx,hcl⟩:=zbh.at_ (hA.below hbw (waJ _)) hlt
   have hlt':(k:Int)<(n:Int):=by omega
   have HT:=waV (zqo hx);have HI:=waV (zbV x);have H1:Hid ((clA x).all (·.oneCell')=true):=by show _=_;kernel_rfl
   have Hs:Hid (30=(clA x).size):=rfl;have HCl:=waV hcl;have HSp:=waV (fun W=>zjW x W)
   have HE:=waV (fun W=>zh2 (zaw x.f x.t) (zao x.f x.t) W)
   rw[zdl] at HE;clear hx hcl HH HL hA;generalize zax (l.take k)=s at *;generalize clA x=cs at *
   go_wp2_with (first|(refine zag (by rfl) 60 _ rfl cs b (o+k * 30) rfl underlying60 rfl HI.out HCl.out ?_)|(refine zaL (by rfl) 60 _ _ rfl cs _ rfl rfl HI.out H1.out Hs.out ?_;intro w2 hq2 HS2 hz2;have HSx:Hid (∀j v,cs[j]?=some v->w2.cell? ⟨wr.heap.size,0+j,none⟩=some v):=zdM (ziU HS2))|(refine zag (by rfl) 60 _ rfl cs wr.heap.size 0 rfl underlying60 rfl HI.out HSx.out ?_)|fail)
   refine(HSp.out _).mono ?_;rintro e w3 ⟨rfl,hb3⟩;have hb3':=zaf hq2 hb3 hq2.size;have hz3:wr.heap.size<w3.heap.size:=by have:=hb3.size;omega
   clear hq2 hb3 HS2 HSx hz2 HCl HI H1 Hs
   by_cases he:zao x.f x.t<0
   ·have HU:Hid (zax (l.take (k+1))=s):=by show _=_;rw[HT.out];exact if_pos he
    rw[waP he] at HE;generalize zao x.f x.t=U at *;generalize zaw x.f x.t=F at *;clear he HT;go_wp2_with fail;refine(HE.out _).mono ?_;rintro e w4 ⟨rfl,hb4⟩;have hb5:Below (w.heap.size+1) wr w4:=(hb3'.mono oQ).trans (Below.trans ((waC _ w3).alloc oQ _) (hb4.mono (by simp;omega)))
    clear hb4 hb3';go_wp2;go_roundw
    case rel=>exact⟨k+1,by omega,by go_num,by first|(rw[HU.out];done)|(rw[HU.out];refine congrArg (Value.int .i64) ?_;dsimp only;split<;>omega),by first|(rw[HU.out];done)|(rw[HU.out];refine congrArg (Value.int .i64) ?_;dsimp only;split<;>omega),hb.trans hb5⟩
    case measure=>simp [intOf];omega
   ·have HU:Hid (zax (l.take (k+1))=(if zaw x.f x.t<s.1 then zaw x.f x.t else s.1,if s.2<zao x.f x.t then zao x.f x.t else s.2)):=by show _=_;rw[HT.out];exact if_neg he
    rw[waO he] at HE;generalize zao x.f x.t=U at *;generalize zaw x.f x.t=F at *;clear he HT;go_wp2_with fail;refine(HE.out _).mono ?_;rintro e w4 ⟨rfl,hb4⟩;have t0:w4.cell? ⟨w3.heap.size,0,none⟩=some (.int .i64 F):=(hb4.cell (p:=⟨w3.heap.size,0,none⟩) (by simp)).trans (zaa rfl rfl)
    have t1:w4.cell? ⟨w3.heap.size,1,none⟩=some (.int .i64 U):=(hb4.cell (p:=⟨w3.heap.size,1,none⟩) (by simp)).trans (zaa rfl rfl)
    have hb5:Below (w.heap.size+1) wr w4:=(hb3'.mono oQ).trans (Below.trans ((waC _ w3).alloc oQ _) (hb4.mono (by simp;omega)))
    clear hb4 hb3';go_wp2_with fail
    go_region
    all_goals (
     go_wp2;go_roundw
     case rel=>exact⟨k+1,by omega,by go_num,by first|(rw[HU.out];done)|(rw[HU.out];refine congrArg (Value.int .i64) ?_;dsimp only;split<;>omega),by first|(rw[HU.out];done)|(rw[HU.out];refine congrArg (Value.int .i64) ?_;dsimp only;split<;>omega),hb.trans hb5.drew⟩
     case measure=>simp [intOf];omega)
  ·obtain rfl:k=n:=by omega
   have HX:Hid (l.take k=l):=by show _=_;rw[List.take_of_length_le (by have:=HL.out;omega)]
   rw[HX.out];clear HX;have HHx:=waV (fun W=>HH.out (zax l).1 (zax l).2 W)
   have hbn:Below (w.alloc (.cells #[.int .i64 0,.int .i64 0] 129)).heap.size (w.alloc (.cells #[.int .i64 0,.int .i64 0] 129)) wr:=hb.mono (by simp)
   have q0:=(zad hbn).1 w.heap.size 0 (by simp)
   have q1:=(zad hbn).1 w.heap.size 1 (by simp)
   have qf:=fun j=>(zad hbn).2 w.heap.size j (by simp)
   clear hbn;generalize zaw (zax l).1 (zax l).2=RF at *;generalize zao (zax l).1 (zax l).2=RU at *;generalize zax l=s at *;go_wp2_with fail;refine(HHx.out _).mono ?_;rintro e w2 ⟨rfl,hb2⟩;have y0:w2.cell? ⟨w.heap.size,0,none⟩=some (.int .i64 0):=by rw[(zad hb2).1 _ _ hsz,q0];exact zaa rfl rfl
   have y1:w2.cell? ⟨w.heap.size,1,none⟩=some (.int .i64 0):=by rw[(zad hb2).1 _ _ hsz,q1];exact zaa rfl rfl
   have yf:∀j,w2.frozen? ⟨w.heap.size,j,none⟩=false:=fun j=>by rw[(zad hb2).2 _ _ hsz,qf];go_simp
   have hz2:w.heap.size<w2.heap.size:=by have:=hb2.size;omega
   have hbW:Below w.heap.size w w2:=zaf hbw hb2 oQ;clear hb2 qf q0 q1;go_wp2
   (try simp only[Exit.inBlock,Exit.then])
   refine waY (v:=.agg #[.int .i64 RF,.int .i64 RU]) ?_ rfl ⟨rfl,by exact zaE⟩
   rw[zah rfl]
   go_simp
end Go.Proofs.YtllcdbgjeidlkaaGreatDoor
namespace Go.Proofs.YtllcdbgjeidlkaaGreatDoor
open Go.Proofs.Tryz
theorem zn6 (s:Int×Int) (c:Cl):(zgc s c).1<=s.1/\s.2<=(zgc s c).2/\(¬zao c.f c.t<0->(zgc s c).1<=zaw c.f c.t/\zao c.f c.t<=(zgc s c).2):=by
 unfold zgc;split
 ·exact⟨Int.le_refl _,Int.le_refl _,fun h=>absurd ‹_› h⟩
 ·dsimp only;refine⟨?_,?_,fun _=>⟨?_,?_⟩⟩<;>split<;>omega
theorem zic:∀(l:List Cl) (s:Int×Int),(l.foldl zgc s).1<=s.1/\s.2<=(l.foldl zgc s).2/\∀c∈l,¬zao c.f c.t<0->(l.foldl zgc s).1<=zaw c.f c.t/\zao c.f c.t<=(l.foldl zgc s).2
 |[],s=>⟨Int.le_refl _,Int.le_refl _,fun c hc=>by cases hc⟩
 |a::l,s=>by
  obtain⟨h1,h2,h3⟩:=zn6 s a;obtain⟨h4,h5,h6⟩:=zic l (zgc s a);rw[List.foldl_cons];refine⟨by omega,by omega,fun c hc hu=>?_⟩
  rcases List.mem_cons.1 hc with rfl|hc
  ·have:=h3 hu;omega
  ·exact h6 c hc hu
theorem zqp {c:Cl} {t:Int} (h:zsz c t=true):inC t=true/\zaw c.f c.t<=t/\t<=zao c.f c.t:=by
 unfold zsz at h;simp only[waN,waM] at h;exact⟨h.1,h.2.2.1⟩
theorem zm3 {L:List Cl} {t:Int} (h:zuL L t=true):zaw (zax L).1 (zax L).2<=t/\t<=zao (zax L).1 (zax L).2/\¬zao (zax L).1 (zax L).2<0:=by
 unfold zuL at h;rw[waN,List.any_eq_true] at h;obtain⟨_,c,hc,hh⟩:=h;obtain⟨hi,h1,h2⟩:=zqp hh;have hi:0<=t/\t<12622780800:=waA hi;obtain⟨_,_,h3⟩:=zic L (12622780800,-1);obtain⟨h4,h5⟩:=h3 c hc oQ;have h4:(zax L).1<=zaw c.f c.t:=h4;have h5:zao c.f c.t<=(zax L).2:=h5;generalize (zax L).1=a at *;generalize (zax L).2=b at *;clear h3 hh hc;unfold zaw zao at *;generalize c.f=f at *;generalize c.t=u at *
 (repeat' split)<;>omega
end Go.Proofs.YtllcdbgjeidlkaaGreatDoor
namespace Go.Proofs.YtllcdbgjeidlkaaGreatDoor
open Go.Proofs.Tryz
open Go.RowKit
open Go.Maps
theorem RollF.apart {V W:World} {d:RollD} {L:List Cl} {lo hi:Nat} {S:Nat->Prop} (h:RollF W d L lo hi) (hr:RlS S W V) (hS:∀k,S k->k<lo\/hi<=k):RollF V d L lo hi:=by
 have out:∀k,lo<=k/\k<hi->¬S k:=fun k hk g=>by have:=hS k g;omega
 have nb:=out _ h.lb0;refine {h with hw:=waW h.hw hr.size,c0:=hr.cell h.c0 nb,c1:=hr.cell h.c1 nb,c2:=hr.cell h.c2 nb,c3:=hr.cell h.c3 nb,fz:=fun j=>(zaX hr (waR W _ h.c0) nb).trans (h.fz j),rd:=?_,fn:=?_,pc:=?_}
 ·refine⟨h.rd.1,fun hp=>?_⟩
  obtain⟨b,o,e,hb,hc⟩:=h.rd.2 hp;obtain⟨h1,h2,_⟩:=h.rA _ hp e;exact⟨b,o,e,waD hb hr.size,fun i x hx j v hv=>hr.cell (hc i x hx j v hv) (out _ ⟨h1,h2⟩)⟩
 ·intro i hi';obtain⟨f1,f2,f3,f4,f5,f6⟩:=h.fn i hi';obtain⟨_,h1,h2,_⟩:=h.al oQ;have hw:=h.hw;exact⟨hr.cell f1 (out _ ⟨h1,h2⟩),f2,f3.later ⟨hr.size,fun k g1 g2=>hr.block k oQ (out k ⟨by omega,by omega⟩)⟩,f4,f5,f6⟩
 ·intro i hi';obtain⟨_,h1,h2,_⟩:=h.ap oQ;exact hr.cell (h.pc i hi') (out _ ⟨h1,h2⟩)
theorem RollAt.apart {V W:World} {d:RollD} {L:List Cl} {lo hi D:Nat} {S:Nat->Prop} (h:RollAt W d L lo hi D) (hr:RlS S W V) (hS:∀k,S k->k<D/\(k<lo\/hi<=k)) (ht:¬S 0):RollAt V d L lo hi D:=by
 have out:∀k,lo<=k/\k<hi->¬S k:=fun k hk g=>by have:=hS k g;omega
 exact⟨h.f.apart hr fun k g=>(hS k g).2,h.m.still hr (fun k g=>(hS k g).1) (out _ h.f.lb0) (out _ h.f.lk) (fun i hi'=>(h.m.parts i hi').rls hr (fun k g=>.inl (hS k g).1) (out _ (h.f.lp i hi'))),h.hiD,waW h.dw hr.size,h.tz.rls hr ht,h.tl⟩
theorem zbp.rls {S:Nat->Prop} {W V:World} {D:Nat} {v:Value} {p:Nat->Bool} (h:zbp W D v p) (hr:RlS S W V) (hS:∀k,S k->k<D):zbp V D v p:=by
 rcases h with h|⟨b,h1,h2,h3⟩
 ·exact .inl h
 ·exact .inr ⟨b,h1,h2,h3.rls hr (fun g=>by have:=hS b g;omega)⟩
theorem zbp.v {W:World} {D:Nat} {v:Value} {p:Nat->Bool} (h:zbp W D v p):zdN W v p:=by
 rcases h with h|⟨b,h1,_,h3⟩
 ·exact .inl h
 ·exact .inr ⟨b,h1,h3⟩
theorem zjc.first {W0 W1 W2:World} {d:RollD} {L:List Cl} {lo hi D:Nat} {n:Int} {e:Ending} (h:zjc d L lo hi D n W1 e W2) (hb:Below W0.heap.size W0 W1):zjc d L lo hi D n W0 e W2:=by
 obtain⟨v,h1,h2,h3,h4⟩:=h;exact⟨v,h1,h2,h3,((RlS.refl _ W0).below hb (waJ _)).trans h4⟩
theorem zs2 (d:RollD) (L:List Cl) (lo hi D:Nat) (W:World) (hR:RollAt W d L lo hi D) (n:Int) (h0:0<=n) (h1:n<146097):
 Calls prog 67 #[.pointer (some ⟨d.b,0,none⟩),.int .i64 n] W (zjc d L lo hi D n W):=by
 have HS:=waV (fun V=>zjQ n h0 h1 V)
 have HA:=waV (fun V (hV:Below W.heap.size W V)=>zm2 d L lo hi D V (hR.below hV) n h0 h1)
 have hV:∃y m d b k i1 i2 i3 i4:Int,shV n=.agg #[.int .i64 n,.int .i64 y,.int .i64 m,.int .i64 d,.int .i64 b,.int .i64 k,.int .i64 i1,.int .i64 i2,.int .i64 i3,.int .i64 i4]:=⟨_,_,_,_,_,_,_,_,_,rfl⟩;obtain⟨y,m,d',b',k',i1,i2,i3,i4,hV⟩:=hV;rw[hV] at HS HA;clear hV hR;go_enter func67,ntmps67;go_wp2_with fail;refine(HS.out _).mono ?_;rintro e w1 ⟨rfl,hb1⟩;have hz1:=hb1.size;go_wp2_with fail;refine(HA.out _ (by exact zaE)).mono ?_
 rintro e w2 hr;have HRt:=waV (hr.first (W0:=W) (by exact zaE))
 obtain⟨v,rfl,_⟩:=hr;go_wp2;go_ret;exact HRt.out
def zs3 (p:Nat->Bool):Bool:=(List.range 86400).any p
theorem zgq {p:Nat->Bool}:zs3 p=true↔∃s,s<86400/\p s=true:=by
 unfold zs3;rw[List.any_eq_true];constructor
 ·rintro ⟨s,h1,h2⟩;exact⟨s,wbG.1 h1,h2⟩
 ·rintro ⟨s,h1,h2⟩;exact⟨s,wbG.2 h1,h2⟩
theorem zfP {p:Nat->Bool} (h:∀s,s<86400->p s=false):zs3 p=false:=by
 rw[Bool.eq_false_iff];intro g;obtain⟨s,h1,h2⟩:=zgq.1 g;rw[h s h1] at h2;cases h2
theorem zqq (v:Value) (p:Nat->Bool) (w:World) (hd:zdN w v p) (hw:Tz w):Calls prog 82 #[v] w (zbE (.bool (zs3 p)) w):=by
 rcases hd with ⟨rfl,hp⟩|⟨b,rfl,hd⟩
 ·rw[zfP hp];have HN:=waV (fun W=>zp7 0 W)
  go_enter func82,ntmps82;go_wp2_with fail;refine(HN.out _).mono ?_;rintro e w1 ⟨rfl,rfl⟩;go_wp2;go_ret;exact⟨rfl,rfl⟩
 ·have HN:=waV (zkc b 0 p w hd hw dQ);clear hd;go_enter func82,ntmps82;go_wp2_with fail;refine HN.out.mono ?_;rintro e w1 ⟨rfl,(⟨x,rfl,h1,h2,h3,h4⟩|⟨rfl,h⟩)⟩
  ·have HR:Hid (zs3 p=true):=zgq.2 ⟨x,h1,h3⟩;clear h1 h2 h3 h4;go_wp2;go_ret;exact⟨by rw[HR.out];rfl,rfl⟩
  ·have HR:Hid (zs3 p=false):=zfP fun s hs=>h s (waK _) hs
   clear h;go_wp2;go_ret;exact⟨by rw[HR.out];rfl,rfl⟩
def bdF (L:List Cl) (f:Int):Int:=if zao (zax L).1 (zax L).2<0 then 0 else max f (zaw (zaw (zax L).1 (zax L).2) (zao (zax L).1 (zax L).2) / 86400)
def bdT (L:List Cl) (t:Int):Int:=if zao (zax L).1 (zax L).2<0 then -1 else min t (zao (zaw (zax L).1 (zax L).2) (zao (zax L).1 (zax L).2) / 86400)
theorem zfQ (f u:Int):zaw (zaw f u) (zao f u)=zaw f u:=by
 unfold zaw zao
 (repeat' split)<;>omega
theorem zvK {L:List Cl} {f t n:Int} (hf:f<=n) (ht:n<=t) (hl:∃s,s<86400/\zay L n s=true):bdF L f<=n/\n<=bdT L t:=by
 obtain⟨s,hs,hc⟩:=hl;obtain⟨h1,h2,h3⟩:=zm3 hc;unfold bdF bdT;rw[if_neg h3,if_neg h3,zfQ,zdl];omega
theorem zuR {k:IntKind} {a b x y:Int} (h1:a=x) (h2:b=y):Ending.returned (.tuple #[.int k a,.int k b])=.returned (.tuple #[.int k x,.int k y]):=by rw[h1,h2]
theorem zkp (d:RollD) (L:List Cl) (lo hi D:Nat) (W:World) (hR:RollAt W d L lo hi D) (f t:Int):
 Calls prog 78 #[.pointer (some ⟨d.b,0,none⟩),.int .i64 f,.int .i64 t] W (Ret (.tuple #[.int .i64 (bdF L f),.int .i64 (bdT L t)]) W):=by
 have HH:=waV (fun V (hV:Below W.heap.size W V)=>zjd d.A L.length d.cc L V (hR.f.rd.below hV (waJ _)) (by have:=hR.f.n8;omega))
 have c0:=hR.f.c0;have lb:=waR W _ c0;have HE:=waV (fun V=>zh2 (zaw (zax L).1 (zax L).2) (zao (zax L).1 (zax L).2) V)
 have HD:=waV (fun V=>zgM (zaw (zax L).1 (zax L).2) (zao (zax L).1 (zax L).2) V)
 have HB:Hid (bdF L f=if zao (zax L).1 (zax L).2<0 then 0 else max f (zaw (zaw (zax L).1 (zax L).2) (zao (zax L).1 (zax L).2) / 86400)):=rfl
 have HC:Hid (bdT L t=if zao (zax L).1 (zax L).2<0 then -1 else min t (zao (zaw (zax L).1 (zax L).2) (zao (zax L).1 (zax L).2) / 86400)):=rfl
 have hu:=zdl (zax L).1 (zax L).2;unfold zj1 at HD;rw[hu] at HE HD HC;clear hR hu;generalize zaw (zaw (zax L).1 (zax L).2) (zao (zax L).1 (zax L).2)=F2 at *;generalize zaw (zax L).1 (zax L).2=F at *;generalize zao (zax L).1 (zax L).2=U at *;generalize bdF L f=X at *;generalize bdT L t=Y at *;generalize d.A=A at *;generalize d.cc=cc at *;generalize L.length=nL at *
 by_cases h:U<0
 ·rw[waP h] at HE;have h1:Hid (X=0):=by show _=_;rw[HB.out,if_pos h]
  have h2:Hid (Y=-1):=by show _=_;rw[HC.out,if_pos h]
  clear HB HC HD h;go_enter func78,ntmps78;go_wp2_with fail;refine(HH.out _ (by exact zaE)).mono ?_
  rintro e w1 ⟨rfl,hb1⟩;have y0:w1.cell? ⟨W.heap.size,0,none⟩=some (.int .i64 0):=((zad hb1).1 _ _ (by simp)).trans (zaa rfl rfl)
  have y1:w1.cell? ⟨W.heap.size,1,none⟩=some (.int .i64 0):=((zad hb1).1 _ _ (by simp)).trans (zaa rfl rfl)
  have yf:∀j,w1.frozen? ⟨W.heap.size,j,none⟩=false:=fun j=>by rw[(zad hb1).2 _ _ (by simp)];go_simp
  have hz1:W.heap.size<w1.heap.size:=by have:=hb1.size;simp at this;omega
  have hbw:Below W.heap.size W w1:=((waC _ W).alloc (waJ _) _).trans (hb1.mono (by simp))
  clear hb1;go_wp2_with fail;refine(HE.out _).mono ?_;rintro e w2 ⟨rfl,hb2⟩;have hbz:=Below.trans (show Below W.heap.size W _ from(((hbw.setCell (p:=⟨W.heap.size,0,none⟩) (waJ _) (.int .i64 F)).setCell (p:=⟨W.heap.size,1,none⟩) (waJ _) (.int .i64 U)))) (hb2.mono (by simp;omega))
  clear hb2 hbw;go_wp2
  (try simp only[Exit.inBlock,Exit.then])
  refine waY (wbM rfl _ _ _) rfl ?_;exact⟨zuR h1.out.symm h2.out.symm,hbz⟩
 ·rw[waO h] at HE;rw[if_neg h] at HD;have h1:Hid (X=max f (F2 / 86400)):=by show _=_;rw[HB.out,if_neg h]
  have h2:Hid (Y=min t (U / 86400)):=by show _=_;rw[HC.out,if_neg h]
  clear HB HC h;go_enter func78,ntmps78;go_wp2_with fail;refine(HH.out _ (by exact zaE)).mono ?_
  rintro e w1 ⟨rfl,hb1⟩;have y0:w1.cell? ⟨W.heap.size,0,none⟩=some (.int .i64 0):=((zad hb1).1 _ _ (by simp)).trans (zaa rfl rfl)
  have y1:w1.cell? ⟨W.heap.size,1,none⟩=some (.int .i64 0):=((zad hb1).1 _ _ (by simp)).trans (zaa rfl rfl)
  have yf:∀j,w1.frozen? ⟨W.heap.size,j,none⟩=false:=fun j=>by rw[(zad hb1).2 _ _ (by simp)];go_simp
  have hz1:W.heap.size<w1.heap.size:=by have:=hb1.size;simp at this;omega
  have hbw:Below W.heap.size W w1:=((waC _ W).alloc (waJ _) _).trans (hb1.mono (by simp))
  clear hb1;go_wp2_with fail;refine(HE.out _).mono ?_;rintro e w2 ⟨rfl,hb2⟩;have g0:w2.cell? ⟨W.heap.size,0,none⟩=some (.int .i64 F):=by
   rw[(zad hb2).1 _ _ (by simp;omega)];exact(waU _ _ _ _ (by simp)).trans (waT _ _ _ y0)
  have g1:w2.cell? ⟨W.heap.size,1,none⟩=some (.int .i64 U):=by
   rw[(zad hb2).1 _ _ (by simp;omega)];exact waT _ _ _ ((waU _ _ _ _ (by simp)).trans y1)
  have hbz:=Below.trans (show Below W.heap.size W _ from(((hbw.setCell (p:=⟨W.heap.size,0,none⟩) (waJ _) (.int .i64 F)).setCell (p:=⟨W.heap.size,1,none⟩) (waJ _) (.int .i64 U)))) (hb2.mono (by simp;omega))
  have hz2:W.heap.size<w2.heap.size:=by have:=hb2.size;simp at this;omega
  clear hb2 hbw y0 y1 yf;go_wp2_with fail;refine(HD.out _).mono ?_;rintro e w3 ⟨rfl,hb3⟩;have hbz3:=hbz.trans (hb3.mono oQ);clear hb3 hbz;go_wp2
  all_goals (try simp only[Exit.inBlock,Exit.then])
            refine waY (wbM rfl _ _ _) rfl ?_
  all_goals (have e1:=h1.out;have e2:=h2.out;exact⟨zuR oQ oQ,hbz3⟩)
end Go.Proofs.YtllcdbgjeidlkaaGreatDoor
namespace Go.Proofs.YtllcdbgjeidlkaaGreatDoor
open Go.Proofs.Tryz
open Go.RowKit
def zwN (w:World) (v:Value):Prop:=v=.pointer none\/zf3 w v
def zg3 (w:World) (v:Value):Prop:=∃v1 v2,v=.agg #[v1,v2]/\zwN w v1/\zwN w v2
theorem zf4 (d:Nat) {w:World} {x y:Value} (hx:zwN w x) (hy:zwN w y):∃r:Bool,(Op.equalIn (d+1) 82 x y).run prog w=.ok r w/\(r=true↔y=x):=by
 have hp:prog.underlying 82=some (.pointer 162):=underlying82;obtain⟨j,hte⟩:=info_of_underlying underlying162;have hsz:j.size≠0:=by
  have h:(prog.info? 162).map (·.size)=some 1350:=by kernel_rfl
  rw[hte] at h;have h:j.size=1350:=waB h;omega
 rcases hx with rfl|⟨b,cs,t,rfl,hb⟩<;>rcases hy with rfl|⟨b',cs',t',rfl,hb'⟩
 ·exact⟨true,by simp[Op.equalIn,run_underlying hp],by simp⟩
 ·exact⟨false,by simp[Op.equalIn,run_underlying hp],by simp⟩
 ·exact⟨false,by simp[Op.equalIn,run_underlying hp],by simp⟩
 ·by_cases e:b=b'
  ·subst e;exact⟨true,by simp[Op.equalIn,run_underlying hp,sizeOf,typeInfo,hte,run_sameAddr_same],by simp⟩
  ·have he':¬b'=b:=fun h=>e h.symm
   have hne:(⟨b,0,none⟩:Addr)≠⟨b',0,none⟩:=by simp[e]
   refine⟨false,?_,by simp[he']⟩
   simp[Op.equalIn,run_underlying hp,sizeOf,typeInfo,hte,hsz,run_sameAddr_other w hne hb hb']
theorem zn7 {w:World} {x y:Value} (hx:zg3 w x) (hy:zg3 w y):∃r:Bool,(Op.equal 286 x y).run prog w=.ok r w/\(r=true↔y=x):=by
 obtain⟨x1,x2,rfl,h1,h2⟩:=hx;obtain⟨y1,y2,rfl,h3,h4⟩:=hy;obtain⟨i,hi⟩:=info_of_underlying underlying82;have hc:prog.cellsOf 82=1:=by kernel_rfl
 have hr:List.range 2=[0,1]:=rfl;obtain⟨r1,e1,g1⟩:=zf4 9998 h1 h3;obtain⟨r2,e2,g2⟩:=zf4 9998 h2 h4;have hA:(Op.equalIn (9999+1) 286 (.agg #[x1,x2]) (.agg #[y1,y2])).run prog w=(Op.eqItems 9999 82 1 #[x1,x2] #[y1,y2] [0,1]).run prog w:=by
  rw[run_equalIn_array w 9999 _ _ underlying286 hi,hc,hr]
 refine⟨r1&&r2,?_,?_⟩
 ·show(Op.equalIn (9999+1) _ _ _).run _ _=_;rw[hA];cases r1<;>cases r2<;>simp [go_sem,Op.eqItems,e1,e2]
 ·rw[waN,g1,g2];simp
theorem zm4 (w:World):KeyRun prog 286 w (zg3 w):=by
 have hp:prog.underlying 82=some (.pointer 162):=underlying82;have ha:prog.underlying 286=some (.array 2 82):=underlying286;refine⟨fun em v ⟨v1,v2,hv,h1,h2⟩=>?_,fun x hx es hes=>?_⟩
 ·subst hv;have hk:∀d u,zwN w u->(Instr.checkKey em (d+1) 82 u).run prog w=.ok () w:=fun d u hu=>by
   rcases hu with rfl|⟨b,cs,t,rfl,_⟩<;>
   ·unfold Instr.checkKey;simp only[Sem.run_bind,run_underlying hp,Result.andThen];rfl
  show(Instr.checkKey em (9999+1) 286 _).run prog w=_;have k1:=hk 9998 v1 h1;have k2:=hk 9998 v2 h2;unfold Instr.checkKey;simp only[Sem.run_bind,run_underlying ha,Result.andThen];simp[Std.Legacy.Range.forIn_eq_forIn_range',Std.Legacy.Range.size,List.range',go_sem,k1,k2]
 ·have hf:(Instr.findKey 286 x es).run prog w=(Instr.findAsking 286 x es).run prog w:=by
   obtain⟨x1,x2,rfl,_⟩:=hx;unfold Instr.findKey;simp only[Sem.run_bind,run_underlying ha,Result.andThen];cases es with
   |nil=>rfl
   |cons e es=>
    obtain⟨y1,y2,hk,_⟩:=hes e (by simp)
    have h:Instr.findNow (.array 2 82) (.agg #[x1,x2]) (e::es) 0=none:=by
     simp[Instr.findNow,Instr.sameNow]
    rw[h]
  rw[hf];rcases zfO (fun hx hy=>zn7 hx hy) hx es 0 hes with h|⟨j,q,h1,h2,h3⟩
  ·exact .inl h
  ·exact .inr ⟨j,q,by rw[waH] at h1;exact h1,h2,h3⟩
end Go.Proofs.YtllcdbgjeidlkaaGreatDoor
