/- A part of the proof: WRoll1 -/
import Derived.Test.YtllcdbgjeidlkaaGreatDoorT17
import Derived.Test.YtllcdbgjeidlkaaGreatDoorT18
import Derived.Test.YtllcdbgjeidlkaaGreatDoorT15
set_option maxHeartbeats 80000000
set_option maxRecDepth 100000
set_option linter.unusedSimpArgs false
set_option linter.unusedVariables false
namespace Go.Proofs.YtllcdbgjeidlkaaGreatDoor
open Go.Proofs.Tryz
open Go.RowKit
def eqS (y:LSt):Bool:=y.act&&(y.fr==0&&(y.un==86399&&y.ph==0))
theorem zql {y:LSt}:eqS y=true↔y=zi0:=by
 cases y;unfold eqS zi0;simp
def whB (x:Nat->LSt):Nat->Bool
 |0=>true
 |k+1=>whB x k&&(!(x k).act||eqS (x k))
theorem zlz {x:Nat->LSt}:∀{k:Nat},whB x k=true->∀i,i<k->(x i).act=true->x i=zi0
 |0,_,i,h,_=>by omega
 |k+1,h,i,hi,ha=>by
  unfold whB at h;rw[waN,wbF] at h
  by_cases e:i=k
  ·subst e;rcases h.2 with h2|h2
   ·rw[ha] at h2;cases h2
   ·exact zql.1 h2
  ·exact zlz h.1 i oQ ha
def stK (x:Nat->LSt) (k i:Nat):LSt:=if i<k then x i else stZ
theorem zxr:∀k:Nat,k<8->∀a:Nat,a<256->a<2^k->bits .or .i64 (a:Int) ((2^k:Nat):Int)=((a+2^k:Nat):Int):=by decide+kernel
theorem w_act:∀k:Nat,k<8->wrap64 ((2:Int)^k)=((2^k:Nat):Int):=by decide+kernel
theorem zmZ {x y:Nat->LSt}:∀{k:Nat},(∀i,i<k->x i=y i)->zdR x k=zdR y k
 |0,_=>rfl
 |k+1,h=>by unfold zdR;rw[zmZ (fun i hi=>h i (by omega)),h k (by omega)]
theorem set4 {w1:World} {B k:Nat} {x:Nat->LSt} (h:Arr w1 B 32 (stG (stK x k))) (hk:k<8):Arr (w1.setCells B (k * 4) [.bool (x k).act,.int .i64 (x k).fr,.int .i64 (x k).un,.int .i64 (x k).ph]) B 32 (stG (stK x (k+1))):=by
 have hs:∀j,j<4->(w1.cell? ⟨B,k * 4+j,none⟩).isSome=true:=fun j hj=>by rw[h.1 (k * 4+j) (by omega)];rfl
 have e1:stK x (k+1) k=x k:=if_pos oQ;refine⟨fun j hj=>?_,fun j=>by rw[World.frozen?_setCells];exact h.2 j⟩
 by_cases hin:k * 4<=j/\j<k * 4+4
 ·obtain⟨r,rfl⟩:∃r,j=k * 4+r:=⟨j - k * 4,by omega⟩
  have hr:r<4:=by omega
  rw[World.cell?_setCells_in B _ (k * 4) w1 (fun j hj=>hs j (by simpa using hj)) r (by simpa using hr)]
  unfold stG;rw[show (k * 4+r)%4=r by omega,show(k * 4+r) / 4=k by omega,e1]
  obtain rfl|rfl|rfl|rfl:r=0\/r=1\/r=2\/r=3:=by omega
  all_goals simp
 ·rw[World.cell?_setCells_out B _ (k * 4) w1 _ (fun _ _=>by simp;omega),h.1 j hj]
  congr 1;unfold stG;have e2:stK x k (j / 4)=stK x (k+1) (j / 4):=by
   unfold stK
   by_cases hjk:j / 4<k
   ·rw[if_pos hjk,if_pos (by omega)]
   ·rw[if_neg hjk,if_neg (by omega)]
  rw[e2]
theorem set4c {w1:World} {B k:Nat} {x:Nat->LSt} (h:Arr w1 B 32 (stG (stK x k))) (hk:k<8):Arr ((((w1.setCell ⟨B,k * 4,none⟩ (.bool (x k).act)).setCell ⟨B,k * 4+1,none⟩ (.int .i64 (x k).fr)).setCell ⟨B,k * 4+2,none⟩ (.int .i64 (x k).un)).setCell ⟨B,k * 4+3,none⟩ (.int .i64 (x k).ph)) B 32 (stG (stK x (k+1))):=
 set4 h hk
theorem zqm {y:LSt} (h:y≠zi0):eqS y=false:=by
 cases e:eqS y with
 |false=>rfl
 |true=>exact absurd (zql.1 e) h
theorem zvH {w1:World} {B:Nat} {x:Nat->LSt} (h:Arr w1 B 32 (stG x)):w1.there B 0 32:=fun j hj=>⟨by rw[waH,h.1 j hj];rfl,h.2 _⟩
theorem zvI (b bl cl n:Nat) (Al:Option Addr) (x:Nat->LSt) (dn:Int) (g gl gh:Nat->Nat) (lb:Nat->Array Value) (W:World) (h0:0<=dn) (h1:dn<146097) (hn:n<=8) (c1:W.cell? ⟨b,1,none⟩=some (.slice Al n cl)) (al:0<n->Al=some ⟨bl,0,none⟩)
 (hf:∀i,i<n->W.cell? ⟨bl,i,none⟩=some (.func (.func (g i)) #[] (lb i))/\(∀args w,(callFunc (g i) args).run prog w=.ok (.enter (g i) args) w)/\gh i<=W.heap.size/\∀V,KpI (gl i) (gh i) W V->Calls prog (g i) (#[shV dn]++lb i) V (Ret (zdQ (x i)) V)):
 Calls prog 148 #[.pointer (some ⟨b,0,none⟩),shV dn] W (fun e W'=>e=.returned (.tuple #[zbW (stK x n),.int .i64 (zdR x n:Nat),.bool (whB x n)])/\Below W.heap.size W W'):=by
 have lb0:=waR W _ c1;have HF:=waV hf;have hV:∃y m d b k i1 i2 i3 i4:Int,shV dn=.agg #[.int .i64 dn,.int .i64 y,.int .i64 m,.int .i64 d,.int .i64 b,.int .i64 k,.int .i64 i1,.int .i64 i2,.int .i64 i3,.int .i64 i4]:=⟨_,_,_,_,_,_,_,_,_,rfl⟩;obtain⟨y,m,d,b',k',i1,i2,i3,i4,hV⟩:=hV;rw[hV] at HF ⊢;clear hf hV;go_enter func148,ntmps148;go_wp2;generalize hW0:((W.alloc (.cells #[.int .i64 dn,.int .i64 y,.int .i64 m,.int .i64 d,.int .i64 b',.int .i64 k',.int .i64 i1,.int .i64 i2,.int .i64 i3,.int .i64 i4] 81)).alloc _)=W0;have hB0:Below W.heap.size W W0:=by rw[<-hW0];exact((waC _ W).alloc (waJ _) _).alloc (by simp) _
 have hz0:W0.heap.size=W.heap.size+2:=by rw[<-hW0];simp
 have hA0:Arr W0 (W.heap.size+1) 32 (stG (stK x 0)):=by
  rw[<-hW0];have hs:(W.alloc (.cells #[.int .i64 dn,.int .i64 y,.int .i64 m,.int .i64 d,.int .i64 b',.int .i64 k',.int .i64 i1,.int .i64 i2,.int .i64 i3,.int .i64 i4] 81)).heap.size=W.heap.size+1:=by simp
  rw[<-hs];refine zdq _ _ _ _ (fun j hj=>?_)
  have hj':j<32:=hj;obtain rfl|rfl|rfl|rfl|rfl|rfl|rfl|rfl|rfl|rfl|rfl|rfl|rfl|rfl|rfl|rfl|rfl|rfl|rfl|rfl|rfl|rfl|rfl|rfl|rfl|rfl|rfl|rfl|rfl|rfl|rfl|rfl:j=0\/j=1\/j=2\/j=3\/j=4\/j=5\/j=6\/j=7\/j=8\/j=9\/j=10\/j=11\/j=12\/j=13\/j=14\/j=15\/j=16\/j=17\/j=18\/j=19\/j=20\/j=21\/j=22\/j=23\/j=24\/j=25\/j=26\/j=27\/j=28\/j=29\/j=30\/j=31:=by omega
  all_goals rfl
 have hS0:∀j v,(#[.int .i64 dn,.int .i64 y,.int .i64 m,.int .i64 d,.int .i64 b',.int .i64 k',.int .i64 i1,.int .i64 i2,.int .i64 i3,.int .i64 i4]:Array Value)[j]?=some v->W0.cell? ⟨W.heap.size,j,none⟩=some v:=fun j v hv=>by
  rw[<-hW0];exact((zad ((waC _ _).alloc (waJ _) _)).1 _ _ (by simp)).trans (zaa rfl hv)
 clear hW0;have HA0:=waV hA0;have HS0:=waV hS0;have HB0:=waV hB0;clear hA0 hS0 hB0
 go_loopw [14,5,6] (fun i a wh wr=>∃k:Nat,k<=n/\i=.int .i64 (k:Int)/\a=.int .i64 (zdR x k:Nat)/\wh=.bool (whB x k)/\Hid (Arr wr (W.heap.size+1) 32 (stG (stK x k)))/\Hid (∀j v,(#[.int .i64 dn,.int .i64 y,.int .i64 m,.int .i64 d,.int .i64 b',.int .i64 k',.int .i64 i1,.int .i64 i2,.int .i64 i3,.int .i64 i4]:Array Value)[j]?=some v->wr.cell? ⟨W.heap.size,j,none⟩=some v)/\Hid (Below W.heap.size W wr)/\W.heap.size+2<=wr.heap.size) (fun i _ _ _=>n - (intOf i).toNat)
 case atStart=>exact⟨0,waK _,rfl,rfl,rfl,HA0.out,HS0.out,HB0.out,by omega⟩
 case round=>
  obtain⟨k,hk,rfl,rfl,rfl,HAr,HSr,HBr,hzr⟩:=hrel
  by_cases hlt:k<n
  ·obtain rfl:=al oQ;obtain⟨f1,f2,f3,f4⟩:=HF.out k hlt;have l1:=waR W _ f1;have c2:=((zad HBr.out).1 _ _ l1).trans f1;have H4:=waV (f4 wr (KpI.of_below HBr.out f3));have hlt':(k:Int)<(n:Int):=by omega
   have s0:=HSr.out 0 _ rfl;have s1:=HSr.out 1 _ rfl;have s2:=HSr.out 2 _ rfl;have s3:=HSr.out 3 _ rfl;have s4:=HSr.out 4 _ rfl;have s5:=HSr.out 5 _ rfl;have s6:=HSr.out 6 _ rfl;have s7:=HSr.out 7 _ rfl;have s8:=HSr.out 8 _ rfl;have s9:=HSr.out 9 _ rfl;have hlb:bl<wr.heap.size:=waD l1 HBr.out.size;obtain⟨gk,hgk⟩:∃q,q=g k:=⟨_,rfl⟩;rw[<-hgk] at c2 f2 H4;obtain⟨lk,hlk⟩:∃q,q=lb k:=⟨_,rfl⟩;rw[<-hlk] at c2 H4;have eg:=f2;clear f1 f3 f4 f2 hgk hlk;have HArW:=fun(V:World) (hq:Below wr.heap.size wr V)=>Arr.below HAr.out oQ hq
   have HI4:Hid ((prog.info? 224).map (·.size)=some 4):=by show _=_;kernel_rfl
   have hsk:stK x k k=stZ:=if_neg oQ;have HC4:Hid (∀V:World,Below wr.heap.size wr V->V.cell? ⟨W.heap.size+1,k * 4,none⟩=some (.bool false)/\V.cell? ⟨W.heap.size+1,k * 4+1,none⟩=some (.int .i64 0)/\V.cell? ⟨W.heap.size+1,k * 4+2,none⟩=some (.int .i64 0)/\V.cell? ⟨W.heap.size+1,k * 4+3,none⟩=some (.int .i64 0)/\(∀j,V.frozen? ⟨W.heap.size+1,j,none⟩=false)/\W.heap.size+1<V.heap.size):=fun V hq=>by
    have hA:=HArW V hq;refine⟨?_,?_,?_,?_,hA.2,by have:=hq.size;omega⟩
    ·rw[hA.1 (k * 4) (by omega)];unfold stG;rw[show (k * 4)%4=0 by omega,show k * 4 / 4=k by omega,hsk];rfl
    ·rw[hA.1 (k * 4+1) (by omega)];unfold stG;rw[show (k * 4+1)%4=1 by omega,show(k * 4+1) / 4=k by omega,hsk];rfl
    ·rw[hA.1 (k * 4+2) (by omega)];unfold stG;rw[show (k * 4+2)%4=2 by omega,show(k * 4+2) / 4=k by omega,hsk];rfl
    ·rw[hA.1 (k * 4+3) (by omega)];unfold stG;rw[show (k * 4+3)%4=3 by omega,show(k * 4+3) / 4=k by omega,hsk];rfl
   have HS4:=waV (fun(V:World) (hq:Below wr.heap.size wr V)=>set4c (HArW V hq) (show k<8 by omega))
   have hax:zdR x (k+1)=zdR x k+if (x k).act then 2^k else 0:=rfl
   have hwx:whB x (k+1)=(whB x k&&(!(x k).act||eqS (x k))):=rfl
   have hal:=zgL x k;have hk8:k<8:=by omega
   clear HArW;unfold zdQ at H4;obtain⟨xs,hxs⟩:∃q,q=x k:=⟨_,rfl⟩;rw[<-hxs] at H4 HS4 hax hwx;obtain⟨xa,xf,xu,xp⟩:=xs;dsimp only at H4 HS4 hax;have hor:bits .or .i64 ((zdR x k:Nat):Int) (wrap64 ((2:Int)^k))=((zdR x k+2^k:Nat):Int):=by
    rw[w_act k hk8];have h2:2^k<=2^8:=Nat.pow_le_pow_right dQ oQ;exact zxr k hk8 _ oQ hal
   have HOr:=waV hor;have HAx:=waV hax;have HWx:=waV hwx;clear hxs hsk hor hal hax hwx;generalize whB x k=wb at *;generalize zdR x k=an at *;cases xa with
   |false=>
    go_wp2_with (go_at_fn gk;refine H4.out.mono ?_;rintro e w1 ⟨rfl,hq1⟩;obtain⟨t0,t1,t2,t3,tf,tz⟩:=HC4.out _ hq1)
    all_goals ((try subst xf)
               (try subst xu)
               (try subst xp)
               refine⟨⟨k+1,by omega,by go_num,?_,?_,HS4.out _ hq1,fun j v hj=>?_,?_,?_⟩,by simp[intOf];omega⟩
               ·first
                 |(rw[HOr.out,HAx.out];done)
                 |(rw[HOr.out,HAx.out,if_pos rfl];done)
                 |(rw[HOr.out,HAx.out,if_pos trivial];done)
                 |(rw[HAx.out];done)
                 |(rw[HAx.out,if_neg (by decide),Nat.add_zero];done)
                 |(rw[HAx.out,if_neg not_false,Nat.add_zero];done)
               ·rw[HWx.out]
                first
                 |rfl
                 |(simp only[Bool.not_false,Bool.true_or,Bool.and_true];done)
                 |(rw[zqm (by unfold zi0;intro h2;injection h2 with _ h3 h4 h5;omega)];rfl)
               ·rw[waU _ _ _ _ (by simp),waU _ _ _ _ (by simp),waU _ _ _ _ (by simp),waU _ _ _ _ (by simp)]
                exact((zad hq1).1 _ _ oQ).trans (HSr.out j v hj)
               ·have hbw:=zaf HBr.out hq1 HBr.out.size;exact(((hbw.setCell (p:=⟨W.heap.size+1,_,none⟩) (Nat.le_succ _) _).setCell (p:=⟨W.heap.size+1,_,none⟩) (Nat.le_succ _) _).setCell (p:=⟨W.heap.size+1,_,none⟩) (Nat.le_succ _) _).setCell (p:=⟨W.heap.size+1,_,none⟩) (Nat.le_succ _) _
               ·simp only[World.size_setCell];have:=hq1.size;omega)
   |true=>
    cases wb with
    |false=>
     go_wp2_with (go_at_fn gk;refine H4.out.mono ?_;rintro e w1 ⟨rfl,hq1⟩;obtain⟨t0,t1,t2,t3,tf,tz⟩:=HC4.out _ hq1)
     all_goals ((try subst xf)
                (try subst xu)
                (try subst xp)
                refine⟨⟨k+1,by omega,by go_num,?_,?_,HS4.out _ hq1,fun j v hj=>?_,?_,?_⟩,by simp[intOf];omega⟩
                ·first
                  |(rw[HOr.out,HAx.out];done)
                  |(rw[HOr.out,HAx.out,if_pos rfl];done)
                  |(rw[HOr.out,HAx.out,if_pos trivial];done)
                  |(rw[HAx.out];done)
                  |(rw[HAx.out,if_neg (by decide),Nat.add_zero];done)
                  |(rw[HAx.out,if_neg not_false,Nat.add_zero];done)
                ·rw[HWx.out]
                 first
                  |rfl
                  |(simp only[Bool.not_false,Bool.true_or,Bool.and_true];done)
                  |(rw[zqm (by unfold zi0;intro h2;injection h2 with _ h3 h4 h5;omega)];rfl)
                ·rw[waU _ _ _ _ (by simp),waU _ _ _ _ (by simp),waU _ _ _ _ (by simp),waU _ _ _ _ (by simp)]
                 exact((zad hq1).1 _ _ oQ).trans (HSr.out j v hj)
                ·have hbw:=zaf HBr.out hq1 HBr.out.size;exact(((hbw.setCell (p:=⟨W.heap.size+1,_,none⟩) (Nat.le_succ _) _).setCell (p:=⟨W.heap.size+1,_,none⟩) (Nat.le_succ _) _).setCell (p:=⟨W.heap.size+1,_,none⟩) (Nat.le_succ _) _).setCell (p:=⟨W.heap.size+1,_,none⟩) (Nat.le_succ _) _
                ·simp only[World.size_setCell];have:=hq1.size;omega)
    |true=>
     go_wp2_with (go_at_fn gk;refine H4.out.mono ?_;rintro e w1 ⟨rfl,hq1⟩;obtain⟨t0,t1,t2,t3,tf,tz⟩:=HC4.out _ hq1)
     all_goals ((try subst xf)
                (try subst xu)
                (try subst xp)
                refine⟨⟨k+1,by omega,by go_num,?_,?_,HS4.out _ hq1,fun j v hj=>?_,?_,?_⟩,by simp[intOf];omega⟩
                ·first
                  |(rw[HOr.out,HAx.out];done)
                  |(rw[HOr.out,HAx.out,if_pos rfl];done)
                  |(rw[HOr.out,HAx.out,if_pos trivial];done)
                  |(rw[HAx.out];done)
                  |(rw[HAx.out,if_neg (by decide),Nat.add_zero];done)
                  |(rw[HAx.out,if_neg not_false,Nat.add_zero];done)
                ·rw[HWx.out]
                 first
                  |rfl
                  |(simp only[Bool.not_false,Bool.true_or,Bool.and_true];done)
                  |(rw[zqm (by unfold zi0;intro h2;injection h2 with _ h3 h4 h5;omega)];rfl)
                ·rw[waU _ _ _ _ (by simp),waU _ _ _ _ (by simp),waU _ _ _ _ (by simp),waU _ _ _ _ (by simp)]
                 exact((zad hq1).1 _ _ oQ).trans (HSr.out j v hj)
                ·have hbw:=zaf HBr.out hq1 HBr.out.size;exact(((hbw.setCell (p:=⟨W.heap.size+1,_,none⟩) (Nat.le_succ _) _).setCell (p:=⟨W.heap.size+1,_,none⟩) (Nat.le_succ _) _).setCell (p:=⟨W.heap.size+1,_,none⟩) (Nat.le_succ _) _).setCell (p:=⟨W.heap.size+1,_,none⟩) (Nat.le_succ _) _
                ·simp only[World.size_setCell];have:=hq1.size;omega)
  ·have e:k=n:=by omega
   subst e;have hn':¬((k:Int)<(k:Int)):=by omega
   have HLd:=waV (fun j v (hj:(zb4 (stK x k))[j]?=some v)=>show wr.cell? ⟨W.heap.size+1,0+j,none⟩=some v from by
    have h32:j<32:=by have:=(waL.1 hj).1;rwa [zaS] at this
    rw[zc5 _ _ h32] at hj;rw[waH,HAr.out.1 j h32];exact hj)
   have HI:Hid ((prog.info? 240).map (·.size)=some (zb4 (stK x k)).size):=by show _=_;rw[zaS];kernel_rfl
   have HT32:=waV (zvH HAr.out);have HO1:Hid ((zb4 (stK x k)).all (·.oneCell')=true):=by
    show _=_;rw[Array.all_eq_true];intro i hi;have h32:i<32:=by rwa [zaS] at hi
    have h:=zc5 (stK x k) i h32;rw[wbI hi] at h;rw[waB h];unfold stG;split
    ·rfl
    ·split
     ·rfl
     ·split<;>rfl
   have HSz:Hid ((zb4 (stK x k)).size=32):=zaS _;have HT33:Hid (wr.there (W.heap.size+1) 0 (zb4 (stK x k)).size):=by show World.there _ _ _ _;rw[zaS];exact HT32.out
   have hbw:=HBr.out
   go_wp2_with (first|(refine zag (by rfl) 240 _ rfl (zb4 (stK x k)) (W.heap.size+1) 0 rfl underlying240 rfl HI.out HLd.out ?_)|(refine zc1 rfl 240 _ _ rfl (zb4 (stK x k)) (W.heap.size+1) 0 rfl rfl HI.out HO1.out HT33.out ?_)|fail)
   have hl:=run_loadVar_mid (P:=prog) (wr.setCells (W.heap.size+1) 0 (zb4 (stK x k)).toList) (W.heap.size+1) 0 240 (zb4 (stK x k)).toList _ (World.rangeAt_setCells_same wr (W.heap.size+1) 0 _ (by have h:=HT33.out;simpa using h)) underlying240 rfl (by have h:=HI.out;simpa using h)
   (try simp only[Exit.inBlock,Exit.then])
   refine waY (v:=.tuple #[zbW (stK x k),.int .i64 (zdR x k:Nat),.bool (whB x k)]) ?_ rfl ⟨rfl,zba (Nat.le_succ _) _ _ _ hbw⟩;rw[ze9 rfl];show((loadVar 240 ⟨W.heap.size+1,0,none⟩).run prog _).andThen _=_;rw[hl];rfl
end Go.Proofs.YtllcdbgjeidlkaaGreatDoor
namespace Go.Proofs.YtllcdbgjeidlkaaGreatDoor
open Go.Proofs.Tryz
open Go.RowKit
open Go.Maps
structure KnownE (W:World) (L:List Cl) (D:Nat) (es:List MapEntry):Prop where
 one:zfm es
 all:∀q∈es,∃x e,(∀i,i<8->WfS (x i))/\q.key=zbW x/\q.val=.pointer (some ⟨e,0,none⟩)/\D<=e/\DiscAt W e (zbF L x)
theorem KnownE.rls {S:Nat->Prop} {V Y:World} {L:List Cl} {D:Nat} {es:List MapEntry} (h:KnownE V L D es) (hr:RlS S V Y) (hS:∀k,S k->k<D):KnownE Y L D es:=⟨h.one,fun q hq=>by
 obtain⟨y,e,h1,h2,h3,h4,h5⟩:=h.all q hq;exact⟨y,e,h1,h2,h3,h4,h5.rls hr (fun g=>by have:=hS e g;omega)⟩⟩
theorem zib {W:World} {L:List Cl} {D:Nat} {es:List MapEntry} (h:KnownE W L D es):∀q∈es,∃l,keyOf prog 240 q.key=some l:=fun q hq=>by
 obtain⟨y,e,h1,h2,_⟩:=h.all q hq;rw[h2];exact zg0 h1
theorem KnownE.nil (W:World) (L:List Cl) (D:Nat):KnownE W L D []:=⟨(fun q hq=>by cases hq),fun q hq=>by cases hq⟩
theorem KnownE.push {W:World} {L:List Cl} {D:Nat} {es:Array MapEntry} (h:KnownE W L D es.toList) {x:Nat->LSt} (hx:∀i,i<8->WfS (x i)) (hno:∀q∈es.toList,q.key≠zbW x) {d n:Nat} (hd:D<=d) (hD:DiscAt W d (zbF L x)):
 KnownE W L D (es.push {key:=zbW x,val:=.pointer (some ⟨d,0,none⟩),born:=n}).toList:=⟨h.one.push hno,fun q hq=>by
 rw[Array.toList_push,wbB,wbC] at hq;rcases hq with hq|rfl
 ·exact h.all q hq
 ·exact⟨x,d,hx,rfl,rfl,hd,hD⟩⟩
theorem zlA {L:List Cl} (hn:L.length<=8) {x y:Nat->LSt} (h:zbW x=zbW y):zbF L x=zbF L y:=by
 have h2:=zqg (Value.agg.inj h);exact funext fun s=>zsD (fun i hi=>h2 i oQ) s
def zbp (W:World) (D:Nat) (v:Value) (p:Nat->Bool):Prop:=(v=.pointer none/\∀s,s<86400->p s=false)\/∃b,v=.pointer (some ⟨b,0,none⟩)/\D<=b/\DiscAt W b p
structure RollM (W:World) (d:RollD) (L:List Cl) (D:Nat):Prop where
 parts:∀i,i<L.length->zb5 W (d.pm i) (zeE L i) D 0
 known:∃es k,W.heap[d.km]?=some (.map es k)/\KnownE W L D es.toList
 whole:∀a,a<256->∃v,W.cell? ⟨d.b,4+a,none⟩=some v/\(v=.pointer none\/∃e,v=.pointer (some ⟨e,0,none⟩)/\D<=e/\DiscAt W e (zbF L (whS a)))
 many:∃z,W.cell? ⟨d.b,260,none⟩=some (.int .i64 z)
structure RollAt (W:World) (d:RollD) (L:List Cl) (lo hi D:Nat):Prop where
 f:RollF W d L lo hi
 m:RollM W d L D
 hiD:hi<=D
 dw:D<=W.heap.size
 tz:Tz W
 tl:0<lo
theorem RollF.turn {V W:World} {d:RollD} {L:List Cl} {lo hi:Nat} (h:RollF W d L lo hi) (hr:RlS (d.mv L.length) W V) (c0:V.cell? ⟨d.b,0,none⟩=some (.slice d.A L.length d.cc)) (c1:V.cell? ⟨d.b,1,none⟩=some (.slice d.Al L.length d.cl))
 (c2:V.cell? ⟨d.b,2,none⟩=some (.map (some d.km))) (c3:V.cell? ⟨d.b,3,none⟩=some (.slice d.Ap L.length d.cp)) (fz:∀j,V.frozen? ⟨d.b,j,none⟩=false):RollF V d L lo hi:=by
 refine {h with hw:=waW h.hw hr.size,c0:=c0,c1:=c1,c2:=c2,c3:=c3,fz:=fz,rd:=?_,fn:=?_,pc:=?_}
 ·refine⟨h.rd.1,fun hp=>?_⟩
  obtain⟨b,o,e,hb,hc⟩:=h.rd.2 hp;have hn:=(h.rA _ hp e).2.2;exact⟨b,o,e,waD hb hr.size,fun i x hx j v hv=>hr.cell (hc i x hx j v hv) hn⟩
 ·intro i hi;obtain⟨f1,f2,f3,f4,f5,f6⟩:=h.fn i hi;obtain⟨_,_,_,hn⟩:=h.al oQ;have hw:=h.hw;exact⟨hr.cell f1 hn,f2,f3.later ⟨hr.size,fun k g1 g2=>hr.block k oQ (fun g=>by have:=f6 k g;omega)⟩,f4,f5,f6⟩
 ·intro i hi;obtain⟨_,_,_,hn⟩:=h.ap oQ;exact hr.cell (h.pc i hi) hn
theorem RollF.mb {W:World} {d:RollD} {L:List Cl} {lo hi:Nat} (h:RollF W d L lo hi):∀k,d.mv L.length k->lo<=k/\k<hi:=by
 rintro k (rfl|rfl|⟨i,hi,rfl⟩)
 ·exact h.lb0
 ·exact h.lk
 ·exact h.lp i hi
theorem zaX {S:Nat->Prop} {X Y:World} {b o:Nat} (hr:RlS S X Y) (hb:b<X.heap.size) (hS:¬S b):Y.frozen? ⟨b,o,none⟩=X.frozen? ⟨b,o,none⟩:=by
 unfold World.frozen?;rw[hr.block b hb hS]
theorem RollF.still {V W:World} {d:RollD} {L:List Cl} {lo hi:Nat} {S:Nat->Prop} (h:RollF W d L lo hi) (hr:RlS S W V) (hS:∀k,S k->d.mv L.length k) (hb:¬S d.b):RollF V d L lo hi:=
 h.turn (hr.mono hS) (hr.cell h.c0 hb) (hr.cell h.c1 hb) (hr.cell h.c2 hb) (hr.cell h.c3 hb) (fun j=>(zaX hr (waR W _ h.c0) hb).trans (h.fz j))
theorem RollM.still {V W:World} {d:RollD} {L:List Cl} {D:Nat} {S:Nat->Prop} (h:RollM W d L D) (hr:RlS S W V) (hS:∀k,S k->k<D) (hb:¬S d.b) (hk:¬S d.km) (hp:∀i,i<L.length->zb5 V (d.pm i) (zeE L i) D 0):RollM V d L D:=by
 refine⟨hp,?_,fun a ha=>?_,?_⟩
 ·obtain⟨es,k,h1,h2⟩:=h.known;exact⟨es,k,(hr.block _ (waL.1 h1).1 hk).trans h1,h2.rls hr hS⟩
 ·obtain⟨v,h1,h2⟩:=h.whole a ha;refine⟨v,hr.cell h1 hb,h2.imp id ?_⟩;rintro ⟨e,h3,h4,h5⟩;exact⟨e,h3,h4,h5.rls hr (fun g=>by have:=hS e g;omega)⟩
 ·obtain⟨z,hz⟩:=h.many;exact⟨z,hr.cell hz hb⟩
theorem RollAt.below {V W:World} {d:RollD} {L:List Cl} {lo hi D:Nat} (h:RollAt W d L lo hi D) (hb:Below W.heap.size W V):RollAt V d L lo hi D:=by
 have hr:RlS (fun _=>False) W V:=(RlS.refl _ W).below hb (waJ _)
 exact⟨h.f.still hr (fun k g=>g.elim) (fun g=>g),h.m.still hr (fun k g=>g.elim) (fun g=>g) (fun g=>g) (fun i hi=>(h.m.parts i hi).rls hr (fun k g=>g.elim) (fun g=>g)),h.hiD,waW h.dw hb.size,h.tz.below hb,h.tl⟩
theorem RollAt.made {V W:World} {d:RollD} {L:List Cl} {lo hi D:Nat} (h:RollAt W d L lo hi D) (hr:RlS (d.ps L.length) W V) (hp:∀i,i<L.length->zb5 V (d.pm i) (zeE L i) D 0):RollAt V d L lo hi D:=by
 have hD:=h.hiD;have hb:¬d.ps L.length d.b:=by rintro ⟨i,hi,e⟩;exact(h.f.kne.2 i hi).1 e.symm
 have hk:¬d.ps L.length d.km:=by rintro ⟨i,hi,e⟩;exact(h.f.kne.2 i hi).2 e.symm
 have hS:∀k,d.ps L.length k->lo<=k/\k<hi:=by rintro k ⟨i,hi,rfl⟩;exact h.f.lp i hi
 exact⟨h.f.still hr (fun k g=>.inr (.inr g)) hb,h.m.still hr (fun k g=>by have:=hS k g;omega) hb hk hp,hD,waW h.dw hr.size,h.tz.rls hr (fun g=>by have:=hS _ g;have:=h.tl;omega),h.tl⟩
theorem RollAt.cell {W:World} {d:RollD} {L:List Cl} {lo hi D:Nat} (h:RollAt W d L lo hi D) (o:Nat) (v:Value) (ho:4<=o)
 (hm:(∃a,a<256/\o=4+a/\∃e,v=.pointer (some ⟨e,0,none⟩)/\D<=e/\DiscAt W e (zbF L (whS a)))\/(o=260/\∃z,v=.int .i64 z)):RollAt (W.setCell ⟨d.b,o,none⟩ v) d L lo hi D:=by
 have hD:=h.hiD;obtain⟨b0,b1⟩:=h.f.lb0;have hr:RlS (·=d.b) W (W.setCell ⟨d.b,o,none⟩ v):=(RlS.refl _ W).set _ _ rfl;have hne:∀j,j≠o->(W.setCell ⟨d.b,o,none⟩ v).cell? ⟨d.b,j,none⟩=W.cell? ⟨d.b,j,none⟩:=fun j hj=>waU _ _ _ _ (fun g=>hj (by injection g with _ g _;exact g.symm))
 have hsame:∀u,W.cell? ⟨d.b,o,none⟩=some u->(W.setCell ⟨d.b,o,none⟩ v).cell? ⟨d.b,o,none⟩=some v:=fun u hu=>waT _ _ _ hu
 have hnp:∀i,i<L.length->¬(d.pm i=d.b):=fun i hi=>(h.f.kne.2 i hi).1
 refine⟨h.f.turn (hr.mono fun k g=>.inl g) ((hne 0 oQ).trans h.f.c0) ((hne 1 oQ).trans h.f.c1) ((hne 2 oQ).trans h.f.c2) ((hne 3 oQ).trans h.f.c3) (fun j=>(waS _ _ _ _).trans (h.f.fz j)),⟨fun i hi=>(h.m.parts i hi).rls hr (fun k g=>.inl (by have:k=d.b:=g;omega)) (hnp i hi),?_,fun a ha=>?_,?_⟩,hD,waW h.dw hr.size,h.tz.rls hr (fun g=>by have:_=d.b:=g;have:=h.tl;omega),h.tl⟩
 ·obtain⟨es,k,h1,h2⟩:=h.m.known;exact⟨es,k,(hr.block _ (waL.1 h1).1 h.f.kne.1).trans h1,h2.rls hr (fun k g=>by have:k=d.b:=g;omega)⟩
 ·obtain⟨u,h1,h2⟩:=h.m.whole a ha;have keep:∀{e},D<=e->DiscAt W e (zbF L (whS a))->DiscAt (W.setCell ⟨d.b,o,none⟩ v) e (zbF L (whS a)):=fun he hd=>hd.rls hr (fun g=>by have:_=d.b:=g;omega)
  by_cases e:4+a=o
  ·subst e;rcases hm with ⟨a',ha',e',q,hq1,hq2,hq3⟩|⟨e',_⟩
   ·obtain rfl:a=a':=by omega
    exact⟨v,hsame u h1,.inr ⟨q,hq1,hq2,keep hq2 hq3⟩⟩
   ·omega
  ·refine⟨u,(hne _ e).trans h1,h2.imp id ?_⟩;rintro ⟨q,h3,h4,h5⟩;exact⟨q,h3,h4,keep h4 h5⟩
 ·obtain⟨z,hz⟩:=h.m.many
  by_cases e:o=260
  ·subst e;rcases hm with ⟨a',ha',e',_⟩|⟨_,z',rfl⟩
   ·omega
   ·exact⟨z',hsame _ hz⟩
  ·exact⟨z,(hne 260 (fun g=>e g.symm)).trans hz⟩
theorem RollAt.putK {W:World} {d:RollD} {L:List Cl} {lo hi D:Nat} (h:RollAt W d L lo hi D) {es:Array MapEntry} {k:Nat} (hes:KnownE W L D es.toList):RollAt (W.putObj d.km (.map es k)) d L lo hi D:=by
 have hD:=h.hiD;obtain⟨b0,b1⟩:=h.f.lk;have hr:RlS (·=d.km) W (W.putObj d.km (.map es k)):=(RlS.refl _ W).put _ _ rfl;have hS:∀j,j=d.km->j<D:=fun j g=>by omega
 refine⟨h.f.still hr (fun j g=>.inr (.inl g)) (fun g=>h.f.kne.1 g.symm),⟨fun i hi=>(h.m.parts i hi).rls hr (fun k g=>.inl (hS k g)) (h.f.kne.2 i hi).2,⟨es,k,World.putObj_heap_same ?_,hes.rls hr hS⟩,fun a ha=>?_,?_⟩,hD,waW h.dw hr.size,h.tz.rls hr (fun g=>by have:_=d.km:=g;have:=h.tl;omega),h.tl⟩
 ·obtain⟨es',k',h1,_⟩:=h.m.known;exact(waL.1 h1).1
 ·obtain⟨v,h1,h2⟩:=h.m.whole a ha;refine⟨v,hr.cell h1 (fun g=>h.f.kne.1 g.symm),h2.imp id ?_⟩
  rintro ⟨e,h3,h4,h5⟩;exact⟨e,h3,h4,h5.rls hr (fun g=>by have:=hS e g;omega)⟩
 ·obtain⟨z,hz⟩:=h.m.many;exact⟨z,hr.cell hz (fun g=>h.f.kne.1 g.symm)⟩
def zjc (d:RollD) (L:List Cl) (lo hi D:Nat) (n:Int) (W:World) (e:Ending) (W':World):Prop:=
 ∃v,e=.returned v/\zbp W' D v (zay L n)/\RollAt W' d L lo hi D/\RlS (d.mv L.length) W W'
theorem zm0 {L:List Cl} (hs:∀c,c∈L->zbC c/\c.s<=9223372036854775807) (n:Int) (i:Nat):WfS (stN L n i):=by
 unfold stN;split
 ·exact zxq (hs _ (zmY ‹_›)).2
 ·exact zuP
theorem zs1 (L:List Cl) (n:Int):zdR (fun i=>zlh (zeE L i) n) L.length=zdR (stN L n) L.length:=
 zmZ fun i hi=>(if_pos hi).symm
theorem zqn {x y:Nat->LSt}:∀{k:Nat},(∀i,i<k->x i=y i)->whB x k=whB y k
 |0,_=>rfl
 |k+1,h=>by unfold whB;rw[zqn (fun i hi=>h i (by omega)),h k (by omega)]
theorem zvJ (L:List Cl) (n:Int):whB (fun i=>zlh (zeE L i) n) L.length=whB (stN L n) L.length:=
 zqn fun i hi=>(if_pos hi).symm
theorem zm1 {d:RollD} {L:List Cl} {lo hi D:Nat} {W:World} (hR:RollAt W d L lo hi D) {n:Int} (h0:0<=n) (h1:n<146097):
 Calls prog 148 #[.pointer (some ⟨d.b,0,none⟩),shV n] W (fun e W'=>e=.returned (.tuple #[zbW (stN L n),.int .i64 (zdR (stN L n) L.length:Nat),.bool (whB (stN L n) L.length)])/\Below W.heap.size W W'):=by
 rw[<-zs1,<-zvJ];have hf:=hR.f;have hw:=hf.hw;exact zvI d.b d.bl d.cl L.length d.Al (fun i=>zlh (zeE L i) n) n d.g d.gl d.gh d.lb W h0 h1 hf.n8 hf.c1 (fun hp=>(hf.al hp).1) (fun i hi=>by
  obtain⟨f1,f2,f3,f4,f5,f6⟩:=hf.fn i hi;exact⟨f1,f2,by omega,fun V hV=>f3 V hV n h0 h1⟩)
theorem zbp.con {W:World} {D q:Nat} {L:List Cl} {n:Int} (hs:zeJ L=true) (h0:0<=n) (h1:n<146097) {p:Nat->Bool} (hD:D<=q) (hq:DiscAt W q p) (hp:∀s,p s=zbF L (stN L n) s):zbp W D (.pointer (some ⟨q,0,none⟩)) (zay L n):=
 .inr ⟨q,rfl,hD,hq.congr fun s hs'=>(hp s).trans (ziZ hs h0 h1 hs')⟩
structure AtS (W0 W:World) (d:RollD) (L:List Cl) (lo hi D B:Nat) (xs:Array Value):Prop where
 roll:RollAt W d L lo hi D
 rl:RlS (d.mv L.length) W0 W
 x:∀j v,xs[j]?=some v->W.cell? ⟨B,j,none⟩=some v
 B0:W0.heap.size<=B
 DW:D<=W0.heap.size
theorem AtS.nB {W0 W:World} {d:RollD} {L:List Cl} {lo hi D B:Nat} {xs:Array Value} (h:AtS W0 W d L lo hi D B xs):¬d.mv L.length B:=fun g=>by
 have:=h.roll.f.mb B g;have:=h.roll.hiD;have:=h.B0;have:=h.DW;omega
theorem AtS.below {W0 W V:World} {d:RollD} {L:List Cl} {lo hi D B:Nat} {xs:Array Value} (h:AtS W0 W d L lo hi D B xs) (hb:Below W.heap.size W V):AtS W0 V d L lo hi D B xs:=
 ⟨h.roll.below hb,h.rl.trans ((RlS.refl _ W).below hb (waJ _)),fun j v hj=>by
  have:=h.x j v hj;exact((zad hb).1 _ _ (waR W _ this)).trans this,h.B0,h.DW⟩
theorem AtS.drewN {W0 W:World} {d:RollD} {L:List Cl} {lo hi D B:Nat} {xs:Array Value} (h:AtS W0 W d L lo hi D B xs) (k:Nat):AtS W0 (W.drewN k) d L lo hi D B xs:=h.below (zaj (waC _ _) k)
theorem AtS.made {W0 W V:World} {d:RollD} {L:List Cl} {lo hi D B:Nat} {xs:Array Value} (h:AtS W0 W d L lo hi D B xs) (hr:RlS (d.ps L.length) W V) (hp:∀i,i<L.length->zb5 V (d.pm i) (zeE L i) D 0):AtS W0 V d L lo hi D B xs:=
 ⟨h.roll.made hr hp,h.rl.trans (hr.mono fun k g=>.inr (.inr g)),fun j v hj=>hr.cell (h.x j v hj) (fun g=>h.nB (.inr (.inr g))),h.B0,h.DW⟩
theorem AtS.cell {W0 W:World} {d:RollD} {L:List Cl} {lo hi D B:Nat} {xs:Array Value} (h:AtS W0 W d L lo hi D B xs) (o:Nat) (v:Value) (ho:4<=o)
 (hm:(∃a,a<256/\o=4+a/\∃e,v=.pointer (some ⟨e,0,none⟩)/\D<=e/\DiscAt W e (zbF L (whS a)))\/(o=260/\∃z,v=.int .i64 z)):AtS W0 (W.setCell ⟨d.b,o,none⟩ v) d L lo hi D B xs:=
 ⟨h.roll.cell o v ho hm,h.rl.set _ _ (.inl rfl),fun j v' hj=>(waU _ _ _ _ (fun g=>h.nB (by injection g with g;exact .inl g.symm))).trans (h.x j v' hj),h.B0,h.DW⟩
theorem AtS.putK {W0 W:World} {d:RollD} {L:List Cl} {lo hi D B:Nat} {xs:Array Value} (h:AtS W0 W d L lo hi D B xs) {es:Array MapEntry} {k:Nat} (hes:KnownE W L D es.toList):AtS W0 (W.putObj d.km (.map es k)) d L lo hi D B xs:=
 ⟨h.roll.putK hes,h.rl.put _ _ (.inr (.inl rfl)),fun j v hj=>(wbK (World.putObj_heap_other (fun g=>h.nB (.inr (.inl g))))).trans (h.x j v hj),h.B0,h.DW⟩
theorem AtS.limbs {W0 W:World} {d:RollD} {L:List Cl} {lo hi D B a:Nat} {xs:Array Value} (ha:a<256) (h:AtS W0 W d L lo hi D B xs):W.rangeAt B 0 xs.toList/\(W.cell? ⟨d.b,4+a,none⟩).isSome=true/\W.frozen? ⟨d.b,4+a,none⟩=false/\Hid (AtS W0 W d L lo hi D B xs):=by
 obtain⟨v,hv,_⟩:=h.roll.m.whole a ha;exact⟨fun j v hj=>by rw[waH];exact h.x j v (by simpa using hj),by rw[hv];rfl,h.roll.f.fz _,h⟩
theorem DiscAt.setb {W0 W:World} {d:RollD} {L:List Cl} {lo hi D B q o:Nat} {xs:Array Value} {v:Value} {p:Nat->Bool} (h:DiscAt W q p) (hA:AtS W0 W d L lo hi D B xs) (hq:D<=q):DiscAt (W.setCell ⟨d.b,o,none⟩ v) q p:=
 h.rls (S:=(·=d.b)) ((RlS.refl _ W).set _ _ rfl) (fun g=>by have:q=d.b:=g;have:=hA.roll.f.lb0;have:=hA.roll.hiD;omega)
theorem AtS.ret {W0 W:World} {d:RollD} {L:List Cl} {lo hi D B:Nat} {xs:Array Value} (h:AtS W0 W d L lo hi D B xs) {v:Value} {n:Int} (hd:zbp W D v (zay L n)):zjc d L lo hi D n W0 (.returned v) W:=⟨v,rfl,hd,h.roll,h.rl⟩
theorem At_A (d:RollD) (L:List Cl) (lo hi D:Nat) (W:World) (hR:RollAt W d L lo hi D) (n:Int) (h0:0<=n) (h1:n<146097) (hc:zdR (stN L n) L.length=0\/whB (stN L n) L.length=true):
 Calls prog 81 #[.pointer (some ⟨d.b,0,none⟩),shV n] W (zjc d L lo hi D n W):=by
 have hs:=hR.f.set;have HAt:=waV (fun V (hV:Below W.heap.size W V)=>zm1 (hR.below hV) h0 h1)
 have HMd:=waV (fun V (hV:RollAt V d L lo hi D)=>zko d L lo hi D (stN L n) V hV.f hV.hiD hV.dw hV.m.parts (fun i _=>zm0 hV.f.bits n i) hV.tz (by have:=hV.tl;omega))
 have HNo:Hid (zdR (stN L n) L.length=0->∀s,s<86400->zay L n s=false):=fun ha s hs'=>by rw[<-ziZ hs h0 h1 hs'];exact zjZ ha s
 have HWh:Hid (whB (stN L n) L.length=true->∀s,zbF L (whS (zdR (stN L n) L.length)) s=zbF L (stN L n) s):=fun hw s=>zh1 (fun i hi ha=>zlz hw i hi ha) s
 have HCon:Hid (∀(V:World) (q:Nat) (p:Nat->Bool),D<=q->DiscAt V q p->(∀s,p s=zbF L (stN L n) s)->zbp V D (.pointer (some ⟨q,0,none⟩)) (zay L n)):=fun V q p hD hq hp=>zbp.con hs h0 h1 hD hq hp
 have HWf:=waV (zm0 hR.f.bits n);have hal:=zgL (stN L n) L.length;have h256:zdR (stN L n) L.length<256:=by
  have h8:=hR.f.n8;have:2^L.length<=2^8:=Nat.pow_le_pow_right dQ h8;omega
 clear hal;have HR:=waV hR;have hDW:=hR.dw;have hV:∃y m d b k i1 i2 i3 i4:Int,shV n=.agg #[.int .i64 n,.int .i64 y,.int .i64 m,.int .i64 d,.int .i64 b,.int .i64 k,.int .i64 i1,.int .i64 i2,.int .i64 i3,.int .i64 i4]:=⟨_,_,_,_,_,_,_,_,_,rfl⟩;obtain⟨y,m,d',b',k',i1,i2,i3,i4,hV⟩:=hV;rw[hV] at HAt ⊢;have c0:=hR.f.c0;have lb:=waR W _ c0;have HSz:=waV (zaS (stN L n));have HI:Hid ((prog.info? 240).map (·.size)=some (zb4 (stN L n)).size):=by show _=_;rw[zaS];kernel_rfl
 have HO1:Hid ((zb4 (stN L n)).all (·.oneCell')=true):=by
  show _=_;rw[Array.all_eq_true];intro i hi;have h32:i<32:=by rwa [zaS] at hi
  have h:=zc5 (stN L n) i h32;rw[wbI hi] at h;rw[waB h];unfold stG
  repeat' split
  all_goals rfl
 have HMr:Hid (∀(V:World),RollAt V d L lo hi D->Calls prog 149 #[.pointer (some ⟨d.b,0,none⟩),.agg (zb4 (stN L n))] V (zly d L D (stN L n) V)):=HMd.out;unfold zbW at HAt;clear hV hR HMd;have hn0:¬n<0:=by omega
 have hn1:¬n>=146097:=by omega
 obtain⟨xs,hxs⟩:∃xs,xs=zb4 (stN L n):=⟨_,rfl⟩;rw[<-hxs] at HAt HSz HI HO1 HMr;have Hxs:=waV hxs;clear hxs;have HA3:Hid (∀(V1 V3:World),Below W.heap.size W V1->Below V1.heap.size V1 V3->Arr V3 V1.heap.size xs.size (fun j=>xs.getD j undef)->AtS W V3 d L lo hi D V1.heap.size xs):=fun V1 V3 hb1 hb3 ha=>by
  have hb:Below W.heap.size W V3:=zaf hb1 hb3 hb1.size;refine⟨HR.out.below hb,(RlS.refl _ W).below hb (waJ _),fun j v hj=>?_,hb1.size,hDW⟩
  have hlt:=(waL.1 hj).1;rw[ha.1 j hlt];show some (xs.getD j undef)=some v;rw[wbL,hj];rfl
 by_cases ha:zdR (stN L n) L.length=0
 ·clear hc;rw[ha] at HAt;have HN:=waV (HNo.out ha);clear HNo HMr HCon HWh HWf;go_enter func81,ntmps81;go_wp2_with fail;refine(HAt.out _ ((waC _ W).alloc (waJ _) _)).mono ?_;rintro e w1 ⟨rfl,hq1⟩;have hq0:=Below.trans ((waC W.heap.size W).alloc (waJ _) (.cells #[.int .i64 n,.int .i64 y,.int .i64 m,.int .i64 d',.int .i64 b',.int .i64 k',.int .i64 i1,.int .i64 i2,.int .i64 i3,.int .i64 i4] 81)) (hq1.mono (by simp))
  go_wp2_with (first|(refine zaL (by rfl) 240 _ _ rfl xs _ rfl rfl HI.out HO1.out HSz.out.symm ?_;intro w3 hq3 HS3 hz3)|fail)
  have HA:=HA3.out w1 w3 hq0 hq3 HS3;have HRt:=waV (HA.ret (v:=.pointer none) (.inl ⟨rfl,HN.out⟩));clear HA HS3 hq3 hq1 HA3;go_wp2;go_ret;exact HRt.out
 ·have ha':¬((zdR (stN L n) L.length:Nat):Int)=0:=by omega
  clear HNo;have hw:=hc.resolve_left ha;clear hc;obtain⟨a,hax⟩:∃a,a=zdR (stN L n) L.length:=⟨_,rfl⟩;rw[<-hax] at ha ha' HAt h256 HWh;clear hax
  ·rw[hw] at HAt;have HW:=waV (HWh.out hw);clear HWh HWf hw;have a0:¬(a:Int)<0:=by omega
   have a1:(a:Int)<256:=by omega
   have a2:(0:Int)<=(a:Int):=by omega
   obtain⟨v,hv,hv2⟩:=HR.out.m.whole a h256;rcases hv2 with rfl|⟨q,rfl,hq,hqd⟩
   ·go_enter func81,ntmps81;go_wp2_with fail;refine(HAt.out _ ((waC _ W).alloc (waJ _) _)).mono ?_;rintro e w1 ⟨rfl,hq1⟩;have hq0:=Below.trans ((waC W.heap.size W).alloc (waJ _) (.cells #[.int .i64 n,.int .i64 y,.int .i64 m,.int .i64 d',.int .i64 b',.int .i64 k',.int .i64 i1,.int .i64 i2,.int .i64 i3,.int .i64 i4] 81)) (hq1.mono (by simp))
    go_wp2_with (first|(refine zaL (by rfl) 240 _ _ rfl xs _ rfl rfl HI.out HO1.out HSz.out.symm ?_;intro w3 hq3 HS3 hz3;have HA:=waV (HA3.out w1 w3 hq0 hq3 HS3);have hv3:=((zad (zaf hq0 hq3 hq0.size)).1 _ _ lb).trans hv;clear HS3 hq3 hq1 HA3)|fail)
    have hu:=underlying240;have hi':(prog.info? 240).map (·.size)=some xs.toList.length:=by simpa using HI.out
    have HM:Hid (∀s,s<86400->zbF L (stN L n) s=zbF L (whS a) s):=fun s _=>(HW.out s).symm
    have hHeld:Hid (AtS W w3.drew d L lo hi D w1.heap.size xs):=HA.out.below (Below.drew (waC _ _));refine zaB 8 (fun w'=>Hid (AtS W w' d L lo hi D w1.heap.size xs)) kQ ?_
    refine(kP 0 39 (h:=(kP 1 40 (h:=(kP 2 41 (h:=?_))))));simp only[Act.put,zbj,zbk,zbl];refine zai (i:=3) (dst:=some 42) (v:=.agg xs.toList.toArray) (hy:=fun o_ ho_=>?_) (hS:=hHeld) (h:=?_)
    case refine_1=>(obtain rfl:=waB ho_;exact yieldsIf_load_mid (by rfl) 240 _ rfl w1.heap.size 0 rfl xs.toList _ (fun w' hw'=>(AtS.limbs h256 hw'.out).1) hu rfl hi')
    simp only[Act.put,zbj,zbk,zbl,Array.toArray_toList];refine(kP 5 44 (h:=(kP 6 45 (h:=?_))));simp only[Act.put,zbj,zbk,zbl];refine zac (i:=4) kQ fun o_ ho_ K_ hK_=>?_
    obtain rfl:=waB ho_;have HK_:=waV hK_;clear hK_ ho_
    go_wp2_with (go_at_call 149;refine(HMr.out _ hHeld.out.roll).mono ?_;rintro e w5 ⟨q,rfl,hq5,hqd,hqp,hqr⟩)
    have hq:D<=q:=by
     have:=HA.out.roll.dw;have h9:w3.heap.size<=q:=hq5;omega
    have HA5:Hid (AtS W w5 d L lo hi D w1.heap.size xs):=hHeld.out.made hqr hqp;have HQ:=waV (hqd.congr HM.out);clear hqd hqp hqr hq5 hHeld HA;refine HK_.out _ _ HA5 ?_;have hHeld:=HA5;clear HA5 HK_;refine(kP 7 46 (h:=?_));simp only[Act.put,zbj,zbk,zbl];obtain⟨z,hz⟩:=hHeld.out.roll.m.many;obtain⟨v',hv5,_⟩:=hHeld.out.roll.m.whole a h256;have hfz:=hHeld.out.roll.f.fz;have lb5:=waR w5 _ hv5;have HA6:=waV (hHeld.out.cell (4+a) (.pointer (some ⟨q,0,none⟩)) oQ (.inl ⟨a,h256,rfl,q,rfl,hq,HQ.out⟩));have HQ6:=waV (HQ.out.setb (v:=.pointer (some ⟨q,0,none⟩)) (o:=4+a) hHeld.out hq);obtain⟨z6,hz6⟩:=HA6.out.roll.m.many;have hv6:=waT w5 ⟨d.b,4+a,none⟩ (.pointer (some ⟨q,0,none⟩)) hv5;have hf6:=HA6.out.roll.f.fz;have HA7:=waV (fun V u=>(show Hid (V=w5.setCell ⟨d.b,4+a,none⟩ (.pointer (some ⟨q,0,none⟩))->AtS W (V.setCell ⟨d.b,260,none⟩ (.int .i64 u)) d L lo hi D w1.heap.size xs) from fun e=>by rw[e];exact HA6.out.cell 260 _ (by decide) (.inr ⟨rfl,u,rfl⟩)))
    have HD7:=waV (fun V u=>(show Hid (V=w5.setCell ⟨d.b,4+a,none⟩ (.pointer (some ⟨q,0,none⟩))->DiscAt (V.setCell ⟨d.b,260,none⟩ (.int .i64 u)) q (zbF L (whS a))) from fun e=>by rw[e];exact HQ6.out.setb (o:=260) HA6.out hq))
    clear HQ HQ6 HA6;refine zaq (j:=1) dQ (.inr rfl) dQ kQ ?_;simp only[wbQ,waG,List.length_nil,Nat.reduceAdd,Nat.reduceSub,waZ,wbA];have n1:¬4+a=260:=by omega
    have n2:¬260=4+a:=by omega
    go_wp2;go_ret;exact(HA7.out _ _ rfl).ret (HCon.out _ q _ hq (HD7.out _ _ rfl) HW.out)
   ·have HQ:=waV hqd;clear hqd;go_enter func81,ntmps81;go_wp2_with fail;refine(HAt.out _ ((waC _ W).alloc (waJ _) _)).mono ?_;rintro e w1 ⟨rfl,hq1⟩;have hq0:=Below.trans ((waC W.heap.size W).alloc (waJ _) (.cells #[.int .i64 n,.int .i64 y,.int .i64 m,.int .i64 d',.int .i64 b',.int .i64 k',.int .i64 i1,.int .i64 i2,.int .i64 i3,.int .i64 i4] 81)) (hq1.mono (by simp))
    go_wp2_with (first|(refine zaL (by rfl) 240 _ _ rfl xs _ rfl rfl HI.out HO1.out HSz.out.symm ?_;intro w3 hq3 HS3 hz3;have HA:=waV (HA3.out w1 w3 hq0 hq3 HS3);have hv3:=((zad (zaf hq0 hq3 hq0.size)).1 _ _ lb).trans hv;have HQ3:=waV (HQ.out.below (zaf hq0 hq3 hq0.size));clear HS3 hq3 hq1 HA3)|fail)
    all_goals go_ret
    exact HA.out.ret (HCon.out _ q _ hq HQ3.out HW.out)
end Go.Proofs.YtllcdbgjeidlkaaGreatDoor
