/- A part of the proof: WRd36 LTc36 WRd39 RLives39 WCan -/
import Derived.Test.YtadefhkaejjfmaaGreatDoorQ41
import Derived.Test.YtadefhkaejjfmaaGreatDoorQ43
import Derived.Test.YtadefhkaejjfmaaGreatDoorQ42
set_option maxHeartbeats 80000000
set_option maxRecDepth 100000
set_option linter.unusedSimpArgs false
set_option linter.unusedVariables false
namespace Go.Proofs.YtadefhkaejjfmaaGreatDoor
open Go.Proofs.Tryz
open Go.RowKit
theorem zwe (b f:Nat) (s:ByteArray) (hs:s.size≤1000000) (l r:List UInt8) (i:It) (w:World) (h:zcn w b s l) (hI:∀W,zcn W b s l→Calls prog 129 #[rdV b f] W (zlr (itV i) b s r W)) (hp:pIs [44] r=none):
 Calls prog 128 #[rdV b f,.func (.func 129) #[rdV b f] #[]] w (zuX [i] b s r w):=by
 have hs9:s.size≤9223372036854775807:=by omega
 have hlt:=h.lt;have hne:w.heap.size≠b:=by omega
 have H:=waV h;have HP2:=waV hp;have HI:=waV hI;obtain⟨i0,hi0,hz0,hz1,hz2⟩:=info_parts ziP;have HI0:=waV hi0;have HZ0:=waV hz0;have HZ1:=waV hz1;have HZ2:=waV hz2;clear hi0 hz0 hz1 hz2;clear h hp hI;go_enter func128,ntmps128;go_wp2;go_step3;go_wp2;go_step3;go_wp2
 go_loopg [5] 63 (fun gg v wr=>∃(vo:Value) (acc:List It),vo=v∧acc=[]∧gg=63∧Hid (zav wr (w.heap.size+1) vo acc)∧Hid (zcn wr b s l)∧Hid (Box wr w.heap.size b (f:Int))∧Hid (Chg b w wr))
 case atStart=>exact⟨_,[],rfl,rfl,rfl,World.ownsRow_nil _ _ _ _,H.out.alloc _,zjG _ _ _ _,(Chg.refl b w).alloc _⟩
 case round=>
  obtain⟨vo,acc,rfl,hacc,hgq,HO,HD,HB,HC⟩:=hrel;have hal:acc.length≤63:=by rw[hacc];decide
  have HAc:=waV hacc;clear hacc;have hlt:b<w.heap.size+1:=by omega
  go_wp2_with fail;refine(HI.out _ HD.out).mono ?_;rintro e w2 ⟨rfl,h2,g2⟩;have HO2:=waV (zdU HO.out g2 hlt);have HB2:=waV (HB.out.chg g2 hne);have hgA:=HC.out.trans g2;have hz2:=hgA.size;have hi0:=HI0.out;have hz0:=HZ0.out;have hz1:=HZ1.out;have hzz2:=HZ2.out
  go_wp2_with (at_builtin;refine wpList_append_own _ rfl _ _ 24 rfl (w.heap.size+1) 85 i0 _ 4 32 underlying24 hi0 hz0 hz1 hzz2 rfl dQ _ acc.length _ rfl (HO2.out.alloc _) ⟨w2.heap.size,0,none⟩ 1 1 [.int .i64 i.k,.int .i64 i.f,.int .i64 i.t,.int .i64 i.s] rfl rfl ?c1 ?c2 ?c3 ?c4 ?c5 ?c6)
  case c1=>
   intro j u hu;rcases j with _|_|_|_|j
   ·simp at hu;subst hu;exact zaa rfl rfl
   ·simp at hu;subst hu;exact zaa rfl rfl
   ·simp at hu;subst hu;exact zaa rfl rfl
   ·simp at hu;subst hu;exact zaa rfl rfl
   ·simp at hu
  case c2=>intro u hu;simp at hu;rcases hu with rfl|rfl|rfl|rfl<;>rfl
  case c3=>simp only[maxLen];omega
  case c4=>omega
  case c5=>simp;omega
  case c6=>
   intro v' w3 hown hg _;have HV:Hid (zav w3 (w.heap.size+1) v' (acc++[i])):=by
    show World.ownsRow _ _ _ _ _ _ _;rw[waF,List.flatMap_append,List.flatMap_singleton];exact hown
   have hob1:∀k,vo.ownBlock=some k→w.heap.size+1≤k:=ztS HO.out;have hob:∀k,vo.ownBlock=some k→w.heap.size≤k:=fun k hk=>by have:=hob1 k hk;omega
   have hobn:vo.ownBlock≠some b:=fun e=>by have:=hob b e;omega
   have hobB:vo.ownBlock≠some w.heap.size:=fun e=>by have:=hob1 _ e;omega
   have h3:=(h2.alloc (.cells #[.int .i64 i.k,.int .i64 i.f,.int .i64 i.t,.int .i64 i.s] 85)).grown hg hobn;have HB3:=waV ((HB2.out.alloc _).grown hg hobB);have hgB:=(hgA.alloc _).grown hg hob;have HLn:Hid ((acc++[i]).length=acc.length+1):=by show _=_;simp
   have hpos:0<(acc++[i]).length:=by simp
   clear hown hg hi0 hz0 hz1 hzz2 h2 g2 HO2 HB2 hob hob1 hobn hobB;obtain⟨g,cap,rfl,hgb,hgl⟩:∃g cap,v'=.slice (some ⟨g,0,none⟩) (acc++[i]).length cap∧w.heap.size+1≤g∧g<w3.heap.size:=by
    rcases zbt HV.out with ⟨_,h0⟩|h1
    ·omega
    ·exact h1
   obtain⟨acc1,hacc⟩:∃x,x=acc++[i]:=⟨_,rfl⟩;rw[←hacc] at HV HLn ⊢;have HAcc:=waV hacc;rw[HLn.out];clear hpos hacc;obtain⟨c0,c1⟩:=HB3.out;have hz3:=hgB.size;go_wp2_with fail;refine(zlt h3).mono ?_;rintro e w4 ⟨rfl,h4,g4⟩;have hgC:=hgB.trans g4;have HB4:=waV (HB3.out.chg g4 hne);have HV4:=waV (zdU HV.out g4 hlt);clear c0 c1;obtain⟨c0,c1⟩:=HB4.out;go_wp2_with fail;refine(zua hs9 (h4.alloc _) (zve (c:=44) (zaa (by simp) rfl)) dQ HP2.out).mono ?_
   rintro e w5 ⟨rfl,h5,g5⟩;have hgD:=(hgC.alloc _).trans g5;have HV5:=waV (zdU (HV4.out.alloc _) g5 hlt);go_wp2;rw[Exit.noGoto_ret];go_ret;have hL:[i]=acc1:=by rw[HAcc.out,HAc.out];rfl
   exact⟨.slice (some ⟨g,0,none⟩) acc1.length cap,by rw[HLn.out];rfl,by rw[hL];exact zaq HV5.out (by omega),h5,hgD⟩
def zrk (s:ByteArray) (I:Nat→It) (w:World) (x:Ending) (w':World):Prop:=
 Below w.heap.size w w'∧∃(A:Nat→Option Addr) (n c:Nat→Nat),x=.returned (.tuple #[crV A n c,.int .i64 (s.size:Int),.int .i64 0])∧∀k,k<5→zav w' w.heap.size (zk8 A n c k) [I k]
theorem zwf (s:ByteArray) (hs:s.size≤8192) (T R:Nat→List UInt8) (I:Nat→It) (h0:s.data.toList.dropWhile zbz=T 0) (h64:(zls (T 0)==64)=false)
 (hF:∀k b W,k<5→zcn W b s (T k)→Calls prog 128 #[rdV b k,.func (.func 129) #[rdV b k] #[]] W (zuX [I k] b s (R k) W))
 (hB:∀k,k<4→(R k).takeWhile zbz≠[]∧(R k).dropWhile zbz=T (k+1)) (hE:R 4=[]) (h5:T 5=[]) (w:World):
 Calls prog 55 #[.string s] w (zrk s I w):=by
 have hs9:s.size≤9223372036854775807:=by omega
 have HN:=waV (fun W=>zvy hs9 hs W)
 have H0:=waV h0;have HF:=waV hF;have HBt:=waV (fun k W b (hk:k<4) (h:zcn W b s (R k))=>(show Calls prog 130 #[.pointer (some ⟨b,0,none⟩)] W (zlr (.tuple #[]) b s (T (k+1)) W) by
  have:=zoy b s hs9 _ W h (hB k hk).1
  rwa [(hB k hk).2] at this))
 have HE:Hid (R 4=T 5):=hE.trans h5.symm;have H5:=waV h5;clear h0 hF hB hE h5;go_enter func55,ntmps55;go_wp2_with fail;refine(HN.out _).mono ?_;rintro e w1 ⟨b,hb0,rfl,h1,hb1⟩;have hbS1:Below w.heap.size w w1:=((waC _ w).alloc (waJ _) _).trans (hb1.mono (by simp))
 have hbgt:w.heap.size<b:=by simp at hb0;omega
 have HR1:=waV ((zjH w 60 (.slice none 0 0) (.slice none 0 0) (.slice none 0 0) (.slice none 0 0) (.slice none 0 0) nil5 rfl rfl rfl rfl rfl).below (by simp) hb1)
 have hzw1:=waD hbgt (Nat.le_of_lt h1.lt);go_wp2_with fail;refine(ze1 hs9 h1).mono ?_;rintro e w2 ⟨rfl,h2,g2⟩;rw[H0.out] at h2;go_wp2_with fail;refine(zjY h2).mono ?_;rintro e w3 ⟨rfl,h3,g3⟩;have g23:=g2.trans g3;have hbS:=Chg.below hbS1 g23 (Nat.le_of_lt hbgt) hbS1.size;have HR:=waV (Arr.chg HR1.out dQ g23 oQ);have HSt:Hid (zcn w3 b s (T 0)):=h3;have hb3:=h3.lt;clear h1 h2 h3 g2 g3 g23 hb1 hbS1 HR1 hzw1;go_wp2_with fail;have HC0:=waV ((zjH w3 60 (.slice none 0 0) (.slice none 0 0) (.slice none 0 0) (.slice none 0 0) (.slice none 0 0) (zk8 (fun _=>none) (fun _=>0) (fun _=>0)) rfl rfl rfl rfl rfl).alloc (by simp) (.cells #[.pointer (some ⟨w3.heap.size,0,none⟩),.pointer (some ⟨w3.heap.size,1,none⟩),.pointer (some ⟨w3.heap.size,2,none⟩),.pointer (some ⟨w3.heap.size,3,none⟩),.pointer (some ⟨w3.heap.size,4,none⟩)] 223))
 have HP0:=waV (zjH (w3.alloc (.cells #[.slice none 0 0,.slice none 0 0,.slice none 0 0,.slice none 0 0,.slice none 0 0] 60)) 223 (.pointer (some ⟨w3.heap.size,0,none⟩)) (.pointer (some ⟨w3.heap.size,1,none⟩)) (.pointer (some ⟨w3.heap.size,2,none⟩)) (.pointer (some ⟨w3.heap.size,3,none⟩)) (.pointer (some ⟨w3.heap.size,4,none⟩)) (fun j=>.pointer (some ⟨w3.heap.size,j,none⟩)) rfl rfl rfl rfl rfl)
 have hzS:=hbS.size;have hzw:w.heap.size<w3.heap.size:=by omega
 have HR0:=waV ((HR.out.alloc hzw (.cells #[.slice none 0 0,.slice none 0 0,.slice none 0 0,.slice none 0 0,.slice none 0 0] 60)).alloc (by simp;omega) (.cells #[.pointer (some ⟨w3.heap.size,0,none⟩),.pointer (some ⟨w3.heap.size,1,none⟩),.pointer (some ⟨w3.heap.size,2,none⟩),.pointer (some ⟨w3.heap.size,3,none⟩),.pointer (some ⟨w3.heap.size,4,none⟩)] 223))
 go_loopw [30] (fun i wr=>∃(k:Nat) (A:Nat→Option Addr) (n c:Nat→Nat),k≤5∧i=.int .i64 k∧Hid (zcn wr b s (T k))∧Hid (Arr wr w3.heap.size 5 (zk8 A n c))∧Hid (∀j,j<k→zav wr (w3.heap.size+2) (zk8 A n c j) [I j])∧Hid (Arr wr (w3.heap.size+1) 5 (fun j=>.pointer (some ⟨w3.heap.size,j,none⟩)))∧Hid (Arr wr w.heap.size 5 nil5)∧Below w.heap.size w wr∧w3.heap.size+2≤wr.heap.size) (fun i _=>5 - (intOf i).toNat)
 case atStart=>
  exact⟨0,fun _=>none,fun _=>0,fun _=>0,by omega,rfl,(HSt.out.below ((waC _ w3).alloc (waJ _) _)).below ((waC _ _).alloc (waJ _) _),HC0.out,fun j hj=>absurd hj (Nat.not_lt_zero _),by show Arr _ _ _ _;have:=HP0.out;simpa using this,HR0.out,(hbS.alloc hzS _).alloc (by simp;omega) _,by simp⟩
 case round=>
  obtain⟨k,A,n,c,hk,rfl,HStk,HCk,HOk,HPk,HRk,hbk,hzk⟩:=hrel;have hszk:=hbk.size;have hzC:w3.heap.size<wr.heap.size:=by omega
  have hzP:w3.heap.size+1<wr.heap.size:=by omega
  have hzR:w.heap.size<wr.heap.size:=by omega
  have hzb:b<wr.heap.size:=by omega
  by_cases h5:k<5
  ·have h5':(k:Int)<5:=by omega
   have hk0:(0:Int)≤(k:Int):=by omega
   have cP:=HPk.out.1 k h5;go_wp2_with fail;refine(HF.out k b _ h5 (HStk.out.below ((waC _ wr).alloc (waJ _) _))).mono ?_;rintro e w4 ⟨v,rfl,hown,hst,g4⟩;obtain⟨A',n',c',rfl⟩:=zwa hown;have g4':Chg b wr w4:=((Chg.refl b wr).alloc _).trans g4;have HC4:=waV (Arr.chg HCk.out dQ g4' oQ);have HP4:=waV (Arr.chg HPk.out dQ g4' oQ);have HR4:=waV (Arr.chg HRk.out dQ g4' oQ);have hO4:∀j,j<k→zav w4 (w3.heap.size+2) (zk8 A n c j) [I j]:=fun j hj=>zdU (HOk.out j hj) g4' oQ
   have HO4:=waV hO4;have hbk4:=Chg.below hbk g4' oQ hszk;have hz4:=g4.size;simp at hz4;have hown4:zav w4 (w3.heap.size+2) (.slice A' n' c') [I k]:=zaq hown (by simp;omega)
   have HN4:=waV hown4;have ck:=HC4.out.1 k h5;have fk:=HC4.out.2 k;have HS2:=waV (hst.set (B:=w3.heap.size) (o:=k) oQ (.slice A' n' c'));have HC5:=waV (HC4.out.set k h5 (.slice A' n' c') (g':=zk8 (upd A k A') (upd n k n') (upd c k c')) znk (fun j _ hj=>zre hj))
   have HP5:=waV (HP4.out.other (b':=w3.heap.size) (i:=k) (v:=.slice A' n' c') oQ);have HR5:=waV (HR4.out.other (b':=w3.heap.size) (i:=k) (v:=.slice A' n' c') oQ);have hcs:Chg w3.heap.size w4 (w4.setCell ⟨w3.heap.size,k,none⟩ (.slice A' n' c')):=(Chg.refl _ _).set _ _;have hO5:∀j,j<k+1→zav (w4.setCell ⟨w3.heap.size,k,none⟩ (.slice A' n' c')) (w3.heap.size+2) (zk8 (upd A k A') (upd n k n') (upd c k c') j) [I j]:=by
    intro j hj
    by_cases e:j=k
    ·subst e;rw[znk];exact zdU HN4.out hcs oQ
    ·rw[zre e];exact zdU (HO4.out j oQ) hcs oQ
   have HO5:=waV hO5;have hbk5:Below w.heap.size w (w4.setCell ⟨w3.heap.size,k,none⟩ (.slice A' n' c')):=hbk4.setCell (by simp;omega) _
   unfold zk8 at ck;clear hown hst hO4 hown4 hcs hO5 g4 g4' cP
   by_cases h4:k<4
   ·have h4':(k:Int)<4:=by omega
    go_wp2_with fail;refine(HBt.out k _ b h4 HS2.out).mono ?_;rintro e w5 ⟨rfl,hst5,g5⟩;have hz5:=g5.size;simp[World.setCell] at hz5;go_wp2;go_roundw
    case rel=>
     exact⟨k+1,upd A k A',upd n k n',upd c k c',by omega,by go_num,hst5,Arr.chg HC5.out dQ g5 oQ,fun j hj=>zdU (HO5.out j hj) g5 oQ,Arr.chg HP5.out dQ g5 oQ,Arr.chg HR5.out dQ g5 oQ,Chg.below hbk5 g5 oQ hbk5.size,by omega⟩
    case measure=>simp [intOf];omega
   ·have h4':¬(k:Int)<4:=by omega
    go_wp2;go_roundw
    case rel=>
     refine⟨k+1,upd A k A',upd n k n',upd c k c',by omega,by go_num,?_,HC5.out,HO5.out,HP5.out,HR5.out,hbk5,by simp[World.setCell];omega⟩
     obtain rfl:k=4:=by omega
     show zcn _ _ _ _;have:=HS2.out
     rwa [HE.out] at this
    case measure=>simp [intOf];omega
  ·obtain rfl:k=5:=by omega
   have hL:=HStk.out;rw[H5.out] at hL;go_wp2_with fail;refine(ze1 hs9 hL).mono ?_;rintro e w4 ⟨rfl,h4,g4⟩;have h4:zcn w4 b s []:=h4;go_wp2_with fail;refine(zvx h4).mono ?_;rintro e w5 ⟨rfl,h5',g5⟩;go_wp2_with fail;refine(znF h5').mono ?_;rintro e w6 ⟨rfl,h6,g6⟩;have g46:=(g4.trans g5).trans g6;have HC6:=waV (Arr.chg HCk.out dQ g46 oQ);have HR6:=waV (Arr.chg HRk.out dQ g46 oQ);have HO6:Hid (∀j,j<5→zav w6 (w3.heap.size+2) (zk8 A n c j) [I j]):=fun j hj=>zdU (HOk.out j hj) g46 oQ
   have hb6:=Chg.below hbk g46 oQ hszk;have hz6:=g46.size;obtain⟨x0,x1,x2,x3,x4,xf⟩:=arr5 HC6.out;obtain⟨y0,y1,y2,y3,y4,yf⟩:=arr5 HR6.out;have HAtW:Hid (∀W,zcn W b s []→Calls prog 127 #[.pointer (some ⟨b,0,none⟩)] W (zb4 (.int .i64 (s.size:Int)) W)):=fun W h=>by
    have:=zrc h;rw[show zea s ([]:List UInt8).length=(s.size:Int) from zoz s] at this
    exact this
   have H6:=waV h6;unfold zk8 at x0 x1 x2 x3 x4;unfold nil5 at y0 y1 y2 y3 y4;clear g4 g5 g6 g46 h4 h5' h6 hL;go_wp2_with fail
   go_region_with (go_at_call 127;(with_reducible refine(HAtW.out _ ?_).mono ?_);(focus (exact H6.out));rintro e w7 ⟨rfl,rfl⟩)
   all_goals (try simp only[Exit.then])
   all_goals (try go_wp2)
   all_goals refine waY (v:=.tuple #[crV A n c,.int .i64 (s.size:Int),.int .i64 0]) ?_ rfl ⟨?_,A,n,c,rfl,fun k hk=>?_⟩
   all_goals first
    |(rw[zfm rfl];go_simp;done)
    |((repeat' (first|(with_reducible exact waC _ _)|(with_reducible assumption)|(with_reducible refine zas ?_ _)|(with_reducible refine Below.alloc ?_ ?_ _)|(with_reducible refine Below.drew ?_)|(with_reducible refine Below.setCell ?_ ?_ _)|go_size));done)
    |(show World.ownsRow _ _ _ _ _ _ _;refine zaq (B:=w3.heap.size+2) ?_ oQ;exact zuY (HO6.out k hk) oQ)
theorem zwg {w:World} {B:Nat} {A:Nat→Option Addr} {n c:Nat→Nat} {I:Nat→It} (h:∀k,k<5→zav w B (zk8 A n c k) [I k]):∃A' n',crV A n c=crV A' n' c∧zbp w A' n' (fun k=>[I k])∧(∀k,n' k≤1)∧∀k,A' k=none→n' k=0:=by
 have h1:∀k,k<5→n k=1∧zcH w (A k) (n k) [I k]∧(A k=none→n k=0):=fun k hk=>by
  obtain⟨A0,c0,e,_,_,hr,hz⟩:=(h k hk).rd;unfold zk8 at e
  injection e with e1 e2 e3
  rw[e1,e2];exact⟨rfl,hr,hz⟩
 refine⟨fun k=>if k<5 then A k else none,fun k=>if k<5 then n k else 0,rfl,fun k hk=>?_,fun k=>?_,fun k hk=>?_⟩
 ·dsimp only;rw[if_pos hk,if_pos hk];exact(h1 k hk).2.1
 ·dsimp only;split
  ·rw[(h1 k ‹_›).1];exact waJ _
  ·exact waK _
 ·dsimp only at hk ⊢;split
  ·rw[if_pos ‹_›] at hk;exact(h1 k ‹_›).2.2 hk
  ·rfl
theorem zrl {P:Int→Nat→Bool} (h:zdg P) (k:Nat):zbS P k=[⟨0,0,0,1⟩]:=by
 by_cases hk:k<5
 ·exact znm h k hk
 ·have e:zbS P k=zbS P 4:=by
   unfold zbS zde;rw[if_neg (by omega),if_neg (by omega),if_neg (by omega),if_neg (by omega)];rfl
  rw[e];exact znm h 4 (by decide)
theorem zwh {P:Int→Nat→Bool} (h:zdg P):chk (zbS P)=(5,0):=zni ⟨0,zlc h dQ dQ⟩ (zu1 h)
theorem zu4 {P:Int→Nat→Bool} (h:zdg P):zcS (zk1 (zev (zbS P)))=zcS [42,32,42,32,42,32,42,32,42]:=by
 have e:zev (zbS P)=zev (fun _=>[⟨0,0,0,1⟩]):=by
  congr 1;funext k;exact zrl h k
 rw[e];congr 1
theorem zwi (b f:Nat) (hf:f<5) (s:ByteArray) (hs:s.size≤1000000) (l r:List UInt8) (n0:Int) (w:World) (h:zcn w b s l) (hp2:ztw 2 l=.ok (n0,r)) (g1:¬n0<cLo f) (g2:¬cHi f<n0) (hcase:¬(zdp f≠[]∧zlq zcJ l=true)):
 Calls prog 224 #[rdV b f] w (zlr (.int .i64 n0) b s r w):=by
 have hs:s.size≤9223372036854775807:=by omega
 have hlt:=h.lt;have hne:w.heap.size≠b:=by omega
 have HAt:=waV (fun W (hW:Below w.heap.size w W)=>zrc (h.below hW))
 have HL:=waV (fun W (hW:Below w.heap.size w W)=>h.below hW)
 have hbd:=zt9 f hf;obtain⟨hb0,hb9⟩:0≤cLo f∧cHi f≤9999:=⟨hbd.1,hbd.2.2⟩;have hneq:=fun(W:World) A n c=>run_neq_slice_nil_any (P:=prog) W 147 9 A n c 0 0 underlying147
 clear h hbd;have HN:=waV (fun W (h:zcn W b s l)=>zj0 hs (most:=2) dQ h hp2)
 have HC:=waV hcase;clear hp2 hcase;go_enter func224,ntmps224;go_wp2_with fail;refine(zfG f hf _).mono ?_;rintro e w1 ⟨rfl,hb1⟩;have HB1:=waV ((zjG w b (f:Int) 226).below hb1);have hbA:Below w.heap.size w w1:=((waC _ w).alloc (waJ _) _).trans (hb1.mono (by simp))
 have hzA:=hbA.size;clear hb1;go_wp2_with fail;obtain⟨W1,rfl⟩:∃W1:World,W1=w1:=⟨_,rfl⟩;have HS:Hid (∀w',Below W1.heap.size W1 w'→Below W1.heap.size W1 w'∧w'.cell? ⟨w.heap.size,0,none⟩=some (.pointer (some ⟨b,0,none⟩))∧w'.cell? ⟨w.heap.size,1,none⟩=some (.int .i64 (f:Int))):=fun w' h=>⟨h,(HB1.out.below h).1,(HB1.out.below h).2⟩
 have HW:Hid (∀w',Below W1.heap.size W1 w'→Below w.heap.size w w'):=fun w' h=>zai hbA h hzA
 go_region_held3 (fun w'=>Below W1.heap.size W1 w'∧w'.cell? ⟨w.heap.size,0,none⟩=some (.pointer (some ⟨b,0,none⟩))∧w'.cell? ⟨w.heap.size,1,none⟩=some (.int .i64 (f:Int)))
  (first|(go_split_ands;refine HS.out _ (zai ?_ hb1 ?_);assumption;exact Below.size (by assumption))|(go_split_ands;refine HS.out _ (Below.alloc ?_ ?_ _);assumption;exact Below.size (by assumption))|(refine HS.out _ ?_;exact Below.drew (waC _ _))|(refine HS.out _ ?_;exact zas (waC _ _) _))
  (first|(go_at_call 127;(with_reducible refine(HAt.out _ ?_).mono ?_);(focus (go_split_ands;exact HW.out _ (by assumption)));rintro e w1 ⟨rfl,rfl⟩)|(go_at_call 298;(with_reducible refine(zrd f _).mono ?_);rintro e w1 ⟨A,n,rfl,hNA,hb1,hNB⟩))
 have hb2:Below W1.heap.size W1 w1:=by go_split_ands;assumption
 have hbB:Below w.heap.size w w1:=HW.out _ hb2;have HB2:=waV (HB1.out.below hb2);have hnb:∀B o,A=some ⟨B,o,none⟩→B≠b:=fun B o h=>by have:=hNB B o h;(try simp at this);omega
 have HNb:=waV hnb;clear hb1 HS HW hNB hnb
 try simp only[Exit.inBlock,Exit.then]
 go_wp2_with fail
 ·have hA:A.isSome=true:=by assumption
  have HF:Hid (∀W,Calls prog 299 #[.int .u8 (zls l)] W (zb4 (.bool false) W)):=by
   intro W;have h1:zlq zcJ l=false:=by
    rcases hNA with ⟨rfl,_⟩|⟨B,_,_,h3,_⟩
    ·cases hA
    ·cases hb:zlq zcJ l with
     |false=>rfl
     |true=>exact absurd ⟨h3,hb⟩ HC.out
   have:=zow (zls l) W;rw[zk7,h1] at this;exact this
  refine(zjY (HL.out _ hbB)).mono ?_;rintro e w2 ⟨rfl,h2,g2⟩;obtain⟨c0,c1⟩:=HB2.out.chg g2 hne;have HB3:Hid (Box w2 w.heap.size b (f:Int)):=⟨c0,c1⟩;have hgA:Chg b w w2:=(Chg.of_below hbB).trans g2;go_wp2_with fail;refine(HF.out _).mono ?_;rintro e w3 ⟨rfl,rfl⟩;go_wp2_with fail;refine(HN.out _ h2).mono ?_;rintro e w4 ⟨rfl,h4,g4⟩;go_wp2;go_ret;exact⟨rfl,h4,hgA.trans g4⟩
 ·have h2:=HL.out _ hbB;have HB3:=HB2;have hgA:Chg b w w1:=Chg.of_below hbB;refine(HN.out _ h2).mono ?_;rintro e w4 ⟨rfl,h4,g4⟩;go_wp2;go_ret;exact⟨rfl,h4,hgA.trans g4⟩
theorem znn (b f:Nat) (hf:f<5) (s:ByteArray) (hs:s.size≤1000000) (l l1 l2 l3:List UInt8) (n m:Int) (w:World) (h:zcn w b s l) (hp:pIs [42] l=none) (hp1:ztw 2 l=.ok (n,l1)) (k1:¬n<cLo f) (k2:¬cHi f<n) (hp2:pIs [45] l1=some l2) (hp3:ztw 2 l2=.ok (m,l3)) (k3:¬m<cLo f) (k4:¬cHi f<m) (hl0:zlq zcJ l=false) (hl2:zlq zcJ l2=false) (hle:¬m<n) (hp4:pIs [47] l3=none):
 Calls prog 129 #[rdV b f] w (zlr (itV ⟨2,n,m,1⟩) b s l3 w):=by
 have hs9:s.size≤9223372036854775807:=by omega
 have hlt:=h.lt;have hne:w.heap.size≠b:=by omega
 have hne1:w.heap.size+1≠b:=by omega
 have H:=waV h;have HP:=waV (hp);have HN:=waV (fun W (h:zcn W b s l)=>zwi b f hf s hs l l1 n W h hp1 k1 k2 (fun g=>by rw[hl0] at g;cases g.2))
 have HP2:=waV (hp2);have HM:=waV (fun W (h:zcn W b s l2)=>zwi b f hf s hs l2 l3 m W h hp3 k3 k4 (fun g=>by rw[hl2] at g;cases g.2))
 have HP4:=waV (hp4);clear h hp hp1 hp2 hp3 hp4 k1 k2 k3 k4 hl0 hl2 hf;go_enter func129,ntmps129;go_wp2_with fail;refine(zua hs9 (((H.out.alloc _).alloc _).alloc _) (zve (c:=42) (zaa (by simp) rfl)) dQ HP.out).mono ?_
 rintro e w1 ⟨rfl,h1,g1⟩;have F1:=waV (((ztR w b (f:Int) 226 85).alloc _).chg g1 hne hne1);have hg1:=((((Chg.refl b w).alloc _).alloc _).alloc _).trans g1;have hz1:=g1.size
 (try simp at hz1)
 have hzA1:w.heap.size<w1.heap.size:=by omega
 have hzB1:w.heap.size+1<w1.heap.size:=by omega
 obtain⟨c0,c1⟩:=F1.out.1;go_wp2_with fail;refine(HN.out _ h1).mono ?_;rintro e w2 ⟨rfl,h2,g2⟩;have F2:=waV (F1.out.chg g2 hne hne1);have hg2:=hg1.trans g2;have hz2:=g2.size
 (try simp at hz2)
 have hzA2:w.heap.size<w2.heap.size:=by omega
 have hzB2:w.heap.size+1<w2.heap.size:=by omega
 clear c0 c1;obtain⟨c0,c1⟩:=F2.out.1;have hneI:w2.heap.size≠b:=by omega
 go_wp2_with fail;refine(zpo hs9 ((h2.alloc _).alloc _) (zve (c:=45) (zaa (by simp) rfl)) dQ HP2.out).mono ?_
 rintro e w3 ⟨rfl,h3,g3⟩;have F3:=waV (((F2.out.alloc _).alloc _).chg g3 hne hne1);have I3:=waV (Arr.chg (Arr.alloc (zfn w2 1 n 0 0 85) (Arr.lt (zfn w2 1 n 0 0 85) dQ) _) dQ g3 hneI);have hg3:=((hg2.alloc _).alloc _).trans g3;have hz3:=g3.size
 (try simp at hz3)
 have hzA3:w.heap.size<w3.heap.size:=by omega
 have hzB3:w.heap.size+1<w3.heap.size:=by omega
 have hzI3:w2.heap.size<w3.heap.size:=by omega
 clear c0 c1;obtain⟨c0,c1⟩:=F3.out.1;obtain⟨i0,i1,i2,i3,ifz⟩:=zgE.cells I3.out;go_wp2_with fail;refine(zlt h3).mono ?_;rintro e w4 ⟨rfl,h4,g4⟩;have F4:=waV (F3.out.chg g4 hne hne1);have I4:=waV (Arr.chg I3.out dQ g4 hneI);have hg4:=hg3.trans g4;have hz4:=g4.size
 (try simp at hz4)
 have hzA4:w.heap.size<w4.heap.size:=by omega
 have hzB4:w.heap.size+1<w4.heap.size:=by omega
 have hzI4:w2.heap.size<w4.heap.size:=by omega
 clear c0 c1 i0 i1 i2 i3 ifz;obtain⟨c0,c1⟩:=F4.out.1;obtain⟨i0,i1,i2,i3,ifz⟩:=zgE.cells I4.out;go_wp2_with fail;refine(HM.out _ h4).mono ?_;rintro e w5 ⟨rfl,h5,g5⟩;have F5:=waV (F4.out.chg g5 hne hne1);have I5:=waV (Arr.chg I4.out dQ g5 hneI);have hg5:=hg4.trans g5;have hz5:=g5.size
 (try simp at hz5)
 have hzA5:w.heap.size<w5.heap.size:=by omega
 have hzB5:w.heap.size+1<w5.heap.size:=by omega
 have hzI5:w2.heap.size<w5.heap.size:=by omega
 clear c0 c1 i0 i1 i2 i3 ifz;obtain⟨c0,c1⟩:=F5.out.1;obtain⟨i0,i1,i2,i3,ifz⟩:=zgE.cells I5.out;go_wp2_with fail;refine(zua hs9 ((((h5.set hneI (.int .i64 2)).set hneI (.int .i64 m)).set hneI (.int .i64 1)).alloc _) (zve (c:=47) (zaa (by simp) rfl)) dQ HP4.out).mono ?_
 rintro e w6 ⟨rfl,h6,g6⟩;have F6:=waV (((((F5.out.set oQ oQ (.int .i64 2)).set oQ oQ (.int .i64 m)).set oQ oQ (.int .i64 1)).alloc _).chg g6 hne hne1);have I6:=waV (Arr.chg (Arr.alloc (zj3 (zj2 (zj1 I5.out 2) m) 1) (Arr.lt (zj3 (zj2 (zj1 I5.out 2) m) 1) dQ) _) dQ g6 hneI);have hg6:=((((hg5.setNew oQ).setNew oQ).setNew oQ).alloc _).trans g6;have hz6:=g6.size
 (try simp at hz6)
 have hzA6:w.heap.size<w6.heap.size:=by omega
 have hzB6:w.heap.size+1<w6.heap.size:=by omega
 have hzI6:w2.heap.size<w6.heap.size:=by omega
 clear c0 c1 i0 i1 i2 i3 ifz;obtain⟨c0,c1⟩:=F6.out.1;obtain⟨i0,i1,i2,i3,ifz⟩:=zgE.cells I6.out;obtain⟨r0,r1,r2,r3,rfz⟩:=zgE.cells F6.out.2;go_wp2
 (try simp only[Exit.inBlock,Exit.then])
 refine waY (v:=itV ⟨2,n,m,1⟩) ?_ rfl ⟨rfl,?_,?_⟩
 ·rw[zah rfl]
  go_simp
 ·exact h6.set4 hne1 _ _ _ _
 ·exact hg6.set4 oQ _ _ _ _
def zjP:List UInt8:=[48,45,53,57,32,42,47,49,32,49,45,51,49,32,49,45,49,50,32,48,45,55]
def ztg (k:Nat):It:=if k=0 then⟨2,0,59,1⟩ else if k=1 then⟨0,0,0,1⟩ else if k=2 then⟨2,1,31,1⟩ else if k=3 then⟨2,1,12,1⟩ else⟨2,0,7,1⟩
def zgl (k:Nat):List It:=[ztg k]
def T39 (k:Nat):List UInt8:=zjP.drop (if k=0 then 0 else if k=1 then 5 else if k=2 then 9 else if k=3 then 14 else if k=4 then 19 else 22)
def R39 (k:Nat):List UInt8:=zjP.drop (if k=0 then 4 else if k=1 then 8 else if k=2 then 13 else if k=3 then 18 else 22)
theorem zrm (k b:Nat) (hk:k<5) (W:World) (h:zcn W b (zcS zjP) (T39 k)):Calls prog 128 #[rdV b k,.func (.func 129) #[rdV b k] #[]] W (zuX [ztg k] b (zcS zjP) (R39 k) W):=by
 have hs:(zcS zjP).size≤1000000:=by decide
 refine zwe b k _ hs _ _ _ W h (fun V hV=>?_) ?_
 ·obtain rfl|rfl|rfl|rfl|rfl:k=0∨k=1∨k=2∨k=3∨k=4:=by omega
  ·exact znn b 0 dQ _ hs _ (zjP.drop 1) (zjP.drop 2) _ 0 59 V hV kQ kQ dQ dQ kQ kQ dQ dQ kQ kQ dQ kQ
  ·exact zox b 1 dQ _ hs _ (zjP.drop 6) (zjP.drop 7) _ 1 V hV kQ kQ kQ
  ·exact znn b 2 dQ _ hs _ (zjP.drop 10) (zjP.drop 11) _ 1 31 V hV kQ kQ dQ dQ kQ kQ dQ dQ kQ kQ dQ kQ
  ·exact znn b 3 dQ _ hs _ (zjP.drop 15) (zjP.drop 16) _ 1 12 V hV kQ kQ dQ dQ kQ kQ dQ dQ kQ kQ dQ kQ
  ·exact znn b 4 dQ _ hs _ (zjP.drop 20) (zjP.drop 21) _ 0 7 V hV kQ kQ dQ dQ kQ kQ dQ dQ kQ kQ dQ kQ
 ·obtain rfl|rfl|rfl|rfl|rfl:k=0∨k=1∨k=2∨k=3∨k=4:=by omega
  all_goals kernel_rfl
theorem zrn (w:World):Calls prog 55 #[.string (zcS zjP)] w (zrk (zcS zjP) ztg w):=
 zwf (zcS zjP) (by decide) T39 R39 ztg (by rw[zdm];kernel_rfl) (by kernel_rfl) (fun k b W hk h=>zrm k b hk W h)
  (fun k hk=>by
    obtain rfl|rfl|rfl|rfl:k=0∨k=1∨k=2∨k=3:=by omega
    all_goals exact⟨by decide+kernel,by kernel_rfl⟩) kQ kQ w
theorem zoK:zdg (zak [zaD zgl]):=fun n s h0 h1 hs=>by
 show zr2 [zaD zgl] _=_;rw[zfR];show zet zgl n s=_;rw[zdE _ h0 h1 hs];have d:=za6 h0 h1;have a0:∀k:Nat,k<60→inB (zgl 0) 0 59 (k:Int)=true:=by decide+kernel
 have a1:∀k:Nat,k<24→inB (zgl 1) 0 23 (k:Int)=true:=by decide+kernel
 have a3:∀k:Nat,k<13→1≤k→inB (zgl 3) 1 12 (k:Int)=true:=by decide+kernel
 have a2:∀k:Nat,k<32→1≤k→inB (zgl 2) 1 31 (k:Int)=true:=by decide+kernel
 have es:(zbF (zgl 2)||zbF (zgl 4))=false:=by decide+kernel
 rw[es,if_neg (by decide),a0 _ (by omega),a1 _ (by omega)]
 have e3:=a3 (mD n).toNat oQ oQ;have e2:=a2 (dD n).toNat oQ oQ;rw[Int.toNat_of_nonneg (by omega)] at e3 e2
 rw[e3,e2];simp
theorem zth:chk zgl=(5,0):=ziM fun k hk=>by
 obtain rfl|rfl|rfl|rfl|rfl:k=0∨k=1∨k=2∨k=3∨k=4:=by omega
 all_goals kernel_rfl
theorem zoL {x y:Nat→List It} (h:∀k,k<5→x k=y k):zdj (zet x) (zet y):=fun n s _ _ _=>zoA h _
theorem zro {P Q:Int→Nat→Bool} {x y:Nat→List It} (hx:Rais P (some x)) (hy:Rais Q (some y)) (mx:zcr x P) (my:zcr y Q):(∀k,k<5→x k=y k)↔zdj P Q:=by
 constructor
 ·intro h;exact(mx.2.symm.trans (zoL h)).trans my.2
 ·intro h k _;have:=(hx.congr h).det hy;rw[waB this]
end Go.Proofs.YtadefhkaejjfmaaGreatDoor
namespace Go.Proofs.YtadefhkaejjfmaaGreatDoor
open Go.Proofs.Tryz
open Go.RowKit
open Go.Maps
def zno (l:Nat→List It) (w:World) (e:Ending) (w':World):Prop:=Below w.heap.size w w'∧(((chk l).2≠0∧e=.returned (.tuple #[.agg zbd,.int .i64 (chk l).2]))∨((chk l).2=0∧∃x v,Rais (zak [zaD l]) (some x)∧zcr x (zak [zaD l])∧e=.returned (.tuple #[v,.int .i64 0])∧zaQ w' w.heap.size v x))
theorem zoM (l:Nat→List It) (h:(chk l).2=0) (b:Nat) (W:World) (hr:zbB W (some ⟨b,0,none⟩) 1 [zaD l]) (ht:Tz W):
 Calls prog 67 #[.slice (some ⟨b,0,none⟩) 1 1] W (fun e w'=>Below W.heap.size W w'∧∃x v,Rais (zak [zaD l]) (some x)∧zcr x (zak [zaD l])∧e=.returned (.tuple #[v,.int .i64 0])∧zaQ w' W.heap.size v x):=by
 have hc:∀k,k<5→zaJ k (l k)=0:=by
  rcases znl l with g|g
  ·exact g.2
  ·exact absurd h g
 have hP:zdj (zet l) (zak [zaD l]):=fun n s _ _ _=>(zfR l _).symm
 refine(zoG (some ⟨b,0,none⟩) 1 1 [zaD l] W hr (by decide) (fun h=>(by cases h)) (fun k hk=>by rw[wbC.1 hk];exact⟨zhD l,show(1:Int)≤9223372036854775807 by decide⟩) ht).mono ?_
 rintro e w' ⟨hb,(⟨g,_⟩|⟨_,(⟨g,_⟩|⟨x,v,g,rfl,ho⟩)⟩)⟩
 ·exact absurd (by unfold zcj;rw[if_neg (by decide),if_pos (zjI l)]) g
 ·obtain⟨x,e,_⟩:=zla hc hP g;cases e
 ·obtain⟨x',e,hm⟩:=zla hc hP g;obtain rfl:=waB e;exact⟨hb,x,v,g,hm,rfl,ho⟩
theorem zti {l n x y:Nat→List It} (hx:Rais (zak [zaD l]) (some x)) (hy:Rais (zak [zaD n]) (some y)) (mx:zcr x (zak [zaD l])) (my:zcr y (zak [zaD n])):(∀k,k<5→x k=y k)↔zkJ [zaD l] [zaD n]:=
 (zro hx hy mx my).trans ⟨fun h n h0 h1 s hs=>h n s h0 h1 hs,fun h n s h0 h1 hs=>h n h0 h1 s hs⟩
abbrev zld (V:World) (b:Nat) (cs:Array Value):Prop:=V.heap[b]?=some (.cells cs 60 (0,0))
theorem zld.below {V X:World} {b:Nat} {cs:Array Value} (h:zld V b cs) (hb:Below V.heap.size V X):zld X b cs:=(hb.block _ (waL.1 h).1).trans h
theorem zoN (A:Nat→Option Addr) (n c:Nat→Nat) (l:Nat→List It) (w:World) (hA:zbp w A n l) (hn:∀k,n k≤100000) (hnil:∀k,A k=none→n k=0) (ht:Tz w):
 Calls prog 66 #[crV A n c,.func (.func 24) #[] #[],.func (.func 67) #[] #[]] w (zno l w):=by
 have hcr:crV A n c=.agg #[.slice (A 0) (n 0) (c 0),.slice (A 1) (n 1) (c 1),.slice (A 2) (n 2) (c 2),.slice (A 3) (n 3) (c 3),.slice (A 4) (n 4) (c 4)]:=rfl;have HLw:=waV (fun hc V (hV:Below w.heap.size w V)=>zfP A n c l V (hA.below hV (waJ _)) hn hnil hc)
 have HBad:=waV (fun hc V (hV:Below w.heap.size w V)=>zfQ A n c l V (hA.below hV (waJ _)) (fun k=>waW (hn k) dQ) hc)
 have HRs:=waV (fun hc b W hr ht=>zoM l hc b W hr ht)
 have HT:=waV ht;clear hA hn hnil ht;rw[hcr] at HLw HBad ⊢;clear hcr;go_enter func66,ntmps66;go_wp2_with fail;have hb0:Below w.heap.size w ((w.alloc (.cells #[.slice (A 0) (n 0) (c 0),.slice (A 1) (n 1) (c 1),.slice (A 2) (n 2) (c 2),.slice (A 3) (n 3) (c 3),.slice (A 4) (n 4) (c 4)] 60)).alloc (.cells zbd 60)):=((waC _ w).alloc (waJ _) _).alloc (by simp) _
 have hO:zld ((w.alloc (.cells #[.slice (A 0) (n 0) (c 0),.slice (A 1) (n 1) (c 1),.slice (A 2) (n 2) (c 2),.slice (A 3) (n 3) (c 3),.slice (A 4) (n 4) (c 4)] 60)).alloc (.cells zbd 60)) (w.heap.size+1) zbd:=by
  have:=World.alloc_heap_new (w.alloc (.cells #[.slice (A 0) (n 0) (c 0),.slice (A 1) (n 1) (c 1),.slice (A 2) (n 2) (c 2),.slice (A 3) (n 3) (c 3),.slice (A 4) (n 4) (c 4)] 60)) (.cells zbd 60)
  rwa [show (w.alloc (.cells #[.slice (A 0) (n 0) (c 0),.slice (A 1) (n 1) (c 1),.slice (A 2) (n 2) (c 2),.slice (A 3) (n 3) (c 3),.slice (A 4) (n 4) (c 4)] 60)).heap.size=w.heap.size+1 by simp] at this
 unfold zbd at hb0 hO;generalize ((w.alloc (.cells #[.slice (A 0) (n 0) (c 0),.slice (A 1) (n 1) (c 1),.slice (A 2) (n 2) (c 2),.slice (A 3) (n 3) (c 3),.slice (A 4) (n 4) (c 4)] 60)).alloc (.cells _ 60))=V0 at *
 by_cases hc:(chk l).2=0
 ·refine(HLw.out hc _ hb0).mono ?_;rintro e w1 ⟨b,rfl,hr,hb1⟩;have hb01:=zai hb0 hb1 hb0.size;have HR:=waV (HRs.out hc b w1 hr (HT.out.below hb01));replace hO:=hO.below hb1;have HC:=waV hc;clear hr hb1 hb0 hc HLw HBad HRs HT;go_wp2_with fail;refine HR.out.mono ?_;rintro e w2 ⟨hb2,x,v,g,hm,rfl,ho⟩;obtain⟨S0,n0,d0,S1,n1,d1,S2,n2,d2,S3,n3,d3,S4,n4,d4,rfl⟩:=ho.five;have HO:=waV (zld.below hO hb2);have HF:Hid (Rais (zak [zaD l]) (some x)∧zcr x (zak [zaD l])):=⟨g,hm⟩;have HL:=waV (ho.base hb01.size);have hb02:=zai hb01 hb2 hb01.size;clear hO hb2 g hm ho HR hb01
  go_wp2_with (first|(refine zam rfl _ _ rfl HO.out _ _ _ _ _ (by kernel_rfl) rfl rfl ?_;intro V8 hc8 hr8)|fail)
  refine waY (zaP rfl rfl rfl hc8) rfl ?_;exact⟨hr8.to_below' hb02 oQ,.inr ⟨HC.out,x,_,HF.out.1,HF.out.2,rfl,HL.out.rls HO.out hr8⟩⟩
 ·refine(HBad.out hc _ hb0).mono ?_;rintro e w1 ⟨rfl,hb1⟩;have hb01:=zai hb0 hb1 hb0.size;replace hO:=hO.below hb1;have HC:=waV hc;have hne:((chk l).2==0)=false:=by rw[wbE];exact hc
  have HQ:=waV (fun V (h:Below w.heap.size w V)=>(show zno l w (.returned (.tuple #[.agg zbd,.int .i64 (chk l).2])) V from⟨h,.inl ⟨hc,rfl⟩⟩))
  have HOa:=waV (zld.below hO ((waC _ w1).alloc (waJ _) (.cells zbd 60)));have hbA:=hb01.alloc hb01.size (.cells zbd 60);unfold zbd at HOa HQ hbA;clear hb1 hb0 hc HLw HBad HRs HT hO;generalize (chk l).2=k at *
  go_wp2_with (first|(refine zam rfl _ _ rfl HOa.out _ _ _ _ _ (by kernel_rfl) rfl rfl ?_;intro V8 hc8 hr8)|fail)
  refine waY (zaP rfl rfl rfl hc8) rfl ?_;exact HQ.out _ (hr8.to_below' hbA oQ)
theorem zgT (A:Nat→Option Addr) (n c:Nat→Nat) (l:Nat→List It) (w:World) (hA:zbp w A n l) (hn:∀k,n k≤100000) (hnil:∀k,A k=none→n k=0) (ht:Tz w):
 Calls prog 25 #[crV A n c] w (zno l w):=by
 have hcr:crV A n c=.agg #[.slice (A 0) (n 0) (c 0),.slice (A 1) (n 1) (c 1),.slice (A 2) (n 2) (c 2),.slice (A 3) (n 3) (c 3),.slice (A 4) (n 4) (c 4)]:=rfl;have HFd:=waV (fun V (hV:Below w.heap.size w V)=>zoN A n c l V (hA.below hV (waJ _)) hn hnil (ht.below hV))
 clear hA hn hnil ht;rw[hcr] at HFd ⊢;clear hcr;go_enter func25,ntmps25;go_wp2_with fail;have hb0:Below w.heap.size w ((w.alloc (.cells #[.slice (A 0) (n 0) (c 0),.slice (A 1) (n 1) (c 1),.slice (A 2) (n 2) (c 2),.slice (A 3) (n 3) (c 3),.slice (A 4) (n 4) (c 4)] 60)).alloc (.cells zbd 60)):=((waC _ w).alloc (waJ _) _).alloc (by simp) _
 have hO:zld ((w.alloc (.cells #[.slice (A 0) (n 0) (c 0),.slice (A 1) (n 1) (c 1),.slice (A 2) (n 2) (c 2),.slice (A 3) (n 3) (c 3),.slice (A 4) (n 4) (c 4)] 60)).alloc (.cells zbd 60)) (w.heap.size+1) zbd:=by
  have:=World.alloc_heap_new (w.alloc (.cells #[.slice (A 0) (n 0) (c 0),.slice (A 1) (n 1) (c 1),.slice (A 2) (n 2) (c 2),.slice (A 3) (n 3) (c 3),.slice (A 4) (n 4) (c 4)] 60)) (.cells zbd 60)
  rwa [show (w.alloc (.cells #[.slice (A 0) (n 0) (c 0),.slice (A 1) (n 1) (c 1),.slice (A 2) (n 2) (c 2),.slice (A 3) (n 3) (c 3),.slice (A 4) (n 4) (c 4)] 60)).heap.size=w.heap.size+1 by simp] at this
 unfold zbd at hb0 hO;generalize ((w.alloc (.cells #[.slice (A 0) (n 0) (c 0),.slice (A 1) (n 1) (c 1),.slice (A 2) (n 2) (c 2),.slice (A 3) (n 3) (c 3),.slice (A 4) (n 4) (c 4)] 60)).alloc (.cells _ 60))=V0 at *;refine(HFd.out _ hb0).mono ?_;rintro e w2 ⟨hb2,(⟨hk,rfl⟩|⟨hc,x,v,g,hm,rfl,ho⟩)⟩
 ·have HO:=waV (zld.below hO hb2);have hb02:=zai hb0 hb2 hb0.size;have HQ:=waV (fun V (h:Below w.heap.size w V)=>(show zno l w (.returned (.tuple #[.agg zbd,.int .i64 (chk l).2])) V from⟨h,.inl ⟨hk,rfl⟩⟩))
  unfold zbd at HQ ⊢;clear hO hb2 hb0 hk HFd;generalize (chk l).2=k at *
  go_wp2_with (first|(refine zam rfl _ _ rfl HO.out _ _ _ _ _ (by kernel_rfl) rfl rfl ?_;intro V8 hc8 hr8)|fail)
  refine waY (zaP rfl rfl rfl hc8) rfl ?_;exact HQ.out _ (hr8.to_below' hb02 oQ)
 ·obtain⟨S0,n0,d0,S1,n1,d1,S2,n2,d2,S3,n3,d3,S4,n4,d4,rfl⟩:=ho.five;have HO:=waV (zld.below hO hb2);have HF:Hid ((chk l).2=0∧Rais (zak [zaD l]) (some x)∧zcr x (zak [zaD l])):=⟨hc,g,hm⟩;have HL:=waV (ho.base hb0.size);have hb02:=zai hb0 hb2 hb0.size;clear hO hb2 g hm ho hc HFd hb0
  go_wp2_with (first|(refine zam rfl _ _ rfl HO.out _ _ _ _ _ (by kernel_rfl) rfl rfl ?_;intro V8 hc8 hr8)|fail)
  refine waY (zaP rfl rfl rfl hc8) rfl ?_;exact⟨hr8.to_below' hb02 oQ,.inr ⟨HF.out.1,x,_,HF.out.2.1,HF.out.2.2,rfl,HL.out.rls HO.out hr8⟩⟩
end Go.Proofs.YtadefhkaejjfmaaGreatDoor
