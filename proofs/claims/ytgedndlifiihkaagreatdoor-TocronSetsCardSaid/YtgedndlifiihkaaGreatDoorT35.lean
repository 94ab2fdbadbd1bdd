/- A part of the proof: WRd36 LTc36 WHas02 WBits13 WOrd13 WYr13 -/
import Derived.Test.YtgedndlifiihkaaGreatDoorT11
import Derived.Test.YtgedndlifiihkaaGreatDoorT10
import Derived.Test.YtgedndlifiihkaaGreatDoorT34
import Derived.Test.YtgedndlifiihkaaGreatDoorT05
import Derived.Test.YtgedndlifiihkaaGreatDoorT08
import Derived.Test.YtgedndlifiihkaaGreatDoorT06
import Derived.Test.YtgedndlifiihkaaGreatDoorT01
import Derived.Test.YtgedndlifiihkaaGreatDoorT02
set_option maxHeartbeats 80000000
set_option maxRecDepth 100000
set_option linter.unusedSimpArgs false
set_option linter.unusedVariables false
namespace Go.Proofs.YtgedndlifiihkaaGreatDoor
open Go.Proofs.Tryz
open Go.RowKit
theorem zu2 (f:Nat) (hf:f<3) (w:World):Calls prog 161 #[.int .i64 (f:Int)] w (zbO (.slice none 0 0) w):=by
 have e3:((f:Int)==3)=false:=by simp;omega
 have e4:((f:Int)==4)=false:=by simp;omega
 clear hf;go_enter func161,ntmps161;go_wp2;go_ret;exact⟨rfl,rfl⟩
theorem zwm (b f:Nat) (hf:f<3) (s:ByteArray) (hs:s.size≤1000000) (l r:List UInt8) (n0:Int) (w:World) (h:zcV w b s l) (hp:zvF 2 l=.ok (n0,r)) (g1:¬n0<cLo f) (g2:¬cHi f<n0):
 Calls prog 107 #[rdV b f] w (zmr (.int .i64 n0) b s r w):=by
 have hs:s.size≤9223372036854775807:=by omega
 have hlt:=h.lt;have hne:w.heap.size≠b:=by omega
 have HAt:=waV (fun W (hW:Below w.heap.size w W)=>zpY (h.below hW))
 have HL:=waV (fun W (hW:Below w.heap.size w W)=>h.below hW)
 have HBo:=waV (fun W=>zfh f oQ W)
 have HNm:=waV (fun W=>zu2 f hf W)
 have HN:=waV (fun W (h:zcV W b s l)=>zps hs (most:=2) dQ h hp)
 clear h hp hf;go_enter func107,ntmps107;go_wp2_with fail;refine(HBo.out _).mono ?_;rintro e w1 ⟨rfl,hb1⟩;have HB1:=waV ((zlz w b (f:Int) 104).below hb1);have hbA:Below w.heap.size w w1:=((waC _ w).alloc (waJ _) _).trans (hb1.mono (by simp))
 have hzA:=hbA.size;clear hb1;go_wp2_with fail;obtain⟨W1,rfl⟩:∃W1:World,W1=w1:=⟨_,rfl⟩;have HS:Hid (∀w',Below W1.heap.size W1 w'→Below W1.heap.size W1 w'∧w'.cell? ⟨w.heap.size,0,none⟩=some (.pointer (some ⟨b,0,none⟩))∧w'.cell? ⟨w.heap.size,1,none⟩=some (.int .i64 (f:Int))):=fun w' h=>⟨h,(HB1.out.below h).1,(HB1.out.below h).2⟩
 have HW:Hid (∀w',Below W1.heap.size W1 w'→Below w.heap.size w w'):=fun w' h=>zak hbA h hzA
 go_region_held3 (fun w'=>Below W1.heap.size W1 w'∧w'.cell? ⟨w.heap.size,0,none⟩=some (.pointer (some ⟨b,0,none⟩))∧w'.cell? ⟨w.heap.size,1,none⟩=some (.int .i64 (f:Int)))
  (first|(go_split_ands;refine HS.out _ (zak ?_ hb1 ?_);assumption;exact Below.size (by assumption))|(go_split_ands;refine HS.out _ (Below.alloc ?_ ?_ _);assumption;exact Below.size (by assumption))|(refine HS.out _ ?_;exact Below.drew (waC _ _))|(refine HS.out _ ?_;exact zax (waC _ _) _))
  (first|(go_at_call 56;(with_reducible refine(HAt.out _ ?_).mono ?_);(focus (go_split_ands;exact HW.out _ (by assumption)));rintro e w1 ⟨rfl,rfl⟩)|(go_at_call 161;(with_reducible refine(HNm.out _).mono ?_);rintro e w1 ⟨rfl,rfl⟩))
 have hb2:Below W1.heap.size W1 W1.drew:=(waC _ _).drew;have hbB:Below w.heap.size w W1.drew:=HW.out _ hb2;have HB2:=waV (HB1.out.below hb2);clear HS HW
 try simp only[Exit.inBlock,Exit.then]
 generalize W1.drew=w1 at *;have h2:=HL.out _ hbB;have hgA:Chg b w w1:=Chg.of_below hbB;go_wp2_with fail;refine(HN.out _ h2).mono ?_;rintro e w4 ⟨rfl,h4,g4⟩;go_wp2;go_ret;exact⟨rfl,h4,hgA.trans g4⟩
theorem ztS (b f:Nat) (hf:f<3) (s:ByteArray) (hs:s.size≤1000000) (l l1 l2 l3:List UInt8) (n m:Int) (w:World) (h:zcV w b s l) (hp:pIs [42] l=none) (hp1:zvF 2 l=.ok (n,l1)) (k1:¬n<cLo f) (k2:¬cHi f<n) (hp2:pIs [45] l1=some l2) (hp3:zvF 2 l2=.ok (m,l3)) (k3:¬m<cLo f) (k4:¬cHi f<m) (hle:¬m<n) (hp4:pIs [47] l3=none):
 Calls prog 58 #[rdV b f] w (zmr (itV ⟨2,n,m,1⟩) b s l3 w):=by
 have hs9:s.size≤9223372036854775807:=by omega
 have hlt:=h.lt;have hne:w.heap.size≠b:=by omega
 have hne1:w.heap.size+1≠b:=by omega
 have H:=waV h;have HP:=waV (hp);have HN:=waV (fun W (h:zcV W b s l)=>zwm b f hf s hs l l1 n W h hp1 k1 k2)
 have HP2:=waV (hp2);have HM:=waV (fun W (h:zcV W b s l2)=>zwm b f hf s hs l2 l3 m W h hp3 k3 k4)
 have HP4:=waV (hp4);clear h hp hp1 hp2 hp3 hp4 k1 k2 k3 k4 hf;go_enter func58,ntmps58;go_wp2_with fail;refine(zrI hs9 (((H.out.alloc _).alloc _).alloc _) (zvn (c:=42) (zaa (by simp) rfl)) dQ HP.out).mono ?_
 rintro e w1 ⟨rfl,h1,g1⟩;have F1:=waV (((ztF w b (f:Int) 104 81).alloc _).chg g1 hne hne1);have hg1:=((((Chg.refl b w).alloc _).alloc _).alloc _).trans g1;have hz1:=g1.size
 (try simp at hz1)
 have hzA1:w.heap.size<w1.heap.size:=by omega
 have hzB1:w.heap.size+1<w1.heap.size:=by omega
 obtain⟨c0,c1⟩:=F1.out.1;go_wp2_with fail;refine(HN.out _ h1).mono ?_;rintro e w2 ⟨rfl,h2,g2⟩;have F2:=waV (F1.out.chg g2 hne hne1);have hg2:=hg1.trans g2;have hz2:=g2.size
 (try simp at hz2)
 have hzA2:w.heap.size<w2.heap.size:=by omega
 have hzB2:w.heap.size+1<w2.heap.size:=by omega
 clear c0 c1;obtain⟨c0,c1⟩:=F2.out.1;have hneI:w2.heap.size≠b:=by omega
 go_wp2_with fail;refine(zty hs9 ((h2.alloc _).alloc _) (zvn (c:=45) (zaa (by simp) rfl)) dQ HP2.out).mono ?_
 rintro e w3 ⟨rfl,h3,g3⟩;have F3:=waV (((F2.out.alloc _).alloc _).chg g3 hne hne1);have I3:=waV (Arr.chg (Arr.alloc (zfs w2 1 n 0 0 81) (Arr.lt (zfs w2 1 n 0 0 81) dQ) _) dQ g3 hneI);have hg3:=((hg2.alloc _).alloc _).trans g3;have hz3:=g3.size
 (try simp at hz3)
 have hzA3:w.heap.size<w3.heap.size:=by omega
 have hzB3:w.heap.size+1<w3.heap.size:=by omega
 have hzI3:w2.heap.size<w3.heap.size:=by omega
 clear c0 c1;obtain⟨c0,c1⟩:=F3.out.1;obtain⟨i0,i1,i2,i3,ifz⟩:=zjY.cells I3.out;go_wp2_with fail;refine(zpr h3).mono ?_;rintro e w4 ⟨rfl,h4,g4⟩;have F4:=waV (F3.out.chg g4 hne hne1);have I4:=waV (Arr.chg I3.out dQ g4 hneI);have hg4:=hg3.trans g4;have hz4:=g4.size
 (try simp at hz4)
 have hzA4:w.heap.size<w4.heap.size:=by omega
 have hzB4:w.heap.size+1<w4.heap.size:=by omega
 have hzI4:w2.heap.size<w4.heap.size:=by omega
 clear c0 c1 i0 i1 i2 i3 ifz;obtain⟨c0,c1⟩:=F4.out.1;obtain⟨i0,i1,i2,i3,ifz⟩:=zjY.cells I4.out;go_wp2_with fail;refine(HM.out _ h4).mono ?_;rintro e w5 ⟨rfl,h5,g5⟩;have F5:=waV (F4.out.chg g5 hne hne1);have I5:=waV (Arr.chg I4.out dQ g5 hneI);have hg5:=hg4.trans g5;have hz5:=g5.size
 (try simp at hz5)
 have hzA5:w.heap.size<w5.heap.size:=by omega
 have hzB5:w.heap.size+1<w5.heap.size:=by omega
 have hzI5:w2.heap.size<w5.heap.size:=by omega
 clear c0 c1 i0 i1 i2 i3 ifz;obtain⟨c0,c1⟩:=F5.out.1;obtain⟨i0,i1,i2,i3,ifz⟩:=zjY.cells I5.out;go_wp2_with fail;refine(zrI hs9 ((((h5.set hneI (.int .i64 2)).set hneI (.int .i64 m)).set hneI (.int .i64 1)).alloc _) (zvn (c:=47) (zaa (by simp) rfl)) dQ HP4.out).mono ?_
 rintro e w6 ⟨rfl,h6,g6⟩;have F6:=waV (((((F5.out.set oQ oQ (.int .i64 2)).set oQ oQ (.int .i64 m)).set oQ oQ (.int .i64 1)).alloc _).chg g6 hne hne1);have I6:=waV (Arr.chg (Arr.alloc (zj1 (zj0 (zjZ I5.out 2) m) 1) (Arr.lt (zj1 (zj0 (zjZ I5.out 2) m) 1) dQ) _) dQ g6 hneI);have hg6:=((((hg5.setNew oQ).setNew oQ).setNew oQ).alloc _).trans g6;have hz6:=g6.size
 (try simp at hz6)
 have hzA6:w.heap.size<w6.heap.size:=by omega
 have hzB6:w.heap.size+1<w6.heap.size:=by omega
 have hzI6:w2.heap.size<w6.heap.size:=by omega
 clear c0 c1 i0 i1 i2 i3 ifz;obtain⟨c0,c1⟩:=F6.out.1;obtain⟨i0,i1,i2,i3,ifz⟩:=zjY.cells I6.out;obtain⟨r0,r1,r2,r3,rfz⟩:=zjY.cells F6.out.2;go_wp2
 (try simp only[Exit.inBlock,Exit.then])
 refine waY (v:=itV ⟨2,n,m,1⟩) ?_ rfl ⟨rfl,?_,?_⟩
 ·rw[zah rfl]
  go_simp
 ·exact h6.set4 hne1 _ _ _ _
 ·exact hg6.set4 oQ _ _ _ _
theorem zwn (b f:Nat) (s:ByteArray) (hs:s.size≤1000000) (l r:List UInt8) (i:It) (w:World) (h:zcV w b s l) (hI:∀W,zcV W b s l→Calls prog 58 #[rdV b f] W (zmr (itV i) b s r W)) (hp:pIs [44] r=none):
 Calls prog 57 #[rdV b f,.func (.func 58) #[rdV b f] #[]] w (zuy [i] b s r w):=by
 have hs9:s.size≤9223372036854775807:=by omega
 have hlt:=h.lt;have hne:w.heap.size≠b:=by omega
 have H:=waV h;have HP2:=waV hp;have HI:=waV hI;obtain⟨i0,hi0,hz0,hz1,hz2⟩:=info_parts ziM;have HI0:=waV hi0;have HZ0:=waV hz0;have HZ1:=waV hz1;have HZ2:=waV hz2;clear hi0 hz0 hz1 hz2;clear h hp hI;go_enter func57,ntmps57;go_wp2;go_step3;go_wp2;go_step3;go_wp2
 go_loopg [5] 63 (fun gg v wr=>∃(vo:Value) (acc:List It),vo=v∧acc=[]∧gg=63∧Hid (zat wr (w.heap.size+1) vo acc)∧Hid (zcV wr b s l)∧Hid (Box wr w.heap.size b (f:Int))∧Hid (Chg b w wr))
 case atStart=>exact⟨_,[],rfl,rfl,rfl,World.ownsRow_nil _ _ _ _,H.out.alloc _,zlz _ _ _ _,(Chg.refl b w).alloc _⟩
 case round=>
  obtain⟨vo,acc,rfl,hacc,hgq,HO,HD,HB,HC⟩:=hrel;have hal:acc.length≤63:=by rw[hacc];decide
  have HAc:=waV hacc;clear hacc;have hlt:b<w.heap.size+1:=by omega
  go_wp2_with fail;refine(HI.out _ HD.out).mono ?_;rintro e w2 ⟨rfl,h2,g2⟩;have HO2:=waV (zdN HO.out g2 hlt);have HB2:=waV (HB.out.chg g2 hne);have hgA:=HC.out.trans g2;have hz2:=hgA.size;have hi0:=HI0.out;have hz0:=HZ0.out;have hz1:=HZ1.out;have hzz2:=HZ2.out
  go_wp2_with (at_builtin;refine wpList_append_own _ rfl _ _ 22 rfl (w.heap.size+1) 81 i0 _ 4 32 underlying22 hi0 hz0 hz1 hzz2 rfl dQ _ acc.length _ rfl (HO2.out.alloc _) ⟨w2.heap.size,0,none⟩ 1 1 [.int .i64 i.k,.int .i64 i.f,.int .i64 i.t,.int .i64 i.s] rfl rfl ?c1 ?c2 ?c3 ?c4 ?c5 ?c6)
  case c1=>
   intro j u hu;rcases j with _|_|_|_|j
   ·simp at hu;subst hu;exact zaa rfl rfl
   ·simp at hu;subst hu;exact zaa rfl rfl
   ·simp at hu;subst hu;exact zaa rfl rfl
   ·simp at hu;subst hu;exact zaa rfl rfl
   ·simp at hu
  case c2=>intro u hu;simp at hu;rcases hu with rfl|rfl|rfl|rfl<;>rfl
  case c3=>simp only[maxLen];omega
  case c4=>omega
  case c5=>simp;omega
  case c6=>
   intro v' w3 hown hg _;have HV:Hid (zat w3 (w.heap.size+1) v' (acc++[i])):=by
    show World.ownsRow _ _ _ _ _ _ _;rw[waF,List.flatMap_append,List.flatMap_singleton];exact hown
   have hob1:∀k,vo.ownBlock=some k→w.heap.size+1≤k:=ztG HO.out;have hob:∀k,vo.ownBlock=some k→w.heap.size≤k:=fun k hk=>by have:=hob1 k hk;omega
   have hobn:vo.ownBlock≠some b:=fun e=>by have:=hob b e;omega
   have hobB:vo.ownBlock≠some w.heap.size:=fun e=>by have:=hob1 _ e;omega
   have h3:=(h2.alloc (.cells #[.int .i64 i.k,.int .i64 i.f,.int .i64 i.t,.int .i64 i.s] 81)).grown hg hobn;have HB3:=waV ((HB2.out.alloc _).grown hg hobB);have hgB:=(hgA.alloc _).grown hg hob;have HLn:Hid ((acc++[i]).length=acc.length+1):=by show _=_;simp
   have hpos:0<(acc++[i]).length:=by simp
   clear hown hg hi0 hz0 hz1 hzz2 h2 g2 HO2 HB2 hob hob1 hobn hobB;obtain⟨g,cap,rfl,hgb,hgl⟩:∃g cap,v'=.slice (some ⟨g,0,none⟩) (acc++[i]).length cap∧w.heap.size+1≤g∧g<w3.heap.size:=by
    rcases zbq HV.out with ⟨_,h0⟩|h1
    ·omega
    ·exact h1
   obtain⟨acc1,hacc⟩:∃x,x=acc++[i]:=⟨_,rfl⟩;rw[←hacc] at HV HLn ⊢;have HAcc:=waV hacc;rw[HLn.out];clear hpos hacc;obtain⟨c0,c1⟩:=HB3.out;have hz3:=hgB.size;go_wp2_with fail;refine(zpr h3).mono ?_;rintro e w4 ⟨rfl,h4,g4⟩;have hgC:=hgB.trans g4;have HB4:=waV (HB3.out.chg g4 hne);have HV4:=waV (zdN HV.out g4 hlt);clear c0 c1;obtain⟨c0,c1⟩:=HB4.out;go_wp2_with fail;refine(zrI hs9 (h4.alloc _) (zvn (c:=44) (zaa (by simp) rfl)) dQ HP2.out).mono ?_
   rintro e w5 ⟨rfl,h5,g5⟩;have hgD:=(hgC.alloc _).trans g5;have HV5:=waV (zdN (HV4.out.alloc _) g5 hlt);go_wp2;rw[Exit.noGoto_ret];go_ret;have hL:[i]=acc1:=by rw[HAcc.out,HAc.out];rfl
   exact⟨.slice (some ⟨g,0,none⟩) acc1.length cap,by rw[HLn.out];rfl,by rw[hL];exact zap HV5.out (by omega),h5,hgD⟩
def zq3 (s:ByteArray) (I:Nat→It) (w:World) (x:Ending) (w':World):Prop:=
 Below w.heap.size w w'∧∃(A:Nat→Option Addr) (n c:Nat→Nat),x=.returned (.tuple #[crV A n c,.int .i64 (s.size:Int),.int .i64 0])∧∀k,k<5→zat w' w.heap.size (zko A n c k) [I k]
theorem zwo (s:ByteArray) (hs:s.size≤8192) (T R:Nat→List UInt8) (I:Nat→It) (h0:s.data.toList.dropWhile zbS=T 0) (h64:(zua (T 0)==64)=false)
 (hF:∀k b W,k<5→zcV W b s (T k)→Calls prog 57 #[rdV b k,.func (.func 58) #[rdV b k] #[]] W (zuy [I k] b s (R k) W))
 (hB:∀k,k<4→(R k).takeWhile zbS≠[]∧(R k).dropWhile zbS=T (k+1)) (hE:R 4=[]) (h5:T 5=[]) (w:World):
 Calls prog 23 #[.string s] w (zq3 s I w):=by
 have hs9:s.size≤9223372036854775807:=by omega
 have HN:=waV (fun W=>zvH hs9 hs W)
 have H0:=waV h0;have HF:=waV hF;have HBt:=waV (fun k W b (hk:k<4) (h:zcV W b s (R k))=>(show Calls prog 59 #[.pointer (some ⟨b,0,none⟩)] W (zmr (.tuple #[]) b s (T (k+1)) W) by
  have:=znW b s hs9 _ W h (hB k hk).1
  rwa [(hB k hk).2] at this))
 have HE:Hid (R 4=T 5):=hE.trans h5.symm;have H5:=waV h5;clear h0 hF hB hE h5;go_enter func23,ntmps23;go_wp2_with fail;refine(HN.out _).mono ?_;rintro e w1 ⟨b,hb0,rfl,h1,hb1⟩;have hbS1:Below w.heap.size w w1:=((waC _ w).alloc (waJ _) _).trans (hb1.mono (by simp))
 have hbgt:w.heap.size<b:=by simp at hb0;omega
 have HR1:=waV ((zjf w 24 (.slice none 0 0) (.slice none 0 0) (.slice none 0 0) (.slice none 0 0) (.slice none 0 0) nil5 rfl rfl rfl rfl rfl).below (by simp) hb1)
 have hzw1:=waD hbgt (Nat.le_of_lt h1.lt);go_wp2_with fail;refine(ze0 hs9 h1).mono ?_;rintro e w2 ⟨rfl,h2,g2⟩;rw[H0.out] at h2;go_wp2_with fail;refine(zpq h2).mono ?_;rintro e w3 ⟨rfl,h3,g3⟩;have g23:=g2.trans g3;have hbS:=Chg.below hbS1 g23 (Nat.le_of_lt hbgt) hbS1.size;have HR:=waV (Arr.chg HR1.out dQ g23 oQ);have HSt:Hid (zcV w3 b s (T 0)):=h3;have hb3:=h3.lt;clear h1 h2 h3 g2 g3 g23 hb1 hbS1 HR1 hzw1;go_wp2_with fail;have HC0:=waV ((zjf w3 24 (.slice none 0 0) (.slice none 0 0) (.slice none 0 0) (.slice none 0 0) (.slice none 0 0) (zko (fun _=>none) (fun _=>0) (fun _=>0)) rfl rfl rfl rfl rfl).alloc (by simp) (.cells #[.pointer (some ⟨w3.heap.size,0,none⟩),.pointer (some ⟨w3.heap.size,1,none⟩),.pointer (some ⟨w3.heap.size,2,none⟩),.pointer (some ⟨w3.heap.size,3,none⟩),.pointer (some ⟨w3.heap.size,4,none⟩)] 101))
 have HP0:=waV (zjf (w3.alloc (.cells #[.slice none 0 0,.slice none 0 0,.slice none 0 0,.slice none 0 0,.slice none 0 0] 24)) 101 (.pointer (some ⟨w3.heap.size,0,none⟩)) (.pointer (some ⟨w3.heap.size,1,none⟩)) (.pointer (some ⟨w3.heap.size,2,none⟩)) (.pointer (some ⟨w3.heap.size,3,none⟩)) (.pointer (some ⟨w3.heap.size,4,none⟩)) (fun j=>.pointer (some ⟨w3.heap.size,j,none⟩)) rfl rfl rfl rfl rfl)
 have hzS:=hbS.size;have hzw:w.heap.size<w3.heap.size:=by omega
 have HR0:=waV ((HR.out.alloc hzw (.cells #[.slice none 0 0,.slice none 0 0,.slice none 0 0,.slice none 0 0,.slice none 0 0] 24)).alloc (by simp;omega) (.cells #[.pointer (some ⟨w3.heap.size,0,none⟩),.pointer (some ⟨w3.heap.size,1,none⟩),.pointer (some ⟨w3.heap.size,2,none⟩),.pointer (some ⟨w3.heap.size,3,none⟩),.pointer (some ⟨w3.heap.size,4,none⟩)] 101))
 go_loopw [30] (fun i wr=>∃(k:Nat) (A:Nat→Option Addr) (n c:Nat→Nat),k≤5∧i=.int .i64 k∧Hid (zcV wr b s (T k))∧Hid (Arr wr w3.heap.size 5 (zko A n c))∧Hid (∀j,j<k→zat wr (w3.heap.size+2) (zko A n c j) [I j])∧Hid (Arr wr (w3.heap.size+1) 5 (fun j=>.pointer (some ⟨w3.heap.size,j,none⟩)))∧Hid (Arr wr w.heap.size 5 nil5)∧Below w.heap.size w wr∧w3.heap.size+2≤wr.heap.size) (fun i _=>5 - (intOf i).toNat)
 case atStart=>
  exact⟨0,fun _=>none,fun _=>0,fun _=>0,by omega,rfl,(HSt.out.below ((waC _ w3).alloc (waJ _) _)).below ((waC _ _).alloc (waJ _) _),HC0.out,fun j hj=>absurd hj (Nat.not_lt_zero _),by show Arr _ _ _ _;have:=HP0.out;simpa using this,HR0.out,(hbS.alloc hzS _).alloc (by simp;omega) _,by simp⟩
 case round=>
  obtain⟨k,A,n,c,hk,rfl,HStk,HCk,HOk,HPk,HRk,hbk,hzk⟩:=hrel;have hszk:=hbk.size;have hzC:w3.heap.size<wr.heap.size:=by omega
  have hzP:w3.heap.size+1<wr.heap.size:=by omega
  have hzR:w.heap.size<wr.heap.size:=by omega
  have hzb:b<wr.heap.size:=by omega
  by_cases h5:k<5
  ·have h5':(k:Int)<5:=by omega
   have hk0:(0:Int)≤(k:Int):=by omega
   have cP:=HPk.out.1 k h5;go_wp2_with fail;refine(HF.out k b _ h5 (HStk.out.below ((waC _ wr).alloc (waJ _) _))).mono ?_;rintro e w4 ⟨v,rfl,hown,hst,g4⟩;obtain⟨A',n',c',rfl⟩:=zvZ hown;have g4':Chg b wr w4:=((Chg.refl b wr).alloc _).trans g4;have HC4:=waV (Arr.chg HCk.out dQ g4' oQ);have HP4:=waV (Arr.chg HPk.out dQ g4' oQ);have HR4:=waV (Arr.chg HRk.out dQ g4' oQ);have hO4:∀j,j<k→zat w4 (w3.heap.size+2) (zko A n c j) [I j]:=fun j hj=>zdN (HOk.out j hj) g4' oQ
   have HO4:=waV hO4;have hbk4:=Chg.below hbk g4' oQ hszk;have hz4:=g4.size;simp at hz4;have hown4:zat w4 (w3.heap.size+2) (.slice A' n' c') [I k]:=zap hown (by simp;omega)
   have HN4:=waV hown4;have ck:=HC4.out.1 k h5;have fk:=HC4.out.2 k;have HS2:=waV (hst.set (B:=w3.heap.size) (o:=k) oQ (.slice A' n' c'));have HC5:=waV (HC4.out.set k h5 (.slice A' n' c') (g':=zko (upd A k A') (upd n k n') (upd c k c')) zmF (fun j _ hj=>zpZ hj))
   have HP5:=waV (HP4.out.other (b':=w3.heap.size) (i:=k) (v:=.slice A' n' c') oQ);have HR5:=waV (HR4.out.other (b':=w3.heap.size) (i:=k) (v:=.slice A' n' c') oQ);have hcs:Chg w3.heap.size w4 (w4.setCell ⟨w3.heap.size,k,none⟩ (.slice A' n' c')):=(Chg.refl _ _).set _ _;have hO5:∀j,j<k+1→zat (w4.setCell ⟨w3.heap.size,k,none⟩ (.slice A' n' c')) (w3.heap.size+2) (zko (upd A k A') (upd n k n') (upd c k c') j) [I j]:=by
    intro j hj
    by_cases e:j=k
    ·subst e;rw[zmF];exact zdN HN4.out hcs oQ
    ·rw[zpZ e];exact zdN (HO4.out j oQ) hcs oQ
   have HO5:=waV hO5;have hbk5:Below w.heap.size w (w4.setCell ⟨w3.heap.size,k,none⟩ (.slice A' n' c')):=hbk4.setCell (by simp;omega) _
   unfold zko at ck;clear hown hst hO4 hown4 hcs hO5 g4 g4' cP
   by_cases h4:k<4
   ·have h4':(k:Int)<4:=by omega
    go_wp2_with fail;refine(HBt.out k _ b h4 HS2.out).mono ?_;rintro e w5 ⟨rfl,hst5,g5⟩;have hz5:=g5.size;simp[World.setCell] at hz5;go_wp2;go_roundw
    case rel=>
     exact⟨k+1,upd A k A',upd n k n',upd c k c',by omega,by go_num,hst5,Arr.chg HC5.out dQ g5 oQ,fun j hj=>zdN (HO5.out j hj) g5 oQ,Arr.chg HP5.out dQ g5 oQ,Arr.chg HR5.out dQ g5 oQ,Chg.below hbk5 g5 oQ hbk5.size,by omega⟩
    case measure=>simp [intOf];omega
   ·have h4':¬(k:Int)<4:=by omega
    go_wp2;go_roundw
    case rel=>
     refine⟨k+1,upd A k A',upd n k n',upd c k c',by omega,by go_num,?_,HC5.out,HO5.out,HP5.out,HR5.out,hbk5,by simp[World.setCell];omega⟩
     obtain rfl:k=4:=by omega
     show zcV _ _ _ _;have:=HS2.out
     rwa [HE.out] at this
    case measure=>simp [intOf];omega
  ·obtain rfl:k=5:=by omega
   have hL:=HStk.out;rw[H5.out] at hL;go_wp2_with fail;refine(ze0 hs9 hL).mono ?_;rintro e w4 ⟨rfl,h4,g4⟩;have h4:zcV w4 b s []:=h4;go_wp2_with fail;refine(zvG h4).mono ?_;rintro e w5 ⟨rfl,h5',g5⟩;go_wp2_with fail;refine(znF h5').mono ?_;rintro e w6 ⟨rfl,h6,g6⟩;have g46:=(g4.trans g5).trans g6;have HC6:=waV (Arr.chg HCk.out dQ g46 oQ);have HR6:=waV (Arr.chg HRk.out dQ g46 oQ);have HO6:Hid (∀j,j<5→zat w6 (w3.heap.size+2) (zko A n c j) [I j]):=fun j hj=>zdN (HOk.out j hj) g46 oQ
   have hb6:=Chg.below hbk g46 oQ hszk;have hz6:=g46.size;obtain⟨x0,x1,x2,x3,x4,xf⟩:=arr5 HC6.out;obtain⟨y0,y1,y2,y3,y4,yf⟩:=arr5 HR6.out;have HAtW:Hid (∀W,zcV W b s []→Calls prog 56 #[.pointer (some ⟨b,0,none⟩)] W (zbO (.int .i64 (s.size:Int)) W)):=fun W h=>by
    have:=zpY h;rw[show zfq s ([]:List UInt8).length=(s.size:Int) from znX s] at this
    exact this
   have H6:=waV h6;unfold zko at x0 x1 x2 x3 x4;unfold nil5 at y0 y1 y2 y3 y4;clear g4 g5 g6 g46 h4 h5' h6 hL;go_wp2_with fail
   go_region_with (go_at_call 56;(with_reducible refine(HAtW.out _ ?_).mono ?_);(focus (exact H6.out));rintro e w7 ⟨rfl,rfl⟩)
   all_goals (try simp only[Exit.then])
   all_goals (try go_wp2)
   all_goals refine waY (v:=.tuple #[crV A n c,.int .i64 (s.size:Int),.int .i64 0]) ?_ rfl ⟨?_,A,n,c,rfl,fun k hk=>?_⟩
   all_goals first
    |(rw[zfr rfl];go_simp;done)
    |((repeat' (first|(with_reducible exact waC _ _)|(with_reducible assumption)|(with_reducible refine zax ?_ _)|(with_reducible refine Below.alloc ?_ ?_ _)|(with_reducible refine Below.drew ?_)|(with_reducible refine Below.setCell ?_ ?_ _)|go_size));done)
    |(show World.ownsRow _ _ _ _ _ _ _;refine zap (B:=w3.heap.size+2) ?_ oQ;exact zuz (HO6.out k hk) oQ)
def zoH:List UInt8:=[48,45,53,57,32,48,45,50,51,32,42,32,42,32,42]
def zs4 (k:Nat):It:=if k=0 then⟨2,0,59,1⟩ else if k=1 then⟨2,0,23,1⟩ else⟨0,0,0,1⟩
def zd0 (k:Nat):List It:=[zs4 k]
def T36 (k:Nat):List UInt8:=zoH.drop (if k=0 then 0 else if k=1 then 5 else if k=2 then 10 else if k=3 then 12 else if k=4 then 14 else 15)
def R36 (k:Nat):List UInt8:=zoH.drop (if k=0 then 4 else if k=1 then 9 else if k=2 then 11 else if k=3 then 13 else 15)
theorem zu3 (k b:Nat) (hk:k<5) (W:World) (h:zcV W b (zc5 zoH) (T36 k)):Calls prog 57 #[rdV b k,.func (.func 58) #[rdV b k] #[]] W (zuy [zs4 k] b (zc5 zoH) (R36 k) W):=by
 have hs:(zc5 zoH).size≤1000000:=by decide
 refine zwn b k _ hs _ _ _ W h (fun V hV=>?_) ?_
 ·obtain rfl|rfl|rfl|rfl|rfl:k=0∨k=1∨k=2∨k=3∨k=4:=by omega
  ·exact ztS b 0 dQ _ hs _ (zoH.drop 1) (zoH.drop 2) _ 0 59 V hV kQ kQ dQ dQ kQ kQ dQ dQ dQ kQ
  ·exact ztS b 1 dQ _ hs _ (zoH.drop 6) (zoH.drop 7) _ 0 23 V hV kQ kQ dQ dQ kQ kQ dQ dQ dQ kQ
  ·exact zf3 b 2 dQ _ hs _ _ V hV kQ kQ
  ·exact zf3 b 3 dQ _ hs _ _ V hV kQ kQ
  ·exact zf3 b 4 dQ _ hs _ _ V hV kQ kQ
 ·obtain rfl|rfl|rfl|rfl|rfl:k=0∨k=1∨k=2∨k=3∨k=4:=by omega
  all_goals kernel_rfl
theorem zu4 (w:World):Calls prog 23 #[.string (zc5 zoH)] w (zq3 (zc5 zoH) zs4 w):=
 zwo (zc5 zoH) (by decide) T36 R36 zs4 (by rw[zdm];kernel_rfl) (by kernel_rfl) (fun k b W hk h=>zu3 k b hk W h)
  (fun k hk=>by
    obtain rfl|rfl|rfl|rfl:k=0∨k=1∨k=2∨k=3:=by omega
    all_goals exact⟨by decide+kernel,by kernel_rfl⟩) kQ kQ w
theorem zwp {w:World} {B:Nat} {A:Nat→Option Addr} {n c:Nat→Nat} {I:Nat→It} (h:∀k,k<5→zat w B (zko A n c k) [I k]):∃A' n',crV A n c=crV A' n' c∧zcm w A' n' (fun k=>[I k])∧(∀k,n' k≤1)∧∀k,A' k=none→n' k=0:=by
 have h1:∀k,k<5→n k=1∧zcK w (A k) (n k) [I k]∧(A k=none→n k=0):=fun k hk=>by
  obtain⟨A0,c0,e,_,_,hr,hz⟩:=(h k hk).rd;unfold zko at e
  injection e with e1 e2 e3
  rw[e1,e2];exact⟨rfl,hr,hz⟩
 refine⟨fun k=>if k<5 then A k else none,fun k=>if k<5 then n k else 0,rfl,fun k hk=>?_,fun k=>?_,fun k hk=>?_⟩
 ·dsimp only;rw[if_pos hk,if_pos hk];exact(h1 k hk).2.1
 ·dsimp only;split
  ·rw[(h1 k ‹_›).1];exact waJ _
  ·exact waK _
 ·dsimp only at hk ⊢;split
  ·rw[if_pos ‹_›] at hk;exact(h1 k ‹_›).2.2 hk
  ·rfl
theorem zs5:chk zd0=(5,0):=ziI fun k hk=>by
 obtain rfl|rfl|rfl|rfl|rfl:k=0∨k=1∨k=2∨k=3∨k=4:=by omega
 all_goals kernel_rfl
theorem zoy {F:Nat→List It} (h:∀k,k<5→F k=zd0 k):zcX (zao [zaT F]):=fun n s h0 h1 hs=>by
 show zrU [zaT F] _=_;rw[zkp,znY h];show zlu zd0 n s=_;rw[zhc _ h0 h1 hs];have d:=za2 h0 h1;have wb:=zcP n;have a0:∀k:Nat,k<60→inB (zd0 0) 0 59 (k:Int)=true:=by decide+kernel
 have a1:∀k:Nat,k<24→inB (zd0 1) 0 23 (k:Int)=true:=by decide+kernel
 have a3:∀k:Nat,k<13→1≤k→inB (zd0 3) 1 12 (k:Int)=true:=by decide+kernel
 have a2:∀k:Nat,k<32→1≤k→inB (zd0 2) 1 31 (k:Int)=true:=by decide+kernel
 have a4:∀k:Nat,k<8→1≤k→wkB zd0 (k:Int)=true:=by decide+kernel
 have es:(zcL (zd0 2)||zcL (zd0 4))=true:=by decide+kernel
 rw[if_pos es,a0 _ (by omega),a1 _ (by omega)]
 have e3:=a3 (mD n).toNat oQ oQ;have e2:=a2 (dD n).toNat oQ oQ;have e4:=a4 (wdD n).toNat oQ oQ;rw[Int.toNat_of_nonneg (by omega)] at e3 e2 e4
 rw[e3,e2,e4];simp
theorem zq4 {P:Int→Nat→Bool} (h:zcX P) (k:Nat):zb0 P k=[⟨0,0,0,1⟩]:=by
 by_cases hk:k<5
 ·exact zmB h k hk
 ·have e:zb0 P k=zb0 P 4:=by
   unfold zb0 zeV;rw[if_neg (by omega),if_neg (by omega),if_neg (by omega),if_neg (by omega)];rfl
  rw[e];exact zmB h 4 (by decide)
theorem zwq {P:Int→Nat→Bool} (h:zcX P):chk (zb0 P)=(5,0):=zmA ⟨0,zkk h dQ dQ⟩ (zuw h)
theorem zu5 {P:Int→Nat→Bool} (h:zcX P):zc5 (zkl (zef (zb0 P)))=zc5 [42,32,42,32,42,32,42,32,42]:=by
 have e:zef (zb0 P)=zef (fun _=>[⟨0,0,0,1⟩]):=by
  congr 1;funext k;exact zq4 h k
 rw[e];congr 1
theorem zl7 (w:World) (hp:Pow w) (ht:Tz w):Calls prog 7 #[] w (Ret (.bool true) w):=by
 have HA:=waV (fun W=>zu4 W)
 have HP:=waV hp;have HT:=waV ht;clear hp ht;go_enter func7,ntmps7;go_wp2_with fail;refine(HA.out _).mono ?_;rintro e w1 ⟨hb1,A,n,c,rfl,ho⟩
 ·obtain⟨A,n,e,hrd,hn,hz⟩:=zwp ho;rw[e];have hev:zcX (zao [zaT zd0]):=zoy fun k hk=>rfl
  have HLw:=waV (fun W (hb:Below w1.heap.size w1 W)=>zje A n c zd0 W (hrd.below hb (waJ _)) (fun k=>by have:=hn k;omega) hz (by rw[zs5]))
  have HRs:=waV (fun b W (hr:zbd W (some ⟨b,0,none⟩) 1 [zaT zd0]) (ht:Tz W)=>zeM (some ⟨b,0,none⟩) 1 1 [zaT zd0] W hr (by decide) (fun h=>(by cases h)) (fun k hk=>by rw[wbC.1 hk];exact⟨zhb zd0,show(1:Int)≤9223372036854775807 by decide⟩) ht)
  have HE:Hid (zbA 1 [zaT zd0]=0):=by show _=_;unfold zbA;rw[if_neg (by decide),if_pos (zjD zd0)]
  have HEv:=waV hev;clear hrd hn hz HA hev ho e;generalize zd0=F at *;go_wp2_with fail;refine(HLw.out _ (by exact zaI)).mono ?_
  rintro e w2 ⟨b,rfl,hr,hq2⟩;have hb2:Below w.heap.size w w2:=(hb1.alloc hb1.size _).trans (hq2.mono (by simp;have:=hb1.size;omega))
  have HR:=waV (HRs.out b w2 hr (HT.out.below hb2));clear hb1 hq2 hr HLw HRs;go_wp2_with fail;refine HR.out.mono ?_;rintro e w3 ⟨hb3,(⟨h,_⟩|⟨_,(⟨h,_⟩|⟨l,v,h,rfl,ho⟩)⟩)⟩
  ·exact absurd HE.out h
  ·cases zpT HEv.out h
  ·obtain rfl:=waB (zpT HEv.out h);obtain⟨A',n',c',e,hr',hz',hn',_⟩:=ho.rd;obtain⟨S0,n0,d0,S1,n1,d1,S2,n2,d2,S3,n3,d3,S4,n4,d4,hv⟩:=ho.five;have hb03:=hb2.trans (hb3.mono hb2.size);have HSh:=waV (fun W (hb:Below w3.heap.size w3 W)=>(show Calls prog 24 #[v] W (Ret (.tuple #[.string (zc5 [42,32,42,32,42,32,42,32,42]),.int .i64 0]) W) by
    rw[e,←zu5 HEv.out];exact zu1 A' n' c' _ W (hr'.below hb (waJ _)) (fun k=>by rw[hn' k];split;rw[zq4 HEv.out k];decide;exact waK _) hz' (fun k it hit=>by rw[zq4 HEv.out k] at hit;rw[wbC.1 hit];exact⟨⟨by decide,by decide⟩,⟨by decide,by decide⟩,⟨by decide,by decide⟩,⟨by decide,by decide⟩⟩) (zcY HP.out (hb03.trans (hb.mono hb03.size))) (zwq HEv.out)))
   subst hv;clear ho hr' hz' hn' e h HP HT HE HEv HR hb2 hb3;go_wp2_with fail;refine(HSh.out _ (by exact zaI)).mono ?_
   rintro e w4 ⟨rfl,hq4⟩;have hb4:Below w.heap.size w w4:=(hb03.alloc hb03.size _).trans (hq4.mono (by simp;have:=hb03.size;omega))
   clear HSh hq4;have hs:((zc5 [42,32,42,32,42,32,42,32,42]).toList==[42,32,42,32,42,32,42,32,42])=true:=by decide+kernel
   go_wp2;go_ret;exact⟨rfl,hb4⟩
theorem zs6 (m:Int) (k:Nat):m / 2^k / 2=m / 2^(k+1):=by
 rw[Int.ediv_ediv_of_nonneg (Int.le_of_lt (Int.pow_pos (by decide))),Int.pow_succ]
theorem zwr {m:Int} (h:M64 m) (k:Nat):0≤m / 2^k∧m / 2^k<18446744073709551616:=by
 have hp:(0:Int)<2^k:=Int.pow_pos dQ;have h1:0≤m / 2^k:=Int.ediv_nonneg h.1 (Int.le_of_lt hp);have h2:m / 2^k≤m:=Int.ediv_le_self _ h.1;exact⟨h1,by have:=h.2;omega⟩
theorem zhK (m:Int) (hm:M64 m) (n:Int) (w:World):Calls prog 15 #[.int .u64 m,.int .i64 n] w (zbO (.bool (zbP m n)) w):=by
 by_cases h0:n<0
 ·have HR:Hid (zbP m n=false):=waO oQ;clear hm;go_enter func15,ntmps15;go_wp2;go_ret;exact⟨zaf HR.out.symm,rfl⟩
 ·by_cases h63:63<n
  ·have HR:Hid (zbP m n=false):=waO oQ;clear hm;go_enter func15,ntmps15;go_wp2;go_ret;exact⟨zaf HR.out.symm,rfl⟩
  ·obtain⟨N,rfl⟩:∃N:Nat,n=(N:Int):=⟨n.toNat,by omega⟩
   have HM:=waV hm;have HR:Hid (zbP m (N:Int)=(m / 2^N%2==1)):=by
    show _=_;unfold zbP;rw[waQ,waM,beq_iff_eq];exact⟨fun h=>h.2.2,fun h=>⟨by omega,by omega,h⟩⟩
   rw[HR.out];have HH:=waV (zs6 m);have h0':¬(N:Int)<0:=h0;have h63':¬(N:Int)>63:=h63;have hN:N<64:=by omega
   clear hm HR h0 h63;go_enter func15,ntmps15;go_wp2
   go_loopw [0,5] (fun x i wr=>∃(k:Nat) (q:Int),k≤N∧Hid (q=m / 2^k)∧x=.int .u64 q∧i=.int .i64 k∧wr=w) (fun _ i _=>N - (intOf i).toNat)
   case atStart=>exact⟨0,m,waK _,by show _=_;simp,rfl,by go_num,rfl⟩
   case round=>
    obtain⟨k,q,hk,HQ,rfl,rfl,rfl⟩:=hrel;have hq:=zwr HM.out k;rw[←HQ.out] at hq;obtain⟨q0,q1⟩:=hq
    by_cases hlt:k<N
    ·have hlt':(k:Int)<(N:Int):=by omega
     go_wp2;go_roundw
     case rel=>exact⟨k+1,q / 2,by omega,by show _=_;rw[HQ.out,HH.out],by go_num,by go_num,by trivial⟩
     case measure=>simp [intOf];omega
    ·obtain rfl:k=N:=by omega
     have HQ2:Hid ((m / 2^k%2==1)=(q%2==1)):=by show _=_;rw[HQ.out]
     clear HQ;go_wp2;go_ret;exact⟨zaf HQ2.out.symm,rfl⟩
def zbk (m lo hi:Int):Bool:=(List.range 64).all fun k=>!zbP m (k:Int)||decide (lo≤(k:Int)∧(k:Int)≤hi)
theorem zne {m lo hi:Int} {k:Nat} (hk:k<64) (h:zbP m (k:Int)=true) (ho:¬(lo≤(k:Int)∧(k:Int)≤hi)):zbk m lo hi=false:=by
 unfold zbk;rw[List.all_eq_false];exact⟨k,wbG.2 hk,by rw[h,waO ho];decide⟩
theorem zfN {m lo hi:Int} (h:∀k:Nat,k<64→zbP m (k:Int)=true→lo≤(k:Int)∧(k:Int)≤hi):zbk m lo hi=true:=by
 unfold zbk;rw[List.all_eq_true];intro k hk;cases hh:zbP m (k:Int) with
 |false=>rfl
 |true=>rw [waP (h k (wbG.1 hk) hh)];rfl
theorem zb5 (m lo hi:Int) (hm:M64 m) (w:World):Calls prog 93 #[.int .u64 m,.int .i64 lo,.int .i64 hi] w (zbO (.bool (zbk m lo hi)) w):=by
 have HH:=waV (fun(k:Nat) W=>zhK m hm (k:Int) W)
 clear hm;go_enter func93,ntmps93;go_wp2
 go_loopw [7] (fun i wr=>∃k:Nat,k≤64∧i=.int .i64 k∧Hid (∀j:Nat,j<k→zbP m (j:Int)=true→lo≤(j:Int)∧(j:Int)≤hi)∧wr=w) (fun i _=>64 - (intOf i).toNat)
 case atStart=>exact⟨0,waK _,by go_num,fun j h=>absurd h (Nat.not_lt_zero _),rfl⟩
 case round=>
  obtain⟨k,hk,rfl,H,rfl⟩:=hrel
  by_cases hlt:k<64
  ·have hlt':(k:Int)<64:=by omega
   cases hh:zbP m (k:Int) with
   |false=>
    have HK:=waV (HH.out k wr);rw[hh] at HK;have HN:Hid (∀j:Nat,j<k+1→zbP m (j:Int)=true→lo≤(j:Int)∧(j:Int)≤hi):=fun j hj h=>by
     rcases Nat.lt_or_eq_of_le (Nat.le_of_lt_succ hj) with h1|rfl
     ·exact H.out j h1 h
     ·rw[hh] at h;cases h
    clear hh H HH;go_wp2_with fail;refine HK.out.mono ?_;rintro e w1 ⟨rfl,rfl⟩;go_wp2;go_roundw
    case rel=>exact⟨k+1,by omega,by go_num,HN.out,by trivial⟩
    case measure=>simp [intOf];omega
   |true=>
    have HK:=waV (HH.out k wr);rw[hh] at HK
    by_cases hlo:(k:Int)<lo
    ·have HR:=waV (zne hlt hh (lo:=lo) (hi:=hi) oQ);clear hh H HH;go_wp2_with fail;refine HK.out.mono ?_;rintro e w1 ⟨rfl,rfl⟩;go_wp2;go_ret;exact⟨zaf HR.out.symm,rfl⟩
    ·by_cases hhi:(k:Int)>hi
     ·have HR:=waV (zne hlt hh (lo:=lo) (hi:=hi) oQ);clear hh H HH;go_wp2_with fail;refine HK.out.mono ?_;rintro e w1 ⟨rfl,rfl⟩;go_wp2;go_ret;exact⟨zaf HR.out.symm,rfl⟩
     ·have HN:Hid (∀j:Nat,j<k+1→zbP m (j:Int)=true→lo≤(j:Int)∧(j:Int)≤hi):=fun j hj h=>by
       rcases Nat.lt_or_eq_of_le (Nat.le_of_lt_succ hj) with h1|rfl
       ·exact H.out j h1 h
       ·omega
      clear hh H HH;go_wp2_with fail;refine HK.out.mono ?_;rintro e w1 ⟨rfl,rfl⟩;go_wp2;go_roundw
      case rel=>exact⟨k+1,by omega,by go_num,HN.out,by trivial⟩
      case measure=>simp [intOf];omega
  ·obtain rfl:k=64:=by omega
   have HR:=waV (zfN H.out);clear H HH;go_wp2;go_ret;exact⟨zaf HR.out.symm,rfl⟩
def znf (c:Cl) (M:Int):Bool:=(List.range 7).all fun k=>zbk (c.od (k+1)) 1 M
theorem zl8 {c:Cl} {M:Int} {k:Nat} (hk:k<7) (h:zbk (c.od (k+1)) 1 M=false):znf c M=false:=by
 unfold znf;rw[List.all_eq_false];exact⟨k,wbG.2 hk,by rw[h];decide⟩
theorem zjE {c:Cl} {M:Int} (h:∀j:Nat,j<7→zbk (c.od (j+1)) 1 M=true):znf c M=true:=by
 unfold znf;rw[List.all_eq_true];exact fun k hk=>h k (wbG.1 hk)
def zgu (c:Cl):Bool:=if c.oi=0 then(!c.ob&&(decide (c.od 0=0)&&znf c 0)) else if c.oi=1 then(decide (c.od 0=0)&&znf c 5) else if c.oi=2 then(decide (c.od 0=0)&&znf c 53) else false
def gO (c:Cl) (j:Nat):Value:=(zdW c).getD j undef
theorem gO_at (c:Cl):∀j,j<(zdW c).size→(zdW c)[j]?=some (gO c j):=fun j hj=>by
 unfold gO;rw[wbL,wbI hj];rfl
theorem zq5 (c:Cl) (k:Nat) (hk:k<8):gO c (2+k)=.int .u64 (c.od k):=by
 obtain rfl|rfl|rfl|rfl|rfl|rfl|rfl|rfl:k=0∨k=1∨k=2∨k=3∨k=4∨k=5∨k=6∨k=7:=by omega
 all_goals rfl
theorem zq6 (c:Cl) (hc:∀k,k<8→M64 (c.od k)) (w:World):Calls prog 94 #[.agg (zdW c)] w (Ret (.bool (zgu c)) w):=by
 have HB:Hid (∀k M W,k<8→Calls prog 93 #[.int .u64 (c.od k),.int .i64 1,.int .i64 M] W (zbO (.bool (zbk (c.od k) 1 M)) W)):=fun k M W hk=>zb5 _ _ _ (hc k hk) W
 clear hc;have hbA:Below w.heap.size w (w.alloc (.cells (zdW c) 58)):=(waC _ w).alloc (waJ _) _;have HC:Hid (Arr (w.alloc (.cells (zdW c) 58)) w.heap.size 10 (gO c)):=zdG w (zdW c) 58 (gO c) (gO_at c)
 by_cases h0:c.oi=0
 ·have e0:(c.oi==0)=true:=by rw[h0];rfl
  have e2:(c.oi==2)=false:=by rw[h0];rfl
  have q1:¬c.oi<0:=by omega
  have q2:¬c.oi>2:=by omega
  cases hb:c.ob with
  |true=>
   have HF:Hid (zgu c=false):=by
    show _=_;unfold zgu;rw[if_pos h0,hb];rfl
   clear h0 HC;go_enter func94,ntmps94;go_wp2;go_ret;exact⟨zaf HF.out.symm,hbA⟩
  |false=>
   have HR:Hid (zgu c=(decide (c.od 0=0)&&znf c 0)):=by
    show _=_;unfold zgu;rw[if_pos h0,hb];rfl
   clear h0
   by_cases hd:c.od 0=0
   ·have hz:(c.od 0 !=0)=false:=by rw[hd];rfl
    have HD:=waV hd;clear hd;go_enter func94,ntmps94;go_wp2_with fail;generalize hgA:(w.alloc (.cells (zdW c) 58))=V at *;clear hgA hz
    go_loopw [4] (fun i wr=>∃k:Nat,k≤7∧i=.int .i64 ((k:Int)+1)∧Hid (∀j:Nat,j<k→zbk (c.od (j+1)) 1 0=true)∧wr=V) (fun i _=>8 - (intOf i).toNat)
    case atStart=>exact⟨0,waK _,by go_num,fun j h=>absurd h (Nat.not_lt_zero _),rfl⟩
    case round=>
     obtain⟨k,hk,rfl,H,rfl⟩:=hrel
     by_cases hlt:k<7
     ·have hlt':(k:Int)+1<8:=by omega
      have hlt0:¬(k:Int)+1<0:=by omega
      have ck:=HC.out.1 (2+(k+1)) oQ;rw[zq5 c (k+1) (by omega)] at ck
      have hi1:((k:Int)+1).toNat=k+1:=by omega
      cases hh:zbk (c.od (k+1)) 1 0 with
      |false=>
       have HK:=waV (HB.out (k+1) 0 wr oQ);rw[hh] at HK;have HF:Hid (zgu c=false):=by
        show _=_;rw[HR.out,zl8 hlt hh,Bool.and_false]
       clear hh H HC;go_wp2_with fail;refine HK.out.mono ?_;rintro e w1 ⟨rfl,rfl⟩;go_wp2;go_ret;exact⟨zaf HF.out.symm,hbA⟩
      |true=>
       have HK:=waV (HB.out (k+1) 0 wr oQ);rw[hh] at HK;have HN:Hid (∀j:Nat,j<k+1→zbk (c.od (j+1)) 1 0=true):=fun j hj=>by
        rcases Nat.lt_or_eq_of_le (Nat.le_of_lt_succ hj) with h1|rfl
        ·exact H.out j h1
        ·exact hh
       clear hh H HC;go_wp2_with fail;refine HK.out.mono ?_;rintro e w1 ⟨rfl,rfl⟩;go_wp2;go_roundw
       case rel=>exact⟨k+1,by omega,by go_num,HN.out,by trivial⟩
       case measure=>simp [intOf];omega
     ·obtain rfl:k=7:=by omega
      have HT:Hid (zgu c=true):=by
       show _=_;rw[HR.out,waP HD.out,zjE H.out];rfl
      clear H HC;go_wp2;go_ret;exact⟨zaf HT.out.symm,hbA⟩
   ·have hz:(c.od 0 !=0)=true:=by simpa using hd
    have HF:Hid (zgu c=false):=by
     show _=_;rw[HR.out,waO hd];rfl
    clear hd HC;go_enter func94,ntmps94;go_wp2;go_ret;exact⟨zaf HF.out.symm,hbA⟩
 ·have e0:(c.oi==0)=false:=by simpa using h0
  by_cases h1:c.oi=1
  ·have e2:(c.oi==2)=false:=by rw[h1];rfl
   have q1:¬c.oi<0:=by omega
   have q2:¬c.oi>2:=by omega
   have HR:Hid (zgu c=(decide (c.od 0=0)&&znf c 5)):=by
    show _=_;unfold zgu;rw[if_neg h0,if_pos h1]
   clear h0 h1
   by_cases hd:c.od 0=0
   ·have hz:(c.od 0 !=0)=false:=by rw[hd];rfl
    have HD:=waV hd;clear hd;go_enter func94,ntmps94;go_wp2_with fail;generalize hgA:(w.alloc (.cells (zdW c) 58))=V at *;clear hgA hz
    go_loopw [4] (fun i wr=>∃k:Nat,k≤7∧i=.int .i64 ((k:Int)+1)∧Hid (∀j:Nat,j<k→zbk (c.od (j+1)) 1 5=true)∧wr=V) (fun i _=>8 - (intOf i).toNat)
    case atStart=>exact⟨0,waK _,by go_num,fun j h=>absurd h (Nat.not_lt_zero _),rfl⟩
    case round=>
     obtain⟨k,hk,rfl,H,rfl⟩:=hrel
     by_cases hlt:k<7
     ·have hlt':(k:Int)+1<8:=by omega
      have hlt0:¬(k:Int)+1<0:=by omega
      have ck:=HC.out.1 (2+(k+1)) oQ;rw[zq5 c (k+1) (by omega)] at ck
      have hi1:((k:Int)+1).toNat=k+1:=by omega
      cases hh:zbk (c.od (k+1)) 1 5 with
      |false=>
       have HK:=waV (HB.out (k+1) 5 wr oQ);rw[hh] at HK;have HF:Hid (zgu c=false):=by
        show _=_;rw[HR.out,zl8 hlt hh,Bool.and_false]
       clear hh H HC;go_wp2_with fail;refine HK.out.mono ?_;rintro e w1 ⟨rfl,rfl⟩;go_wp2;go_ret;exact⟨zaf HF.out.symm,hbA⟩
      |true=>
       have HK:=waV (HB.out (k+1) 5 wr oQ);rw[hh] at HK;have HN:Hid (∀j:Nat,j<k+1→zbk (c.od (j+1)) 1 5=true):=fun j hj=>by
        rcases Nat.lt_or_eq_of_le (Nat.le_of_lt_succ hj) with h1|rfl
        ·exact H.out j h1
        ·exact hh
       clear hh H HC;go_wp2_with fail;refine HK.out.mono ?_;rintro e w1 ⟨rfl,rfl⟩;go_wp2;go_roundw
       case rel=>exact⟨k+1,by omega,by go_num,HN.out,by trivial⟩
       case measure=>simp [intOf];omega
     ·obtain rfl:k=7:=by omega
      have HT:Hid (zgu c=true):=by
       show _=_;rw[HR.out,waP HD.out,zjE H.out];rfl
      clear H HC;go_wp2;go_ret;exact⟨zaf HT.out.symm,hbA⟩
   ·have hz:(c.od 0 !=0)=true:=by simpa using hd
    have HF:Hid (zgu c=false):=by
     show _=_;rw[HR.out,waO hd];rfl
    clear hd HC;go_enter func94,ntmps94;go_wp2;go_ret;exact⟨zaf HF.out.symm,hbA⟩
  ·by_cases h2:c.oi=2
   ·have e2:(c.oi==2)=true:=by rw[h2];rfl
    have q1:¬c.oi<0:=by omega
    have q2:¬c.oi>2:=by omega
    have HR:Hid (zgu c=(decide (c.od 0=0)&&znf c 53)):=by
     show _=_;unfold zgu;rw[if_neg h0,if_neg h1,if_pos h2]
    clear h0 h1 h2
    by_cases hd:c.od 0=0
    ·have hz:(c.od 0 !=0)=false:=by rw[hd];rfl
     have HD:=waV hd;clear hd;go_enter func94,ntmps94;go_wp2_with fail;generalize hgA:(w.alloc (.cells (zdW c) 58))=V at *;clear hgA hz
     go_loopw [4] (fun i wr=>∃k:Nat,k≤7∧i=.int .i64 ((k:Int)+1)∧Hid (∀j:Nat,j<k→zbk (c.od (j+1)) 1 53=true)∧wr=V) (fun i _=>8 - (intOf i).toNat)
     case atStart=>exact⟨0,waK _,by go_num,fun j h=>absurd h (Nat.not_lt_zero _),rfl⟩
     case round=>
      obtain⟨k,hk,rfl,H,rfl⟩:=hrel
      by_cases hlt:k<7
      ·have hlt':(k:Int)+1<8:=by omega
       have hlt0:¬(k:Int)+1<0:=by omega
       have ck:=HC.out.1 (2+(k+1)) oQ;rw[zq5 c (k+1) (by omega)] at ck
       have hi1:((k:Int)+1).toNat=k+1:=by omega
       cases hh:zbk (c.od (k+1)) 1 53 with
       |false=>
        have HK:=waV (HB.out (k+1) 53 wr oQ);rw[hh] at HK;have HF:Hid (zgu c=false):=by
         show _=_;rw[HR.out,zl8 hlt hh,Bool.and_false]
        clear hh H HC;go_wp2_with fail;refine HK.out.mono ?_;rintro e w1 ⟨rfl,rfl⟩;go_wp2;go_ret;exact⟨zaf HF.out.symm,hbA⟩
       |true=>
        have HK:=waV (HB.out (k+1) 53 wr oQ);rw[hh] at HK;have HN:Hid (∀j:Nat,j<k+1→zbk (c.od (j+1)) 1 53=true):=fun j hj=>by
         rcases Nat.lt_or_eq_of_le (Nat.le_of_lt_succ hj) with h1|rfl
         ·exact H.out j h1
         ·exact hh
        clear hh H HC;go_wp2_with fail;refine HK.out.mono ?_;rintro e w1 ⟨rfl,rfl⟩;go_wp2;go_roundw
        case rel=>exact⟨k+1,by omega,by go_num,HN.out,by trivial⟩
        case measure=>simp [intOf];omega
      ·obtain rfl:k=7:=by omega
       have HT:Hid (zgu c=true):=by
        show _=_;rw[HR.out,waP HD.out,zjE H.out];rfl
       clear H HC;go_wp2;go_ret;exact⟨zaf HT.out.symm,hbA⟩
    ·have hz:(c.od 0 !=0)=true:=by simpa using hd
     have HF:Hid (zgu c=false):=by
      show _=_;rw[HR.out,waO hd];rfl
     clear hd HC;go_enter func94,ntmps94;go_wp2;go_ret;exact⟨zaf HF.out.symm,hbA⟩
   ·have e2:(c.oi==2)=false:=by simpa using h2
    have HF:Hid (zgu c=false):=by
     show _=_;unfold zgu;rw[if_neg h0,if_neg h1,if_neg h2]
    by_cases q1:c.oi<0
    ·clear h0 h1 h2 HC;go_enter func94,ntmps94;go_wp2;go_ret;exact⟨zaf HF.out.symm,hbA⟩
    ·have q2:c.oi>2:=by omega
     clear h0 h1 h2 HC;go_enter func94,ntmps94;go_wp2;go_ret;exact⟨zaf HF.out.symm,hbA⟩
theorem zq7 (g:Nat→Int) (hg:∀k,k<7→M64 (g k)) (n:Int) (h0:0<n) (h4:n<400) (w:World):Calls prog 152 #[wdV g,.int .i64 n] w (Ret (.bool (zgz g n)) w):=by
 obtain⟨N,rfl⟩:∃N:Nat,n=(N:Int):=⟨n.toNat,by omega⟩
 have hq:N / 64<7:=by omega
 have HR:Hid (zgz g (N:Int)=zbP (g (N / 64)) ((N%64:Nat):Int)):=by
  show _=_;unfold zgz;rw[waP (by omega),Bool.true_and,show((N:Int) / 64).toNat=N / 64 by omega,show(N:Int)%64=((N%64:Nat):Int) by omega]
 have HH:=waV (fun W=>zhK (g (N / 64)) (hg _ hq) ((N%64:Nat):Int) W)
 rw[HR.out];have hbA:Below w.heap.size w (w.alloc (.cells #[.int .u64 (g 0),.int .u64 (g 1),.int .u64 (g 2),.int .u64 (g 3),.int .u64 (g 4),.int .u64 (g 5),.int .u64 (g 6)] 59)):=(waC _ w).alloc (waJ _) _;unfold wdV;have n1:¬(N:Int)<0:=by omega
 have n0:0<N:=by omega
 have n2:(N:Int)<400:=h4;have e3:(N:Int) / 64%7=((N / 64:Nat):Int):=by omega
 have e4:(N:Int)%64=((N%64:Nat):Int):=by omega
 have cq:∀(Q:Nat) (h:Q<([Value.int .u64 (g 0),Value.int .u64 (g 1),Value.int .u64 (g 2),Value.int .u64 (g 3),Value.int .u64 (g 4),Value.int .u64 (g 5),Value.int .u64 (g 6)]:List Value).length),([Value.int .u64 (g 0),Value.int .u64 (g 1),Value.int .u64 (g 2),Value.int .u64 (g 3),Value.int .u64 (g 4),Value.int .u64 (g 5),Value.int .u64 (g 6)]:List Value)[Q]'h=.int .u64 (g Q):=fun Q h=>by
  have h7:Q<7:=h;obtain rfl|rfl|rfl|rfl|rfl|rfl|rfl:Q=0∨Q=1∨Q=2∨Q=3∨Q=4∨Q=5∨Q=6:=by omega
  all_goals rfl
 replace cq:=cq (N / 64);generalize hQ:N / 64=Q at *;generalize N%64=R at *;have q1:¬(Q:Int)<0:=by omega
 have q2:(Q:Int)<7:=by omega
 clear hg HR hQ;go_enter func152,ntmps152;go_wp2_with fail;refine(HH.out _).mono ?_;rintro e w1 ⟨rfl,rfl⟩;go_wp2;go_ret;exact⟨rfl,hbA⟩
theorem zq8 (g:Nat→Int) (hg:∀k,k<7→M64 (g k)) (n:Int) (h0:0≤n) (h4:n<400) (w:World):Calls prog 152 #[wdV g,.int .i64 n] w (Ret (.bool (zgz g n)) w):=by
 by_cases h:0<n
 ·exact zq7 g hg n h h4 w
 ·obtain rfl:n=0:=by omega
  have HH:=waV (fun W=>zhK (g 0) (hg 0 dQ) 0 W)
  have HR:Hid (zgz g 0=zbP (g 0) 0):=by
   show _=_;unfold zgz;rfl
  rw[HR.out];generalize zbP (g 0) 0=r at *;unfold wdV;clear hg h HR;go_enter func152,ntmps152;go_wp2_with fail;refine(HH.out _).mono ?_;rintro e w1 ⟨rfl,rfl⟩;go_wp2;go_ret;exact⟨rfl,(waC _ w).alloc (waJ _) _⟩
def yrL (g:Nat→Int) (k:Nat):List Int:=((List.range k).filter fun(i:Nat)=>zgz g (i:Int)).map fun(i:Nat)=>(i:Int)
theorem zs7 (g:Nat→Int) (k:Nat):yrL g (k+1)=yrL g k++(if zgz g (k:Int) then [(k:Int)] else []):=by
 unfold yrL;rw[List.range_succ,List.filter_append,List.map_append];refine congrArg (List.map (fun(i:Nat)=>(i:Int)) (List.filter (fun(i:Nat)=>zgz g (i:Int)) (List.range k))++·) ?_
 cases h:zgz g (k:Int) with
 |true=>simp only[List.filter_cons,h,List.filter_nil,if_true,List.map_cons,List.map_nil]
 |false=>simp only[List.filter_cons,h,List.filter_nil,Bool.false_eq_true,if_false,List.map_nil]
theorem zq9 (g:Nat→Int) (k:Nat):(yrL g k).length≤k:=by
 unfold yrL;rw[List.length_map];exact waW (List.length_filter_le _ _) (by simp)
theorem zoz (g:Nat→Int) (hg:∀k,k<7→M64 (g k)) (w:World):Calls prog 96 #[wdV g] w (ztl (yrL g 400) w):=by
 obtain⟨i0,hi0,hz0,hz1,hz2⟩:=info_parts ziJ;have HH:=waV (fun n h0 h4 W=>zq8 g hg n h0 h4 W)
 have HC:Hid (Arr (w.alloc (.cells #[.int .u64 (g 0),.int .u64 (g 1),.int .u64 (g 2),.int .u64 (g 3),.int .u64 (g 4),.int .u64 (g 5),.int .u64 (g 6)] 59)) w.heap.size 7 (fun j=>.int .u64 (g j))):=zeA w 59 (.int .u64 (g 0)) (.int .u64 (g 1)) (.int .u64 (g 2)) (.int .u64 (g 3)) (.int .u64 (g 4)) (.int .u64 (g 5)) (.int .u64 (g 6)) (fun j=>.int .u64 (g j)) rfl rfl rfl rfl rfl rfl rfl
 have hbA:Below w.heap.size w (w.alloc (.cells #[.int .u64 (g 0),.int .u64 (g 1),.int .u64 (g 2),.int .u64 (g 3),.int .u64 (g 4),.int .u64 (g 5),.int .u64 (g 6)] 59)):=(waC _ w).alloc (waJ _) _;have hzV:(w.alloc (.cells #[.int .u64 (g 0),.int .u64 (g 1),.int .u64 (g 2),.int .u64 (g 3),.int .u64 (g 4),.int .u64 (g 5),.int .u64 (g 6)] 59)).heap.size=w.heap.size+1:=by simp
 unfold wdV at *;clear hg;go_enter func96,ntmps96;go_wp2_with fail;generalize (w.alloc (.cells #[.int .u64 (g 0),.int .u64 (g 1),.int .u64 (g 2),.int .u64 (g 3),.int .u64 (g 4),.int .u64 (g 5),.int .u64 (g 6)] 59))=V at *;have HzV:=waV hzV;clear hzV
 go_loopw [3,4] (fun v i wr=>∃(vo:Value) (k:Nat),vo=v∧k≤400∧i=.int .i64 k∧Hid (zbl wr V.heap.size vo (yrL g k))∧Below V.heap.size V wr) (fun _ i _=>400 - (intOf i).toNat)
 case atStart=>exact⟨_,0,rfl,waK _,by go_num,World.ownsRow_nil _ _ _ _,waC _ _⟩
 case round=>
  obtain⟨vo,k,rfl,hk,rfl,HO,hb⟩:=hrel;have hsz:=hb.size
  by_cases hlt:k<400
  ·have hc1:(k:Int)<400:=by omega
   have HS:=waV (zs7 g k);have hln:=zq9 g k;obtain⟨c0,c1,c2,c3,c4,c5,c6,_⟩:=arr7 (Arr.below HC.out (Arr.lt HC.out dQ) hb);cases hv:zgz g (k:Int) with
   |false=>
    have HI1:=waV (HH.out (k:Int) oQ oQ wr);rw[hv] at HS HI1;clear hv;go_wp2_with fail;refine HI1.out.mono ?_;rintro e w1 ⟨rfl,hb1⟩;go_wp2;go_roundw
    case rel=>
     have HS':Hid (yrL g (k+1)=yrL g k):=by show _=_;rw[HS.out];simp
     exact⟨_,k+1,rfl,by omega,by go_num,by rw[HS'.out];exact zae HO.out hb1,zak hb hb1 hsz⟩
    case measure=>simp [intOf];omega
   |true=>
    have HI1:=waV (HH.out (k:Int) oQ oQ wr);rw[hv] at HS HI1;have HS1:Hid (yrL g (k+1)=yrL g k++[(k:Int)]):=by show _=_;rw[HS.out];simp
    clear hv HS;have HSN:Hid ((yrL g k).map (Value.int .i64)++[.int .i64 (k:Int)]=(yrL g (k+1)).map (Value.int .i64)):=by
     show _=_;rw[HS1.out];simp
    have HNL:Hid ((yrL g (k+1)).length=(yrL g k).length+1):=by
     show _=_;rw[HS1.out];simp
    generalize hX1:yrL g (k+1)=X1 at *;have HX1:=waV hX1;clear hX1;generalize yrL g k=X0 at *;go_wp2_with fail;refine HI1.out.mono ?_;rintro e w1 ⟨rfl,hb1⟩;have HO1:=waV (zae HO.out hb1);have hb2:=zak hb hb1 hsz;have hsz2:=hb2.size;clear c0 c1 c2 c3 c4 c5 c6
    go_wp2_with (at_builtin;refine wpList_append_own _ rfl _ _ 35 rfl V.heap.size 3 i0 (.int .i64 0) 1 8 underlying35 hi0 hz0 hz1 hz2 rfl dQ _ X0.length _ rfl (HO1.out.alloc _) ⟨w1.heap.size,0,none⟩ 1 1 [.int .i64 (k:Int)] rfl rfl ?c1 ?c2 ?c3 ?c4 ?c5 ?c6)
    case c1=>
     intro j' u hu;rcases j' with _|j'
     ·simp at hu;subst hu;exact zaa rfl rfl
     ·simp at hu
    case c2=>intro u hu;simp at hu;subst hu;rfl
    case c3=>simp only[maxLen];omega
    case c4=>omega
    case c5=>simp;omega
    case c6=>
     intro v' w' hown hg _;have HV:Hid (zbl w' V.heap.size v' X1):=by
      show World.ownsRow _ _ _ _ _ _ _;rw[HNL.out,←HSN.out];exact hown
     have hbn:Below V.heap.size V w':=zeX (HO1.out.alloc _) (hb2.alloc oQ _) (by simp;omega) hg
     clear hown hg;go_wp2;go_roundw
     case rel=>exact⟨_,k+1,rfl,by omega,by go_num,by rw[HX1.out];exact HV.out,hbn⟩
     case measure=>simp [intOf];omega
  ·obtain rfl:k=400:=by omega
   have HO2:Hid (zbl wr w.heap.size vo (yrL g 400)):=zap HO.out (by rw[HzV.out];omega)
   go_wp2;go_ret;exact⟨_,rfl,HO2.out,hbA.trans (hb.mono hbA.size)⟩
end Go.Proofs.YtgedndlifiihkaaGreatDoor
