/- A part of the proof: WRd36 LTc36 LTcL PTabR -/
import Derived.Test.YtgedndlifiihkaaGreatDoorQ12
import Derived.Test.YtgedndlifiihkaaGreatDoorQ11
import Derived.Test.YtgedndlifiihkaaGreatDoorQ13
import Derived.Test.YtgedndlifiihkaaGreatDoorQ39
import Derived.Test.YtgedndlifiihkaaGreatDoorCards
import Derived.Test.YtgedndlifiihkaaGreatDoorTie
import Derived.Deep.DeepHandedRow
import Derived.Lib.LaidTab
import Derived.LaidSub
import Derived.MakeChecks
import Derived.Test.YtgedndlifiihkaaGreatDoorQ03
import Derived.Test.YtgedndlifiihkaaGreatDoorQ02
import Derived.Lib.LaidCaseMet
import Derived.PinnedBridge
import Derived.Deep.DeepWitnessRowRef
set_option maxHeartbeats 80000000
set_option maxRecDepth 100000
set_option linter.unusedSimpArgs false
set_option linter.unusedVariables false
namespace Go.Proofs.YtgedndlifiihkaaGreatDoor
open Go.Proofs.Tryz
open Go.RowKit
theorem zun (f:Nat) (hf:f<3) (w:World):Calls prog 161 #[.int .i64 (f:Int)] w (zb0 (.slice none 0 0) w):=by
 have e3:((f:Int)==3)=false:=by simp;omega
 have e4:((f:Int)==4)=false:=by simp;omega
 clear hf;go_enter func161,ntmps161;go_wp2;go_ret;exact⟨rfl,rfl⟩
theorem zvw (b f:Nat) (hf:f<3) (s:ByteArray) (hs:s.size≤1000000) (l r:List UInt8) (n0:Int) (w:World) (h:zcJ w b s l) (hp:zuS 2 l=.ok (n0,r)) (g1:¬n0<cLo f) (g2:¬cHi f<n0):
 Calls prog 107 #[rdV b f] w (zmb (.int .i64 n0) b s r w):=by
 have hs:s.size≤9223372036854775807:=by omega
 have hlt:=h.lt;have hne:w.heap.size≠b:=by omega
 have HAt:=waV (fun W (hW:Below w.heap.size w W)=>zpM (h.below hW))
 have HL:=waV (fun W (hW:Below w.heap.size w W)=>h.below hW)
 have HBo:=waV (fun W=>zfc f oQ W)
 have HNm:=waV (fun W=>zun f hf W)
 have HN:=waV (fun W (h:zcJ W b s l)=>zo5 hs (most:=2) dQ h hp)
 clear h hp hf;go_enter func107,ntmps107;go_wp2_with fail;refine(HBo.out _).mono ?_;rintro e w1 ⟨rfl,hb1⟩;have HB1:=waV ((zll w b (f:Int) 104).below hb1);have hbA:Below w.heap.size w w1:=((waC _ w).alloc (waJ _) _).trans (hb1.mono (by simp))
 have hzA:=hbA.size;clear hb1;go_wp2_with fail;obtain⟨W1,rfl⟩:∃W1:World,W1=w1:=⟨_,rfl⟩;have HS:Hid (∀w',Below W1.heap.size W1 w'→Below W1.heap.size W1 w'∧w'.cell? ⟨w.heap.size,0,none⟩=some (.pointer (some ⟨b,0,none⟩))∧w'.cell? ⟨w.heap.size,1,none⟩=some (.int .i64 (f:Int))):=fun w' h=>⟨h,(HB1.out.below h).1,(HB1.out.below h).2⟩
 have HW:Hid (∀w',Below W1.heap.size W1 w'→Below w.heap.size w w'):=fun w' h=>zai hbA h hzA
 go_region_held3 (fun w'=>Below W1.heap.size W1 w'∧w'.cell? ⟨w.heap.size,0,none⟩=some (.pointer (some ⟨b,0,none⟩))∧w'.cell? ⟨w.heap.size,1,none⟩=some (.int .i64 (f:Int)))
  (first|(go_split_ands;refine HS.out _ (zai ?_ hb1 ?_);assumption;exact Below.size (by assumption))|(go_split_ands;refine HS.out _ (Below.alloc ?_ ?_ _);assumption;exact Below.size (by assumption))|(refine HS.out _ ?_;exact Below.drew (waC _ _))|(refine HS.out _ ?_;exact zax (waC _ _) _))
  (first|(go_at_call 56;(with_reducible refine(HAt.out _ ?_).mono ?_);(focus (go_split_ands;exact HW.out _ (by assumption)));rintro e w1 ⟨rfl,rfl⟩)|(go_at_call 161;(with_reducible refine(HNm.out _).mono ?_);rintro e w1 ⟨rfl,rfl⟩))
 have hb2:Below W1.heap.size W1 W1.drew:=(waC _ _).drew;have hbB:Below w.heap.size w W1.drew:=HW.out _ hb2;have HB2:=waV (HB1.out.below hb2);clear HS HW
 try simp only[Exit.inBlock,Exit.then]
 generalize W1.drew=w1 at *;have h2:=HL.out _ hbB;have hgA:Chg b w w1:=Chg.of_below hbB;go_wp2_with fail;refine(HN.out _ h2).mono ?_;rintro e w4 ⟨rfl,h4,g4⟩;go_wp2;go_ret;exact⟨rfl,h4,hgA.trans g4⟩
theorem ztg (b f:Nat) (hf:f<3) (s:ByteArray) (hs:s.size≤1000000) (l l1 l2 l3:List UInt8) (n m:Int) (w:World) (h:zcJ w b s l) (hp:pIs [42] l=none) (hp1:zuS 2 l=.ok (n,l1)) (k1:¬n<cLo f) (k2:¬cHi f<n) (hp2:pIs [45] l1=some l2) (hp3:zuS 2 l2=.ok (m,l3)) (k3:¬m<cLo f) (k4:¬cHi f<m) (hle:¬m<n) (hp4:pIs [47] l3=none):
 Calls prog 58 #[rdV b f] w (zmb (itV ⟨2,n,m,1⟩) b s l3 w):=by
 have hs9:s.size≤9223372036854775807:=by omega
 have hlt:=h.lt;have hne:w.heap.size≠b:=by omega
 have hne1:w.heap.size+1≠b:=by omega
 have H:=waV h;have HP:=waV (hp);have HN:=waV (fun W (h:zcJ W b s l)=>zvw b f hf s hs l l1 n W h hp1 k1 k2)
 have HP2:=waV (hp2);have HM:=waV (fun W (h:zcJ W b s l2)=>zvw b f hf s hs l2 l3 m W h hp3 k3 k4)
 have HP4:=waV (hp4);clear h hp hp1 hp2 hp3 hp4 k1 k2 k3 k4 hf;go_enter func58,ntmps58;go_wp2_with fail;refine(zrk hs9 (((H.out.alloc _).alloc _).alloc _) (zuy (c:=42) (zaa (by simp) rfl)) dQ HP.out).mono ?_
 rintro e w1 ⟨rfl,h1,g1⟩;have F1:=waV (((zs4 w b (f:Int) 104 81).alloc _).chg g1 hne hne1);have hg1:=((((Chg.refl b w).alloc _).alloc _).alloc _).trans g1;have hz1:=g1.size
 (try simp at hz1)
 have hzA1:w.heap.size<w1.heap.size:=by omega
 have hzB1:w.heap.size+1<w1.heap.size:=by omega
 obtain⟨c0,c1⟩:=F1.out.1;go_wp2_with fail;refine(HN.out _ h1).mono ?_;rintro e w2 ⟨rfl,h2,g2⟩;have F2:=waV (F1.out.chg g2 hne hne1);have hg2:=hg1.trans g2;have hz2:=g2.size
 (try simp at hz2)
 have hzA2:w.heap.size<w2.heap.size:=by omega
 have hzB2:w.heap.size+1<w2.heap.size:=by omega
 clear c0 c1;obtain⟨c0,c1⟩:=F2.out.1;have hneI:w2.heap.size≠b:=by omega
 go_wp2_with fail;refine(zsX hs9 ((h2.alloc _).alloc _) (zuy (c:=45) (zaa (by simp) rfl)) dQ HP2.out).mono ?_
 rintro e w3 ⟨rfl,h3,g3⟩;have F3:=waV (((F2.out.alloc _).alloc _).chg g3 hne hne1);have I3:=waV (Arr.chg (Arr.alloc (zfm w2 1 n 0 0 81) (Arr.lt (zfm w2 1 n 0 0 81) dQ) _) dQ g3 hneI);have hg3:=((hg2.alloc _).alloc _).trans g3;have hz3:=g3.size
 (try simp at hz3)
 have hzA3:w.heap.size<w3.heap.size:=by omega
 have hzB3:w.heap.size+1<w3.heap.size:=by omega
 have hzI3:w2.heap.size<w3.heap.size:=by omega
 clear c0 c1;obtain⟨c0,c1⟩:=F3.out.1;obtain⟨i0,i1,i2,i3,ifz⟩:=zjP.cells I3.out;go_wp2_with fail;refine(zo4 h3).mono ?_;rintro e w4 ⟨rfl,h4,g4⟩;have F4:=waV (F3.out.chg g4 hne hne1);have I4:=waV (Arr.chg I3.out dQ g4 hneI);have hg4:=hg3.trans g4;have hz4:=g4.size
 (try simp at hz4)
 have hzA4:w.heap.size<w4.heap.size:=by omega
 have hzB4:w.heap.size+1<w4.heap.size:=by omega
 have hzI4:w2.heap.size<w4.heap.size:=by omega
 clear c0 c1 i0 i1 i2 i3 ifz;obtain⟨c0,c1⟩:=F4.out.1;obtain⟨i0,i1,i2,i3,ifz⟩:=zjP.cells I4.out;go_wp2_with fail;refine(HM.out _ h4).mono ?_;rintro e w5 ⟨rfl,h5,g5⟩;have F5:=waV (F4.out.chg g5 hne hne1);have I5:=waV (Arr.chg I4.out dQ g5 hneI);have hg5:=hg4.trans g5;have hz5:=g5.size
 (try simp at hz5)
 have hzA5:w.heap.size<w5.heap.size:=by omega
 have hzB5:w.heap.size+1<w5.heap.size:=by omega
 have hzI5:w2.heap.size<w5.heap.size:=by omega
 clear c0 c1 i0 i1 i2 i3 ifz;obtain⟨c0,c1⟩:=F5.out.1;obtain⟨i0,i1,i2,i3,ifz⟩:=zjP.cells I5.out;go_wp2_with fail;refine(zrk hs9 ((((h5.set hneI (.int .i64 2)).set hneI (.int .i64 m)).set hneI (.int .i64 1)).alloc _) (zuy (c:=47) (zaa (by simp) rfl)) dQ HP4.out).mono ?_
 rintro e w6 ⟨rfl,h6,g6⟩;have F6:=waV (((((F5.out.set oQ oQ (.int .i64 2)).set oQ oQ (.int .i64 m)).set oQ oQ (.int .i64 1)).alloc _).chg g6 hne hne1);have I6:=waV (Arr.chg (Arr.alloc (zjS (zjR (zjQ I5.out 2) m) 1) (Arr.lt (zjS (zjR (zjQ I5.out 2) m) 1) dQ) _) dQ g6 hneI);have hg6:=((((hg5.setNew oQ).setNew oQ).setNew oQ).alloc _).trans g6;have hz6:=g6.size
 (try simp at hz6)
 have hzA6:w.heap.size<w6.heap.size:=by omega
 have hzB6:w.heap.size+1<w6.heap.size:=by omega
 have hzI6:w2.heap.size<w6.heap.size:=by omega
 clear c0 c1 i0 i1 i2 i3 ifz;obtain⟨c0,c1⟩:=F6.out.1;obtain⟨i0,i1,i2,i3,ifz⟩:=zjP.cells I6.out;obtain⟨r0,r1,r2,r3,rfz⟩:=zjP.cells F6.out.2;go_wp2
 (try simp only[Exit.inBlock,Exit.then])
 refine waY (v:=itV ⟨2,n,m,1⟩) ?_ rfl ⟨rfl,?_,?_⟩
 ·rw[zag rfl]
  go_simp
 ·exact h6.set4 hne1 _ _ _ _
 ·exact hg6.set4 oQ _ _ _ _
theorem zvx (b f:Nat) (s:ByteArray) (hs:s.size≤1000000) (l r:List UInt8) (i:It) (w:World) (h:zcJ w b s l) (hI:∀W,zcJ W b s l→Calls prog 58 #[rdV b f] W (zmb (itV i) b s r W)) (hp:pIs [44] r=none):
 Calls prog 57 #[rdV b f,.func (.func 58) #[rdV b f] #[]] w (ztT [i] b s r w):=by
 have hs9:s.size≤9223372036854775807:=by omega
 have hlt:=h.lt;have hne:w.heap.size≠b:=by omega
 have H:=waV h;have HP2:=waV hp;have HI:=waV hI;obtain⟨i0,hi0,hz0,hz1,hz2⟩:=info_parts ziB;have HI0:=waV hi0;have HZ0:=waV hz0;have HZ1:=waV hz1;have HZ2:=waV hz2;clear hi0 hz0 hz1 hz2;clear h hp hI;go_enter func57,ntmps57;go_wp2;go_step3;go_wp2;go_step3;go_wp2
 go_loopg [5] 63 (fun gg v wr=>∃(vo:Value) (acc:List It),vo=v∧acc=[]∧gg=63∧Hid (zat wr (w.heap.size+1) vo acc)∧Hid (zcJ wr b s l)∧Hid (Box wr w.heap.size b (f:Int))∧Hid (Chg b w wr))
 case atStart=>exact⟨_,[],rfl,rfl,rfl,World.ownsRow_nil _ _ _ _,H.out.alloc _,zll _ _ _ _,(Chg.refl b w).alloc _⟩
 case round=>
  obtain⟨vo,acc,rfl,hacc,hgq,HO,HD,HB,HC⟩:=hrel;have hal:acc.length≤63:=by rw[hacc];decide
  have HAc:=waV hacc;clear hacc;have hlt:b<w.heap.size+1:=by omega
  go_wp2_with fail;refine(HI.out _ HD.out).mono ?_;rintro e w2 ⟨rfl,h2,g2⟩;have HO2:=waV (zdG HO.out g2 hlt);have HB2:=waV (HB.out.chg g2 hne);have hgA:=HC.out.trans g2;have hz2:=hgA.size;have hi0:=HI0.out;have hz0:=HZ0.out;have hz1:=HZ1.out;have hzz2:=HZ2.out
  go_wp2_with (at_builtin;refine wpList_append_own _ rfl _ _ 22 rfl (w.heap.size+1) 81 i0 _ 4 32 underlying22 hi0 hz0 hz1 hzz2 rfl dQ _ acc.length _ rfl (HO2.out.alloc _) ⟨w2.heap.size,0,none⟩ 1 1 [.int .i64 i.k,.int .i64 i.f,.int .i64 i.t,.int .i64 i.s] rfl rfl ?c1 ?c2 ?c3 ?c4 ?c5 ?c6)
  case c1=>
   intro j u hu;rcases j with _|_|_|_|j
   ·simp at hu;subst hu;exact zaa rfl rfl
   ·simp at hu;subst hu;exact zaa rfl rfl
   ·simp at hu;subst hu;exact zaa rfl rfl
   ·simp at hu;subst hu;exact zaa rfl rfl
   ·simp at hu
  case c2=>intro u hu;simp at hu;rcases hu with rfl|rfl|rfl|rfl<;>rfl
  case c3=>simp only[maxLen];omega
  case c4=>omega
  case c5=>simp;omega
  case c6=>
   intro v' w3 hown hg _;have HV:Hid (zat w3 (w.heap.size+1) v' (acc++[i])):=by
    show World.ownsRow _ _ _ _ _ _ _;rw[waF,List.flatMap_append,List.flatMap_singleton];exact hown
   have hob1:∀k,vo.ownBlock=some k→w.heap.size+1≤k:=zs5 HO.out;have hob:∀k,vo.ownBlock=some k→w.heap.size≤k:=fun k hk=>by have:=hob1 k hk;omega
   have hobn:vo.ownBlock≠some b:=fun e=>by have:=hob b e;omega
   have hobB:vo.ownBlock≠some w.heap.size:=fun e=>by have:=hob1 _ e;omega
   have h3:=(h2.alloc (.cells #[.int .i64 i.k,.int .i64 i.f,.int .i64 i.t,.int .i64 i.s] 81)).grown hg hobn;have HB3:=waV ((HB2.out.alloc _).grown hg hobB);have hgB:=(hgA.alloc _).grown hg hob;have HLn:Hid ((acc++[i]).length=acc.length+1):=by show _=_;simp
   have hpos:0<(acc++[i]).length:=by simp
   clear hown hg hi0 hz0 hz1 hzz2 h2 g2 HO2 HB2 hob hob1 hobn hobB;obtain⟨g,cap,rfl,hgb,hgl⟩:∃g cap,v'=.slice (some ⟨g,0,none⟩) (acc++[i]).length cap∧w.heap.size+1≤g∧g<w3.heap.size:=by
    rcases zbn HV.out with ⟨_,h0⟩|h1
    ·omega
    ·exact h1
   obtain⟨acc1,hacc⟩:∃x,x=acc++[i]:=⟨_,rfl⟩;rw[←hacc] at HV HLn ⊢;have HAcc:=waV hacc;rw[HLn.out];clear hpos hacc;obtain⟨c0,c1⟩:=HB3.out;have hz3:=hgB.size;go_wp2_with fail;refine(zo4 h3).mono ?_;rintro e w4 ⟨rfl,h4,g4⟩;have hgC:=hgB.trans g4;have HB4:=waV (HB3.out.chg g4 hne);have HV4:=waV (zdG HV.out g4 hlt);clear c0 c1;obtain⟨c0,c1⟩:=HB4.out;go_wp2_with fail;refine(zrk hs9 (h4.alloc _) (zuy (c:=44) (zaa (by simp) rfl)) dQ HP2.out).mono ?_
   rintro e w5 ⟨rfl,h5,g5⟩;have hgD:=(hgC.alloc _).trans g5;have HV5:=waV (zdG (HV4.out.alloc _) g5 hlt);go_wp2;rw[Exit.noGoto_ret];go_ret;have hL:[i]=acc1:=by rw[HAcc.out,HAc.out];rfl
   exact⟨.slice (some ⟨g,0,none⟩) acc1.length cap,by rw[HLn.out];rfl,by rw[hL];exact zao HV5.out (by omega),h5,hgD⟩
def zqR (s:ByteArray) (I:Nat→It) (w:World) (x:Ending) (w':World):Prop:=
 Below w.heap.size w w'∧∃(A:Nat→Option Addr) (n c:Nat→Nat),x=.returned (.tuple #[crV A n c,.int .i64 (s.size:Int),.int .i64 0])∧∀k,k<5→zat w' w.heap.size (zkh A n c k) [I k]
theorem zvy (s:ByteArray) (hs:s.size≤8192) (T R:Nat→List UInt8) (I:Nat→It) (h0:s.data.toList.dropWhile zbP=T 0) (h64:(ztw (T 0)==64)=false)
 (hF:∀k b W,k<5→zcJ W b s (T k)→Calls prog 57 #[rdV b k,.func (.func 58) #[rdV b k] #[]] W (ztT [I k] b s (R k) W))
 (hB:∀k,k<4→(R k).takeWhile zbP≠[]∧(R k).dropWhile zbP=T (k+1)) (hE:R 4=[]) (h5:T 5=[]) (w:World):
 Calls prog 23 #[.string s] w (zqR s I w):=by
 have hs9:s.size≤9223372036854775807:=by omega
 have HN:=waV (fun W=>zuU hs9 hs W)
 have H0:=waV h0;have HF:=waV hF;have HBt:=waV (fun k W b (hk:k<4) (h:zcJ W b s (R k))=>(show Calls prog 59 #[.pointer (some ⟨b,0,none⟩)] W (zmb (.tuple #[]) b s (T (k+1)) W) by
  have:=znA b s hs9 _ W h (hB k hk).1
  rwa [(hB k hk).2] at this))
 have HE:Hid (R 4=T 5):=hE.trans h5.symm;have H5:=waV h5;clear h0 hF hB hE h5;go_enter func23,ntmps23;go_wp2_with fail;refine(HN.out _).mono ?_;rintro e w1 ⟨b,hb0,rfl,h1,hb1⟩;have hbS1:Below w.heap.size w w1:=((waC _ w).alloc (waJ _) _).trans (hb1.mono (by simp))
 have hbgt:w.heap.size<b:=by simp at hb0;omega
 have HR1:=waV ((zi7 w 24 (.slice none 0 0) (.slice none 0 0) (.slice none 0 0) (.slice none 0 0) (.slice none 0 0) nil5 rfl rfl rfl rfl rfl).below (by simp) hb1)
 have hzw1:=waD hbgt (Nat.le_of_lt h1.lt);go_wp2_with fail;refine(zeV hs9 h1).mono ?_;rintro e w2 ⟨rfl,h2,g2⟩;rw[H0.out] at h2;go_wp2_with fail;refine(zo3 h2).mono ?_;rintro e w3 ⟨rfl,h3,g3⟩;have g23:=g2.trans g3;have hbS:=Chg.below hbS1 g23 (Nat.le_of_lt hbgt) hbS1.size;have HR:=waV (Arr.chg HR1.out dQ g23 oQ);have HSt:Hid (zcJ w3 b s (T 0)):=h3;have hb3:=h3.lt;clear h1 h2 h3 g2 g3 g23 hb1 hbS1 HR1 hzw1;go_wp2_with fail;have HC0:=waV ((zi7 w3 24 (.slice none 0 0) (.slice none 0 0) (.slice none 0 0) (.slice none 0 0) (.slice none 0 0) (zkh (fun _=>none) (fun _=>0) (fun _=>0)) rfl rfl rfl rfl rfl).alloc (by simp) (.cells #[.pointer (some ⟨w3.heap.size,0,none⟩),.pointer (some ⟨w3.heap.size,1,none⟩),.pointer (some ⟨w3.heap.size,2,none⟩),.pointer (some ⟨w3.heap.size,3,none⟩),.pointer (some ⟨w3.heap.size,4,none⟩)] 101))
 have HP0:=waV (zi7 (w3.alloc (.cells #[.slice none 0 0,.slice none 0 0,.slice none 0 0,.slice none 0 0,.slice none 0 0] 24)) 101 (.pointer (some ⟨w3.heap.size,0,none⟩)) (.pointer (some ⟨w3.heap.size,1,none⟩)) (.pointer (some ⟨w3.heap.size,2,none⟩)) (.pointer (some ⟨w3.heap.size,3,none⟩)) (.pointer (some ⟨w3.heap.size,4,none⟩)) (fun j=>.pointer (some ⟨w3.heap.size,j,none⟩)) rfl rfl rfl rfl rfl)
 have hzS:=hbS.size;have hzw:w.heap.size<w3.heap.size:=by omega
 have HR0:=waV ((HR.out.alloc hzw (.cells #[.slice none 0 0,.slice none 0 0,.slice none 0 0,.slice none 0 0,.slice none 0 0] 24)).alloc (by simp;omega) (.cells #[.pointer (some ⟨w3.heap.size,0,none⟩),.pointer (some ⟨w3.heap.size,1,none⟩),.pointer (some ⟨w3.heap.size,2,none⟩),.pointer (some ⟨w3.heap.size,3,none⟩),.pointer (some ⟨w3.heap.size,4,none⟩)] 101))
 go_loopw [30] (fun i wr=>∃(k:Nat) (A:Nat→Option Addr) (n c:Nat→Nat),k≤5∧i=.int .i64 k∧Hid (zcJ wr b s (T k))∧Hid (Arr wr w3.heap.size 5 (zkh A n c))∧Hid (∀j,j<k→zat wr (w3.heap.size+2) (zkh A n c j) [I j])∧Hid (Arr wr (w3.heap.size+1) 5 (fun j=>.pointer (some ⟨w3.heap.size,j,none⟩)))∧Hid (Arr wr w.heap.size 5 nil5)∧Below w.heap.size w wr∧w3.heap.size+2≤wr.heap.size) (fun i _=>5 - (intOf i).toNat)
 case atStart=>
  exact⟨0,fun _=>none,fun _=>0,fun _=>0,by omega,rfl,(HSt.out.below ((waC _ w3).alloc (waJ _) _)).below ((waC _ _).alloc (waJ _) _),HC0.out,fun j hj=>absurd hj (Nat.not_lt_zero _),by show Arr _ _ _ _;have:=HP0.out;simpa using this,HR0.out,(hbS.alloc hzS _).alloc (by simp;omega) _,by simp⟩
 case round=>
  obtain⟨k,A,n,c,hk,rfl,HStk,HCk,HOk,HPk,HRk,hbk,hzk⟩:=hrel;have hszk:=hbk.size;have hzC:w3.heap.size<wr.heap.size:=by omega
  have hzP:w3.heap.size+1<wr.heap.size:=by omega
  have hzR:w.heap.size<wr.heap.size:=by omega
  have hzb:b<wr.heap.size:=by omega
  by_cases h5:k<5
  ·have h5':(k:Int)<5:=by omega
   have hk0:(0:Int)≤(k:Int):=by omega
   have cP:=HPk.out.1 k h5;go_wp2_with fail;refine(HF.out k b _ h5 (HStk.out.below ((waC _ wr).alloc (waJ _) _))).mono ?_;rintro e w4 ⟨v,rfl,hown,hst,g4⟩;obtain⟨A',n',c',rfl⟩:=zu9 hown;have g4':Chg b wr w4:=((Chg.refl b wr).alloc _).trans g4;have HC4:=waV (Arr.chg HCk.out dQ g4' oQ);have HP4:=waV (Arr.chg HPk.out dQ g4' oQ);have HR4:=waV (Arr.chg HRk.out dQ g4' oQ);have hO4:∀j,j<k→zat w4 (w3.heap.size+2) (zkh A n c j) [I j]:=fun j hj=>zdG (HOk.out j hj) g4' oQ
   have HO4:=waV hO4;have hbk4:=Chg.below hbk g4' oQ hszk;have hz4:=g4.size;simp at hz4;have hown4:zat w4 (w3.heap.size+2) (.slice A' n' c') [I k]:=zao hown (by simp;omega)
   have HN4:=waV hown4;have ck:=HC4.out.1 k h5;have fk:=HC4.out.2 k;have HS2:=waV (hst.set (B:=w3.heap.size) (o:=k) oQ (.slice A' n' c'));have HC5:=waV (HC4.out.set k h5 (.slice A' n' c') (g':=zkh (upd A k A') (upd n k n') (upd c k c')) zmp (fun j _ hj=>zpN hj))
   have HP5:=waV (HP4.out.other (b':=w3.heap.size) (i:=k) (v:=.slice A' n' c') oQ);have HR5:=waV (HR4.out.other (b':=w3.heap.size) (i:=k) (v:=.slice A' n' c') oQ);have hcs:Chg w3.heap.size w4 (w4.setCell ⟨w3.heap.size,k,none⟩ (.slice A' n' c')):=(Chg.refl _ _).set _ _;have hO5:∀j,j<k+1→zat (w4.setCell ⟨w3.heap.size,k,none⟩ (.slice A' n' c')) (w3.heap.size+2) (zkh (upd A k A') (upd n k n') (upd c k c') j) [I j]:=by
    intro j hj
    by_cases e:j=k
    ·subst e;rw[zmp];exact zdG HN4.out hcs oQ
    ·rw[zpN e];exact zdG (HO4.out j oQ) hcs oQ
   have HO5:=waV hO5;have hbk5:Below w.heap.size w (w4.setCell ⟨w3.heap.size,k,none⟩ (.slice A' n' c')):=hbk4.setCell (by simp;omega) _
   unfold zkh at ck;clear hown hst hO4 hown4 hcs hO5 g4 g4' cP
   by_cases h4:k<4
   ·have h4':(k:Int)<4:=by omega
    go_wp2_with fail;refine(HBt.out k _ b h4 HS2.out).mono ?_;rintro e w5 ⟨rfl,hst5,g5⟩;have hz5:=g5.size;simp[World.setCell] at hz5;go_wp2;go_roundw
    case rel=>
     exact⟨k+1,upd A k A',upd n k n',upd c k c',by omega,by go_num,hst5,Arr.chg HC5.out dQ g5 oQ,fun j hj=>zdG (HO5.out j hj) g5 oQ,Arr.chg HP5.out dQ g5 oQ,Arr.chg HR5.out dQ g5 oQ,Chg.below hbk5 g5 oQ hbk5.size,by omega⟩
    case measure=>simp [intOf];omega
   ·have h4':¬(k:Int)<4:=by omega
    go_wp2;go_roundw
    case rel=>
     refine⟨k+1,upd A k A',upd n k n',upd c k c',by omega,by go_num,?_,HC5.out,HO5.out,HP5.out,HR5.out,hbk5,by simp[World.setCell];omega⟩
     obtain rfl:k=4:=by omega
     show zcJ _ _ _ _;have:=HS2.out
     rwa [HE.out] at this
    case measure=>simp [intOf];omega
  ·obtain rfl:k=5:=by omega
   have hL:=HStk.out;rw[H5.out] at hL;go_wp2_with fail;refine(zeV hs9 hL).mono ?_;rintro e w4 ⟨rfl,h4,g4⟩;have h4:zcJ w4 b s []:=h4;go_wp2_with fail;refine(zuT h4).mono ?_;rintro e w5 ⟨rfl,h5',g5⟩;go_wp2_with fail;refine(znk h5').mono ?_;rintro e w6 ⟨rfl,h6,g6⟩;have g46:=(g4.trans g5).trans g6;have HC6:=waV (Arr.chg HCk.out dQ g46 oQ);have HR6:=waV (Arr.chg HRk.out dQ g46 oQ);have HO6:Hid (∀j,j<5→zat w6 (w3.heap.size+2) (zkh A n c j) [I j]):=fun j hj=>zdG (HOk.out j hj) g46 oQ
   have hb6:=Chg.below hbk g46 oQ hszk;have hz6:=g46.size;obtain⟨x0,x1,x2,x3,x4,xf⟩:=arr5 HC6.out;obtain⟨y0,y1,y2,y3,y4,yf⟩:=arr5 HR6.out;have HAtW:Hid (∀W,zcJ W b s []→Calls prog 56 #[.pointer (some ⟨b,0,none⟩)] W (zb0 (.int .i64 (s.size:Int)) W)):=fun W h=>by
    have:=zpM h;rw[show zfk s ([]:List UInt8).length=(s.size:Int) from znB s] at this
    exact this
   have H6:=waV h6;unfold zkh at x0 x1 x2 x3 x4;unfold nil5 at y0 y1 y2 y3 y4;clear g4 g5 g6 g46 h4 h5' h6 hL;go_wp2_with fail
   go_region_with (go_at_call 56;(with_reducible refine(HAtW.out _ ?_).mono ?_);(focus (exact H6.out));rintro e w7 ⟨rfl,rfl⟩)
   all_goals (try simp only[Exit.then])
   all_goals (try go_wp2)
   all_goals refine waY (v:=.tuple #[crV A n c,.int .i64 (s.size:Int),.int .i64 0]) ?_ rfl ⟨?_,A,n,c,rfl,fun k hk=>?_⟩
   all_goals first
    |(rw[zfl rfl];go_simp;done)
    |((repeat' (first|(with_reducible exact waC _ _)|(with_reducible assumption)|(with_reducible refine zax ?_ _)|(with_reducible refine Below.alloc ?_ ?_ _)|(with_reducible refine Below.drew ?_)|(with_reducible refine Below.setCell ?_ ?_ _)|go_size));done)
    |(show World.ownsRow _ _ _ _ _ _ _;refine zao (B:=w3.heap.size+2) ?_ oQ;exact ztU (HO6.out k hk) oQ)
def zoi:List UInt8:=[48,45,53,57,32,48,45,50,51,32,42,32,42,32,42]
def zsE (k:Nat):It:=if k=0 then⟨2,0,59,1⟩ else if k=1 then⟨2,0,23,1⟩ else⟨0,0,0,1⟩
def zdU (k:Nat):List It:=[zsE k]
def T36 (k:Nat):List UInt8:=zoi.drop (if k=0 then 0 else if k=1 then 5 else if k=2 then 10 else if k=3 then 12 else if k=4 then 14 else 15)
def R36 (k:Nat):List UInt8:=zoi.drop (if k=0 then 4 else if k=1 then 9 else if k=2 then 11 else if k=3 then 13 else 15)
theorem zuo (k b:Nat) (hk:k<5) (W:World) (h:zcJ W b (zcX zoi) (T36 k)):Calls prog 57 #[rdV b k,.func (.func 58) #[rdV b k] #[]] W (ztT [zsE k] b (zcX zoi) (R36 k) W):=by
 have hs:(zcX zoi).size≤1000000:=by decide
 refine zvx b k _ hs _ _ _ W h (fun V hV=>?_) ?_
 ·obtain rfl|rfl|rfl|rfl|rfl:k=0∨k=1∨k=2∨k=3∨k=4:=by omega
  ·exact ztg b 0 dQ _ hs _ (zoi.drop 1) (zoi.drop 2) _ 0 59 V hV kQ kQ dQ dQ kQ kQ dQ dQ dQ kQ
  ·exact ztg b 1 dQ _ hs _ (zoi.drop 6) (zoi.drop 7) _ 0 23 V hV kQ kQ dQ dQ kQ kQ dQ dQ dQ kQ
  ·exact zf0 b 2 dQ _ hs _ _ V hV kQ kQ
  ·exact zf0 b 3 dQ _ hs _ _ V hV kQ kQ
  ·exact zf0 b 4 dQ _ hs _ _ V hV kQ kQ
 ·obtain rfl|rfl|rfl|rfl|rfl:k=0∨k=1∨k=2∨k=3∨k=4:=by omega
  all_goals kernel_rfl
theorem zup (w:World):Calls prog 23 #[.string (zcX zoi)] w (zqR (zcX zoi) zsE w):=
 zvy (zcX zoi) (by decide) T36 R36 zsE (by rw[zdf];kernel_rfl) (by kernel_rfl) (fun k b W hk h=>zuo k b hk W h)
  (fun k hk=>by
    obtain rfl|rfl|rfl|rfl:k=0∨k=1∨k=2∨k=3:=by omega
    all_goals exact⟨by decide+kernel,by kernel_rfl⟩) kQ kQ w
theorem zvz {w:World} {B:Nat} {A:Nat→Option Addr} {n c:Nat→Nat} {I:Nat→It} (h:∀k,k<5→zat w B (zkh A n c k) [I k]):∃A' n',crV A n c=crV A' n' c∧zbX w A' n' (fun k=>[I k])∧(∀k,n' k≤1)∧∀k,A' k=none→n' k=0:=by
 have h1:∀k,k<5→n k=1∧zcz w (A k) (n k) [I k]∧(A k=none→n k=0):=fun k hk=>by
  obtain⟨A0,c0,e,_,_,hr,hz⟩:=(h k hk).rd;unfold zkh at e
  injection e with e1 e2 e3
  rw[e1,e2];exact⟨rfl,hr,hz⟩
 refine⟨fun k=>if k<5 then A k else none,fun k=>if k<5 then n k else 0,rfl,fun k hk=>?_,fun k=>?_,fun k hk=>?_⟩
 ·dsimp only;rw[if_pos hk,if_pos hk];exact(h1 k hk).2.1
 ·dsimp only;split
  ·rw[(h1 k ‹_›).1];exact waJ _
  ·exact waK _
 ·dsimp only at hk ⊢;split
  ·rw[if_pos ‹_›] at hk;exact(h1 k ‹_›).2.2 hk
  ·rfl
theorem zsF:chk zdU=(5,0):=ziy fun k hk=>by
 obtain rfl|rfl|rfl|rfl|rfl:k=0∨k=1∨k=2∨k=3∨k=4:=by omega
 all_goals kernel_rfl
theorem zoc {F:Nat→List It} (h:∀k,k<5→F k=zdU k):zcN (zal [zaL F]):=fun n s h0 h1 hs=>by
 show zrv [zaL F] _=_;rw[zeb,znC h];show zeY zdU n s=_;rw[zdl _ h0 h1 hs];have d:=za6 h0 h1;have wb:=zb8 n;have a0:∀k:Nat,k<60→inB (zdU 0) 0 59 (k:Int)=true:=by decide+kernel
 have a1:∀k:Nat,k<24→inB (zdU 1) 0 23 (k:Int)=true:=by decide+kernel
 have a3:∀k:Nat,k<13→1≤k→inB (zdU 3) 1 12 (k:Int)=true:=by decide+kernel
 have a2:∀k:Nat,k<32→1≤k→inB (zdU 2) 1 31 (k:Int)=true:=by decide+kernel
 have a4:∀k:Nat,k<8→1≤k→wkB zdU (k:Int)=true:=by decide+kernel
 have es:(zbv (zdU 2)||zbv (zdU 4))=true:=by decide+kernel
 rw[if_pos es,a0 _ (by omega),a1 _ (by omega)]
 have e3:=a3 (mD n).toNat oQ oQ;have e2:=a2 (dD n).toNat oQ oQ;have e4:=a4 (wdD n).toNat oQ oQ;rw[Int.toNat_of_nonneg (by omega)] at e3 e2 e4
 rw[e3,e2,e4];simp
theorem zqS {P:Int→Nat→Bool} (h:zcN P) (k:Nat):zbK P k=[⟨0,0,0,1⟩]:=by
 by_cases hk:k<5
 ·exact zml h k hk
 ·have e:zbK P k=zbK P 4:=by
   unfold zbK zc4;rw[if_neg (by omega),if_neg (by omega),if_neg (by omega),if_neg (by omega)];rfl
  rw[e];exact zml h 4 (by decide)
theorem zvA {P:Int→Nat→Bool} (h:zcN P):chk (zbK P)=(5,0):=zmk ⟨0,zkc h dQ dQ⟩ (ztR h)
theorem zuq {P:Int→Nat→Bool} (h:zcN P):zcX (zkd (zd9 (zbK P)))=zcX [42,32,42,32,42,32,42,32,42]:=by
 have e:zd9 (zbK P)=zd9 (fun _=>[⟨0,0,0,1⟩]):=by
  congr 1;funext k;exact zqS h k
 rw[e];congr 1
theorem zlS (w:World) (hp:Pow w) (ht:Tz w):Calls prog 7 #[] w (Ret (.bool true) w):=by
 have HA:=waV (fun W=>zup W)
 have HP:=waV hp;have HT:=waV ht;clear hp ht;go_enter func7,ntmps7;go_wp2_with fail;refine(HA.out _).mono ?_;rintro e w1 ⟨hb1,A,n,c,rfl,ho⟩
 ·obtain⟨A,n,e,hrd,hn,hz⟩:=zvz ho;rw[e];have hev:zcN (zal [zaL zdU]):=zoc fun k hk=>rfl
  have HLw:=waV (fun W (hb:Below w1.heap.size w1 W)=>zgA A n c zdU W (hrd.below hb (waJ _)) (fun k=>by have:=hn k;omega) hz (by rw[zsF]))
  have HRs:=waV (fun b W (hr:zbw W (some ⟨b,0,none⟩) 1 [zaL zdU]) (ht:Tz W)=>ziu (some ⟨b,0,none⟩) 1 1 [zaL zdU] W hr (by decide) (fun h=>(by cases h)) (fun k hk=>by rw[wbC.1 hk];exact⟨zfs zdU,show(1:Int)≤9223372036854775807 by decide⟩) ht)
  have HE:Hid (zb1 1 [zaL zdU]=0):=by show _=_;unfold zb1;rw[if_neg (by decide),if_pos (zjv zdU)]
  have HEv:=waV hev;clear hrd hn hz HA hev ho e;generalize zdU=F at *;go_wp2_with fail;refine(HLw.out _ (by exact zaH)).mono ?_
  rintro e w2 ⟨b,rfl,hr,hq2⟩;have hb2:Below w.heap.size w w2:=(hb1.alloc hb1.size _).trans (hq2.mono (by simp;have:=hb1.size;omega))
  have HR:=waV (HRs.out b w2 hr (HT.out.below hb2));clear hb1 hq2 hr HLw HRs;go_wp2_with fail;refine HR.out.mono ?_;rintro e w3 ⟨hb3,(⟨h,_⟩|⟨_,(⟨h,_⟩|⟨l,v,h,rfl,ho⟩)⟩)⟩
  ·exact absurd HE.out h
  ·cases zpI HEv.out h
  ·obtain rfl:=waB (zpI HEv.out h);obtain⟨A',n',c',e,hr',hz',hn',_⟩:=ho.rd;obtain⟨S0,n0,d0,S1,n1,d1,S2,n2,d2,S3,n3,d3,S4,n4,d4,hv⟩:=ho.five;have hb03:=hb2.trans (hb3.mono hb2.size);have HSh:=waV (fun W (hb:Below w3.heap.size w3 W)=>(show Calls prog 24 #[v] W (Ret (.tuple #[.string (zcX [42,32,42,32,42,32,42,32,42]),.int .i64 0]) W) by
    rw[e,←zuq HEv.out];exact zum A' n' c' _ W (hr'.below hb (waJ _)) (fun k=>by rw[hn' k];split;rw[zqS HEv.out k];decide;exact waK _) hz' (fun k it hit=>by rw[zqS HEv.out k] at hit;rw[wbC.1 hit];exact⟨⟨by decide,by decide⟩,⟨by decide,by decide⟩,⟨by decide,by decide⟩,⟨by decide,by decide⟩⟩) (zcO HP.out (hb03.trans (hb.mono hb03.size))) (zvA HEv.out)))
   subst hv;clear ho hr' hz' hn' e h HP HT HE HEv HR hb2 hb3;go_wp2_with fail;refine(HSh.out _ (by exact zaH)).mono ?_
   rintro e w4 ⟨rfl,hq4⟩;have hb4:Below w.heap.size w w4:=(hb03.alloc hb03.size _).trans (hq4.mono (by simp;have:=hb03.size;omega))
   clear HSh hq4;have hs:((zcX [42,32,42,32,42,32,42,32,42]).toList==[42,32,42,32,42,32,42,32,42])=true:=by decide+kernel
   go_wp2;go_ret;exact⟨rfl,hb4⟩
end Go.Proofs.YtgedndlifiihkaaGreatDoor
namespace Go.Proofs.YtgedndlifiihkaaGreatDoor
open Go.Proofs.Tryz
open Go.RowKit
open Go.Maps
theorem zhD (A:Nat→Option Addr) (n c:Nat→Nat) (l:Nat→List It) (w:World) (hA:zbX w A n l) (hn:∀k,n k≤9223372036854775807) (hnil:∀k,A k=none→n k=0) (h5:∀k,5≤k→n k=0) (hp:Pow w) (ht:Tz w):
 Calls prog 4 #[crV A n c] w (Ret (.bool true) w):=by
 have HV:=waV (fun W (hb:Below w.heap.size w W)=>zlS W (zcO hp hb) (ht.below hb))
 have HG:=waV (fun W=>zpu A n c W)
 have HT:=waV ht;clear hp ht;have hcr:crV A n c=.agg #[.slice (A 0) (n 0) (c 0),.slice (A 1) (n 1) (c 1),.slice (A 2) (n 2) (c 2),.slice (A 3) (n 3) (c 3),.slice (A 4) (n 4) (c 4)]:=rfl;cases hg:zfr n with
 |true=>
  rw[hg] at HG;clear hA hn hnil h5 hg;rw[hcr];go_enter func4,ntmps4;go_wp2_with fail;refine(HG.out _).mono ?_;rintro x w1 ⟨rfl,hb1⟩;have hb1:Below w.heap.size w w1:=((waC _ w).alloc (waJ _) _).trans (hb1.mono (by simp))
  go_wp2_with fail;refine(HV.out _ hb1).mono ?_;rintro x w2 ⟨rfl,hb2⟩;go_wp2;go_ret;exact⟨rfl,zai hb1 hb2 hb1.size⟩
 |false=>
  have hns:∀k,n k≤100000:=fun k=>by
   by_cases hk:k<5
   ·have:=zrC hg k hk;omega
   ·rw[h5 k (by omega)];omega
  rw[hg] at HG;clear hg
  by_cases hc:(chk l).2=0
  ·have hch:chk l=(5,0)∧∀k,k<5→zaI k (l k)=0:=by
    rcases zmq l with h|h
    ·exact h
    ·exact absurd hc h
   have HLw:=waV (fun V (hV:Below w.heap.size w V)=>zgA A n c l V (hA.below hV (waJ _)) hns hnil hc)
   have HRs:=waV (fun(F:Nat→List It) b W (hr:zbw W (some ⟨b,0,none⟩) 1 [zaL F]) (ht:Tz W)=>ziu (some ⟨b,0,none⟩) 1 1 [zaL F] W hr (by decide) (fun h=>(by cases h)) (fun k hk=>by rw[wbC.1 hk];exact⟨zfs F,show(1:Int)≤9223372036854775807 by decide⟩) ht)
   have HE:Hid (∀F,zb1 1 [zaL F]=0):=fun F=>by unfold zb1;rw[if_neg (by decide),if_pos (zjv F)]
   have hP:zdF (zeY l) (zal [zaL l]):=fun n s _ _ _=>(zeb l _).symm
   have HRl:Hid (∀r,Rais (zal [zaL l]) r→∃x,r=some x∧zdS x (zal [zaL l])):=fun r hr=>zpH hch.2 hP hr
   clear hA hn hnil h5 hns hc hch;rw[hcr];have hL0:zaV (w.alloc (.cells #[.slice (A 0) (n 0) (c 0),.slice (A 1) (n 1) (c 1),.slice (A 2) (n 2) (c 2),.slice (A 3) (n 3) (c 3),.slice (A 4) (n 4) (c 4)] 24)) w.heap.size 0 A n c:=⟨by simp[go_sem],by simp[go_sem],by simp[go_sem],by simp[go_sem],by simp[go_sem]⟩
   have HL0:=waV hL0;clear hL0;go_enter func4,ntmps4;go_wp2_with fail;have hbA:Below w.heap.size w (w.alloc (.cells #[.slice (A 0) (n 0) (c 0),.slice (A 1) (n 1) (c 1),.slice (A 2) (n 2) (c 2),.slice (A 3) (n 3) (c 3),.slice (A 4) (n 4) (c 4)] 24)):=(waC _ w).alloc (waJ _) _;have hzA:w.heap.size<(w.alloc (.cells #[.slice (A 0) (n 0) (c 0),.slice (A 1) (n 1) (c 1),.slice (A 2) (n 2) (c 2),.slice (A 3) (n 3) (c 3),.slice (A 4) (n 4) (c 4)] 24)).heap.size:=by simp
   generalize w.alloc (.cells #[.slice (A 0) (n 0) (c 0),.slice (A 1) (n 1) (c 1),.slice (A 2) (n 2) (c 2),.slice (A 3) (n 3) (c 3),.slice (A 4) (n 4) (c 4)] 24)=V0 at *;refine(HG.out _).mono ?_;rintro x w1 ⟨rfl,hb1⟩;obtain⟨l0,l1,l2,l3,l4⟩:=zea (zaV.below HL0.out (fun o=>hb1.cell (p:=⟨_,o,none⟩) hzA))
   have hb1:Below w.heap.size w w1:=hbA.trans (hb1.mono hbA.size);clear HL0 hbA hzA;go_wp2_with fail;refine(HLw.out _ hb1).mono ?_;rintro e w2 ⟨b,rfl,hr,hb2⟩;have hb2:=zai hb1 hb2 hb1.size;have HR:=waV (HRs.out l b w2 hr (HT.out.below hb2));have HCl:=waV hr;clear hr hb1 l0 l1 l2 l3 l4 HLw;go_wp2_with fail;refine HR.out.mono ?_;rintro e w3 ⟨hb3,(⟨h,_⟩|⟨_,(⟨h,_⟩|⟨x,v,h,rfl,ho⟩)⟩)⟩
   ·exact absurd (HE.out l) h
   ·obtain⟨x,e,_⟩:=HRl.out _ h;cases e
   ·obtain⟨x',e,hm⟩:=HRl.out _ h;obtain rfl:=waB e;replace HCl:=waV (HCl.out.below hb3 (waJ _));have hb03:=zai hb2 hb3 hb2.size;obtain⟨A',n',c',e,hr',hz',hn',_⟩:=ho.rd;obtain⟨S0,n0,d0,S1,n1,d1,S2,n2',d2,S3,n3,d3,S4,n4,d4,hv⟩:=ho.five;have hfx:∀k,k<5→zaI k (x k)=0:=by
     rcases zmq x with g|g
     ·exact g.2
     ·exact absurd (by rw[hm.1]) g
    have hnx:∀k,n' k≤64:=fun k=>by
     rw[hn' k];split
     ·exact(zhc (hfx k ‹_›)).2.1
     ·exact waK _
    have HCk:=waV (fun V (hb:Below w3.heap.size w3 V)=>(show Calls prog 17 #[v] V (Ret (.tuple #[.int .i64 5,.int .i64 0]) V) by
     rw[e];have:=zfd A' n' c' x V (hr'.below hb (waJ _)) (fun k=>waW (hnx k) dQ)
     rwa [hm.1] at this))
    have HLx:=waV (fun V (hb:Below w3.heap.size w3 V)=>(show Calls prog 8 #[v] V (zmo (zaL x) V) by
     rw[e];exact zgA A' n' c' x V (hr'.below hb (waJ _)) (fun k=>waW (hnx k) (by decide)) hz' (by rw[hm.1])))
    have HRx:=waV (And.intro hr' (And.intro hnx hm));have HRais:=waV h;subst hv;have HEe:=waV e;have hz3:=hb03.size;clear ho hr' hz' hn' e h HR hb2 hb3 hfx hnx hm HRl;go_wp2_with fail;have hbX:Below w3.heap.size w3 (w3.alloc (.cells #[.slice S0 n0 d0,.slice S1 n1 d1,.slice S2 n2' d2,.slice S3 n3 d3,.slice S4 n4 d4] 24)):=(waC _ _).alloc (waJ _) _;have hC:(w3.alloc (.cells #[.slice S0 n0 d0,.slice S1 n1 d1,.slice S2 n2' d2,.slice S3 n3 d3,.slice S4 n4 d4] 24)).heap[w3.heap.size]?=some (.cells #[.slice S0 n0 d0,.slice S1 n1 d1,.slice S2 n2' d2,.slice S3 n3 d3,.slice S4 n4 d4] 24 (0,0)):=World.alloc_heap_new _ _;generalize w3.alloc (.cells #[.slice S0 n0 d0,.slice S1 n1 d1,.slice S2 n2' d2,.slice S3 n3 d3,.slice S4 n4 d4] 24)=V4 at *;refine(HCk.out _ hbX).mono ?_;rintro e w5 ⟨rfl,hb5⟩;replace hC:=(hb5.block _ (waL.1 hC).1).trans hC;replace hbX:=zai hbX hb5 hbX.size;have HLc:=waV (zcq (zbu hC));clear hb5 HCk
    go_wp2_with (first|(refine zah (by rfl) 24 _ rfl #[_,_,_,_,_] w3.heap.size 0 rfl underlying24 rfl zbH HLc.out ?_)|fail)
    refine(HLx.out _ hbX).mono ?_;rintro e w6 ⟨b2,rfl,hr2,hb6⟩;replace hC:=(hb6.block _ (waL.1 hC).1).trans hC;replace hbX:=zai hbX hb6 hbX.size;clear hb6 HLx HLc;go_wp2_with fail;have hb6:=hb03.trans (hbX.mono hz3);have hcl:=HCl.out.below hbX (waJ _);have hsm:zdF (zal [zaL l]) (zal [zaL x]):=fun n s h0 h1 h2=>by
     have:=HRx.out.2.2.2 n s h0 h1 h2;rw[←this];exact(zeb x _).symm
    have hsl:zqy [zaL l] [zaL x]:=zis.2 fun n s h0 h1 h2=>by rw[←hsm n s h0 h1 h2];exact(zeb l _).symm
    have hbit:∀F:Nat→List It,∀k,k∈[zaL F]→zcr k∧k.s≤9223372036854775807:=fun F k hk=>by rw[wbC.1 hk];exact⟨zfs F,show(1:Int)≤9223372036854775807 by decide⟩
    have HQ:=waV (zio (some ⟨b,0,none⟩) (some ⟨b2,0,none⟩) 1 1 1 1 [zaL l] [zaL x] w6 hcl dQ (fun h=>(by cases h)) (hbit l) hr2 dQ (fun h=>(by cases h)) (hbit x) (HT.out.below hb6))
    have HSl:=waV hsl;have HSm:=waV hsm;have HC2:=waV hr2;have HE2:Hid (erE (zb1 1 [zaL l]) (zb1 1 [zaL x])=0):=by show _=_;rw[HE.out l,HE.out x];rfl
    clear hcl hsm hsl hbit hr2 hb6;refine HQ.out.mono ?_;rintro e w7 ⟨hb7,y,f,t,rfl,hy⟩;obtain rfl:y=true:=(hy HE2.out).2 HSl.out;rw[HE2.out];replace hC:=(hb7.block _ (waL.1 hC).1).trans hC;replace HC2:=waV (HC2.out.below hb7 (waJ _));replace hbX:=zai hbX hb7 hbX.size;clear hb7 HQ hy HE2;go_wp2_with fail;have hbV:Below w7.heap.size w7 (w7.alloc (.cells #[.bool true,.int .i64 t,.bool f] 45)):=(waC _ _).alloc (waJ _) _;have c0:World.cell? (w7.alloc (.cells #[.bool true,.int .i64 t,.bool f] 45)) ⟨w7.heap.size,0,none⟩=some (.bool true):=zaa rfl rfl;generalize (w7.alloc (.cells #[.bool true,.int .i64 t,.bool f] 45))=V8 at *;replace hC:=(hbV.block _ (waL.1 hC).1).trans hC;replace HC2:=waV (HC2.out.below hbV (waJ _));replace hbX:=zai hbX hbV hbX.size;have hb8:=hb03.trans (hbX.mono hz3);refine(HRs.out x b2 V8 HC2.out (HT.out.below hb8)).mono ?_;rintro e w9 ⟨hb9,(⟨h,_⟩|⟨_,(⟨h,_⟩|⟨x2,v2,h,rfl,ho⟩)⟩)⟩
    ·exact absurd (HE.out x) h
    ·cases h.det (HRais.out.congr HSm.out)
    ·obtain rfl:=waB (h.det (HRais.out.congr HSm.out));replace c0:=((zad hb9).1 _ _ (waR _ _ c0)).trans c0;have lb9:=waR _ _ c0;replace hC:=(hb9.block _ (waL.1 hC).1).trans hC;have lc9:=(waL.1 hC).1;replace hbX:=zai hbX hb9 hbX.size;obtain⟨A2,n2,c2,e2,hr2,_,hn2,_⟩:=ho.rd;obtain⟨T0,p0,q0,T1,p1,q1,T2,p2,q2,T3,p3,q3,T4,p4,q4,hv2⟩:=ho.five;have hb09:=hb03.trans (hbX.mono hz3);have hnx2:∀k,n2 k≤9223372036854775807:=fun k=>by
      have h1:=HRx.out.2.1;rw[hn2 k];split
      ·have:=(zhc (show zaI k (x2 k)=0 from by
        rcases zmq x2 with g|g
        ·exact g.2 k ‹_›
        ·exact absurd (by rw[HRx.out.2.2.1]) g)).2.1
       omega
      ·exact waK _
     have HSame:=waV (fun V (hb:Below w9.heap.size w9 V)=>(show Calls prog 19 #[.agg #[.slice S0 n0 d0,.slice S1 n1 d1,.slice S2 n2' d2,.slice S3 n3 d3,.slice S4 n4 d4],v2] V (Ret (.bool true) V) by
      rw[HEe.out,e2];have:=zrD A' A2 n' c' n2 c2 x2 x2 V (HRx.out.1.below (zai hbX hb hbX.size) (waJ _)) (hr2.below hb (waJ _)) (fun k=>waW (HRx.out.2.1 k) dQ) hnx2
      rwa [ziW] at this))
     have z0:w9.cell? ⟨w3.heap.size,0,none⟩=some (.slice S0 n0 d0):=by rw[World.cell?_of_heap hC];rfl
     have z1:w9.cell? ⟨w3.heap.size,1,none⟩=some (.slice S1 n1 d1):=by rw[World.cell?_of_heap hC];rfl
     have z2:w9.cell? ⟨w3.heap.size,2,none⟩=some (.slice S2 n2' d2):=by rw[World.cell?_of_heap hC];rfl
     have z3:w9.cell? ⟨w3.heap.size,3,none⟩=some (.slice S3 n3 d3):=by rw[World.cell?_of_heap hC];rfl
     have z4:w9.cell? ⟨w3.heap.size,4,none⟩=some (.slice S4 n4 d4):=by rw[World.cell?_of_heap hC];rfl
     subst hv2;clear hr2 hn2 ho e2 h hC HC2 hb8 hbV hb9 hnx2;go_wp2_with fail;refine(HSame.out _ ((waC _ w9).alloc (waJ _) _)).mono ?_;rintro e w10 ⟨rfl,hb10⟩;have hbz:Below w.heap.size w w10:=(hb09.alloc hb09.size _).trans (hb10.mono (by simp;have:=hb09.size;omega))
     clear hb10 HSame;go_wp2_with fail;refine(HV.out _ hbz).mono ?_;rintro e w11 ⟨rfl,hb11⟩;go_wp2;go_ret;exact⟨rfl,zai hbz hb11 hbz.size⟩
  ·have HBad:=waV (fun V (hV:Below w.heap.size w V)=>zkg A n c l V (hA.below hV (waJ _)) hn hc)
   have he:((chk l).2==0)=false:=by rw[wbE];exact hc
   clear hA hn hnil h5 hns hc;generalize (chk l).2=k at *;rw[hcr];have hL0:zaV (w.alloc (.cells #[.slice (A 0) (n 0) (c 0),.slice (A 1) (n 1) (c 1),.slice (A 2) (n 2) (c 2),.slice (A 3) (n 3) (c 3),.slice (A 4) (n 4) (c 4)] 24)) w.heap.size 0 A n c:=⟨by simp[go_sem],by simp[go_sem],by simp[go_sem],by simp[go_sem],by simp[go_sem]⟩
   have HL0:=waV hL0;clear hL0;go_enter func4,ntmps4;go_wp2_with fail;have hbA:Below w.heap.size w (w.alloc (.cells #[.slice (A 0) (n 0) (c 0),.slice (A 1) (n 1) (c 1),.slice (A 2) (n 2) (c 2),.slice (A 3) (n 3) (c 3),.slice (A 4) (n 4) (c 4)] 24)):=(waC _ w).alloc (waJ _) _;have hzA:w.heap.size<(w.alloc (.cells #[.slice (A 0) (n 0) (c 0),.slice (A 1) (n 1) (c 1),.slice (A 2) (n 2) (c 2),.slice (A 3) (n 3) (c 3),.slice (A 4) (n 4) (c 4)] 24)).heap.size:=by simp
   generalize w.alloc (.cells #[.slice (A 0) (n 0) (c 0),.slice (A 1) (n 1) (c 1),.slice (A 2) (n 2) (c 2),.slice (A 3) (n 3) (c 3),.slice (A 4) (n 4) (c 4)] 24)=V0 at *;refine(HG.out _).mono ?_;rintro x w1 ⟨rfl,hb1⟩;obtain⟨l0,l1,l2,l3,l4⟩:=zea (zaV.below HL0.out (fun o=>hb1.cell (p:=⟨_,o,none⟩) hzA))
   have hb1:Below w.heap.size w w1:=hbA.trans (hb1.mono hbA.size);clear HL0 hbA hzA;go_wp2_with fail;refine(HBad.out _ hb1).mono ?_;rintro x w2 ⟨rfl,hb2⟩;have hb2:=zai hb1 hb2 hb1.size;go_wp2_with fail;refine(HV.out _ hb2).mono ?_;rintro x w3 ⟨rfl,hb3⟩;go_wp2;go_ret;exact⟨rfl,zai hb2 hb3 hb2.size⟩
end Go.Proofs.YtgedndlifiihkaaGreatDoor
namespace Go.Proofs.YtgedndlifiihkaaGreatDoor
open Go.Proofs.Tryz
open Go.ChangeShapes Go.WideShapes Go.ChangeAt Go.RowKit
def zur:Nat→DataW Unit→List Value
 |n+1,.agg xs=>xs.flatMap (zur n)
 |n+1,.slice xs _=>xs.flatMap (zur n)
 |_,.lit (.int k z)=>[.int k z]
 |_,_=>[undef]
def zqT (d:DataW Unit):Obj→Obj
 | .cells _ t fr=>.cells (zur 4 d).toArray t fr
 |o=>o
def zsG (cs:Array Value):Obj→Obj
 | .cells _ t fr=>.cells cs t fr
 |o=>o
def ze7:Go.Shelf.Ren:={Tryz.lays274_ren with g:=fun|13=>1|n=>n}
theorem zqU:Go.Proofs.Lays.n274 prog ze7:={Tryz.lays274 with}
noncomputable def zfM (os:Os):World:=
 {World.holding prog os ⟨#[.cells Lib.caseCells5 (ze7.t 208)],#[],[]⟩ with heap:=(((World.holding prog os ⟨#[.cells Lib.caseCells5 (ze7.t 208)],#[],[]⟩).heap.modify 4 (zqT Rows.laid_unicode_utf8_acceptRanges)).modify 3 (zqT Rows.laid_unicode_utf8_first)).modify 1 (zsG #[.slice (some ⟨(World.settled prog os).heap.size,0,none⟩) 336 336])}
theorem zqV (os:Os) (args:Array Value):laidMet prog ([("unicode/utf8.acceptRanges",Rows.laid_unicode_utf8_acceptRanges),("unicode/utf8.first",Rows.laid_unicode_utf8_first)]++[("unicode.CaseRanges",Lib.caseData)]) ((zfM os).forCall (fun _ _=>0) ⟨#[],args,[]⟩).memory:=
 laidMet_with_case (ρ:=ze7) zqU kQ ⟨by kernel_rfl,by kernel_rfl,by kernel_rfl,by kernel_rfl,by kernel_rfl,by kernel_rfl⟩
  (l:=[("unicode/utf8.acceptRanges",Rows.laid_unicode_utf8_acceptRanges),("unicode/utf8.first",Rows.laid_unicode_utf8_first)])
  10 kQ kQ kQ ((World.settled prog default).heap.size) (ze7.t 208) (waA kQ) kQ kQ kQ
theorem zkU {P:Program} {w:World} {a f c:String×DataW Unit} (h:laidMet P [a,f,c] w):laidMet P [a,c,f] w:=by
 obtain⟨ps,hv,hnd,hrows⟩:=h;obtain⟨na,da⟩:=a;obtain⟨nf,df⟩:=f;obtain⟨nc,dc⟩:=c;obtain⟨ga,ta,csa,fua,pa,qa,a1,a2,a3,a4,hf,rfl⟩:=hv;obtain⟨gf,tf,csf,fuf,pf,qf,f1,f2,f3,f4,hc,rfl⟩:=hf;obtain⟨gc,tc,csc,fuc,pc,qc,c1,c2,c3,c4,hn,rfl⟩:=hc;cases hn;have hperm:∀(X Y Z:List MemPlace),List.Perm (X++(Y++(Z++[]))) (X++(Z++(Y++[]))):=fun X Y Z=>by
  rw[List.append_nil,List.append_nil];exact List.Perm.append_left _ List.perm_append_comm
 refine⟨_,⟨ga,ta,csa,fua,pa,_,a1,a2,a3,a4,⟨gc,tc,csc,fuc,pc,_,c1,c2,c3,c4,⟨gf,tf,csf,fuf,pf,_,f1,f2,f3,f4,rfl,rfl⟩,rfl⟩,rfl⟩,?_,?_⟩
 ·exact(hperm _ _ _).nodup_iff.1 hnd
 ·intro b off hp;exact hrows b off ((hperm _ _ _).mem_iff.2 hp)
theorem rune_met (os:Os) (args:Array Value):laidMet prog [("unicode/utf8.acceptRanges",Rows.laid_unicode_utf8_acceptRanges),("unicode.CaseRanges",Rows.laid_unicode_CaseRanges),("unicode/utf8.first",Rows.laid_unicode_utf8_first)] ((zfM os).forCall (fun _ _=>0) ⟨#[],args,[]⟩).memory:=by
 have h:=zqV os args;have e:Rows.laid_unicode_CaseRanges=Lib.caseData:=Pinned.caseRanges_eq;rw[e];exact zkU h
end Go.Proofs.YtgedndlifiihkaaGreatDoor
