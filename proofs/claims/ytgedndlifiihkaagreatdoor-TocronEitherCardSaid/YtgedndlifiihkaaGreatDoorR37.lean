/- A part of the proof: WRd36 LTc36 RTocE WHas02 -/
import Derived.Test.YtgedndlifiihkaaGreatDoorR11
import Derived.Test.YtgedndlifiihkaaGreatDoorR10
import Derived.Test.YtgedndlifiihkaaGreatDoorR36
import Derived.Test.YtgedndlifiihkaaGreatDoorR05
set_option maxHeartbeats 80000000
set_option maxRecDepth 100000
set_option linter.unusedSimpArgs false
set_option linter.unusedVariables false
namespace Go.Proofs.YtgedndlifiihkaaGreatDoor
open Go.Proofs.Tryz
open Go.RowKit
theorem zuv (f:Nat) (hf:f<3) (w:World):Calls prog 161 #[.int .i64 (f:Int)] w (zbU (.slice none 0 0) w):=by
 have e3:((f:Int)==3)=false:=by simp;omega
 have e4:((f:Int)==4)=false:=by simp;omega
 clear hf;go_enter func161,ntmps161;go_wp2;go_ret;exact⟨rfl,rfl⟩
theorem zvA (b f:Nat) (hf:f<3) (s:ByteArray) (hs:s.size≤1000000) (l r:List UInt8) (n0:Int) (w:World) (h:zcK w b s l) (hp:zuX 2 l=.ok (n0,r)) (g1:¬n0<cLo f) (g2:¬cHi f<n0):
 Calls prog 107 #[rdV b f] w (zme (.int .i64 n0) b s r w):=by
 have hs:s.size≤9223372036854775807:=by omega
 have hlt:=h.lt;have hne:w.heap.size≠b:=by omega
 have HAt:=waV (fun W (hW:Below w.heap.size w W)=>zpO (h.below hW))
 have HL:=waV (fun W (hW:Below w.heap.size w W)=>h.below hW)
 have HBo:=waV (fun W=>zfb f oQ W)
 have HNm:=waV (fun W=>zuv f hf W)
 have HN:=waV (fun W (h:zcK W b s l)=>zpb hs (most:=2) dQ h hp)
 clear h hp hf;go_enter func107,ntmps107;go_wp2_with fail;refine(HBo.out _).mono ?_;rintro e w1 ⟨rfl,hb1⟩;have HB1:=waV ((zlo w b (f:Int) 104).below hb1);have hbA:Below w.heap.size w w1:=((waC _ w).alloc (waJ _) _).trans (hb1.mono (by simp))
 have hzA:=hbA.size;clear hb1;go_wp2_with fail;obtain⟨W1,rfl⟩:∃W1:World,W1=w1:=⟨_,rfl⟩;have HS:Hid (∀w',Below W1.heap.size W1 w'→Below W1.heap.size W1 w'∧w'.cell? ⟨w.heap.size,0,none⟩=some (.pointer (some ⟨b,0,none⟩))∧w'.cell? ⟨w.heap.size,1,none⟩=some (.int .i64 (f:Int))):=fun w' h=>⟨h,(HB1.out.below h).1,(HB1.out.below h).2⟩
 have HW:Hid (∀w',Below W1.heap.size W1 w'→Below w.heap.size w w'):=fun w' h=>zai hbA h hzA
 go_region_held3 (fun w'=>Below W1.heap.size W1 w'∧w'.cell? ⟨w.heap.size,0,none⟩=some (.pointer (some ⟨b,0,none⟩))∧w'.cell? ⟨w.heap.size,1,none⟩=some (.int .i64 (f:Int)))
  (first|(go_split_ands;refine HS.out _ (zai ?_ hb1 ?_);assumption;exact Below.size (by assumption))|(go_split_ands;refine HS.out _ (Below.alloc ?_ ?_ _);assumption;exact Below.size (by assumption))|(refine HS.out _ ?_;exact Below.drew (waC _ _))|(refine HS.out _ ?_;exact zaI (waC _ _) _))
  (first|(go_at_call 56;(with_reducible refine(HAt.out _ ?_).mono ?_);(focus (go_split_ands;exact HW.out _ (by assumption)));rintro e w1 ⟨rfl,rfl⟩)|(go_at_call 161;(with_reducible refine(HNm.out _).mono ?_);rintro e w1 ⟨rfl,rfl⟩))
 have hb2:Below W1.heap.size W1 W1.drew:=(waC _ _).drew;have hbB:Below w.heap.size w W1.drew:=HW.out _ hb2;have HB2:=waV (HB1.out.below hb2);clear HS HW
 try simp only[Exit.inBlock,Exit.then]
 generalize W1.drew=w1 at *;have h2:=HL.out _ hbB;have hgA:Chg b w w1:=Chg.of_below hbB;go_wp2_with fail;refine(HN.out _ h2).mono ?_;rintro e w4 ⟨rfl,h4,g4⟩;go_wp2;go_ret;exact⟨rfl,h4,hgA.trans g4⟩
theorem ztn (b f:Nat) (hf:f<3) (s:ByteArray) (hs:s.size≤1000000) (l l1 l2 l3:List UInt8) (n m:Int) (w:World) (h:zcK w b s l) (hp:pIs [42] l=none) (hp1:zuX 2 l=.ok (n,l1)) (k1:¬n<cLo f) (k2:¬cHi f<n) (hp2:pIs [45] l1=some l2) (hp3:zuX 2 l2=.ok (m,l3)) (k3:¬m<cLo f) (k4:¬cHi f<m) (hle:¬m<n) (hp4:pIs [47] l3=none):
 Calls prog 58 #[rdV b f] w (zme (itV ⟨2,n,m,1⟩) b s l3 w):=by
 have hs9:s.size≤9223372036854775807:=by omega
 have hlt:=h.lt;have hne:w.heap.size≠b:=by omega
 have hne1:w.heap.size+1≠b:=by omega
 have H:=waV h;have HP:=waV (hp);have HN:=waV (fun W (h:zcK W b s l)=>zvA b f hf s hs l l1 n W h hp1 k1 k2)
 have HP2:=waV (hp2);have HM:=waV (fun W (h:zcK W b s l2)=>zvA b f hf s hs l2 l3 m W h hp3 k3 k4)
 have HP4:=waV (hp4);clear h hp hp1 hp2 hp3 hp4 k1 k2 k3 k4 hf;go_enter func58,ntmps58;go_wp2_with fail;refine(zrq hs9 (((H.out.alloc _).alloc _).alloc _) (zuG (c:=42) (zaa (by simp) rfl)) dQ HP.out).mono ?_
 rintro e w1 ⟨rfl,h1,g1⟩;have F1:=waV (((zta w b (f:Int) 104 81).alloc _).chg g1 hne hne1);have hg1:=((((Chg.refl b w).alloc _).alloc _).alloc _).trans g1;have hz1:=g1.size
 (try simp at hz1)
 have hzA1:w.heap.size<w1.heap.size:=by omega
 have hzB1:w.heap.size+1<w1.heap.size:=by omega
 obtain⟨c0,c1⟩:=F1.out.1;go_wp2_with fail;refine(HN.out _ h1).mono ?_;rintro e w2 ⟨rfl,h2,g2⟩;have F2:=waV (F1.out.chg g2 hne hne1);have hg2:=hg1.trans g2;have hz2:=g2.size
 (try simp at hz2)
 have hzA2:w.heap.size<w2.heap.size:=by omega
 have hzB2:w.heap.size+1<w2.heap.size:=by omega
 clear c0 c1;obtain⟨c0,c1⟩:=F2.out.1;have hneI:w2.heap.size≠b:=by omega
 go_wp2_with fail;refine(zs3 hs9 ((h2.alloc _).alloc _) (zuG (c:=45) (zaa (by simp) rfl)) dQ HP2.out).mono ?_
 rintro e w3 ⟨rfl,h3,g3⟩;have F3:=waV (((F2.out.alloc _).alloc _).chg g3 hne hne1);have I3:=waV (Arr.chg (Arr.alloc (zfk w2 1 n 0 0 81) (Arr.lt (zfk w2 1 n 0 0 81) dQ) _) dQ g3 hneI);have hg3:=((hg2.alloc _).alloc _).trans g3;have hz3:=g3.size
 (try simp at hz3)
 have hzA3:w.heap.size<w3.heap.size:=by omega
 have hzB3:w.heap.size+1<w3.heap.size:=by omega
 have hzI3:w2.heap.size<w3.heap.size:=by omega
 clear c0 c1;obtain⟨c0,c1⟩:=F3.out.1;obtain⟨i0,i1,i2,i3,ifz⟩:=zjO.cells I3.out;go_wp2_with fail;refine(zpa h3).mono ?_;rintro e w4 ⟨rfl,h4,g4⟩;have F4:=waV (F3.out.chg g4 hne hne1);have I4:=waV (Arr.chg I3.out dQ g4 hneI);have hg4:=hg3.trans g4;have hz4:=g4.size
 (try simp at hz4)
 have hzA4:w.heap.size<w4.heap.size:=by omega
 have hzB4:w.heap.size+1<w4.heap.size:=by omega
 have hzI4:w2.heap.size<w4.heap.size:=by omega
 clear c0 c1 i0 i1 i2 i3 ifz;obtain⟨c0,c1⟩:=F4.out.1;obtain⟨i0,i1,i2,i3,ifz⟩:=zjO.cells I4.out;go_wp2_with fail;refine(HM.out _ h4).mono ?_;rintro e w5 ⟨rfl,h5,g5⟩;have F5:=waV (F4.out.chg g5 hne hne1);have I5:=waV (Arr.chg I4.out dQ g5 hneI);have hg5:=hg4.trans g5;have hz5:=g5.size
 (try simp at hz5)
 have hzA5:w.heap.size<w5.heap.size:=by omega
 have hzB5:w.heap.size+1<w5.heap.size:=by omega
 have hzI5:w2.heap.size<w5.heap.size:=by omega
 clear c0 c1 i0 i1 i2 i3 ifz;obtain⟨c0,c1⟩:=F5.out.1;obtain⟨i0,i1,i2,i3,ifz⟩:=zjO.cells I5.out;go_wp2_with fail;refine(zrq hs9 ((((h5.set hneI (.int .i64 2)).set hneI (.int .i64 m)).set hneI (.int .i64 1)).alloc _) (zuG (c:=47) (zaa (by simp) rfl)) dQ HP4.out).mono ?_
 rintro e w6 ⟨rfl,h6,g6⟩;have F6:=waV (((((F5.out.set oQ oQ (.int .i64 2)).set oQ oQ (.int .i64 m)).set oQ oQ (.int .i64 1)).alloc _).chg g6 hne hne1);have I6:=waV (Arr.chg (Arr.alloc (zjR (zjQ (zjP I5.out 2) m) 1) (Arr.lt (zjR (zjQ (zjP I5.out 2) m) 1) dQ) _) dQ g6 hneI);have hg6:=((((hg5.setNew oQ).setNew oQ).setNew oQ).alloc _).trans g6;have hz6:=g6.size
 (try simp at hz6)
 have hzA6:w.heap.size<w6.heap.size:=by omega
 have hzB6:w.heap.size+1<w6.heap.size:=by omega
 have hzI6:w2.heap.size<w6.heap.size:=by omega
 clear c0 c1 i0 i1 i2 i3 ifz;obtain⟨c0,c1⟩:=F6.out.1;obtain⟨i0,i1,i2,i3,ifz⟩:=zjO.cells I6.out;obtain⟨r0,r1,r2,r3,rfz⟩:=zjO.cells F6.out.2;go_wp2
 (try simp only[Exit.inBlock,Exit.then])
 refine waY (v:=itV ⟨2,n,m,1⟩) ?_ rfl ⟨rfl,?_,?_⟩
 ·rw[zag rfl]
  go_simp
 ·exact h6.set4 hne1 _ _ _ _
 ·exact hg6.set4 oQ _ _ _ _
theorem zvB (b f:Nat) (s:ByteArray) (hs:s.size≤1000000) (l r:List UInt8) (i:It) (w:World) (h:zcK w b s l) (hI:∀W,zcK W b s l→Calls prog 58 #[rdV b f] W (zme (itV i) b s r W)) (hp:pIs [44] r=none):
 Calls prog 57 #[rdV b f,.func (.func 58) #[rdV b f] #[]] w (zt1 [i] b s r w):=by
 have hs9:s.size≤9223372036854775807:=by omega
 have hlt:=h.lt;have hne:w.heap.size≠b:=by omega
 have H:=waV h;have HP2:=waV hp;have HI:=waV hI;obtain⟨i0,hi0,hz0,hz1,hz2⟩:=info_parts zix;have HI0:=waV hi0;have HZ0:=waV hz0;have HZ1:=waV hz1;have HZ2:=waV hz2;clear hi0 hz0 hz1 hz2;clear h hp hI;go_enter func57,ntmps57;go_wp2;go_step3;go_wp2;go_step3;go_wp2
 go_loopg [5] 63 (fun gg v wr=>∃(vo:Value) (acc:List It),vo=v∧acc=[]∧gg=63∧Hid (zau wr (w.heap.size+1) vo acc)∧Hid (zcK wr b s l)∧Hid (Box wr w.heap.size b (f:Int))∧Hid (Chg b w wr))
 case atStart=>exact⟨_,[],rfl,rfl,rfl,World.ownsRow_nil _ _ _ _,H.out.alloc _,zlo _ _ _ _,(Chg.refl b w).alloc _⟩
 case round=>
  obtain⟨vo,acc,rfl,hacc,hgq,HO,HD,HB,HC⟩:=hrel;have hal:acc.length≤63:=by rw[hacc];decide
  have HAc:=waV hacc;clear hacc;have hlt:b<w.heap.size+1:=by omega
  go_wp2_with fail;refine(HI.out _ HD.out).mono ?_;rintro e w2 ⟨rfl,h2,g2⟩;have HO2:=waV (zdJ HO.out g2 hlt);have HB2:=waV (HB.out.chg g2 hne);have hgA:=HC.out.trans g2;have hz2:=hgA.size;have hi0:=HI0.out;have hz0:=HZ0.out;have hz1:=HZ1.out;have hzz2:=HZ2.out
  go_wp2_with (at_builtin;refine wpList_append_own _ rfl _ _ 22 rfl (w.heap.size+1) 81 i0 _ 4 32 underlying22 hi0 hz0 hz1 hzz2 rfl dQ _ acc.length _ rfl (HO2.out.alloc _) ⟨w2.heap.size,0,none⟩ 1 1 [.int .i64 i.k,.int .i64 i.f,.int .i64 i.t,.int .i64 i.s] rfl rfl ?c1 ?c2 ?c3 ?c4 ?c5 ?c6)
  case c1=>
   intro j u hu;rcases j with _|_|_|_|j
   ·simp at hu;subst hu;exact zaa rfl rfl
   ·simp at hu;subst hu;exact zaa rfl rfl
   ·simp at hu;subst hu;exact zaa rfl rfl
   ·simp at hu;subst hu;exact zaa rfl rfl
   ·simp at hu
  case c2=>intro u hu;simp at hu;rcases hu with rfl|rfl|rfl|rfl<;>rfl
  case c3=>simp only[maxLen];omega
  case c4=>omega
  case c5=>simp;omega
  case c6=>
   intro v' w3 hown hg _;have HV:Hid (zau w3 (w.heap.size+1) v' (acc++[i])):=by
    show World.ownsRow _ _ _ _ _ _ _;rw[waF,List.flatMap_append,List.flatMap_singleton];exact hown
   have hob1:∀k,vo.ownBlock=some k→w.heap.size+1≤k:=ztb HO.out;have hob:∀k,vo.ownBlock=some k→w.heap.size≤k:=fun k hk=>by have:=hob1 k hk;omega
   have hobn:vo.ownBlock≠some b:=fun e=>by have:=hob b e;omega
   have hobB:vo.ownBlock≠some w.heap.size:=fun e=>by have:=hob1 _ e;omega
   have h3:=(h2.alloc (.cells #[.int .i64 i.k,.int .i64 i.f,.int .i64 i.t,.int .i64 i.s] 81)).grown hg hobn;have HB3:=waV ((HB2.out.alloc _).grown hg hobB);have hgB:=(hgA.alloc _).grown hg hob;have HLn:Hid ((acc++[i]).length=acc.length+1):=by show _=_;simp
   have hpos:0<(acc++[i]).length:=by simp
   clear hown hg hi0 hz0 hz1 hzz2 h2 g2 HO2 HB2 hob hob1 hobn hobB;obtain⟨g,cap,rfl,hgb,hgl⟩:∃g cap,v'=.slice (some ⟨g,0,none⟩) (acc++[i]).length cap∧w.heap.size+1≤g∧g<w3.heap.size:=by
    rcases zbr HV.out with ⟨_,h0⟩|h1
    ·omega
    ·exact h1
   obtain⟨acc1,hacc⟩:∃x,x=acc++[i]:=⟨_,rfl⟩;rw[←hacc] at HV HLn ⊢;have HAcc:=waV hacc;rw[HLn.out];clear hpos hacc;obtain⟨c0,c1⟩:=HB3.out;have hz3:=hgB.size;go_wp2_with fail;refine(zpa h3).mono ?_;rintro e w4 ⟨rfl,h4,g4⟩;have hgC:=hgB.trans g4;have HB4:=waV (HB3.out.chg g4 hne);have HV4:=waV (zdJ HV.out g4 hlt);clear c0 c1;obtain⟨c0,c1⟩:=HB4.out;go_wp2_with fail;refine(zrq hs9 (h4.alloc _) (zuG (c:=44) (zaa (by simp) rfl)) dQ HP2.out).mono ?_
   rintro e w5 ⟨rfl,h5,g5⟩;have hgD:=(hgC.alloc _).trans g5;have HV5:=waV (zdJ (HV4.out.alloc _) g5 hlt);go_wp2;rw[Exit.noGoto_ret];go_ret;have hL:[i]=acc1:=by rw[HAcc.out,HAc.out];rfl
   exact⟨.slice (some ⟨g,0,none⟩) acc1.length cap,by rw[HLn.out];rfl,by rw[hL];exact zaq HV5.out (by omega),h5,hgD⟩
def zqS (s:ByteArray) (I:Nat→It) (w:World) (x:Ending) (w':World):Prop:=
 Below w.heap.size w w'∧∃(A:Nat→Option Addr) (n c:Nat→Nat),x=.returned (.tuple #[crV A n c,.int .i64 (s.size:Int),.int .i64 0])∧∀k,k<5→zau w' w.heap.size (zkh A n c k) [I k]
theorem zvC (s:ByteArray) (hs:s.size≤8192) (T R:Nat→List UInt8) (I:Nat→It) (h0:s.data.toList.dropWhile zbQ=T 0) (h64:(ztD (T 0)==64)=false)
 (hF:∀k b W,k<5→zcK W b s (T k)→Calls prog 57 #[rdV b k,.func (.func 58) #[rdV b k] #[]] W (zt1 [I k] b s (R k) W))
 (hB:∀k,k<4→(R k).takeWhile zbQ≠[]∧(R k).dropWhile zbQ=T (k+1)) (hE:R 4=[]) (h5:T 5=[]) (w:World):
 Calls prog 23 #[.string s] w (zqS s I w):=by
 have hs9:s.size≤9223372036854775807:=by omega
 have HN:=waV (fun W=>zuZ hs9 hs W)
 have H0:=waV h0;have HF:=waV hF;have HBt:=waV (fun k W b (hk:k<4) (h:zcK W b s (R k))=>(show Calls prog 59 #[.pointer (some ⟨b,0,none⟩)] W (zme (.tuple #[]) b s (T (k+1)) W) by
  have:=znD b s hs9 _ W h (hB k hk).1
  rwa [(hB k hk).2] at this))
 have HE:Hid (R 4=T 5):=hE.trans h5.symm;have H5:=waV h5;clear h0 hF hB hE h5;go_enter func23,ntmps23;go_wp2_with fail;refine(HN.out _).mono ?_;rintro e w1 ⟨b,hb0,rfl,h1,hb1⟩;have hbS1:Below w.heap.size w w1:=((waC _ w).alloc (waJ _) _).trans (hb1.mono (by simp))
 have hbgt:w.heap.size<b:=by simp at hb0;omega
 have HR1:=waV ((zi4 w 24 (.slice none 0 0) (.slice none 0 0) (.slice none 0 0) (.slice none 0 0) (.slice none 0 0) nil5 rfl rfl rfl rfl rfl).below (by simp) hb1)
 have hzw1:=waD hbgt (Nat.le_of_lt h1.lt);go_wp2_with fail;refine(zeV hs9 h1).mono ?_;rintro e w2 ⟨rfl,h2,g2⟩;rw[H0.out] at h2;go_wp2_with fail;refine(zo9 h2).mono ?_;rintro e w3 ⟨rfl,h3,g3⟩;have g23:=g2.trans g3;have hbS:=Chg.below hbS1 g23 (Nat.le_of_lt hbgt) hbS1.size;have HR:=waV (Arr.chg HR1.out dQ g23 oQ);have HSt:Hid (zcK w3 b s (T 0)):=h3;have hb3:=h3.lt;clear h1 h2 h3 g2 g3 g23 hb1 hbS1 HR1 hzw1;go_wp2_with fail;have HC0:=waV ((zi4 w3 24 (.slice none 0 0) (.slice none 0 0) (.slice none 0 0) (.slice none 0 0) (.slice none 0 0) (zkh (fun _=>none) (fun _=>0) (fun _=>0)) rfl rfl rfl rfl rfl).alloc (by simp) (.cells #[.pointer (some ⟨w3.heap.size,0,none⟩),.pointer (some ⟨w3.heap.size,1,none⟩),.pointer (some ⟨w3.heap.size,2,none⟩),.pointer (some ⟨w3.heap.size,3,none⟩),.pointer (some ⟨w3.heap.size,4,none⟩)] 101))
 have HP0:=waV (zi4 (w3.alloc (.cells #[.slice none 0 0,.slice none 0 0,.slice none 0 0,.slice none 0 0,.slice none 0 0] 24)) 101 (.pointer (some ⟨w3.heap.size,0,none⟩)) (.pointer (some ⟨w3.heap.size,1,none⟩)) (.pointer (some ⟨w3.heap.size,2,none⟩)) (.pointer (some ⟨w3.heap.size,3,none⟩)) (.pointer (some ⟨w3.heap.size,4,none⟩)) (fun j=>.pointer (some ⟨w3.heap.size,j,none⟩)) rfl rfl rfl rfl rfl)
 have hzS:=hbS.size;have hzw:w.heap.size<w3.heap.size:=by omega
 have HR0:=waV ((HR.out.alloc hzw (.cells #[.slice none 0 0,.slice none 0 0,.slice none 0 0,.slice none 0 0,.slice none 0 0] 24)).alloc (by simp;omega) (.cells #[.pointer (some ⟨w3.heap.size,0,none⟩),.pointer (some ⟨w3.heap.size,1,none⟩),.pointer (some ⟨w3.heap.size,2,none⟩),.pointer (some ⟨w3.heap.size,3,none⟩),.pointer (some ⟨w3.heap.size,4,none⟩)] 101))
 go_loopw [30] (fun i wr=>∃(k:Nat) (A:Nat→Option Addr) (n c:Nat→Nat),k≤5∧i=.int .i64 k∧Hid (zcK wr b s (T k))∧Hid (Arr wr w3.heap.size 5 (zkh A n c))∧Hid (∀j,j<k→zau wr (w3.heap.size+2) (zkh A n c j) [I j])∧Hid (Arr wr (w3.heap.size+1) 5 (fun j=>.pointer (some ⟨w3.heap.size,j,none⟩)))∧Hid (Arr wr w.heap.size 5 nil5)∧Below w.heap.size w wr∧w3.heap.size+2≤wr.heap.size) (fun i _=>5 - (intOf i).toNat)
 case atStart=>
  exact⟨0,fun _=>none,fun _=>0,fun _=>0,by omega,rfl,(HSt.out.below ((waC _ w3).alloc (waJ _) _)).below ((waC _ _).alloc (waJ _) _),HC0.out,fun j hj=>absurd hj (Nat.not_lt_zero _),by show Arr _ _ _ _;have:=HP0.out;simpa using this,HR0.out,(hbS.alloc hzS _).alloc (by simp;omega) _,by simp⟩
 case round=>
  obtain⟨k,A,n,c,hk,rfl,HStk,HCk,HOk,HPk,HRk,hbk,hzk⟩:=hrel;have hszk:=hbk.size;have hzC:w3.heap.size<wr.heap.size:=by omega
  have hzP:w3.heap.size+1<wr.heap.size:=by omega
  have hzR:w.heap.size<wr.heap.size:=by omega
  have hzb:b<wr.heap.size:=by omega
  by_cases h5:k<5
  ·have h5':(k:Int)<5:=by omega
   have hk0:(0:Int)≤(k:Int):=by omega
   have cP:=HPk.out.1 k h5;go_wp2_with fail;refine(HF.out k b _ h5 (HStk.out.below ((waC _ wr).alloc (waJ _) _))).mono ?_;rintro e w4 ⟨v,rfl,hown,hst,g4⟩;obtain⟨A',n',c',rfl⟩:=zvd hown;have g4':Chg b wr w4:=((Chg.refl b wr).alloc _).trans g4;have HC4:=waV (Arr.chg HCk.out dQ g4' oQ);have HP4:=waV (Arr.chg HPk.out dQ g4' oQ);have HR4:=waV (Arr.chg HRk.out dQ g4' oQ);have hO4:∀j,j<k→zau w4 (w3.heap.size+2) (zkh A n c j) [I j]:=fun j hj=>zdJ (HOk.out j hj) g4' oQ
   have HO4:=waV hO4;have hbk4:=Chg.below hbk g4' oQ hszk;have hz4:=g4.size;simp at hz4;have hown4:zau w4 (w3.heap.size+2) (.slice A' n' c') [I k]:=zaq hown (by simp;omega)
   have HN4:=waV hown4;have ck:=HC4.out.1 k h5;have fk:=HC4.out.2 k;have HS2:=waV (hst.set (B:=w3.heap.size) (o:=k) oQ (.slice A' n' c'));have HC5:=waV (HC4.out.set k h5 (.slice A' n' c') (g':=zkh (upd A k A') (upd n k n') (upd c k c')) zmt (fun j _ hj=>zpP hj))
   have HP5:=waV (HP4.out.other (b':=w3.heap.size) (i:=k) (v:=.slice A' n' c') oQ);have HR5:=waV (HR4.out.other (b':=w3.heap.size) (i:=k) (v:=.slice A' n' c') oQ);have hcs:Chg w3.heap.size w4 (w4.setCell ⟨w3.heap.size,k,none⟩ (.slice A' n' c')):=(Chg.refl _ _).set _ _;have hO5:∀j,j<k+1→zau (w4.setCell ⟨w3.heap.size,k,none⟩ (.slice A' n' c')) (w3.heap.size+2) (zkh (upd A k A') (upd n k n') (upd c k c') j) [I j]:=by
    intro j hj
    by_cases e:j=k
    ·subst e;rw[zmt];exact zdJ HN4.out hcs oQ
    ·rw[zpP e];exact zdJ (HO4.out j oQ) hcs oQ
   have HO5:=waV hO5;have hbk5:Below w.heap.size w (w4.setCell ⟨w3.heap.size,k,none⟩ (.slice A' n' c')):=hbk4.setCell (by simp;omega) _
   unfold zkh at ck;clear hown hst hO4 hown4 hcs hO5 g4 g4' cP
   by_cases h4:k<4
   ·have h4':(k:Int)<4:=by omega
    go_wp2_with fail;refine(HBt.out k _ b h4 HS2.out).mono ?_;rintro e w5 ⟨rfl,hst5,g5⟩;have hz5:=g5.size;simp[World.setCell] at hz5;go_wp2;go_roundw
    case rel=>
     exact⟨k+1,upd A k A',upd n k n',upd c k c',by omega,by go_num,hst5,Arr.chg HC5.out dQ g5 oQ,fun j hj=>zdJ (HO5.out j hj) g5 oQ,Arr.chg HP5.out dQ g5 oQ,Arr.chg HR5.out dQ g5 oQ,Chg.below hbk5 g5 oQ hbk5.size,by omega⟩
    case measure=>simp [intOf];omega
   ·have h4':¬(k:Int)<4:=by omega
    go_wp2;go_roundw
    case rel=>
     refine⟨k+1,upd A k A',upd n k n',upd c k c',by omega,by go_num,?_,HC5.out,HO5.out,HP5.out,HR5.out,hbk5,by simp[World.setCell];omega⟩
     obtain rfl:k=4:=by omega
     show zcK _ _ _ _;have:=HS2.out
     rwa [HE.out] at this
    case measure=>simp [intOf];omega
  ·obtain rfl:k=5:=by omega
   have hL:=HStk.out;rw[H5.out] at hL;go_wp2_with fail;refine(zeV hs9 hL).mono ?_;rintro e w4 ⟨rfl,h4,g4⟩;have h4:zcK w4 b s []:=h4;go_wp2_with fail;refine(zuY h4).mono ?_;rintro e w5 ⟨rfl,h5',g5⟩;go_wp2_with fail;refine(znm h5').mono ?_;rintro e w6 ⟨rfl,h6,g6⟩;have g46:=(g4.trans g5).trans g6;have HC6:=waV (Arr.chg HCk.out dQ g46 oQ);have HR6:=waV (Arr.chg HRk.out dQ g46 oQ);have HO6:Hid (∀j,j<5→zau w6 (w3.heap.size+2) (zkh A n c j) [I j]):=fun j hj=>zdJ (HOk.out j hj) g46 oQ
   have hb6:=Chg.below hbk g46 oQ hszk;have hz6:=g46.size;obtain⟨x0,x1,x2,x3,x4,xf⟩:=arr5 HC6.out;obtain⟨y0,y1,y2,y3,y4,yf⟩:=arr5 HR6.out;have HAtW:Hid (∀W,zcK W b s []→Calls prog 56 #[.pointer (some ⟨b,0,none⟩)] W (zbU (.int .i64 (s.size:Int)) W)):=fun W h=>by
    have:=zpO h;rw[show zfi s ([]:List UInt8).length=(s.size:Int) from znE s] at this
    exact this
   have H6:=waV h6;unfold zkh at x0 x1 x2 x3 x4;unfold nil5 at y0 y1 y2 y3 y4;clear g4 g5 g6 g46 h4 h5' h6 hL;go_wp2_with fail
   go_region_with (go_at_call 56;(with_reducible refine(HAtW.out _ ?_).mono ?_);(focus (exact H6.out));rintro e w7 ⟨rfl,rfl⟩)
   all_goals (try simp only[Exit.then])
   all_goals (try go_wp2)
   all_goals refine waY (v:=.tuple #[crV A n c,.int .i64 (s.size:Int),.int .i64 0]) ?_ rfl ⟨?_,A,n,c,rfl,fun k hk=>?_⟩
   all_goals first
    |(rw[zfj rfl];go_simp;done)
    |((repeat' (first|(with_reducible exact waC _ _)|(with_reducible assumption)|(with_reducible refine zaI ?_ _)|(with_reducible refine Below.alloc ?_ ?_ _)|(with_reducible refine Below.drew ?_)|(with_reducible refine Below.setCell ?_ ?_ _)|go_size));done)
    |(show World.ownsRow _ _ _ _ _ _ _;refine zaq (B:=w3.heap.size+2) ?_ oQ;exact zt2 (HO6.out k hk) oQ)
def zoq:List UInt8:=[48,45,53,57,32,48,45,50,51,32,42,32,42,32,42]
def zsJ (k:Nat):It:=if k=0 then⟨2,0,59,1⟩ else if k=1 then⟨2,0,23,1⟩ else⟨0,0,0,1⟩
def zdW (k:Nat):List It:=[zsJ k]
def T36 (k:Nat):List UInt8:=zoq.drop (if k=0 then 0 else if k=1 then 5 else if k=2 then 10 else if k=3 then 12 else if k=4 then 14 else 15)
def R36 (k:Nat):List UInt8:=zoq.drop (if k=0 then 4 else if k=1 then 9 else if k=2 then 11 else if k=3 then 13 else 15)
theorem zuw (k b:Nat) (hk:k<5) (W:World) (h:zcK W b (zcZ zoq) (T36 k)):Calls prog 57 #[rdV b k,.func (.func 58) #[rdV b k] #[]] W (zt1 [zsJ k] b (zcZ zoq) (R36 k) W):=by
 have hs:(zcZ zoq).size≤1000000:=by decide
 refine zvB b k _ hs _ _ _ W h (fun V hV=>?_) ?_
 ·obtain rfl|rfl|rfl|rfl|rfl:k=0∨k=1∨k=2∨k=3∨k=4:=by omega
  ·exact ztn b 0 dQ _ hs _ (zoq.drop 1) (zoq.drop 2) _ 0 59 V hV kQ kQ dQ dQ kQ kQ dQ dQ dQ kQ
  ·exact ztn b 1 dQ _ hs _ (zoq.drop 6) (zoq.drop 7) _ 0 23 V hV kQ kQ dQ dQ kQ kQ dQ dQ dQ kQ
  ·exact zfZ b 2 dQ _ hs _ _ V hV kQ kQ
  ·exact zfZ b 3 dQ _ hs _ _ V hV kQ kQ
  ·exact zfZ b 4 dQ _ hs _ _ V hV kQ kQ
 ·obtain rfl|rfl|rfl|rfl|rfl:k=0∨k=1∨k=2∨k=3∨k=4:=by omega
  all_goals kernel_rfl
theorem zux (w:World):Calls prog 23 #[.string (zcZ zoq)] w (zqS (zcZ zoq) zsJ w):=
 zvC (zcZ zoq) (by decide) T36 R36 zsJ (by rw[zdj];kernel_rfl) (by kernel_rfl) (fun k b W hk h=>zuw k b hk W h)
  (fun k hk=>by
    obtain rfl|rfl|rfl|rfl:k=0∨k=1∨k=2∨k=3:=by omega
    all_goals exact⟨by decide+kernel,by kernel_rfl⟩) kQ kQ w
theorem zvD {w:World} {B:Nat} {A:Nat→Option Addr} {n c:Nat→Nat} {I:Nat→It} (h:∀k,k<5→zau w B (zkh A n c k) [I k]):∃A' n',crV A n c=crV A' n' c∧zb0 w A' n' (fun k=>[I k])∧(∀k,n' k≤1)∧∀k,A' k=none→n' k=0:=by
 have h1:∀k,k<5→n k=1∧zcA w (A k) (n k) [I k]∧(A k=none→n k=0):=fun k hk=>by
  obtain⟨A0,c0,e,_,_,hr,hz⟩:=(h k hk).rd;unfold zkh at e
  injection e with e1 e2 e3
  rw[e1,e2];exact⟨rfl,hr,hz⟩
 refine⟨fun k=>if k<5 then A k else none,fun k=>if k<5 then n k else 0,rfl,fun k hk=>?_,fun k=>?_,fun k hk=>?_⟩
 ·dsimp only;rw[if_pos hk,if_pos hk];exact(h1 k hk).2.1
 ·dsimp only;split
  ·rw[(h1 k ‹_›).1];exact waJ _
  ·exact waK _
 ·dsimp only at hk ⊢;split
  ·rw[if_pos ‹_›] at hk;exact(h1 k ‹_›).2.2 hk
  ·rfl
theorem zsK:chk zdW=(5,0):=zit fun k hk=>by
 obtain rfl|rfl|rfl|rfl|rfl:k=0∨k=1∨k=2∨k=3∨k=4:=by omega
 all_goals kernel_rfl
theorem zoi {F:Nat→List It} (h:∀k,k<5→F k=zdW k):zcP (zap [zaV F]):=fun n s h0 h1 hs=>by
 show zrB [zaV F] _=_;rw[zhc,znF h];show zeN zdW n s=_;rw[zfs _ h0 h1 hs];have d:=za4 h0 h1;have wb:=zcm n;have a0:∀k:Nat,k<60→inB (zdW 0) 0 59 (k:Int)=true:=by decide+kernel
 have a1:∀k:Nat,k<24→inB (zdW 1) 0 23 (k:Int)=true:=by decide+kernel
 have a3:∀k:Nat,k<13→1≤k→inB (zdW 3) 1 12 (k:Int)=true:=by decide+kernel
 have a2:∀k:Nat,k<32→1≤k→inB (zdW 2) 1 31 (k:Int)=true:=by decide+kernel
 have a4:∀k:Nat,k<8→1≤k→wkB zdW (k:Int)=true:=by decide+kernel
 have es:(zbJ (zdW 2)||zbJ (zdW 4))=true:=by decide+kernel
 rw[if_pos es,a0 _ (by omega),a1 _ (by omega)]
 have e3:=a3 (mD n).toNat oQ oQ;have e2:=a2 (dD n).toNat oQ oQ;have e4:=a4 (wdD n).toNat oQ oQ;rw[Int.toNat_of_nonneg (by omega)] at e3 e2 e4
 rw[e3,e2,e4];simp
theorem zqT {P:Int→Nat→Bool} (h:zcP P) (k:Nat):zbM P k=[⟨0,0,0,1⟩]:=by
 by_cases hk:k<5
 ·exact zmq h k hk
 ·have e:zbM P k=zbM P 4:=by
   unfold zbM zc7;rw[if_neg (by omega),if_neg (by omega),if_neg (by omega),if_neg (by omega)];rfl
  rw[e];exact zmq h 4 (by decide)
theorem zvE {P:Int→Nat→Bool} (h:zcP P):chk (zbM P)=(5,0):=zmp ⟨0,zkb h dQ dQ⟩ (ztZ h)
theorem zuy {P:Int→Nat→Bool} (h:zcP P):zcZ (zkc (zed (zbM P)))=zcZ [42,32,42,32,42,32,42,32,42]:=by
 have e:zed (zbM P)=zed (fun _=>[⟨0,0,0,1⟩]):=by
  congr 1;funext k;exact zqT h k
 rw[e];congr 1
theorem zlV (w:World) (hp:Pow w) (ht:Tz w):Calls prog 7 #[] w (Ret (.bool true) w):=by
 have HA:=waV (fun W=>zux W)
 have HP:=waV hp;have HT:=waV ht;clear hp ht;go_enter func7,ntmps7;go_wp2_with fail;refine(HA.out _).mono ?_;rintro e w1 ⟨hb1,A,n,c,rfl,ho⟩
 ·obtain⟨A,n,e,hrd,hn,hz⟩:=zvD ho;rw[e];have hev:zcP (zap [zaV zdW]):=zoi fun k hk=>rfl
  have HLw:=waV (fun W (hb:Below w1.heap.size w1 W)=>zi3 A n c zdW W (hrd.below hb (waJ _)) (fun k=>by have:=hn k;omega) hz (by rw[zsK]))
  have HRs:=waV (fun b W (hr:zbx W (some ⟨b,0,none⟩) 1 [zaV zdW]) (ht:Tz W)=>zoe (some ⟨b,0,none⟩) 1 1 [zaV zdW] W hr (by decide) (fun h=>(by cases h)) (fun k hk=>by rw[wbC.1 hk];exact⟨zg4 zdW,show(1:Int)≤9223372036854775807 by decide⟩) ht)
  have HE:Hid (zco 1 [zaV zdW]=0):=by show _=_;unfold zco;rw[if_neg (by decide),if_pos (zjs zdW)]
  have HEv:=waV hev;clear hrd hn hz HA hev ho e;generalize zdW=F at *;go_wp2_with fail;refine(HLw.out _ (by exact zaG)).mono ?_
  rintro e w2 ⟨b,rfl,hr,hq2⟩;have hb2:Below w.heap.size w w2:=(hb1.alloc hb1.size _).trans (hq2.mono (by simp;have:=hb1.size;omega))
  have HR:=waV (HRs.out b w2 hr (HT.out.below hb2));clear hb1 hq2 hr HLw HRs;go_wp2_with fail;refine HR.out.mono ?_;rintro e w3 ⟨hb3,(⟨h,_⟩|⟨_,(⟨h,_⟩|⟨l,v,h,rfl,ho⟩)⟩)⟩
  ·exact absurd HE.out h
  ·cases zpK HEv.out h
  ·obtain rfl:=waB (zpK HEv.out h);obtain⟨A',n',c',e,hr',hz',hn',_⟩:=ho.rd;obtain⟨S0,n0,d0,S1,n1,d1,S2,n2,d2,S3,n3,d3,S4,n4,d4,hv⟩:=ho.five;have hb03:=hb2.trans (hb3.mono hb2.size);have HSh:=waV (fun W (hb:Below w3.heap.size w3 W)=>(show Calls prog 24 #[v] W (Ret (.tuple #[.string (zcZ [42,32,42,32,42,32,42,32,42]),.int .i64 0]) W) by
    rw[e,←zuy HEv.out];exact zuu A' n' c' _ W (hr'.below hb (waJ _)) (fun k=>by rw[hn' k];split;rw[zqT HEv.out k];decide;exact waK _) hz' (fun k it hit=>by rw[zqT HEv.out k] at hit;rw[wbC.1 hit];exact⟨⟨by decide,by decide⟩,⟨by decide,by decide⟩,⟨by decide,by decide⟩,⟨by decide,by decide⟩⟩) (zcQ HP.out (hb03.trans (hb.mono hb03.size))) (zvE HEv.out)))
   subst hv;clear ho hr' hz' hn' e h HP HT HE HEv HR hb2 hb3;go_wp2_with fail;refine(HSh.out _ (by exact zaG)).mono ?_
   rintro e w4 ⟨rfl,hq4⟩;have hb4:Below w.heap.size w w4:=(hb03.alloc hb03.size _).trans (hq4.mono (by simp;have:=hb03.size;omega))
   clear HSh hq4;have hs:((zcZ [42,32,42,32,42,32,42,32,42]).toList==[42,32,42,32,42,32,42,32,42])=true:=by decide+kernel
   go_wp2;go_ret;exact⟨rfl,hb4⟩
end Go.Proofs.YtgedndlifiihkaaGreatDoor
namespace Go.Proofs.YtgedndlifiihkaaGreatDoor
open Go.Proofs.Tryz
def zhE (V:List Int):Int:=V.foldl (fun(a:Int) (m:Int)=>max a (zbe 2000 m)) 0
theorem zsL {V:List Int} {d:Int} (h0:1≤d) (h:d≤zhE V):∃m∈V,d≤zbe 2000 m:=by
 have:∀(V:List Int) (a:Int),d≤V.foldl (fun(a:Int) (m:Int)=>max a (zbe 2000 m)) a→d≤a∨∃m∈V,d≤zbe 2000 m:=by
  intro V;induction V with
  |nil=>intro a h;exact .inl h
  |cons x r ih=>
   intro a h;rw[List.foldl_cons] at h;rcases ih _ h with h|⟨m,hm,h⟩
   ·by_cases hx:d≤a
    ·exact .inl hx
    ·exact .inr ⟨x,by simp,by omega⟩
   ·exact .inr ⟨m,by simp[hm],h⟩
 rcases this V 0 h with h|h
 ·omega
 ·exact h
theorem zkU {k:Nat} {l:List It} (h:zaD k l=0):∃v,inB l (cLo k) (cHi k) v=true∧cLo k≤v∧v≤cHi k:=by
 have hne:=(zlp h).1;have hm:=znB h;cases l with
 |nil=>exact absurd rfl hne
 |cons i r=>
  have hi:=hm i (by simp)
  obtain⟨_,b,_,d,_⟩:=zjG hi;have hin:inB (i::r) (cLo k) (cHi k) (bF i (cLo k))=true:=by
   unfold inB;rw[List.any_cons,wbF];refine .inl ?_;unfold zdU zgp;rw[hi,Bool.true_and,waM];exact⟨Int.le_refl _,b,by simp⟩
  exact⟨_,hin,zj5 hin⟩
theorem zvF {x:Nat→List It} {i:Int} (h1:1≤i) (h8:i<8):zb3 (zan (wkL (zao (x 4) 0 7))) i=wkB x i:=by
 rw[zdn,waQ,waM,zlj,(zba 0 7 (x 4)).2,(zba 0 7 (x 4)).2];unfold wkB;rw[wbF,waN,waM];constructor
 ·rintro ⟨_,_,_,h|⟨h,e⟩⟩
  ·exact .inl h
  ·exact .inr ⟨e,h⟩
 ·rintro (h|⟨e,h⟩)
  ·exact⟨by omega,by omega,by omega,.inl h⟩
  ·exact⟨by omega,by omega,by omega,.inr ⟨h,e⟩⟩
section
variable {P : Int → Nat → Bool} {l : Nat → List It}
theorem zgI (hf:∀k,k<5→zaD k (l k)=0) (he:zbE l=true) (hP:zcL (zeN l) P):EithP P (fun m=>inB (l 3) 1 12 m) (fun d=>inB (l 2) 1 31 d) (wkB l) (fun m=>inB (l 0) 0 59 (m:Int)) (fun h=>inB (l 1) 0 23 (h:Int)):=by
 have hs:(zbJ (l 2)||zbJ (l 4))=false:=by
  unfold zbE at he;rw[waN,Bool.not_eq_true',Bool.not_eq_true'] at he;rw[he.1,he.2];rfl
 have h:=zpJ l hs (hf 4 dQ);exact⟨fun n s h0 h1 h2=>(hP n s h0 h1 h2).symm.trans (h.eq n s h0 h1 h2),h.wk⟩
theorem zuz (hf:∀k,k<5→zaD k (l k)=0) (he:zbE l=true) (hP:zcL (zeN l) P) {m d:Int} (hm:inB (l 3) 1 12 m=true) (d1:1≤d) (d2:d≤zbe 2000 m):∃n,zbL P n∧mD n=m∧dD n=d:=by
 have hE:=zgI hf he hP;obtain⟨w,w1,w7,hw⟩:=hE.wk;obtain⟨m1,m2⟩:=zj5 hm;obtain⟨n,h0,h1,e1,e2,e3⟩:=zmf m1 m2 d1 d2 w1 w7;obtain⟨a,ha,a0,a1⟩:=zkU (hf 0 dQ);obtain⟨b,hb,b0,b1⟩:=zkU (hf 1 dQ);have ha:inB (l 0) 0 59 a=true:=ha;have hb:inB (l 1) 0 23 b=true:=hb;have a0:0≤a:=a0;have a1:a≤59:=a1;have b0:0≤b:=b0;have b1:b≤23:=b1;refine⟨n,⟨3600 * b.toNat+60 * a.toNat,h0,h1,by omega,?_⟩,e1,e2⟩
 rw[hE.eq n _ h0 h1 (by omega),waP (show(3600 * b.toNat+60 * a.toNat)%60=0 by omega),e1,e2,e3,hm,hw,
  show(3600 * b.toNat+60 * a.toNat) / 60%60=a.toNat by omega,show(3600 * b.toNat+60 * a.toNat) / 3600=b.toNat by omega]
 rw[show ((a.toNat:Nat):Int)=a by omega,show((b.toNat:Nat):Int)=b by omega,ha,hb]
 simp
theorem zkV (hf:∀k,k<5→zaD k (l k)=0) (he:zbE l=true) (hP:zcL (zeN l) P) {d:Int} (d1:1≤d) (h:d≤zhE (zao (l 3) 1 12)):zeX P∧d≤zcY (zaY P):=by
 obtain⟨m,hm,hd⟩:=zsL d1 h;obtain⟨n,hl,e1,e2⟩:=zuz hf he hP (((zba 1 12 (l 3)).2 m).1 hm) d1 hd;have hw:=hl.win;exact⟨⟨n,hl⟩,by rw[←e2];exact ziZ ⟨n,hl,rfl⟩ hw.1 hw.2⟩
theorem zqU (hf:∀k,k<5→zaD k (l k)=0) (he:zbE l=true) (hP:zcL (zeN l) P) (hno:¬(zeX P∧domW P≠0∧wkW P≠0)) {d:Int} (hd:d∈zao (l 2) 1 31):zhE (zao (l 3) 1 12)<d:=by
 false_or_by_contra
 have hin:=((zba 1 31 (l 2)).2 d).1 hd;have hb:=zj5 hin;obtain⟨ha,hlo⟩:=zkV hf he hP hb.1 oQ;have hE:=zgI hf he hP;have hD:domW P≠0:=zaW (hE.domW ha hb.1 hlo hin);exact hno ⟨ha,hD,(zj9 hE ha hD).1⟩
theorem zoj (hf:∀k,k<5→zaD k (l k)=0) (he:zbE l=true) (hP:zcL (zeN l) P) {d:Int} (hd:d∈zao (l 2) 1 31) (hlo:d≤zhE (zao (l 3) 1 12)):inB (zbn P 2) 1 31 d=true:=by
 have hin:=((zba 1 31 (l 2)).2 d).1 hd;have hb:=zj5 hin;obtain⟨ha,hlo⟩:=zkV hf he hP hb.1 hlo;have hbit:=(zgI hf he hP).domW ha hb.1 hlo hin;have e6:inB (zab 1 31 (zax (domW P)) false) 1 31 d=zdI (domW P) d:=zdS (lo:=1) (hi:=31) (zi1 P) dQ dQ false oQ oQ;exact e6.trans hbit
theorem zqV (hf:∀k,k<5→zaD k (l k)=0) (he:zbE l=true) (hP:zcL (zeN l) P) (ha:zeX P) {i:Int} (h1:1≤i) (h8:i<8) (h:zb3 (zan (wkL (zao (l 4) 0 7))) i=true):zb3 (zan (wkL (zao (zbn P 4) 0 7))) i=true:=by
 rw[zvF h1 h8] at h ⊢;have hbit:=(zgI hf he hP).wkW ha h1 oQ h;have hs7:=zpD (zfu (zj8 P)) (show 6≤7 by decide)
 rw[←hbit];refine zpE (zj8 P) (fun z z0 z7=>?_) h1 oQ
 show inB (zab 0 6 (zax (zca (wkW P))) false) 0 7 z=_;rw[zcI 0 6 0 7];exact zdS (lo:=0) (hi:=7) hs7 dQ dQ false z0 oQ
theorem zlW (P:Int→Nat→Bool):zbE (zbn P)=true:=by
 show(!zbJ (zab 1 31 (zax (domW P)) false)&&!zbJ (zab 0 6 (zax (zca (wkW P))) false))=true;rw[zc2,zc2];rfl
end
end Go.Proofs.YtgedndlifiihkaaGreatDoor
namespace Go.Proofs.YtgedndlifiihkaaGreatDoor
open Go.Proofs.Tryz
open Go.RowKit
theorem zsM (m:Int) (k:Nat):m / 2^k / 2=m / 2^(k+1):=by
 rw[Int.ediv_ediv_of_nonneg (Int.le_of_lt (Int.pow_pos (by decide))),Int.pow_succ]
theorem zvG {m:Int} (h:M64 m) (k:Nat):0≤m / 2^k∧m / 2^k<18446744073709551616:=by
 have hp:(0:Int)<2^k:=Int.pow_pos dQ;have h1:0≤m / 2^k:=Int.ediv_nonneg h.1 (Int.le_of_lt hp);have h2:m / 2^k≤m:=Int.ediv_le_self _ h.1;exact⟨h1,by have:=h.2;omega⟩
theorem zkW (m:Int) (hm:M64 m) (n:Int) (w:World):Calls prog 15 #[.int .u64 m,.int .i64 n] w (zbU (.bool (zb3 m n)) w):=by
 by_cases h0:n<0
 ·have HR:Hid (zb3 m n=false):=waO oQ;clear hm;go_enter func15,ntmps15;go_wp2;go_ret;exact⟨zak HR.out.symm,rfl⟩
 ·by_cases h63:63<n
  ·have HR:Hid (zb3 m n=false):=waO oQ;clear hm;go_enter func15,ntmps15;go_wp2;go_ret;exact⟨zak HR.out.symm,rfl⟩
  ·obtain⟨N,rfl⟩:∃N:Nat,n=(N:Int):=⟨n.toNat,by omega⟩
   have HM:=waV hm;have HR:Hid (zb3 m (N:Int)=(m / 2^N%2==1)):=by
    show _=_;unfold zb3;rw[waQ,waM,beq_iff_eq];exact⟨fun h=>h.2.2,fun h=>⟨by omega,by omega,h⟩⟩
   rw[HR.out];have HH:=waV (zsM m);have h0':¬(N:Int)<0:=h0;have h63':¬(N:Int)>63:=h63;have hN:N<64:=by omega
   clear hm HR h0 h63;go_enter func15,ntmps15;go_wp2
   go_loopw [0,5] (fun x i wr=>∃(k:Nat) (q:Int),k≤N∧Hid (q=m / 2^k)∧x=.int .u64 q∧i=.int .i64 k∧wr=w) (fun _ i _=>N - (intOf i).toNat)
   case atStart=>exact⟨0,m,waK _,by show _=_;simp,rfl,by go_num,rfl⟩
   case round=>
    obtain⟨k,q,hk,HQ,rfl,rfl,rfl⟩:=hrel;have hq:=zvG HM.out k;rw[←HQ.out] at hq;obtain⟨q0,q1⟩:=hq
    by_cases hlt:k<N
    ·have hlt':(k:Int)<(N:Int):=by omega
     go_wp2;go_roundw
     case rel=>exact⟨k+1,q / 2,by omega,by show _=_;rw[HQ.out,HH.out],by go_num,by go_num,by trivial⟩
     case measure=>simp [intOf];omega
    ·obtain rfl:k=N:=by omega
     have HQ2:Hid ((m / 2^k%2==1)=(q%2==1)):=by show _=_;rw[HQ.out]
     clear HQ;go_wp2;go_ret;exact⟨zak HQ2.out.symm,rfl⟩
end Go.Proofs.YtgedndlifiihkaaGreatDoor
