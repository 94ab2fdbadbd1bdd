/- A part of the proof: WSh37 -/
import Derived.Test.YtllcdbgjeidlkaaGreatDoorT45
import Derived.Test.YtllcdbgjeidlkaaGreatDoorT41
import Derived.Test.YtllcdbgjeidlkaaGreatDoorT40
set_option maxHeartbeats 80000000
set_option maxRecDepth 100000
set_option linter.unusedSimpArgs false
set_option linter.unusedVariables false
namespace Go.Proofs.YtllcdbgjeidlkaaGreatDoor
open Go.Proofs.Tryz
open Go.RowKit
theorem zww (i:It) (f:Int) (h:i.wf) (h01:i.k=0\/i.k=1) (w:World) (hw:Pow w):Calls prog 109 #[itV i,.int .i64 f] w (Ret (.string (za2 (zrP f i))) w):=by
 obtain⟨hk,hf,ht,hs⟩:=h;have HI:=waV (fun W (hb:Below w.heap.size w W)=>zkI i.s hs W (zdn hw hb))
 have H0:=waV (fun W B2 B3 (hb:Below w.heap.size w W) h2 h3=>zoU (w:=W) (B2:=B2) (B3:=B3) (i:=i) (f:=f) hf h2 h3 (zdn hw hb))
 have zs:=zkH hs;have HC:Hid (zrP f i=if i.k=0 then [42] else if i.k=1 then zk0 f i.f else if i.k=2 then zk0 f i.f++[46,46]++zk0 f i.t++(if i.s=1 then [] else 47::Lib.itoa i.s) else if i.k=3 then zk0 f i.f++47::Lib.itoa i.s else []):=rfl
 generalize zrP f i=R at *;generalize za2 (Lib.itoa i.s)=S at *;clear hw hk hf ht hs;rcases h01 with k0|k1
 ·have HV:Hid (R=[42]):=by show _=_;rw[HC.out,if_pos k0]
  have k0':(i.k==0)=true:=by simpa using k0
  clear k0 HC;go_enter func109,ntmps109;go_wp2_with fail;refine(HI.out _ (((waC _ w).alloc (waJ _) _).alloc (by simp) _)).mono ?_
  rintro e w1 ⟨rfl,hb1⟩;have hbw:Below w.heap.size w w1:=(((waC _ w).alloc (waJ _) _).alloc (by simp) _).trans (hb1.mono (by simp;omega))
  have hz1:=hb1.size
  try simp at hz1
  have hzA:w.heap.size<w1.heap.size:=by omega
  have hzB:w.heap.size+1<w1.heap.size:=by omega
  obtain⟨hc,hf⟩:=zad hb1;have b0:w1.cell? ⟨w.heap.size,0,none⟩=some (.int .i64 i.k):=(hc _ _ (by simp;omega)).trans (by simp[go_sem])
  have b1:w1.cell? ⟨w.heap.size,1,none⟩=some (.int .i64 i.f):=(hc _ _ (by simp;omega)).trans (by simp[go_sem])
  have b2:w1.cell? ⟨w.heap.size,2,none⟩=some (.int .i64 i.t):=(hc _ _ (by simp;omega)).trans (by simp[go_sem])
  have b3:w1.cell? ⟨w.heap.size,3,none⟩=some (.int .i64 i.s):=(hc _ _ (by simp;omega)).trans (by simp[go_sem])
  have c0:w1.cell? ⟨w.heap.size+1,0,none⟩=some (.int .i64 f):=(hc _ _ (by simp)).trans (by simp[go_sem])
  clear hc hf hb1 hz1;go_wp2;go_ret;exact⟨zbT (by rw[HV.out]),hbw⟩
 ·have HV:Hid (R=zk0 f i.f):=by show _=_;rw[HC.out,if_neg (by omega),if_pos k1]
  have k0':(i.k==0)=false:=by simp;omega
  have k1':(i.k==1)=true:=by simpa using k1
  clear k1 HC;go_enter func109,ntmps109;go_wp2_with fail;refine(HI.out _ (((waC _ w).alloc (waJ _) _).alloc (by simp) _)).mono ?_
  rintro e w1 ⟨rfl,hb1⟩;have hbw:Below w.heap.size w w1:=(((waC _ w).alloc (waJ _) _).alloc (by simp) _).trans (hb1.mono (by simp;omega))
  have hz1:=hb1.size
  try simp at hz1
  have hzA:w.heap.size<w1.heap.size:=by omega
  have hzB:w.heap.size+1<w1.heap.size:=by omega
  obtain⟨hc,hf⟩:=zad hb1;have b0:w1.cell? ⟨w.heap.size,0,none⟩=some (.int .i64 i.k):=(hc _ _ (by simp;omega)).trans (by simp[go_sem])
  have b1:w1.cell? ⟨w.heap.size,1,none⟩=some (.int .i64 i.f):=(hc _ _ (by simp;omega)).trans (by simp[go_sem])
  have b2:w1.cell? ⟨w.heap.size,2,none⟩=some (.int .i64 i.t):=(hc _ _ (by simp;omega)).trans (by simp[go_sem])
  have b3:w1.cell? ⟨w.heap.size,3,none⟩=some (.int .i64 i.s):=(hc _ _ (by simp;omega)).trans (by simp[go_sem])
  have c0:w1.cell? ⟨w.heap.size+1,0,none⟩=some (.int .i64 f):=(hc _ _ (by simp)).trans (by simp[go_sem])
  clear hc hf hb1 hz1;go_wp2_with fail;refine(H0.out _ _ _ hbw b1 c0).mono ?_;rintro e w2 ⟨rfl,hb2⟩;go_wp2;go_ret;exact⟨zbT (by rw[HV.out,zbd]),zaf hbw hb2 hbw.size⟩
theorem zwx:∀k,k<7->∀it∈zaJ evM k,it=⟨0,0,0,1⟩\/it=⟨1,1,0,0⟩\/it=⟨1,0,0,0⟩:=by decide
theorem zrS:∀k,k<7->∀it∈zaJ evM k,it.wf/\(it.k=0\/it.k=1):=fun k hk it hit=>by
 rcases zwx k hk it hit with rfl|rfl|rfl
 all_goals exact⟨⟨⟨by decide,by decide⟩,⟨by decide,by decide⟩,⟨by decide,by decide⟩,⟨by decide,by decide⟩⟩,by decide⟩
theorem zwy (A:Nat->Option Addr) (n m:Nat->Nat) (w:World) (hA:zjr w A n evM) (hn:∀j,j<8->j≠4->n j<=1000) (hw:Pow w):
 Calls prog 16 #[evV A n m evM.back] w (Ret (.tuple #[.string (za2 (evT evM)),.int .i64 0]) w):=by
 have HC:=waV (fun W (hb:Below w.heap.size w W)=>zfV A n m evM evM.back W (hA.below hb) (fun k hk=>waW (hn _ (zbR hk).1 (zbR hk).2) dQ))
 rw[zma] at HC;have HF:=waV (fun(k:Nat) (hk:k<7) W (hb:Below w.heap.size w W)=>zjD A n m evM.back (k:Int) _ _ W (hn _ (zbR hk).1 (zbR hk).2) ((hA.slot hk).1) (fun it hit=>(zrS k hk it hit).1) (fun it hit V hV=>zww it _ (zrS k hk it hit).1 (zrS k hk it hit).2 V hV) (zdn hw hb)
  (fun V hV=>zkS k hk evM A n m evM.back V (hA.below (zaf hb hV hb.size)) (fun j h1 h2=>waW (hn j h1 h2) dQ)))
 have HLn:Hid (∀k,k<=6->(zhs evM evM.back k).length<=101001 * (k+1)):=by
  show ∀k,k<=6->_;have:∀k,k<=6->(zhs evM evM.back k).length<=100:=by decide+kernel
  intro k hk;have:=this k hk;omega
 have HZ:Hid (∀k:Nat,k<7->(cfT (k:Int) (zaJ evM k)).length<=101000):=by
  show ∀k:Nat,k<7->_;have:∀k:Nat,k<7->(cfT (k:Int) (zaJ evM k)).length<=100:=by decide+kernel
  intro k hk;have:=this k hk;omega
 have HP1:Hid (∀k,zhs evM evM.back (k+1)=zhs evM evM.back k++(cfT ((k+1:Nat):Int) (zaJ evM (k+1))++zuh evM.back k)):=fun k=>rfl
 have HP6:Hid (zhs evM evM.back 6=evT evM):=zrR evM;have HQ:Hid (zhs evM evM.back 0=[]):=rfl;clear hA hn hw;have HF0:Hid (∀W,Below w.heap.size w W->Calls prog 48 #[evV A n m evM.back,.int .i64 0] W (Ret (.string ⟨#[]⟩) W)):=fun W hb=>HF.out 0 dQ W hb
 have HFk:Hid (∀(k:Nat),k<6->∀W,Below w.heap.size w W->Calls prog 48 #[evV A n m evM.back,.int .i64 (1+(k:Int))] W (Ret (.string (za2 (cfT ((k+1:Nat):Int) (zaJ evM (k+1))))) W)):=fun k hk W hb=>by
  have:=HF.out (k+1) oQ W hb;rw[show (((k+1:Nat)):Int)=1+(k:Int) by omega] at this ⊢
  exact this
 have HZk:Hid (∀(k:Nat),k<6->(za2 (cfT ((k+1:Nat):Int) (zaJ evM (k+1)))).size<=101000):=fun k hk=>by rw[zcH];exact HZ.out (k+1) (by omega)
 clear HF HZ;have hbk:evM.back=false:=rfl;rw[hbk] at HC HLn HP1 HP6 HQ HF0 HFk ⊢;clear hbk;have HSx:Hid (∀(W:World),Arr (W.alloc (.cells #[.string ⟨#[45]⟩,.string ⟨#[45]⟩,.string ⟨#[32]⟩,.string ⟨#[58]⟩,.string ⟨#[58]⟩,.string ⟨#[]⟩] 9)) W.heap.size 6 (zx2 false)):=fun W=>
  zdq W #[.string ⟨#[45]⟩,.string ⟨#[45]⟩,.string ⟨#[32]⟩,.string ⟨#[58]⟩,.string ⟨#[58]⟩,.string ⟨#[]⟩] 9 (zx2 false) (by
   intro j hj;obtain rfl|rfl|rfl|rfl|rfl|rfl:j=0\/j=1\/j=2\/j=3\/j=4\/j=5:=by simp at hj;omega
   all_goals rfl)
 replace HSx:Hid (∀(W:World),Hid (Arr (W.alloc (.cells #[.string ⟨#[45]⟩,.string ⟨#[45]⟩,.string ⟨#[32]⟩,.string ⟨#[58]⟩,.string ⟨#[58]⟩,.string ⟨#[]⟩] 9)) W.heap.size 6 (zx2 false))):=HSx;generalize evM=c at *;unfold evV at *;go_enter func16,ntmps16;go_wp2_with fail;refine(HC.out _ (by exact zaE)).mono ?_
 rintro e w1 ⟨rfl,hb1⟩;have hb2:Below w.heap.size w w1:=((waC _ w).alloc (waJ _) _).trans (hb1.mono (by simp))
 have hz1:w.heap.size<w1.heap.size:=by have:=hb1.size;simp at this;omega
 have HE1:=waV ((zeC w A n m _ 26).below hb1);obtain⟨x0,x1,x2,x3,x4,x5,x6,x7⟩:=HE1.out;clear hb1;go_wp2_with fail;refine(HF0.out _ hb2).mono ?_;rintro e w2 ⟨rfl,hb3⟩;have hb4:=zaf hb2 hb3 hb2.size;have hz2:=waD hz1 hb3.size;have HE2:=waV (HE1.out.below hb3);clear x0 x1 x2 x3 x4 x5 x6 x7 hb3 HE1;obtain⟨x0,x1,x2,x3,x4,x5,x6,x7⟩:=HE2.out;go_wp2;have HArr:=HSx.out w2
 go_loopw [6,29] (fun s i wr=>∃(S:ByteArray) (k:Nat),s=.string S/\k<=6/\i=.int .i64 k/\Hid (S=za2 (zhs c false k))/\Hid (Arr wr w2.heap.size 6 (zx2 false))/\Hid (EvAt wr w.heap.size A n m false)/\w.heap.size<wr.heap.size/\w2.heap.size<wr.heap.size/\Below w.heap.size w wr) (fun _ i _=>6 - (intOf i).toNat)
 case atStart=>exact⟨_,0,rfl,waK _,rfl,(zk9 HQ.out.symm),HArr.out,HE2.out.below ((waC _ _).alloc (waJ _) _),by simp;omega,by simp,hb4.alloc hb4.size _⟩
 case round=>
  clear x0 x1 x2 x3 x4 x5 x6 x7;obtain⟨S,k,rfl,hk,rfl,HS,HA,HE,hl1,hl2,hb⟩:=hrel;have hsz:=hb.size;have hzS:S.size<=707007:=by rw[HS.out,zcH];have:=HLn.out k hk;omega
  by_cases h6:k<6
  ·have h6':(k:Int)<6:=by omega
   have HX:=waV (HA.out.1 k h6);have hF:=HFk.out k h6;have hzk:=HZk.out k h6;have HN:=waV (HP1.out k);have HSd:Hid (S.data.toList=zhs c false k):=by show _=_;rw[HS.out];exact zbd _
   have HTd:=waV (zbd (cfT ((k+1:Nat):Int) (zaJ c (k+1))));have HGd:=waV (zbd (zuh false k));have hzG:(za2 (zuh false k)).size<=1:=by rw[zcH];exact zui _ k
   unfold zx2 at HX;generalize za2 (zuh false k)=G at HX HGd hzG;generalize za2 (cfT ((k+1:Nat):Int) (zaJ c (k+1)))=T at hF hzk HTd;have hx:=HX.out;obtain⟨x0,x1,x2,x3,x4,x5,x6,x7⟩:=HE.out;clear HX;go_wp2_with fail;refine(hF _ hb).mono ?_;rintro e w3 ⟨rfl,hb5⟩;go_wp2;go_roundw
   case rel=>
    refine⟨_,k+1,rfl,by omega,by go_num,?_,HA.out.below hl2 hb5,HE.out.below hb5,waD hl1 hb5.size,waD hl2 hb5.size,zaf hb hb5 hsz⟩
    refine zk9 ?_;rw[HN.out,ziC,ziC,HSd.out,HTd.out,HGd.out]
   case measure=>simp [intOf];omega
  ·obtain rfl:k=6:=by omega
   have HF:Hid (S=za2 (evT c)):=by show _=_;rw[HS.out,HP6.out]
   go_wp2
   go_ret2
   exact⟨zuj HF.out,hb⟩
section
variable {w : World} {b : Nat} {s : ByteArray} {σ : PS}
theorem one37 (f:Nat) (τ:PS) (i:It) (Bx Bf:Nat) (hx:zdg w Bx b s) (hfc:w.cell? ⟨Bf,0,none⟩=some (.int .i64 (f:Int))) (h:RdP w b s σ) (hI:∀W,RdP W b s σ->Calls prog 221 #[kV b s,.int .i64 (f:Int)] W (zjO (itV i) b s τ W)):Calls prog 220 #[.pointer (some ⟨Bx,0,none⟩),.pointer (some ⟨Bf,0,none⟩)] w (zjO (itV i) b s τ w):=by
 have hlt:=h.lt;have hne:¬w.heap.size=b:=by omega
 have H:=waV h;have HI:=waV hI;have hl1:=hx.lt;have hl2:Bf<w.heap.size:=waR w _ hfc;obtain⟨c0,c1⟩:=hx;have e1:¬w.heap.size=Bx:=by omega
 have e2:¬w.heap.size=Bf:=by omega
 have e3:¬Bx=w.heap.size:=by omega
 have e4:¬Bf=w.heap.size:=by omega
 clear h hI;go_enter func220,ntmps220;go_wp2_with fail;refine(HI.out _ (H.out.alloc _)).mono ?_;rintro e w1 ⟨rfl,h1,g1⟩;obtain⟨hc1,hf1⟩:=zsm g1;go_wp2;refine waY (v:=itV i) ?_ rfl ⟨rfl,?_,?_⟩
 ·rw[zah rfl]
  go_simp
 ·exact h1.set4 hne _ _ _ _
 ·exact(((Chg.refl b w).alloc _).trans g1).set4 (waJ _) _ _ _ _
end
section
variable {w : World} {b : Nat} {s : ByteArray} {σ : PS} (hs : s.size <= 1000000)
include hs
theorem zx3 (f:Nat) (hf:f<7) (τ1:PS) (n1:Int) (h:RdP w b s σ) (k1:zou s.size f σ=(τ1,n1)) (k2:zlU s.size f τ1=τ1) (k3:zeD zwQ τ1=(τ1,false)) (k4:isP [47] τ1=(τ1,false)):Calls prog 221 #[kV b s,.int .i64 (f:Int)] w (zjO (itV ⟨1,n1,0,0⟩) b s τ1 w):=by
 have hs9:s.size<=9223372036854775807:=by omega
 have hlt:=h.lt;have hne:¬w.heap.size=b:=by omega
 have hne1:¬w.heap.size+1=b:=by omega
 have H:=waV h;have HN1:=waV (fun W (h:RdP W b s σ)=>zv6 hs f hf h)
 have HS1:=waV (fun W (h:RdP W b s τ1)=>zxE hs f h)
 have HT:=waV (fun W (h:RdP W b s τ1)=>zv7 (t:=⟨#[46,46]⟩) hs dQ h)
 have HI:=waV (fun W A n cp (h:RdP W b s τ1) (hA:zbf W A n [47]) (hn:n<=9223372036854775807)=>zpz (cp:=cp) hs9 h hA hn)
 rw[show (⟨#[46,46]⟩:ByteArray).data.toList=zwQ from rfl,k3] at HT
 rw[k1] at HN1;rw[k2] at HS1;rw[k4] at HI;dsimp only at HN1 HT HI;clear k1 k2 k3 k4;clear h;go_enter func221,ntmps221;go_wp2_with fail;refine(HN1.out _ ((H.out.alloc _).alloc _)).mono ?_;rintro e w1 ⟨rfl,h1,g1⟩;have hz1:w.heap.size+1<w1.heap.size:=by have:=g1.size;simp at this;omega
 have hz1':w.heap.size<w1.heap.size:=by omega
 have hneI:¬w1.heap.size=b:=by omega
 have hneRI:¬w.heap.size+1=w1.heap.size:=by omega
 have hneIR:¬w1.heap.size=w.heap.size+1:=by omega
 have hneBI:¬w.heap.size=w1.heap.size:=by omega
 have hneIB:¬w1.heap.size=w.heap.size:=by omega
 have g1':=(((Chg.refl b w).alloc _).alloc _).trans g1;have FB1:=waV (((zdu w b s 98).alloc (.cells #[.int .i64 0,.int .i64 0,.int .i64 0,.int .i64 0] 64)).chg g1 hne);have FR1:=waV ((zpC w b s 98 64).chg g1 hne1);obtain⟨c0,c1⟩:=FB1.out;go_wp2_with fail;refine(HS1.out _ (h1.alloc _)).mono ?_;rintro e ws ⟨rfl,hs1,gs⟩;have gs':=(g1'.alloc _).trans gs;have FBs:=waV (zdg.chg (FB1.out.alloc _) gs hne);have FRs:=waV (zhR.chg (FR1.out.alloc _) gs hne1);have FIs:=waV (zhR.chg (zmy w1 1 n1 0 0 64) gs hneI)
 (try clear c0 c1)
 (try clear i0 i1 i2 i3 iz)
 obtain⟨c0,c1⟩:=FBs.out;obtain⟨i0,i1,i2,i3,iz⟩:=zhR.cells FIs.out;go_wp2_with fail;refine(HT.out _ hs1).mono ?_;rintro e w2 ⟨rfl,h2,g2⟩;have g2':=gs'.trans g2;have FB2:=waV (zdg.chg FBs.out g2 hne);have FR2:=waV (zhR.chg FRs.out g2 hne1);have FI2:=waV (zhR.chg FIs.out g2 hneI)
 (try clear c0 c1)
 (try clear i0 i1 i2 i3 iz)
 obtain⟨c0,c1⟩:=FB2.out;obtain⟨i0,i1,i2,i3,iz⟩:=zhR.cells FI2.out;go_wp2_with fail;refine(HI.out _ _ _ _ (h2.alloc _) (zuG (c:=47) (zaa rfl rfl)) dQ).mono ?_;rintro e wa ⟨rfl,ha,ga⟩;have gA:=(g2'.alloc _).trans ga;have FBa:=waV (zdg.chg (FB2.out.alloc _) ga hne);have FRa:=waV (zhR.chg (FR2.out.alloc _) ga hne1);have FIa:=waV (zhR.chg (FI2.out.alloc _) ga hneI)
 (try clear c0 c1)
 (try clear i0 i1 i2 i3 iz)
 obtain⟨c0,c1⟩:=FBa.out;obtain⟨i0,i1,i2,i3,iz⟩:=zhR.cells FIa.out;obtain⟨r0,r1,r2,r3,rz⟩:=zhR.cells FRa.out;go_wp2;refine waY (v:=itV ⟨1,n1,0,0⟩) ?_ rfl ⟨rfl,?_,?_⟩
 ·rw[zah rfl]
  go_simp
 ·exact ha.set4 hne1 _ _ _ _
 ·exact gA.set4 oQ _ _ _ _
theorem zx4 (f:Nat) (τ:PS) (i:It) (Bx Bf:Nat) (hbx:Bx≠b) (hbf:Bf≠b) (hx:zdg w Bx b s) (hfc:w.cell? ⟨Bf,0,none⟩=some (.int .i64 (f:Int))) (h:RdP w b s σ) (hI:∀W,RdP W b s σ->Calls prog 221 #[kV b s,.int .i64 (f:Int)] W (zjO (itV i) b s τ W)) (hk:isP [44] τ=(τ,false)):
 Calls prog 100 #[kV b s,.int .i64 64,.func (.func 220) #[] #[.pointer (some ⟨Bx,0,none⟩),.pointer (some ⟨Bf,0,none⟩)]] w (zhK [i] b s τ w):=by
 have HI:=waV (fun W (g:Chg b w W) (h:RdP W b s σ)=>one37 f τ i Bx Bf (hx.chg g hbx) (g.cell hbf hfc) h hI)
 have hs9:s.size<=9223372036854775807:=by omega
 have hlt:=h.lt;have hne:w.heap.size≠b:=by omega
 have H:=waV h;have HA:=waV (fun W (h:RdP W b s τ)=>zsn h)
 have HIs:=waV (fun W A n cp (h:RdP W b s τ) (hA:zbf W A n [44]) (hn:n<=9223372036854775807)=>zpz (cp:=cp) hs9 h hA hn)
 rw[hk] at HIs;dsimp only at HIs;obtain⟨i0,hi0,hz0,hz1,hz2⟩:=info_parts ziF;have HI0:=waV hi0;have HZ0:=waV hz0;have HZ1:=waV hz1;have HZ2:=waV hz2;clear hi0 hz0 hz1 hz2;clear h hk hx hfc hI;go_enter func100,ntmps100;go_wp2;go_step3;go_wp2;go_step3;go_wp2
 go_loopg [7] (0:Nat) (fun gg v wr=>∃(vo:Value) (acc:List It),vo=v/\acc=[]/\Hid (zaY wr (w.heap.size+1) vo acc)/\Hid (RdP wr b s σ)/\Hid (zdg wr w.heap.size b s)/\Hid (Chg b w wr))
 case atStart=>exact⟨_,[],rfl,rfl,World.ownsRow_nil _ _ _ _,H.out.alloc _,zdu _ _ _ _,(Chg.refl b w).alloc _⟩
 case round=>
  obtain⟨vo,acc,rfl,hac,HO,HD,HB,HC⟩:=hrel;have HAc:=waV hac;have hal:acc.length<=5:=by rw[hac];decide
  clear hac;have hlt:b<w.heap.size+1:=by omega
  have HOne:=waV (HI.out wr HC.out HD.out);go_wp2_with fail;refine(HOne.out).mono ?_;rintro e w2 ⟨rfl,h2,g2⟩;have HO2:=waV (zhj HO.out g2 hlt);have HB2:=waV (HB.out.chg g2 hne);have hgA:=HC.out.trans g2;have hz2:=hgA.size;have hi0:=HI0.out;have hz0:=HZ0.out;have hz1:=HZ1.out;have hzz2:=HZ2.out
  go_wp2_with (at_builtin;refine wpList_append_own _ rfl _ _ 24 rfl (w.heap.size+1) 64 i0 _ 4 32 underlying24 hi0 hz0 hz1 hzz2 rfl dQ _ acc.length _ rfl (HO2.out.alloc _) ⟨w2.heap.size,0,none⟩ 1 1 [.int .i64 i.k,.int .i64 i.f,.int .i64 i.t,.int .i64 i.s] rfl rfl ?c1 ?c2 ?c3 ?c4 ?c5 ?c6)
  case c1=>
   intro j u hu;rcases j with _|_|_|_|j
   ·simp at hu;subst hu;exact zaa rfl rfl
   ·simp at hu;subst hu;exact zaa rfl rfl
   ·simp at hu;subst hu;exact zaa rfl rfl
   ·simp at hu;subst hu;exact zaa rfl rfl
   ·simp at hu
  case c2=>intro u hu;simp at hu;rcases hu with rfl|rfl|rfl|rfl<;>rfl
  case c3=>simp only[maxLen];omega
  case c4=>omega
  case c5=>simp;omega
  case c6=>
   intro v' w3 hown hg _;have HV:Hid (zaY w3 (w.heap.size+1) v' (acc++[i])):=by
    show World.ownsRow _ _ _ _ _ _ _;rw[waF,List.flatMap_append,List.flatMap_singleton];exact hown
   have hob1:∀k,vo.ownBlock=some k->w.heap.size+1<=k:=zu0 HO.out;have hob:∀k,vo.ownBlock=some k->w.heap.size<=k:=fun k hk=>by have:=hob1 k hk;omega
   have hobn:vo.ownBlock≠some b:=fun e=>by have:=hob b e;omega
   have hobB:vo.ownBlock≠some w.heap.size:=fun e=>by have:=hob1 _ e;omega
   have h3:=(h2.alloc (.cells #[.int .i64 i.k,.int .i64 i.f,.int .i64 i.t,.int .i64 i.s] 64)).grown hg hobn;have HB3:=waV ((HB2.out.alloc _).grown hg hobB);have hgB:=(hgA.alloc _).grown hg hob;have HLn:Hid ((acc++[i]).length=acc.length+1):=by show _=_;simp
   have hpos:0<(acc++[i]).length:=by simp
   clear hown hg hi0 hz0 hz1 hzz2 h2 g2 HO2 HB2 hob hob1 hobn hobB;obtain⟨g,cap,rfl,hgb,hgl⟩:∃g cap,v'=.slice (some ⟨g,0,none⟩) (acc++[i]).length cap/\w.heap.size+1<=g/\g<w3.heap.size:=by
    rcases zbO HV.out with ⟨_,h0⟩|h1
    ·omega
    ·exact h1
   obtain⟨acc1,hacc⟩:∃x,x=acc++[i]:=⟨_,rfl⟩;rw[<-hacc] at HV HLn ⊢;have HAcc:=waV hacc;rw[HLn.out];clear hpos hacc;obtain⟨c0,c1⟩:=HB3.out;have hz3:=hgB.size;go_wp2_with fail;refine(HA.out _ h3).mono ?_;rintro e w4 ⟨rfl,rfl⟩;go_wp2_with fail;refine(HIs.out _ _ _ _ (h3.alloc _) (zuG (c:=44) (zaa rfl rfl)) dQ).mono ?_;rintro e w5 ⟨rfl,h5,g5⟩;have hgD:=(hgB.alloc _).trans g5;have HV5:=waV (zhj (HV.out.alloc _) g5 hlt);have HE:Hid (acc1=[i]):=by show _=_;rw[HAcc.out,HAc.out];rfl
   go_wp2
   (try rw[Exit.noGoto_ret])
   go_ret;exact⟨.slice (some ⟨g,0,none⟩) acc1.length cap,by rw[HLn.out];rfl,by rw[<-HE.out];exact zar HV5.out (by omega),by simp,h5,hgD⟩
theorem zu8 (f:Nat) (τ:PS) (hk:isP [42] σ=(τ,true)) (h:RdP w b s σ):Calls prog 168 #[kV b s,.int .i64 (f:Int)] w (zhK [⟨0,0,0,1⟩] b s τ w):=by
 have hs9:s.size<=9223372036854775807:=by omega
 have H:=waV h;have HI:=waV (fun W A n cp (h:RdP W b s σ) (hA:zbf W A n [42]) (hn:n<=9223372036854775807)=>zpz (cp:=cp) hs9 h hA hn)
 rw[hk] at HI;dsimp only at HI;clear h hk;go_enter func168,ntmps168;go_wp2_with fail;refine(HI.out _ _ _ _ (((H.out.alloc _).alloc _).alloc _) (zuG (c:=42) (zaa (by simp) rfl)) dQ).mono ?_
 rintro e w1 ⟨rfl,h1,g1⟩;have gA:=((((Chg.refl b w).alloc _).alloc _).alloc _).trans g1;have HOwn:=waV (zar (ziE w1 #[.int .i64 0,.int .i64 0,.int .i64 0,.int .i64 1] 64 4 1 dQ rfl) gA.size);go_wp2;go_ret;exact⟨_,rfl,HOwn.out,by simp,h1.alloc _,gA.alloc _⟩
theorem zwz (f:Nat) (hf1:f≠1) (τ:PS) (i:It) (hI:∀W,RdP W b s σ->Calls prog 221 #[kV b s,.int .i64 (f:Int)] W (zjO (itV i) b s τ W)) (k1:isP [42] σ=(σ,false)) (k2:isP [44] τ=(τ,false)) (h:RdP w b s σ):Calls prog 168 #[kV b s,.int .i64 (f:Int)] w (zhK [i] b s τ w):=by
 have hs9:s.size<=9223372036854775807:=by omega
 have hlt:=h.lt;have hne:¬w.heap.size=b:=by omega
 have hne1:¬w.heap.size+1=b:=by omega
 have h1':((f:Int)==1)=false:=by simp;omega
 have H:=waV h;have HI:=waV (fun W A n cp (h:RdP W b s σ) (hA:zbf W A n [42]) (hn:n<=9223372036854775807)=>zpz (cp:=cp) hs9 h hA hn)
 rw[k1] at HI;dsimp only at HI;have HL:=waV (fun W Bx Bf hbx hbf (hx:zdg W Bx b s) (hfc:W.cell? ⟨Bf,0,none⟩=some (.int .i64 (f:Int))) (h:RdP W b s σ)=>zx4 hs f τ i Bx Bf hbx hbf hx hfc h hI k2)
 have HB0:=waV ((zdu w b s 98).alloc (.cells #[.int .i64 (f:Int)] 3));have hF0:((w.alloc (.cells #[.pointer (some ⟨b,0,none⟩),.string s] 98)).alloc (.cells #[.int .i64 (f:Int)] 3)).cell? ⟨w.heap.size+1,0,none⟩=some (.int .i64 (f:Int)):=zaa (by simp) rfl
 have HF0:=waV hF0;clear h k1 k2 hI hF0 hf1;go_enter func168,ntmps168;go_wp2_with fail;refine(HI.out _ _ _ _ (((H.out.alloc _).alloc _).alloc _) (zuG (c:=42) (zaa (by simp) rfl)) dQ).mono ?_
 rintro e w1 ⟨rfl,h1,g1⟩;have gA:=((((Chg.refl b w).alloc _).alloc _).alloc _).trans g1;have HB1:=waV ((HB0.out.alloc _).chg g1 hne);have f1:=g1.cell (B:=w.heap.size+1) hne1 (((waC _ _).alloc (waJ _) _).cell (p:=⟨w.heap.size+1,0,none⟩) (by simp)|>.trans HF0.out)
 have HF1:=waV f1;obtain⟨c0,c1⟩:=HB1.out;go_wp2_with fail;refine(HL.out _ _ _ hne hne1 HB1.out HF1.out h1).mono ?_;rintro e w2 ⟨v,rfl,hv,hL2,h2,g2⟩;go_wp2;go_ret;exact⟨v,rfl,zar hv gA.size,hL2,h2,gA.trans g2⟩
end
section
variable {w : World} {b C B : Nat} {s : ByteArray} {σ τ1 τ2 τ3 τ4 τ5 : PS} {c : CalV} {L1 L2 L3 : List It} (hs : s.size <= 1000000)
include hs
theorem zx5 {X:ByteArray} (h:RdP w b s σ) (hc:zaQ w C B c) (hm:zcv w) (hCb:C≠b) (hCB:C<B) (hbB:b<B) (hB:B<=w.heap.size) (e0:za2 (zdJ σ)=X) (n1:Lib.countByte X.data.toList 45=2) (n2:Lib.countByte X.data.toList 126=0)
 (hF1:∀W,RdP W b s σ->Calls prog 168 #[kV b s,.int .i64 1] W (zhK L1 b s τ1 W)) (e1:ziR s.size [45] τ1=(τ2,45)) (hF2:∀W,RdP W b s τ2->Calls prog 168 #[kV b s,.int .i64 2] W (zhK L2 b s τ3 W)) (e2:ziR s.size [45,126] τ3=(τ4,45)) (hF3:∀W,RdP W b s τ4->Calls prog 168 #[kV b s,.int .i64 3] W (zhK L3 b s τ5 W)):
 Calls prog 105 #[kV b s,.pointer (some ⟨C,0,none⟩)] w (zwS (.tuple #[]) b C B s τ5 {c with year:=L1,month:=L2,back:=false,day:=L3} w):=by
 have hs9:s.size<=9223372036854775807:=by omega
 have hlt:=h.lt;have hne:¬w.heap.size=b:=by omega
 have hCl:=hc.lt;have hneC:¬w.heap.size=C:=by omega
 have hneC':¬C=w.heap.size:=by omega
 have H:=waV h;have HC:=waV hc;have HW:=waV (fun W (h:RdP W b s σ) (hm:zcv W)=>zq9 hs h hm)
 rw[e0] at HW;have HM0:Hid (zcv (w.alloc (.cells #[.pointer (some ⟨b,0,none⟩),.string s] 98))):=hm.below ((waC _ w).alloc (waJ _) _);have HN1:Hid (∀W,Calls prog 167 #[.string X,.string ⟨#[45]⟩] W (zbE (.int .i64 2) W)):=fun W=>by
  have:=Tryz.strings_Count_one X 45 W;rw[n1] at this;exact this.mono fun _ _ hh=>⟨hh.1,hh.2.symm⟩
 have HN2:Hid (∀W,Calls prog 167 #[.string X,.string ⟨#[126]⟩] W (zbE (.int .i64 0) W)):=fun W=>by
  have:=Tryz.strings_Count_one X 126 W;rw[n2] at this;exact this.mono fun _ _ hh=>⟨hh.1,hh.2.symm⟩
 have HF1:=waV hF1;have HM1:=waV (fun W A n cp (h:RdP W b s τ1) (hA:zbf W A n [45]) (hn:n<=9223372036854775807)=>ziT (cp:=cp) hs9 h hA hn)
 rw[e1] at HM1;have HF2:=waV hF2;have HM3:=waV (fun W A n cp (h:RdP W b s τ3) (hA:zbf W A n [45,126]) (hn:n<=9223372036854775807)=>ziT (cp:=cp) hs9 h hA hn)
 rw[e2] at HM3;have HF3:=waV hF3;dsimp only at HM1 HM3;clear h hc hm e0 n1 n2 hF1 e1 hF2 e2 hF3;have HB:=waV (zdu w b s 98);generalize hcy:({c with year:=L1}:CalV)=cy at *;go_enter func105,ntmps105;go_wp2_with fail;refine(HW.out _ (H.out.alloc _) HM0.out).mono ?_;rintro e w0 ⟨rfl,h0,g0⟩;have HB:=waV (HB.out.chg g0 hne);have hcal0:=waV ((HC.out.alloc (.cells #[.pointer (some ⟨b,0,none⟩),.string s] 98)).chg g0 hCb hbB);have g0':=(((Chg.refl b w).two C).alloc (.cells #[.pointer (some ⟨b,0,none⟩),.string s] 98)).then g0
 have hzz0:=g0.size
 (try simp at hzz0)
 (try clear c0 c1)
 obtain⟨c0,c1⟩:=HB.out
 (try clear x0 x1 x2 x3 x4 x5 x6 x7 xf)
 obtain⟨gx,x0,x1,x2,x3,x4,x5,x6,x7,xf⟩:=zaQ.cells hcal0.out;go_wp2_with fail;refine(HN1.out _).mono ?_;rintro e w9 ⟨rfl,rfl⟩;go_wp2_with fail;refine(HN2.out _).mono ?_;rintro e w9 ⟨rfl,rfl⟩;go_wp2_with fail;refine(HF1.out _ h0).mono ?_;rintro e w1 ⟨v1,rfl,hv1,hL1,h1,g1⟩;obtain⟨A1,m1,cp1,rfl⟩:=zf7 hv1;have HB:=waV (HB.out.chg g1 hne);have hzz1:=g1.size;have hv1:=waV (zar hv1 (waW hB (Chg2.size (g0'))));have hcal1:=waV (zaQ.chg hcal0.out g1 hCb hbB);have g1':=(g0').then g1
 (try clear c0 c1)
 obtain⟨c0,c1⟩:=HB.out
 (try clear x0 x1 x2 x3 x4 x5 x6 x7 xf)
 obtain⟨gx,x0,x1,x2,x3,x4,x5,x6,x7,xf⟩:=zaQ.cells hcal1.out;have hset1:=waV (zaQ.setL (c':={c with year:=L1}) hcal1.out hCB 1 (by decide) (by decide) (.slice A1 m1 cp1) hv1.out hL1 (fun k hk hn=>by rcases k with _|_|_|_|_|_|_|_|k<;>first|rfl|(exact absurd rfl hn)|omega) rfl)
 have hs1:=h1.set (o:=1) hCb (.slice A1 m1 cp1);have gs1:=g1'.set 1 (.slice A1 m1 cp1);clear hL1;have HBs1:=waV (HB.out.set (o:=1) hneC' (.slice A1 m1 cp1));have HB:=HBs1;go_wp2_with fail
 (try clear c0 c1)
 obtain⟨c0,c1⟩:=HB.out
 (try clear x0 x1 x2 x3 x4 x5 x6 x7 xf)
 obtain⟨gx,x0,x1,x2,x3,x4,x5,x6,x7,xf⟩:=zaQ.cells hset1.out;refine(HM1.out _ _ _ _ (hs1.alloc _) (zuG (c:=45) (zaa (by simp) rfl)) dQ).mono ?_
 rintro e w2 ⟨rfl,h2,g2⟩;have HB:=waV ((HB.out.alloc _).chg g2 hne);have hcal2:=waV ((hset1.out.alloc _).chg g2 hCb hbB);have g2':=(gs1.alloc _).then g2
 have hzz2:=g2.size
 (try simp at hzz2)
 rw[hcy] at hcal2
 (try clear c0 c1)
 obtain⟨c0,c1⟩:=HB.out
 (try clear x0 x1 x2 x3 x4 x5 x6 x7 xf)
 obtain⟨gx,x0,x1,x2,x3,x4,x5,x6,x7,xf⟩:=zaQ.cells hcal2.out;go_wp2_with fail;refine(HF2.out _ h2).mono ?_;rintro e w3 ⟨v3,rfl,hv3,hL3,h3,g3⟩;obtain⟨A3,m3,cp3,rfl⟩:=zf7 hv3;have HB:=waV (HB.out.chg g3 hne);have hzz3:=g3.size;have hv3:=waV (zar hv3 (waW hB (Chg2.size (g2'))));have hcal3:=waV (zaQ.chg hcal2.out g3 hCb hbB);have g3':=(g2').then g3
 (try clear c0 c1)
 obtain⟨c0,c1⟩:=HB.out
 (try clear x0 x1 x2 x3 x4 x5 x6 x7 xf)
 obtain⟨gx,x0,x1,x2,x3,x4,x5,x6,x7,xf⟩:=zaQ.cells hcal3.out;have hset3:=waV (zaQ.setL (c':={cy with month:=L2}) hcal3.out hCB 2 (by decide) (by decide) (.slice A3 m3 cp3) hv3.out hL3 (fun k hk hn=>by rcases k with _|_|_|_|_|_|_|_|k<;>first|rfl|(exact absurd rfl hn)|omega) rfl)
 have hs3:=h3.set (o:=2) hCb (.slice A3 m3 cp3);have gs3:=g3'.set 2 (.slice A3 m3 cp3);clear hL3;have HBs3:=waV (HB.out.set (o:=2) hneC' (.slice A3 m3 cp3));have HB:=HBs3;go_wp2_with fail
 (try clear c0 c1)
 obtain⟨c0,c1⟩:=HB.out
 (try clear x0 x1 x2 x3 x4 x5 x6 x7 xf)
 obtain⟨gx,x0,x1,x2,x3,x4,x5,x6,x7,xf⟩:=zaQ.cells hset3.out;refine(HM3.out _ _ _ _ (hs3.alloc _) (rdB2 (B:=w3.heap.size) (c:=45) (d:=126) (zaa (C:=#[.int .u8 45,.int .u8 126]) (t:=5) (by simp) rfl) (zaa (C:=#[.int .u8 45,.int .u8 126]) (t:=5) (by simp) rfl)) dQ).mono ?_
 rintro e w4 ⟨rfl,h4,g4⟩;have HB:=waV ((HB.out.alloc _).chg g4 hne);have hcal4:=waV ((hset3.out.alloc _).chg g4 hCb hbB);have g4':=(gs3.alloc _).then g4
 have hzz4:=g4.size
 (try simp at hzz4)
 (try clear c0 c1)
 obtain⟨c0,c1⟩:=HB.out
 (try clear x0 x1 x2 x3 x4 x5 x6 x7 xf)
 obtain⟨gx,x0,x1,x2,x3,x4,x5,x6,x7,xf⟩:=zaQ.cells hcal4.out;have hset4:=waV (zaQ.setBack (c':={cy with month:=L2,back:=false}) hcal4.out hCB false (fun k hk=>by rcases k with _|_|_|_|_|_|_|_|k<;>first|rfl|omega) rfl)
 have hs4:=h4.set (o:=4) hCb (.bool false);have gs4:=g4'.set 4 (.bool false);have HBs4:=waV (HB.out.set (o:=4) hneC' (.bool false));have HB:=HBs4;go_wp2_with fail
 (try clear c0 c1)
 obtain⟨c0,c1⟩:=HB.out
 (try clear x0 x1 x2 x3 x4 x5 x6 x7 xf)
 obtain⟨gx,x0,x1,x2,x3,x4,x5,x6,x7,xf⟩:=zaQ.cells hset4.out;go_wp2_with fail;refine(HF3.out _ hs4).mono ?_;rintro e w5 ⟨v5,rfl,hv5,hL5,h5,g5⟩;obtain⟨A5,m5,cp5,rfl⟩:=zf7 hv5;have HB:=waV (HB.out.chg g5 hne);have hzz5:=g5.size;have hv5:=waV (zar hv5 (waW hB (Chg2.size (gs4))));have hcal5:=waV (zaQ.chg hset4.out g5 hCb hbB);have g5':=(gs4).then g5
 (try clear c0 c1)
 obtain⟨c0,c1⟩:=HB.out
 (try clear x0 x1 x2 x3 x4 x5 x6 x7 xf)
 obtain⟨gx,x0,x1,x2,x3,x4,x5,x6,x7,xf⟩:=zaQ.cells hcal5.out;have hset5:=waV (zaQ.setL (c':={cy with month:=L2,back:=false,day:=L3}) hcal5.out hCB 3 (by decide) (by decide) (.slice A5 m5 cp5) hv5.out hL5 (fun k hk hn=>by rcases k with _|_|_|_|_|_|_|_|k<;>first|rfl|(exact absurd rfl hn)|omega) rfl)
 have hs5:=h5.set (o:=3) hCb (.slice A5 m5 cp5);have gs5:=g5'.set 3 (.slice A5 m5 cp5);clear hL5;have HBs5:=waV (HB.out.set (o:=3) hneC' (.slice A5 m5 cp5));subst hcy;go_wp2
 first|go_end0|(refine waY (results_none rfl _ _ _) rfl ?_)
 exact⟨rfl,hs5,hset5.out,gs5⟩
theorem zx6 (h:RdP w b s σ) (hc:zaQ w C B c) (hCb:C≠b) (hCB:C<B) (hbB:b<B) (hB:B<=w.heap.size)
 (hF1:∀W,RdP W b s σ->Calls prog 168 #[kV b s,.int .i64 4] W (zhK L1 b s τ1 W)) (e1:ziR s.size [58] τ1=(τ2,58)) (hF2:∀W,RdP W b s τ2->Calls prog 168 #[kV b s,.int .i64 5] W (zhK L2 b s τ3 W)) (e2:isP [58] τ3=(τ4,true)) (hF3:∀W,RdP W b s τ4->Calls prog 168 #[kV b s,.int .i64 6] W (zhK L3 b s τ5 W)):
 Calls prog 106 #[kV b s,.pointer (some ⟨C,0,none⟩)] w (zwS (.tuple #[]) b C B s τ5 {c with hour:=L1,minute:=L2,second:=L3} w):=by
 have hs9:s.size<=9223372036854775807:=by omega
 have hlt:=h.lt;have hne:¬w.heap.size=b:=by omega
 have hCl:=hc.lt;have hneC:¬w.heap.size=C:=by omega
 have hneC':¬C=w.heap.size:=by omega
 have H:=waV h;have HC:=waV hc;have HF1:=waV hF1;have HM1:=waV (fun W A n cp (h:RdP W b s τ1) (hA:zbf W A n [58]) (hn:n<=9223372036854775807)=>ziT (cp:=cp) hs9 h hA hn)
 rw[e1] at HM1;have HF2:=waV hF2;have HI:=waV (fun W A n cp (h:RdP W b s τ3) (hA:zbf W A n [58]) (hn:n<=9223372036854775807)=>zpz (cp:=cp) hs9 h hA hn)
 rw[e2] at HI;have HF3:=waV hF3;dsimp only at HM1 HI;have HB:=waV (zdu w b s 98);clear h hc hF1 e1 hF2 e2 hF3;go_enter func106,ntmps106;go_wp2_with fail;refine(HF1.out _ (H.out.alloc _)).mono ?_;rintro e w1 ⟨v1,rfl,hv1,hL1,h1,g1⟩;obtain⟨A1,m1,cp1,rfl⟩:=zf7 hv1;have HB:=waV (HB.out.chg g1 hne);have hzz1:=g1.size;have hv1:=waV (zar hv1 (waW hB (Chg2.size ((((Chg.refl b w).two C).alloc _)))));have hcal1:=waV (zaQ.chg (HC.out.alloc _) g1 hCb hbB);have g1':=((((Chg.refl b w).two C).alloc _)).then g1
 (try clear c0 c1)
 obtain⟨c0,c1⟩:=HB.out
 (try clear x0 x1 x2 x3 x4 x5 x6 x7 xf)
 obtain⟨gx,x0,x1,x2,x3,x4,x5,x6,x7,xf⟩:=zaQ.cells hcal1.out;have hset1:=waV (zaQ.setL (c':={c with hour:=L1}) hcal1.out hCB 5 (by decide) (by decide) (.slice A1 m1 cp1) hv1.out hL1 (fun k hk hn=>by rcases k with _|_|_|_|_|_|_|_|k<;>first|rfl|(exact absurd rfl hn)|omega) rfl)
 have hs1:=h1.set (o:=5) hCb (.slice A1 m1 cp1);have gs1:=g1'.set 5 (.slice A1 m1 cp1);clear hL1;have HBs1:=waV (HB.out.set (o:=5) hneC' (.slice A1 m1 cp1));have HB:=HBs1;go_wp2_with fail
 (try clear c0 c1)
 obtain⟨c0,c1⟩:=HB.out
 (try clear x0 x1 x2 x3 x4 x5 x6 x7 xf)
 obtain⟨gx,x0,x1,x2,x3,x4,x5,x6,x7,xf⟩:=zaQ.cells hset1.out;refine(HM1.out _ _ _ _ (hs1.alloc _) (zuG (c:=58) (zaa (by simp) rfl)) dQ).mono ?_
 rintro e w2 ⟨rfl,h2,g2⟩;have HB:=waV ((HB.out.alloc _).chg g2 hne);have hcal2:=waV ((hset1.out.alloc _).chg g2 hCb hbB);have g2':=(gs1.alloc _).then g2
 have hzz2:=g2.size
 (try simp at hzz2)
 (try clear c0 c1)
 obtain⟨c0,c1⟩:=HB.out
 (try clear x0 x1 x2 x3 x4 x5 x6 x7 xf)
 obtain⟨gx,x0,x1,x2,x3,x4,x5,x6,x7,xf⟩:=zaQ.cells hcal2.out;go_wp2_with fail;refine(HF2.out _ h2).mono ?_;rintro e w3 ⟨v3,rfl,hv3,hL3,h3,g3⟩;obtain⟨A3,m3,cp3,rfl⟩:=zf7 hv3;have HB:=waV (HB.out.chg g3 hne);have hzz3:=g3.size;have hv3:=waV (zar hv3 (waW hB (Chg2.size (g2'))));have hcal3:=waV (zaQ.chg hcal2.out g3 hCb hbB);have g3':=(g2').then g3
 (try clear c0 c1)
 obtain⟨c0,c1⟩:=HB.out
 (try clear x0 x1 x2 x3 x4 x5 x6 x7 xf)
 obtain⟨gx,x0,x1,x2,x3,x4,x5,x6,x7,xf⟩:=zaQ.cells hcal3.out;have hset3:=waV (zaQ.setL (c':={c with hour:=L1,minute:=L2}) hcal3.out hCB 6 (by decide) (by decide) (.slice A3 m3 cp3) hv3.out hL3 (fun k hk hn=>by rcases k with _|_|_|_|_|_|_|_|k<;>first|rfl|(exact absurd rfl hn)|omega) rfl)
 have hs3:=h3.set (o:=6) hCb (.slice A3 m3 cp3);have gs3:=g3'.set 6 (.slice A3 m3 cp3);clear hL3;have HBs3:=waV (HB.out.set (o:=6) hneC' (.slice A3 m3 cp3));have HB:=HBs3;go_wp2_with fail
 (try clear c0 c1)
 obtain⟨c0,c1⟩:=HB.out
 (try clear x0 x1 x2 x3 x4 x5 x6 x7 xf)
 obtain⟨gx,x0,x1,x2,x3,x4,x5,x6,x7,xf⟩:=zaQ.cells hset3.out;refine(HI.out _ _ _ _ (hs3.alloc _) (zuG (c:=58) (zaa (by simp) rfl)) dQ).mono ?_
 rintro e w4 ⟨rfl,h4,g4⟩;have HB:=waV ((HB.out.alloc _).chg g4 hne);have hcal4:=waV ((hset3.out.alloc _).chg g4 hCb hbB);have g4':=(gs3.alloc _).then g4
 have hzz4:=g4.size
 (try simp at hzz4)
 (try clear c0 c1)
 obtain⟨c0,c1⟩:=HB.out
 (try clear x0 x1 x2 x3 x4 x5 x6 x7 xf)
 obtain⟨gx,x0,x1,x2,x3,x4,x5,x6,x7,xf⟩:=zaQ.cells hcal4.out;go_wp2_with fail;refine(HF3.out _ h4).mono ?_;rintro e w5 ⟨v5,rfl,hv5,hL5,h5,g5⟩;obtain⟨A5,m5,cp5,rfl⟩:=zf7 hv5;have HB:=waV (HB.out.chg g5 hne);have hzz5:=g5.size;have hv5:=waV (zar hv5 (waW hB (Chg2.size (g4'))));have hcal5:=waV (zaQ.chg hcal4.out g5 hCb hbB);have g5':=(g4').then g5
 (try clear c0 c1)
 obtain⟨c0,c1⟩:=HB.out
 (try clear x0 x1 x2 x3 x4 x5 x6 x7 xf)
 obtain⟨gx,x0,x1,x2,x3,x4,x5,x6,x7,xf⟩:=zaQ.cells hcal5.out;have hset5:=waV (zaQ.setL (c':={c with hour:=L1,minute:=L2,second:=L3}) hcal5.out hCB 7 (by decide) (by decide) (.slice A5 m5 cp5) hv5.out hL5 (fun k hk hn=>by rcases k with _|_|_|_|_|_|_|_|k<;>first|rfl|(exact absurd rfl hn)|omega) rfl)
 have hs5:=h5.set (o:=7) hCb (.slice A5 m5 cp5);have gs5:=g5'.set 7 (.slice A5 m5 cp5);clear hL5;have HBs5:=waV (HB.out.set (o:=7) hneC' (.slice A5 m5 cp5));go_wp2
 first|go_end0|(refine waY (results_none rfl _ _ _) rfl ?_)
 exact⟨rfl,hs5,hset5.out,gs5⟩
end
end Go.Proofs.YtllcdbgjeidlkaaGreatDoor
