/- A part of the proof: WClC -/
import Derived.Test.YtllcdbgjeidlkaaGreatDoorT01
import Derived.Test.YtllcdbgjeidlkaaGreatDoorT02
import Derived.Test.YtllcdbgjeidlkaaGreatDoorT04
set_option maxHeartbeats 80000000
set_option maxRecDepth 100000
set_option linter.unusedSimpArgs false
set_option linter.unusedVariables false
namespace Go.Proofs.YtllcdbgjeidlkaaGreatDoor
open Go.Proofs.Tryz
open Go.RowKit
def zbA (m n:Int):Bool:=decide (0<=n/\n<64/\m / 2^n.toNat%2=1)
theorem zsq {M:Int} (h0:0<=M) (h1:M<18446744073709551616):bits .and .u64 M 1=M%2:=by
 rw[u64_and M 1 h0 h1 (by decide) (by decide)]
 have:M.toNat&&&(1:Int).toNat=M.toNat%2:=Nat.and_one_is_mod _;rw[this];omega
theorem zcp (m n:Int) (h0:0<=m) (h1:m<18446744073709551616) (w:World):Calls prog 130 #[.int .u64 m,.int .i64 n] w (zbE (.bool (zbA m n)) w):=by
 by_cases hn:0<=n
 ·by_cases hn1:n<64
  ·obtain⟨k,rfl⟩:=wbD hn;have hp:(0:Int)<2^k:=by
    have e:(2:Int)^k=((2^k:Nat):Int):=by simp
    have:=Nat.two_pow_pos k;omega
   have hq0:0<=m / 2^k:=Int.ediv_nonneg h0 oQ;have hq1:m / 2^k<18446744073709551616:=Int.lt_of_le_of_lt (Int.ediv_le_self _ h0) h1;have he:=zsq hq0 hq1;have HQ:Hid (zbA m (k:Int)=(m / 2^k%2==1)):=by
    show _=_;unfold zbA;rw[waQ,waM,beq_iff_eq];exact⟨fun h=>h.2.2,fun h=>⟨by omega,hn1,h⟩⟩
   clear hp;go_enter func130,ntmps130;go_wp2;go_ret;exact⟨zab HQ.out.symm,rfl⟩
  ·have HQ:Hid (zbA m n=false):=waO (fun h=>hn1 h.2.1)
   go_enter func130,ntmps130;go_wp2;go_ret;exact⟨zab HQ.out.symm,rfl⟩
 ·have HQ:Hid (zbA m n=false):=waO (fun h=>hn h.1)
  go_enter func130,ntmps130;go_wp2;go_ret;exact⟨zab HQ.out.symm,rfl⟩
def zgl (a:Int) (k:Nat):List Int:=(List.range k).map fun(j:Nat)=>a+(j:Int)
theorem zpD (a:Int) (k:Nat):zgl a (k+1)=zgl a k++[a+(k:Int)]:=by
 unfold zgl;rw[List.range_succ,List.map_append];rfl
theorem zbQ {a x:Int} {k:Nat}:x∈zgl a k↔a<=x/\x<a+(k:Int):=by
 unfold zgl;rw[List.mem_map];constructor
 ·rintro ⟨j,hj,rfl⟩;have:=wbG.1 hj;omega
 ·intro h;exact⟨(x - a).toNat,wbG.2 oQ,by omega⟩
def zas (a b:Int):Int:=zal (zgl a (b+1 - a).toNat)
theorem zbB (a b:Int) (h0:0<=a) (h1:a<=64) (hb:b<=1000000) (hb0:-1000000<=b) (w:World):Calls prog 121 #[.int .i64 a,.int .i64 b,.int .i64 1] w (zbE (.int .u64 (zas a b)) w):=by
 have ha:¬a<0:=by omega
 go_enter func121,ntmps121;go_wp2
 go_loopw [7,8] (fun m i wr=>∃k:Nat,i=.int .i64 (a+(k:Int))/\Hid (m=.int .u64 (zal (zgl a k)))/\(k=0\/a+(k:Int)<=64/\a+(k:Int)<=b+1)/\wr=w) (fun _ i _=>(64 - intOf i).toNat)
 case atStart=>exact⟨0,by simp,by show _=_;rw[show zgl a 0=[] from rfl,zdT],.inl rfl,rfl⟩
 case round=>
  obtain⟨k,rfl,HM,hk,rfl⟩:=hrel;obtain rfl:=HM.out;clear HM;have hn0:0<=a+(k:Int):=by omega
  have hn1:a+(k:Int)<=64:=by omega
  by_cases h64:a+(k:Int)<64
  ·by_cases hle:a+(k:Int)<=b
   ·have HP:Hid (bits .or .u64 (zal (zgl a k)) (IntKind.u64.wrap (2^(a+(k:Int)).toNat))=zal (zgl a (k+1))):=by
     show _=_;rw[zpD];exact zhN hn0 h64
    generalize hn:a+(k:Int)=n at *;have HN:Hid (n=a+(k:Int)):=hn.symm;clear hn hk;go_wp2;go_roundw
    case rel=>exact⟨k+1,by rw[HN.out];push_cast;go_num,by show _=_;rw[HP.out],.inr (by have:=HN.out;push_cast;omega),by trivial⟩
    case measure=>simp [intOf];omega
   ·have HE:Hid (zas a b=zal (zgl a k)):=zgz fun i hi=>by rw[zbQ,zbQ];omega
    generalize zal (zgl a k)=M at *;generalize a+(k:Int)=n at *;clear hk;go_wp2;go_ret;exact⟨by rw[HE.out];rfl,rfl⟩
  ·have HE:Hid (zas a b=zal (zgl a k)):=zgz fun i hi=>by rw[zbQ,zbQ];omega
   generalize zal (zgl a k)=M at *;generalize a+(k:Int)=n at *;clear hk;go_wp2;go_ret;exact⟨by rw[HE.out];rfl,rfl⟩
def wdD (n:Int):Int:=(n%7+3)%7+1
def wkD (n:Int):Int:=n / 7+if 4<=n%7 then 1 else 0
def zr0 (at' len:Int):Int:=if at'<1\/len<at' then 0 else(at' - 1) / 7+1
def zr1 (at' len:Int):Int:=if at'<1\/len<at' then 0 else(len - at') / 7+1
theorem zsr (n:Int) (h:0<=n) (h1:n<=1000000) (w:World):Calls prog 202 #[.int .i64 n] w (zbE (.int .i64 (wdD n)) w):=by
 have H1:=waV (fun W=>ziL n 7 h oQ dQ dQ W)
 have H2:=waV (fun W=>ziL (n%7+3) 7 oQ oQ dQ dQ W)
 have HR:Hid (wdD n=(n%7+3)%7+1):=rfl;have hb:0<=n%7/\n%7<7:=by omega
 have hc:0<=(n%7+3)%7/\(n%7+3)%7<7:=by omega
 rw[HR.out];clear HR;generalize (n%7+3)%7=q at *;generalize n%7=r at *;obtain⟨b0,b1⟩:=hb;obtain⟨c0,c1⟩:=hc;go_enter func202,ntmps202;go_wp2_with fail;refine(H1.out _).mono ?_;rintro e w1 ⟨rfl,rfl⟩;go_wp2_with fail;refine(H2.out _).mono ?_;rintro e w1 ⟨rfl,rfl⟩;go_wp2;go_ret;exact⟨rfl,rfl⟩
theorem zld (n:Int) (h:0<=n) (h1:n<=1000000) (w:World):Calls prog 268 #[.int .i64 n] w (zbE (.int .i64 (wkD n)) w):=by
 have H1:=waV (fun W=>zgA n 7 h oQ dQ dQ W)
 have H2:=waV (fun W=>ziL n 7 h oQ dQ dQ W)
 have hq:0<=n / 7/\n / 7<=1000000:=by omega
 by_cases h4:4<=n%7
 ·have HR:Hid (wkD n=n / 7+1):=by show _=_;unfold wkD;rw[if_pos h4]
  rw[HR.out];clear HR;generalize n / 7=q at *;generalize n%7=r at *;obtain⟨b0,b1⟩:=hq;go_enter func268,ntmps268;go_wp2_with fail;refine(H1.out _).mono ?_;rintro e w1 ⟨rfl,rfl⟩;go_wp2_with fail;refine(H2.out _).mono ?_;rintro e w1 ⟨rfl,rfl⟩;go_wp2;go_ret;exact⟨rfl,rfl⟩
 ·have HR:Hid (wkD n=n / 7):=by show _=_;unfold wkD;rw[if_neg h4];omega
  rw[HR.out];clear HR;generalize n / 7=q at *;generalize n%7=r at *;obtain⟨b0,b1⟩:=hq;go_enter func268,ntmps268;go_wp2_with fail;refine(H1.out _).mono ?_;rintro e w1 ⟨rfl,rfl⟩;go_wp2_with fail;refine(H2.out _).mono ?_;rintro e w1 ⟨rfl,rfl⟩;go_wp2;go_ret;exact⟨rfl,rfl⟩
theorem zhS (a l:Int) (ha:-1000000<=a) (ha1:a<=1000000) (hl:-1000000<=l) (hl1:l<=1000000) (w:World):Calls prog 203 #[.int .i64 a,.int .i64 l] w (zbE (.tuple #[.int .i64 (zr0 a l),.int .i64 (zr1 a l)]) w):=by
 by_cases h1:a<1
 ·have HR:Hid (zr0 a l=0/\zr1 a l=0):=⟨if_pos (.inl h1),if_pos (.inl h1)⟩;go_enter func203,ntmps203;go_wp2
  (try simp only[Exit.inBlock,Exit.then])
  refine waY (wbM rfl _ _ _) rfl ?_;exact⟨by rw[HR.out.1,HR.out.2];rfl,rfl⟩
 ·by_cases h2:l<a
  ·have HR:Hid (zr0 a l=0/\zr1 a l=0):=⟨if_pos (.inr h2),if_pos (.inr h2)⟩;go_enter func203,ntmps203;go_wp2
   (try simp only[Exit.inBlock,Exit.then])
   refine waY (wbM rfl _ _ _) rfl ?_;exact⟨by rw[HR.out.1,HR.out.2];rfl,rfl⟩
  ·have HR:Hid (zr0 a l=(a - 1) / 7+1/\zr1 a l=(l - a) / 7+1):=⟨if_neg oQ,if_neg oQ⟩;have hx:0<=a - 1:=by omega
   have hy:0<=l - a:=by omega
   have E1:Int.tdiv (a - 1) 7=(a - 1) / 7:=Int.tdiv_eq_ediv_of_nonneg hx;have E2:Int.tdiv (l - a) 7=(l - a) / 7:=Int.tdiv_eq_ediv_of_nonneg hy;have hb1:0<=(a - 1) / 7/\(a - 1) / 7<=1000000:=by omega
   have hb2:0<=(l - a) / 7/\(l - a) / 7<=1000000:=by omega
   obtain⟨b0,b1⟩:=hb1;obtain⟨c0,c1⟩:=hb2;go_enter func203,ntmps203;go_wp2
   (try simp only[Exit.inBlock,Exit.then])
   refine waY (wbM rfl _ _ _) rfl ?_;exact⟨by rw[HR.out.1,HR.out.2];rfl,rfl⟩
def zaw (f u:Int):Int:=if(if 12622780799<u then 12622780799 else u)<(if f<0 then 0 else f) then 0 else(if f<0 then 0 else f)
def zao (f u:Int):Int:=if(if 12622780799<u then 12622780799 else u)<(if f<0 then 0 else f) then -1 else(if 12622780799<u then 12622780799 else u)
theorem zvn {f u t:Int}:(zaw f u<=t/\t<=zao f u)↔(f<=t/\t<=u/\0<=t/\t<=12622780799):=by
 unfold zaw zao
 (repeat' split)<;>omega
theorem zd3 (f u:Int) (w:World):Calls prog 186 #[.agg #[.int .i64 f,.int .i64 u]] w (Ret (.agg #[.int .i64 (zaw f u),.int .i64 (zao f u)]) w):=by
 go_enter func186,ntmps186;go_wp2
 all_goals (
  (try simp only[Exit.inBlock,Exit.then])
  refine waY (v:=.agg #[.int .i64 (zaw f u),.int .i64 (zao f u)]) ?_ rfl ⟨rfl,by exact zaE⟩
  rw[zah rfl];unfold zaw zao
  go_simp
  all_goals (try((repeat' split)<;>omega)))
theorem zhT (w:World):Calls prog 122 #[] w (Ret (.agg #[.int .i64 0,.int .i64 12622780799]) w):=by
 go_enter func122,ntmps122;go_wp2
 (try simp only[Exit.inBlock,Exit.then])
 refine waY (v:=.agg #[.int .i64 0,.int .i64 12622780799]) ?_ rfl ⟨rfl,by exact zaE⟩
 rw[zah rfl]
 go_simp
theorem zaK {w w':World} {b o n:Nat} (h:w.there b o n) (hb:b<w.heap.size) (hw:Below w.heap.size w w'):w'.there b o n:=fun j hj=>by
 obtain⟨hc,hf⟩:=zad hw;rw[hc _ _ hb,hf _ _ hb];exact h j hj
theorem zd4 {ops:Array Oper} {rest:List Oper} {op:Oper} {a:Act} {Q:Exit->Act->World->Prop} {w W:World} (hgd:op.guard=none) (t:TypeId) (x y:Operand) (ho:op.op=.store t x y) (cs:Array Value) {d:TypeDesc}
 (hx:a.eval x=.pointer (some ⟨w.heap.size,0,none⟩)) (hy:a.eval y=.agg cs) (hu:prog.underlying t=some d) (hd:d.isRow=true) (hi:(prog.info? t).map (·.size)=some cs.size) (h1:cs.all (·.oneCell')=true)
 (hb:Below w.heap.size w W) (ht:W.there w.heap.size 0 cs.size)
 (h:∀W',Hid ((loadVar t ⟨w.heap.size,0,none⟩).run prog W'=.ok (.agg cs) W')->Below w.heap.size w W'->wpList prog ops Q rest (a.put op.dst undef) W'):wpList prog ops Q (op::rest) a W:=by
 refine wpList_store_mid (P:=prog) hgd t x y ho w.heap.size 0 cs hx hy ht hi h1 (h _ ?_ (zba (waJ _) _ _ _ hb));have:=run_loadVar_mid (P:=prog) (W.setCells w.heap.size 0 cs.toList) w.heap.size 0 t cs.toList d (World.rangeAt_setCells_same _ _ _ _ (by simpa using ht)) hu hd (by simpa using hi)
 show _=_;simpa using this
def zdh (s h m c:Int):Bool:=zbA h (s / 3600)&&(zbA m (s / 60%60)&&zbA c (s%60))
def M64 (m:Int):Prop:=0<=m/\m<18446744073709551616
theorem zgF (y m d:Int) (hy0:0<=y) (hy1:y<=10000) (hm1:1<=m) (hm2:m<=12) (hd1:1<=d) (hd2:d<=zbt y m) (w:World):Calls prog 146 #[.int .i64 y,.int .i64 m,.int .i64 d] w (Ret (.tuple #[.int .i64 (zcB y m+d),.bool true]) w):=by
 have HM:=waV (fun W=>zjJ y m d hy0 oQ W)
 have hmay:zsc y m d=true:=waP ⟨by omega,by omega,hd1,hd2⟩
 rw[hmay] at HM;have HL:=waV (fun(j:Int) W=>zde y j hy0 oQ W)
 have hC:∀j:Int,1<=j->j<=12->zcB y (j+1)=zcB y j+zbt y j:=fun j h1 h2=>zdV h1 h2
 have HC:=waV hC;have HP:Hid (∀j:Int,1<=j->j<=12->28<=zbt y j/\zbt y j<=31):=fun j h1 h2=>zcC h1 h2
 have HB:Hid (∀j:Int,1<=j->j<=13->0<=zcB y j/\zcB y j<=366):=fun j h1 h2=>by
  have e1:=zbM (y:=y) (a:=1) (b:=j) oQ h1 h2;have e2:=zbM (y:=y) (a:=j) (b:=13) h1 h2 oQ;rw[zdr] at e1;rw[ze4] at e2;have:=zmr y;omega
 have hd31:d<=31:=by have:=(zcC (y:=y) hm1 hm2).2;omega
 have hO:zcB y 1=0:=zdr y;have HO:=waV hO;clear hmay hC hO hd2;go_enter func146,ntmps146;go_wp2_with fail;go_step3;go_wp2_with fail;refine(HM.out _).mono ?_;rintro e w1 ⟨rfl,hb1⟩;go_wp2;go_step3;go_wp2
 go_loopw [8,9] (fun v i wr=>∃j x:Int,1<=j/\j<=m/\i=.int .i64 j/\v=.int .i64 (d+x)/\Hid (x=zcB y j)/\Below w.heap.size w wr) (fun _ i _=>(m - intOf i).toNat)
 case atStart=>exact⟨1,0,by omega,hm1,rfl,by simp,HO.out.symm,hb1⟩
 case round=>
  obtain⟨j,x,hj1,hj2,rfl,rfl,HX,hb⟩:=hrel;have hx:=HB.out j hj1 oQ;rw[<-HX.out] at hx;obtain⟨hx0,hx1⟩:=hx;have hsz:=hb.size
  by_cases hjm:j=m
  ·have hje:(j==m)=true:=by simpa using hjm
   have HXE:Hid (x=zcB y m):=by show _=_;rw[HX.out,hjm]
   clear hjm HX;go_wp2;rw[Exit.noGoto_ret];refine waY (wbM rfl _ _ _) rfl ?_;exact⟨by rw[<-HXE.out,Int.add_comm x d];rfl,hb⟩
  ·have hje:(j==m)=false:=by simpa using hjm
   have hlt:j<m:=by omega
   have hp:=HP.out j hj1 oQ;have HXN:Hid (x+zbt y j=zcB y (j+1)):=by show _=_;rw[HX.out];exact(HC.out j hj1 (by omega)).symm
   have HLj:=waV (fun W=>HL.out j W)
   clear hjm HX;generalize zbt y j=L at *;obtain⟨p0,p1⟩:=hp;go_wp2_with fail;refine(HLj.out _).mono ?_;rintro e w2 ⟨rfl,hb2⟩;go_wp2;go_roundw
   case rel=>exact⟨j+1,x+L,by omega,by omega,by go_num,by go_num,HXN.out,zaf hb hb2 hsz⟩
   case measure=>simp [intOf];omega
def shN (n y m d:Int) (j:Nat):Int:=
 if j=0 then n else if j=1 then y else if j=2 then m else if j=3 then d else if j=4 then zbt y m - d+1 else if j=5 then wdD n else
 if j=6 then zr0 d (zbt y m) else if j=7 then zr1 d (zbt y m) else if j=8 then zr0 (zcB y m+d) (365+lpC y) else zr1 (zcB y m+d) (365+lpC y)
def shV (n:Int):Value:=.agg #[.int .i64 (shN n (yD n) (mD n) (dD n) 0),.int .i64 (shN n (yD n) (mD n) (dD n) 1),.int .i64 (shN n (yD n) (mD n) (dD n) 2),.int .i64 (shN n (yD n) (mD n) (dD n) 3),.int .i64 (shN n (yD n) (mD n) (dD n) 4),
 .int .i64 (shN n (yD n) (mD n) (dD n) 5),.int .i64 (shN n (yD n) (mD n) (dD n) 6),.int .i64 (shN n (yD n) (mD n) (dD n) 7),.int .i64 (shN n (yD n) (mD n) (dD n) 8),.int .i64 (shN n (yD n) (mD n) (dD n) 9)]
theorem zbm {n:Int} (h:0<=n) (h1:n<146097):0<=yD n/\yD n<=3000/\1<=mD n/\mD n<=12/\1<=dD n/\dD n<=zbt (yD n) (mD n)/\28<=zbt (yD n) (mD n)/\zbt (yD n) (mD n)<=31/\0<=zcB (yD n) (mD n)/\zcB (yD n) (mD n)<=366:=by
 have h2:=ziK h h1;have h3:=zds h h1;have h4:=zcC (y:=yD n) h3.2.1 h3.2.2.1;have e1:=zbM (y:=yD n) (a:=1) (b:=mD n) oQ h3.2.1 oQ;have e2:=zbM (y:=yD n) (a:=mD n) (b:=13) h3.2.1 oQ oQ;rw[zdr] at e1;rw[ze4] at e2;have:=zmr (yD n);omega
theorem zhU (n:Int) (h:0<=n) (h1:n<146097) (w:World):Calls prog 147 #[.int .i64 n,.int .i64 (yD n),.int .i64 (mD n),.int .i64 (dD n),.int .i64 (zcB (yD n) (mD n)+dD n)] w (Ret (shV n) w):=by
 obtain⟨y0,y1,m0,m1,d0,d1,l0,l1,c0,c1⟩:=zbm h h1;have hp:=zmr (yD n);have HL:=waV (fun W=>zde (yD n) (mD n) y0 oQ W)
 have HLp:=waV (fun W=>zms (yD n) y0 oQ W)
 have HD:=waV (fun W=>zsr n h oQ W)
 have HW1:=waV (fun W=>zhS (dD n) (zbt (yD n) (mD n)) oQ oQ oQ oQ W)
 have HW2:=waV (fun W=>zhS (zcB (yD n) (mD n)+dD n) (365+lpC (yD n)) oQ oQ oQ oQ W)
 have HS:Hid (shV n=.agg #[.int .i64 n,.int .i64 (yD n),.int .i64 (mD n),.int .i64 (dD n),.int .i64 (zbt (yD n) (mD n) - dD n+1),.int .i64 (wdD n),.int .i64 (zr0 (dD n) (zbt (yD n) (mD n))),.int .i64 (zr1 (dD n) (zbt (yD n) (mD n))),.int .i64 (zr0 (zcB (yD n) (mD n)+dD n) (365+lpC (yD n))),.int .i64 (zr1 (zcB (yD n) (mD n)+dD n) (365+lpC (yD n)))]):=rfl;rw[HS.out];clear HS;have hl:Hid (lpC (yD n)=if zeM (yD n)=true then 1 else 0):=rfl
 cases hq:zeM (yD n)
 case' true=>
  have hl1:Hid (lpC (yD n)=1):=by show _=_;rw[hl.out,if_pos hq]
  rw[hl1.out] at HW2 ⊢;rw[show (365:Int)+1=366 from rfl] at HW2 ⊢
 case' false=>
  have hl1:Hid (lpC (yD n)=0):=by show _=_;rw[hl.out,hq];rfl
  rw[hl1.out] at HW2 ⊢;rw[show (365:Int)+0=365 from rfl] at HW2 ⊢
 all_goals
  rw[hq] at HLp;clear hl hl1 hq hp;generalize zr0 (dD n) (zbt (yD n) (mD n))=a1 at *;generalize zr1 (dD n) (zbt (yD n) (mD n))=a2 at *;generalize zr0 (zcB (yD n) (mD n)+dD n) _=a3 at *;generalize zr1 (zcB (yD n) (mD n)+dD n) _=a4 at *;generalize hO:zcB (yD n) (mD n)+dD n=o at *;clear hO;generalize zbt (yD n) (mD n)=L at *;generalize zcB (yD n) (mD n)=C at *;generalize wdD n=wd at *;generalize yD n=y at *;generalize mD n=m at *;generalize dD n=d at *;clear c0 c1;go_enter func147,ntmps147;go_wp2_with fail;refine(HL.out _).mono ?_;rintro e w1 ⟨rfl,hb1⟩;obtain⟨hc,hf⟩:=zad hb1;have hbw:Below w.heap.size w w1:=((waC _ w).alloc (waJ _) _).trans (hb1.mono (by simp))
  have HT:=waV (zaK (zcK w _ 81) (by simp) hb1)
  have hz1:w.heap.size<w1.heap.size:=by have:=hb1.size;simp at this;omega
  clear hb1 hc hf HL;go_wp2_with fail;refine(HLp.out _).mono ?_;rintro e w2 ⟨rfl,rfl⟩;go_wp2_with fail;refine(HD.out _).mono ?_;rintro e w2 ⟨rfl,rfl⟩;go_wp2_with fail;refine(HW1.out _).mono ?_;rintro e w2 ⟨rfl,rfl⟩;go_wp2_with fail;refine(HW2.out _).mono ?_;rintro e w2 ⟨rfl,rfl⟩;have hbx:Below w.heap.size w (w1.alloc (.cells #[.int .i64 n,.int .i64 y,.int .i64 m,.int .i64 d,.int .i64 (L - d+1),.int .i64 wd,.int .i64 a1,.int .i64 a2,.int .i64 a3,.int .i64 a4] 81)):=hbw.alloc oQ _;have htx:(w1.alloc (.cells #[.int .i64 n,.int .i64 y,.int .i64 m,.int .i64 d,.int .i64 (L - d+1),.int .i64 wd,.int .i64 a1,.int .i64 a2,.int .i64 a3,.int .i64 a4] 81)).there w.heap.size 0 10:=zaK HT.out hz1 ((waC _ _).alloc (waJ _) _);replace htx:=waV htx;clear HT
  go_wp2_with (refine zd4 (w:=w) rfl 81 _ _ rfl #[.int .i64 n,.int .i64 y,.int .i64 m,.int .i64 d,.int .i64 (L - d+1),.int .i64 wd,.int .i64 a1,.int .i64 a2,.int .i64 a3,.int .i64 a4] rfl rfl underlying81 rfl kQ kQ hbx htx.out ?_;intro W' hLd hbE)
  (try simp only[Exit.inBlock,Exit.then])
  refine waY (v:=.agg #[.int .i64 n,.int .i64 y,.int .i64 m,.int .i64 d,.int .i64 (L - d+1),.int .i64 wd,.int .i64 a1,.int .i64 a2,.int .i64 a3,.int .i64 a4]) ?_ rfl ⟨rfl,hbE⟩;rw[zah rfl];exact hLd.out
theorem zjQ (n:Int) (h:0<=n) (h1:n<146097) (w:World):Calls prog 129 #[.int .i64 n] w (Ret (.tuple #[shV n,.bool true]) w):=by
 obtain⟨y0,y1,m0,m1,d0,d1,l0,l1,c0,c1⟩:=zbm h h1;have HD:=waV (fun W=>zmt n h h1 W)
 have HO:=waV (fun W=>zgF (yD n) (mD n) (dD n) y0 oQ m0 m1 d0 d1 W)
 have HS:=waV (fun W=>zhU n h h1 W)
 unfold shV at *;generalize shN n (yD n) (mD n) (dD n)=g at *;generalize zcB (yD n) (mD n)+dD n=o at *;generalize yD n=y at *;generalize mD n=m at *;generalize dD n=d at *;clear y0 y1 m0 m1 d0 d1 l0 l1 c0 c1;have hn0:¬n<0:=by omega
 have hn1:¬146097<=n:=by omega
 go_enter func129,ntmps129;go_wp2_with fail;refine(HD.out _).mono ?_;rintro e w1 ⟨rfl,hb1⟩;have HT:=waV (zaK (zcK w _ 81) (by simp) hb1)
 have hz1:w.heap.size<w1.heap.size:=by have:=hb1.size;simp at this;omega
 have hbw:Below w.heap.size w w1:=((waC _ w).alloc (waJ _) _).trans (hb1.mono (by simp))
 clear hb1 HD;go_wp2_with fail;refine(HO.out _).mono ?_;rintro e w2 ⟨rfl,hb2⟩;replace HT:=waV (zaK HT.out hz1 hb2);have hbw2:=zaf hbw hb2 hbw.size;have hz2:w.heap.size<w2.heap.size:=waD hz1 hb2.size;clear hb2 hbw HO;go_wp2_with fail;refine(HS.out _).mono ?_;rintro e w3 ⟨rfl,hb3⟩;replace HT:=waV (zaK HT.out hz2 hb3);have hbw3:=zaf hbw2 hb3 hbw2.size;clear hb3 hbw2 HS
 go_wp2_with (refine zd4 (w:=w) rfl 81 _ _ rfl #[.int .i64 (g 0),.int .i64 (g 1),.int .i64 (g 2),.int .i64 (g 3),.int .i64 (g 4),.int .i64 (g 5),.int .i64 (g 6),.int .i64 (g 7),.int .i64 (g 8),.int .i64 (g 9)] rfl rfl underlying81 rfl kQ kQ hbw3 HT.out ?_;intro W' hLd hbE)
 (try simp only[Exit.inBlock,Exit.then])
 refine waY (v:=.tuple #[.agg #[.int .i64 (g 0),.int .i64 (g 1),.int .i64 (g 2),.int .i64 (g 3),.int .i64 (g 4),.int .i64 (g 5),.int .i64 (g 6),.int .i64 (g 7),.int .i64 (g 8),.int .i64 (g 9)],.bool true]) ?_ rfl ⟨rfl,hbE⟩;rw[zaD rfl];show((loadVar 81 ⟨w.heap.size,0,none⟩).run prog W').andThen (fun v w₂=>Result.ok (Value.tuple #[v,Value.bool true]) w₂)=_
 rw[hLd.out];rfl
end Go.Proofs.YtllcdbgjeidlkaaGreatDoor
