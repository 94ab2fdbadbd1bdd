/- A part of the proof: WStr WClC WDayL RDays -/
import Derived.Test.YtgedndlifiihkaaGreatDoorT00
import Derived.Deep.MidRow
import Derived.BigRegion
import Derived.Test.YtgedndlifiihkaaGreatDoorT01
import Derived.Test.YtgedndlifiihkaaGreatDoorT03
import Derived.Test.YtgedndlifiihkaaGreatDoorT04
set_option maxHeartbeats 80000000
set_option maxRecDepth 100000
set_option linter.unusedSimpArgs false
set_option linter.unusedVariables false
namespace Go.Proofs.YtgedndlifiihkaaGreatDoor
open Go.Proofs.Tryz
open Go.RowKit
theorem zay {fn:Func} {p t:Tmp} {ty:TypeId} (h:fn.results=#[.cell p ty,.tmp t]) (tmps:Array Value) (P:Program) (w:World):
 (results fn tmps).run P w=((asAddr (tmps.getD p undef)).run P w).andThen fun a w₁=>((loadVar ty a).run P w₁).andThen fun v w₂=>.ok (.tuple #[v,tmps.getD t undef]) w₂:=by
 simp only[results,h];simp[Sem.run_bind,Result.andThen]
theorem zbi {B b:Nat} (hB:B≤b) {w0:World}:∀(vs:List Value) (o:Nat) (w:World),Below B w0 w→Below B w0 (w.setCells b o vs)
 |[],_,_,h=>h
 |v::vs,o,w,h=>zbi hB vs (o+1) (w.setCell ⟨b,o,none⟩ v) (h.setCell hB _)
theorem zb8 (w:World) (C:Array Value) (t:TypeId):(w.alloc (.cells C t)).there w.heap.size 0 C.size:=fun j hj=>by
 rw[waH];refine⟨?_,by go_simp⟩
 rw[zaa rfl (wbI hj)];rfl
theorem zgZ (b:Nat):∀(vs:List Value) (o:Nat) (w:World),(w.setCells b o vs).heap.size=w.heap.size
 |[],_,_=>rfl
 |v::vs,o,w=>by rw[World.setCells,zgZ b vs (o+1) _];simp
theorem zhW {w:World} {b':Nat} {n:Nat} (h:w.there b' 0 n) (b:Nat) (vs:List Value) (hl:∀j,j<vs.length→(w.cell? ⟨b,0+j,none⟩).isSome=true):(w.setCells b 0 vs).there b' 0 n:=fun j hj=>by
 obtain⟨h1,h2⟩:=h j hj;refine⟨?_,by rw[World.frozen?_setCells];exact h2⟩
 by_cases hb:b'=b
 ·subst hb
  by_cases hj2:j<vs.length
  ·rw[World.cell?_setCells_in b' vs 0 w hl j hj2];rfl
  ·rw[World.cell?_setCells_out b' vs 0 w _ (fun _ _=>.inr (by show 0+vs.length≤0+j;omega))];exact h1
 ·rw[World.cell?_setCells_out b vs 0 w _ (fun h _=>absurd h hb)];exact h1
theorem zai {ops:Array Oper} {rest:List Oper} {op:Oper} {a:Act} {Q:Exit→Act→World→Prop} {W:World} (hw:Region.wanted op (yielded ops a.tmps)=true) (t:TypeId) (x:Operand) (ho:op.op=.load t x) (cs:Array Value) {d:TypeDesc} (b:Nat) (off:Nat)
 (hx:a.eval x=.pointer (some ⟨b,off,none⟩)) (hu:prog.underlying t=some d) (hd:d.isRow=true) (hi:(prog.info? t).map (·.size)=some cs.size) (hA:∀j v,cs[j]?=some v→W.cell? ⟨b,off+j,none⟩=some v)
 (h:wpList prog ops Q rest (a.put op.dst (.agg cs)) W):wpList prog ops Q (op::rest) a W:=
 BigFrame.wpList_want hw fun _ hK=>wp_load_mid (P:=prog) t x ho b off hx cs.toList d (fun j v hj=>hA j v (by simpa using hj)) hu hd (by simpa using hi) (hK _ _ (by simpa using h))
theorem zcH {W:World} {b:Nat} {cs:Array Value} (h:∀j v,cs[j]?=some v→W.cell? ⟨b,j,none⟩=some v):∀j v,cs[j]?=some v→W.cell? ⟨b,0+j,none⟩=some v:=fun j v hj=>by rw[waH];exact h j v hj
theorem zaQ {ops:Array Oper} {rest:List Oper} {op:Oper} {a:Act} {Q:Exit→Act→World→Prop} {V:World} {tz:TypeId} (hw:Region.wanted op (yielded ops a.tmps)=true) (t:TypeId) (x y:Operand) (ho:op.op=.store t x y) (cs Z:Array Value)
 (hx:a.eval x=.pointer (some ⟨V.heap.size,0,none⟩)) (hy:a.eval y=.agg cs) (hi:(prog.info? t).map (·.size)=some cs.size) (h1:cs.all (·.oneCell')=true) (hZ:Z.size=cs.size)
 (h:∀W',Below V.heap.size V W'→Arr W' V.heap.size cs.size (fun j=>cs.getD j undef)→W'.heap.size=V.heap.size+1→wpList prog ops Q rest (a.put op.dst undef) W'):wpList prog ops Q (op::rest) a (V.alloc (.cells Z tz)):=by
 have ht:(V.alloc (.cells Z tz)).there V.heap.size 0 cs.size:=by rw[←hZ];exact zb8 V Z tz
 refine BigFrame.wpList_want hw fun K hK=>wp_store_mid (P:=prog) t x y ho V.heap.size 0 cs hx hy ht hi h1 (hK _ _ (h _ ?_ ⟨fun j hj=>?_,fun j=>?_⟩ ?_))
 ·exact zbi (waJ _) _ _ _ ((waC _ _).alloc (waJ _) _)
 ·have h2:=World.rangeAt_setCells_same (V.alloc (.cells Z tz)) V.heap.size 0 cs.toList (by simpa using ht) j cs[j] (by simp[hj])
  rw[waH] at h2;rw[h2];show _=some (cs.getD j undef);rw[wbL,wbI hj];rfl
 ·rw[World.frozen?_setCells]
  go_simp
 ·rw[zgZ];simp
def updG (g:Nat→Value) (i:Nat) (v:Value) (j:Nat):Value:=if j=i then v else g j
theorem Arr.updG {w:World} {b m:Nat} {g:Nat→Value} (h:Arr w b m g) (i:Nat) (hi:i<m) (v:Value):Arr (w.setCell ⟨b,i,none⟩ v) b m (updG g i v):=
 h.set i hi v (if_pos rfl) (fun j _ hn=>if_neg hn)
theorem zi0 {w:World} {b:Nat} {cs:Array Value} (h:Arr w b cs.size (fun j=>cs.getD j undef)):∀j v,cs[j]?=some v→w.cell? ⟨b,j,none⟩=some v:=fun j v hj=>by
 have hl:=(waL.1 hj).1;rw[h.1 j hl];show some (cs.getD j undef)=_;rw[wbL,hj];rfl
theorem zcT {o:Oper} {a:Act} {C:World→Prop} {K:Act→Prop} (t:TypeId) (x:Operand) (ho:o.op=.load t x) (cs:Array Value) {d:TypeDesc} (b off:Nat)
 (hx:a.eval x=.pointer (some ⟨b,off,none⟩)) (hu:prog.underlying t=some d) (hd:d.isRow=true) (hi:(prog.info? t).map (·.size)=some cs.size) (hA:∀W,C W→∀j v,cs[j]?=some v→W.cell? ⟨b,off+j,none⟩=some v)
 (h:K (a.put o.dst (.agg cs))):o.quiet prog a C K:=by
 refine⟨.agg cs,fun W hW=>?_,h⟩
 unfold Oper.quietAt execOp;simp only[ho,hx,Instr.loadAt,Instr.sureAddr,Sem.run_bind,Sem.run_pure,Result.andThen_ok,run_loadVar_mid W b off t cs.toList d (fun j v hj=>hA W hW j v (by simpa using hj)) hu hd (by simpa using hi)]
 exact⟨rfl,by simp⟩
theorem zj2 {ops:Array Oper} {rest:List Oper} {op:Oper} {a:Act} {Q:Exit→Act→World→Prop} {W:World} (hgd:op.guard=none) (t:TypeId) (x y:Operand) (ho:op.op=.store t x y) (cs:Array Value) (b off:Nat)
 (hx:a.eval x=.pointer (some ⟨b,off,none⟩)) (hy:a.eval y=.agg cs) (hi:(prog.info? t).map (·.size)=some cs.size) (h1:cs.all (·.oneCell')=true) (ht:W.there b off cs.size)
 (h:wpList prog ops Q rest (a.put op.dst undef) (W.setCells b off cs.toList)):wpList prog ops Q (op::rest) a W:=
 wpList_store_mid (P:=prog) hgd t x y ho b off cs hx hy ht hi h1 h
structure KpI (p q:Nat) (W W':World):Prop where
 size:W.heap.size≤W'.heap.size
 block:∀k,p≤k→k<q→W'.heap[k]?=W.heap[k]?
theorem KpI.trans {p q:Nat} {X Y Z:World} (h:KpI p q X Y) (k:KpI p q Y Z):KpI p q X Z:=⟨waW h.size k.size,fun i h1 h2=>(k.block i h1 h2).trans (h.block i h1 h2)⟩
theorem KpI.sub {p q p' q':Nat} {W W':World} (h:KpI p q W W') (h1:p≤p') (h2:q'≤q):KpI p' q' W W':=⟨h.size,fun k hp hq=>h.block k oQ oQ⟩
theorem KpI.of_below {p q:Nat} {W W':World} (h:Below W.heap.size W W') (hq:q≤W.heap.size):KpI p q W W':=⟨h.size,fun k _ h2=>h.block k oQ⟩
theorem KpI.cell {p q:Nat} {W W':World} (h:KpI p q W W') {b o:Nat} (h1:p≤b) (h2:b<q) {v:Value} (hc:W.cell? ⟨b,o,none⟩=some v):W'.cell? ⟨b,o,none⟩=some v:=
 (wbK (h.block b h1 h2)).trans hc
theorem KpI.arr {p q:Nat} {W W':World} (h:KpI p q W W') {b m:Nat} {g:Nat→Value} (h1:p≤b) (h2:b<q) (hA:Arr W b m g):Arr W' b m g:=
 ⟨fun j hj=>h.cell h1 h2 (hA.1 j hj),fun j=>by
  have e:=h.block b h1 h2;have:=hA.2 j;unfold World.frozen? at this ⊢;rw[e];exact this⟩
def zbP (m n:Int):Bool:=decide (0≤n∧n<64∧m / 2^n.toNat%2=1)
theorem zrJ {M:Int} (h0:0≤M) (h1:M<18446744073709551616):bits .and .u64 M 1=M%2:=by
 rw[u64_and M 1 h0 h1 (by decide) (by decide)]
 have:M.toNat&&&(1:Int).toNat=M.toNat%2:=Nat.and_one_is_mod _;rw[this];omega
theorem zbx (m n:Int) (h0:0≤m) (h1:m<18446744073709551616) (w:World):Calls prog 34 #[.int .u64 m,.int .i64 n] w (zbO (.bool (zbP m n)) w):=by
 by_cases hn:0≤n
 ·by_cases hn1:n<64
  ·obtain⟨k,rfl⟩:=wbD hn;have hp:(0:Int)<2^k:=by
    have e:(2:Int)^k=((2^k:Nat):Int):=by simp
    have:=Nat.two_pow_pos k;omega
   have hq0:0≤m / 2^k:=Int.ediv_nonneg h0 oQ;have hq1:m / 2^k<18446744073709551616:=Int.lt_of_le_of_lt (Int.ediv_le_self _ h0) h1;have he:=zrJ hq0 hq1;have HQ:Hid (zbP m (k:Int)=(m / 2^k%2==1)):=by
    show _=_;unfold zbP;rw[waQ,waM,beq_iff_eq];exact⟨fun h=>h.2.2,fun h=>⟨by omega,hn1,h⟩⟩
   clear hp;go_enter func34,ntmps34;go_wp2;go_ret;exact⟨zaf HQ.out.symm,rfl⟩
  ·have HQ:Hid (zbP m n=false):=waO (fun h=>hn1 h.2.1)
   go_enter func34,ntmps34;go_wp2;go_ret;exact⟨zaf HQ.out.symm,rfl⟩
 ·have HQ:Hid (zbP m n=false):=waO (fun h=>hn h.1)
  go_enter func34,ntmps34;go_wp2;go_ret;exact⟨zaf HQ.out.symm,rfl⟩
def zhO (a:Int) (k:Nat):List Int:=(List.range k).map fun(j:Nat)=>a+(j:Int)
theorem zpt (a:Int) (k:Nat):zhO a (k+1)=zhO a k++[a+(k:Int)]:=by
 unfold zhO;rw[List.range_succ,List.map_append];rfl
theorem zcE {a x:Int} {k:Nat}:x∈zhO a k↔a≤x∧x<a+(k:Int):=by
 unfold zhO;rw[List.mem_map];constructor
 ·rintro ⟨j,hj,rfl⟩;have:=wbG.1 hj;omega
 ·intro h;exact⟨(x - a).toNat,wbG.2 oQ,by omega⟩
def zaC (a b:Int):Int:=zal (zhO a (b+1 - a).toNat)
theorem zbC (a b:Int) (h0:0≤a) (h1:a≤64) (hb:b≤1000000) (hb0:-1000000≤b) (w:World):Calls prog 112 #[.int .i64 a,.int .i64 b,.int .i64 1] w (zbO (.int .u64 (zaC a b)) w):=by
 have ha:¬a<0:=by omega
 go_enter func112,ntmps112;go_wp2
 go_loopw [7,8] (fun m i wr=>∃k:Nat,i=.int .i64 (a+(k:Int))∧Hid (m=.int .u64 (zal (zhO a k)))∧(k=0∨a+(k:Int)≤64∧a+(k:Int)≤b+1)∧wr=w) (fun _ i _=>(64 - intOf i).toNat)
 case atStart=>exact⟨0,by simp,by show _=_;rw[show zhO a 0=[] from rfl,zd7],.inl rfl,rfl⟩
 case round=>
  obtain⟨k,rfl,HM,hk,rfl⟩:=hrel;obtain rfl:=HM.out;clear HM;have hn0:0≤a+(k:Int):=by omega
  have hn1:a+(k:Int)≤64:=by omega
  by_cases h64:a+(k:Int)<64
  ·by_cases hle:a+(k:Int)≤b
   ·have HP:Hid (bits .or .u64 (zal (zhO a k)) (IntKind.u64.wrap (2^(a+(k:Int)).toNat))=zal (zhO a (k+1))):=by
     show _=_;rw[zpt];exact zh6 hn0 h64
    generalize hn:a+(k:Int)=n at *;have HN:Hid (n=a+(k:Int)):=hn.symm;clear hn hk;go_wp2;go_roundw
    case rel=>exact⟨k+1,by rw[HN.out];push_cast;go_num,by show _=_;rw[HP.out],.inr (by have:=HN.out;push_cast;omega),by trivial⟩
    case measure=>simp [intOf];omega
   ·have HE:Hid (zaC a b=zal (zhO a k)):=zgO fun i hi=>by rw[zcE,zcE];omega
    generalize zal (zhO a k)=M at *;generalize a+(k:Int)=n at *;clear hk;go_wp2;go_ret;exact⟨by rw[HE.out];rfl,rfl⟩
  ·have HE:Hid (zaC a b=zal (zhO a k)):=zgO fun i hi=>by rw[zcE,zcE];omega
   generalize zal (zhO a k)=M at *;generalize a+(k:Int)=n at *;clear hk;go_wp2;go_ret;exact⟨by rw[HE.out];rfl,rfl⟩
def wdD (n:Int):Int:=(n%7+3)%7+1
def wkD (n:Int):Int:=n / 7+if 4≤n%7 then 1 else 0
def zoD (at' len:Int):Int:=if at'<1∨len<at' then 0 else(at' - 1) / 7+1
def zoE (at' len:Int):Int:=if at'<1∨len<at' then 0 else(len - at') / 7+1
theorem zrK (n:Int) (h:0≤n) (h1:n≤1000000) (w:World):Calls prog 188 #[.int .i64 n] w (zbO (.int .i64 (wdD n)) w):=by
 have H1:=waV (fun W=>ziU n 7 h oQ dQ dQ W)
 have H2:=waV (fun W=>ziU (n%7+3) 7 oQ oQ dQ dQ W)
 have HR:Hid (wdD n=(n%7+3)%7+1):=rfl;have hb:0≤n%7∧n%7<7:=by omega
 have hc:0≤(n%7+3)%7∧(n%7+3)%7<7:=by omega
 rw[HR.out];clear HR;generalize (n%7+3)%7=q at *;generalize n%7=r at *;obtain⟨b0,b1⟩:=hb;obtain⟨c0,c1⟩:=hc;go_enter func188,ntmps188;go_wp2_with fail;refine(H1.out _).mono ?_;rintro e w1 ⟨rfl,rfl⟩;go_wp2_with fail;refine(H2.out _).mono ?_;rintro e w1 ⟨rfl,rfl⟩;go_wp2;go_ret;exact⟨rfl,rfl⟩
theorem zli (n:Int) (h:0≤n) (h1:n≤1000000) (w:World):Calls prog 266 #[.int .i64 n] w (zbO (.int .i64 (wkD n)) w):=by
 have H1:=waV (fun W=>zgV n 7 h oQ dQ dQ W)
 have H2:=waV (fun W=>ziU n 7 h oQ dQ dQ W)
 have hq:0≤n / 7∧n / 7≤1000000:=by omega
 by_cases h4:4≤n%7
 ·have HR:Hid (wkD n=n / 7+1):=by show _=_;unfold wkD;rw[if_pos h4]
  rw[HR.out];clear HR;generalize n / 7=q at *;generalize n%7=r at *;obtain⟨b0,b1⟩:=hq;go_enter func266,ntmps266;go_wp2_with fail;refine(H1.out _).mono ?_;rintro e w1 ⟨rfl,rfl⟩;go_wp2_with fail;refine(H2.out _).mono ?_;rintro e w1 ⟨rfl,rfl⟩;go_wp2;go_ret;exact⟨rfl,rfl⟩
 ·have HR:Hid (wkD n=n / 7):=by show _=_;unfold wkD;rw[if_neg h4];omega
  rw[HR.out];clear HR;generalize n / 7=q at *;generalize n%7=r at *;obtain⟨b0,b1⟩:=hq;go_enter func266,ntmps266;go_wp2_with fail;refine(H1.out _).mono ?_;rintro e w1 ⟨rfl,rfl⟩;go_wp2_with fail;refine(H2.out _).mono ?_;rintro e w1 ⟨rfl,rfl⟩;go_wp2;go_ret;exact⟨rfl,rfl⟩
theorem zia (a l:Int) (ha:-1000000≤a) (ha1:a≤1000000) (hl:-1000000≤l) (hl1:l≤1000000) (w:World):Calls prog 189 #[.int .i64 a,.int .i64 l] w (zbO (.tuple #[.int .i64 (zoD a l),.int .i64 (zoE a l)]) w):=by
 by_cases h1:a<1
 ·have HR:Hid (zoD a l=0∧zoE a l=0):=⟨if_pos (.inl h1),if_pos (.inl h1)⟩;go_enter func189,ntmps189;go_wp2
  (try simp only[Exit.inBlock,Exit.then])
  refine waY (wbM rfl _ _ _) rfl ?_;exact⟨by rw[HR.out.1,HR.out.2];rfl,rfl⟩
 ·by_cases h2:l<a
  ·have HR:Hid (zoD a l=0∧zoE a l=0):=⟨if_pos (.inr h2),if_pos (.inr h2)⟩;go_enter func189,ntmps189;go_wp2
   (try simp only[Exit.inBlock,Exit.then])
   refine waY (wbM rfl _ _ _) rfl ?_;exact⟨by rw[HR.out.1,HR.out.2];rfl,rfl⟩
  ·have HR:Hid (zoD a l=(a - 1) / 7+1∧zoE a l=(l - a) / 7+1):=⟨if_neg oQ,if_neg oQ⟩;have hx:0≤a - 1:=by omega
   have hy:0≤l - a:=by omega
   have E1:Int.tdiv (a - 1) 7=(a - 1) / 7:=Int.tdiv_eq_ediv_of_nonneg hx;have E2:Int.tdiv (l - a) 7=(l - a) / 7:=Int.tdiv_eq_ediv_of_nonneg hy;have hb1:0≤(a - 1) / 7∧(a - 1) / 7≤1000000:=by omega
   have hb2:0≤(l - a) / 7∧(l - a) / 7≤1000000:=by omega
   obtain⟨b0,b1⟩:=hb1;obtain⟨c0,c1⟩:=hb2;go_enter func189,ntmps189;go_wp2
   (try simp only[Exit.inBlock,Exit.then])
   refine waY (wbM rfl _ _ _) rfl ?_;exact⟨by rw[HR.out.1,HR.out.2];rfl,rfl⟩
def zaE (f u:Int):Int:=if(if 12622780799<u then 12622780799 else u)<(if f<0 then 0 else f) then 0 else(if f<0 then 0 else f)
def zas (f u:Int):Int:=if(if 12622780799<u then 12622780799 else u)<(if f<0 then 0 else f) then -1 else(if 12622780799<u then 12622780799 else u)
theorem zuc {f u t:Int}:(zaE f u≤t∧t≤zas f u)↔(f≤t∧t≤u∧0≤t∧t≤12622780799):=by
 unfold zaE zas
 (repeat' split)<;>omega
theorem zeb (f u:Int) (w:World):Calls prog 202 #[.agg #[.int .i64 f,.int .i64 u]] w (Ret (.agg #[.int .i64 (zaE f u),.int .i64 (zas f u)]) w):=by
 go_enter func202,ntmps202;go_wp2
 all_goals (
  (try simp only[Exit.inBlock,Exit.then])
  refine waY (v:=.agg #[.int .i64 (zaE f u),.int .i64 (zas f u)]) ?_ rfl ⟨rfl,by exact zaI⟩
  rw[zah rfl];unfold zaE zas
  go_simp
  all_goals (try((repeat' split)<;>omega)))
theorem zib (w:World):Calls prog 113 #[] w (Ret (.agg #[.int .i64 0,.int .i64 12622780799]) w):=by
 go_enter func113,ntmps113;go_wp2
 (try simp only[Exit.inBlock,Exit.then])
 refine waY (v:=.agg #[.int .i64 0,.int .i64 12622780799]) ?_ rfl ⟨rfl,by exact zaI⟩
 rw[zah rfl]
 go_simp
theorem zaL {w w':World} {b o n:Nat} (h:w.there b o n) (hb:b<w.heap.size) (hw:Below w.heap.size w w'):w'.there b o n:=fun j hj=>by
 obtain⟨hc,hf⟩:=zad hw;rw[hc _ _ hb,hf _ _ hb];exact h j hj
theorem zc8 {ops:Array Oper} {rest:List Oper} {op:Oper} {a:Act} {Q:Exit→Act→World→Prop} {w W:World} (hgd:op.guard=none) (t:TypeId) (x y:Operand) (ho:op.op=.store t x y) (cs:Array Value) {d:TypeDesc}
 (hx:a.eval x=.pointer (some ⟨w.heap.size,0,none⟩)) (hy:a.eval y=.agg cs) (hu:prog.underlying t=some d) (hd:d.isRow=true) (hi:(prog.info? t).map (·.size)=some cs.size) (h1:cs.all (·.oneCell')=true)
 (hb:Below w.heap.size w W) (ht:W.there w.heap.size 0 cs.size)
 (h:∀W',Hid ((loadVar t ⟨w.heap.size,0,none⟩).run prog W'=.ok (.agg cs) W')→Below w.heap.size w W'→wpList prog ops Q rest (a.put op.dst undef) W'):wpList prog ops Q (op::rest) a W:=by
 refine wpList_store_mid (P:=prog) hgd t x y ho w.heap.size 0 cs hx hy ht hi h1 (h _ ?_ (zbi (waJ _) _ _ _ hb));have:=run_loadVar_mid (P:=prog) (W.setCells w.heap.size 0 cs.toList) w.heap.size 0 t cs.toList d (World.rangeAt_setCells_same _ _ _ _ (by simpa using ht)) hu hd (by simpa using hi)
 show _=_;simpa using this
def zcM (s h m c:Int):Bool:=zbP h (s / 3600)&&(zbP m (s / 60%60)&&zbP c (s%60))
def M64 (m:Int):Prop:=0≤m∧m<18446744073709551616
theorem zg0 (y m d:Int) (hy0:0≤y) (hy1:y≤10000) (hm1:1≤m) (hm2:m≤12) (hd1:1≤d) (hd2:d≤zbw y m) (w:World):Calls prog 130 #[.int .i64 y,.int .i64 m,.int .i64 d] w (Ret (.tuple #[.int .i64 (zcG y m+d),.bool true]) w):=by
 have HM:=waV (fun W=>zjV y m d hy0 oQ W)
 have hmay:zrx y m d=true:=waP ⟨by omega,by omega,hd1,hd2⟩
 rw[hmay] at HM;have HL:=waV (fun(j:Int) W=>zdo y j hy0 oQ W)
 have hC:∀j:Int,1≤j→j≤12→zcG y (j+1)=zcG y j+zbw y j:=fun j h1 h2=>zd8 h1 h2
 have HC:=waV hC;have HP:Hid (∀j:Int,1≤j→j≤12→28≤zbw y j∧zbw y j≤31):=fun j h1 h2=>zcD h1 h2
 have HB:Hid (∀j:Int,1≤j→j≤13→0≤zcG y j∧zcG y j≤366):=fun j h1 h2=>by
  have e1:=zbR (y:=y) (a:=1) (b:=j) oQ h1 h2;have e2:=zbR (y:=y) (a:=j) (b:=13) h1 h2 oQ;rw[zdJ] at e1;rw[zfn] at e2;have:=zmi y;omega
 have hd31:d≤31:=by have:=(zcD (y:=y) hm1 hm2).2;omega
 have hO:zcG y 1=0:=zdJ y;have HO:=waV hO;clear hmay hC hO hd2;go_enter func130,ntmps130;go_wp2_with fail;go_step3;go_wp2_with fail;refine(HM.out _).mono ?_;rintro e w1 ⟨rfl,hb1⟩;go_wp2;go_step3;go_wp2
 go_loopw [8,9] (fun v i wr=>∃j x:Int,1≤j∧j≤m∧i=.int .i64 j∧v=.int .i64 (d+x)∧Hid (x=zcG y j)∧Below w.heap.size w wr) (fun _ i _=>(m - intOf i).toNat)
 case atStart=>exact⟨1,0,by omega,hm1,rfl,by simp,HO.out.symm,hb1⟩
 case round=>
  obtain⟨j,x,hj1,hj2,rfl,rfl,HX,hb⟩:=hrel;have hx:=HB.out j hj1 oQ;rw[←HX.out] at hx;obtain⟨hx0,hx1⟩:=hx;have hsz:=hb.size
  by_cases hjm:j=m
  ·have hje:(j==m)=true:=by simpa using hjm
   have HXE:Hid (x=zcG y m):=by show _=_;rw[HX.out,hjm]
   clear hjm HX;go_wp2;rw[Exit.noGoto_ret];refine waY (wbM rfl _ _ _) rfl ?_;exact⟨by rw[←HXE.out,Int.add_comm x d];rfl,hb⟩
  ·have hje:(j==m)=false:=by simpa using hjm
   have hlt:j<m:=by omega
   have hp:=HP.out j hj1 oQ;have HXN:Hid (x+zbw y j=zcG y (j+1)):=by show _=_;rw[HX.out];exact(HC.out j hj1 (by omega)).symm
   have HLj:=waV (fun W=>HL.out j W)
   clear hjm HX;generalize zbw y j=L at *;obtain⟨p0,p1⟩:=hp;go_wp2_with fail;refine(HLj.out _).mono ?_;rintro e w2 ⟨rfl,hb2⟩;go_wp2;go_roundw
   case rel=>exact⟨j+1,x+L,by omega,by omega,by go_num,by go_num,HXN.out,zak hb hb2 hsz⟩
   case measure=>simp [intOf];omega
def shN (n y m d:Int) (j:Nat):Int:=
 if j=0 then n else if j=1 then y else if j=2 then m else if j=3 then d else if j=4 then zbw y m - d+1 else if j=5 then wdD n else
 if j=6 then zoD d (zbw y m) else if j=7 then zoE d (zbw y m) else if j=8 then zoD (zcG y m+d) (365+lpC y) else zoE (zcG y m+d) (365+lpC y)
def shV (n:Int):Value:=.agg #[.int .i64 (shN n (yD n) (mD n) (dD n) 0),.int .i64 (shN n (yD n) (mD n) (dD n) 1),.int .i64 (shN n (yD n) (mD n) (dD n) 2),.int .i64 (shN n (yD n) (mD n) (dD n) 3),.int .i64 (shN n (yD n) (mD n) (dD n) 4),
 .int .i64 (shN n (yD n) (mD n) (dD n) 5),.int .i64 (shN n (yD n) (mD n) (dD n) 6),.int .i64 (shN n (yD n) (mD n) (dD n) 7),.int .i64 (shN n (yD n) (mD n) (dD n) 8),.int .i64 (shN n (yD n) (mD n) (dD n) 9)]
theorem za2 {n:Int} (h:0≤n) (h1:n<146097):0≤yD n∧yD n≤3000∧1≤mD n∧mD n≤12∧1≤dD n∧dD n≤zbw (yD n) (mD n)∧28≤zbw (yD n) (mD n)∧zbw (yD n) (mD n)≤31∧0≤zcG (yD n) (mD n)∧zcG (yD n) (mD n)≤366:=by
 have h2:=ziT h h1;have h3:=zc7 h h1;have h4:=zcD (y:=yD n) h3.2.1 h3.2.2.1;have e1:=zbR (y:=yD n) (a:=1) (b:=mD n) oQ h3.2.1 oQ;have e2:=zbR (y:=yD n) (a:=mD n) (b:=13) h3.2.1 oQ oQ;rw[zdJ] at e1;rw[zfn] at e2;have:=zmi (yD n);omega
theorem zic (n:Int) (h:0≤n) (h1:n<146097) (w:World):Calls prog 131 #[.int .i64 n,.int .i64 (yD n),.int .i64 (mD n),.int .i64 (dD n),.int .i64 (zcG (yD n) (mD n)+dD n)] w (Ret (shV n) w):=by
 obtain⟨y0,y1,m0,m1,d0,d1,l0,l1,c0,c1⟩:=za2 h h1;have hp:=zmi (yD n);have HL:=waV (fun W=>zdo (yD n) (mD n) y0 oQ W)
 have HLp:=waV (fun W=>zmj (yD n) y0 oQ W)
 have HD:=waV (fun W=>zrK n h oQ W)
 have HW1:=waV (fun W=>zia (dD n) (zbw (yD n) (mD n)) oQ oQ oQ oQ W)
 have HW2:=waV (fun W=>zia (zcG (yD n) (mD n)+dD n) (365+lpC (yD n)) oQ oQ oQ oQ W)
 have HS:Hid (shV n=.agg #[.int .i64 n,.int .i64 (yD n),.int .i64 (mD n),.int .i64 (dD n),.int .i64 (zbw (yD n) (mD n) - dD n+1),.int .i64 (wdD n),.int .i64 (zoD (dD n) (zbw (yD n) (mD n))),.int .i64 (zoE (dD n) (zbw (yD n) (mD n))),.int .i64 (zoD (zcG (yD n) (mD n)+dD n) (365+lpC (yD n))),.int .i64 (zoE (zcG (yD n) (mD n)+dD n) (365+lpC (yD n)))]):=rfl;rw[HS.out];clear HS;have hl:Hid (lpC (yD n)=if zeZ (yD n)=true then 1 else 0):=rfl
 cases hq:zeZ (yD n) with
 |true=>
  have hl1:Hid (lpC (yD n)=1):=by show _=_;rw[hl.out,if_pos hq]
  rw[hl1.out] at HW2 ⊢;rw[show (365:Int)+1=366 from rfl] at HW2 ⊢
  rw[hq] at HLp;clear hl hl1 hq hp;generalize zoD (dD n) (zbw (yD n) (mD n))=a1 at *;generalize zoE (dD n) (zbw (yD n) (mD n))=a2 at *;generalize zoD (zcG (yD n) (mD n)+dD n) _=a3 at *;generalize zoE (zcG (yD n) (mD n)+dD n) _=a4 at *;generalize hO:zcG (yD n) (mD n)+dD n=o at *;clear hO;generalize zbw (yD n) (mD n)=L at *;generalize zcG (yD n) (mD n)=C at *;generalize wdD n=wd at *;generalize yD n=y at *;generalize mD n=m at *;generalize dD n=d at *;clear c0 c1;go_enter func131,ntmps131;go_wp2_with fail;refine(HL.out _).mono ?_;rintro e w1 ⟨rfl,hb1⟩;obtain⟨hc,hf⟩:=zad hb1;have hbw:Below w.heap.size w w1:=((waC _ w).alloc (waJ _) _).trans (hb1.mono (by simp))
  have HT:=waV (zaL (zb8 w _ 125) (by simp) hb1)
  have hz1:w.heap.size<w1.heap.size:=by have:=hb1.size;simp at this;omega
  clear hb1 hc hf HL;go_wp2_with fail;refine(HLp.out _).mono ?_;rintro e w2 ⟨rfl,rfl⟩;go_wp2_with fail;refine(HD.out _).mono ?_;rintro e w2 ⟨rfl,rfl⟩;go_wp2_with fail;refine(HW1.out _).mono ?_;rintro e w2 ⟨rfl,rfl⟩;go_wp2_with fail;refine(HW2.out _).mono ?_;rintro e w2 ⟨rfl,rfl⟩;have hbx:Below w.heap.size w (w1.alloc (.cells #[.int .i64 n,.int .i64 y,.int .i64 m,.int .i64 d,.int .i64 (L - d+1),.int .i64 wd,.int .i64 a1,.int .i64 a2,.int .i64 a3,.int .i64 a4] 125)):=hbw.alloc oQ _;have htx:(w1.alloc (.cells #[.int .i64 n,.int .i64 y,.int .i64 m,.int .i64 d,.int .i64 (L - d+1),.int .i64 wd,.int .i64 a1,.int .i64 a2,.int .i64 a3,.int .i64 a4] 125)).there w.heap.size 0 10:=zaL HT.out hz1 ((waC _ _).alloc (waJ _) _);replace htx:=waV htx;clear HT
  go_wp2_with (refine zc8 (w:=w) rfl 125 _ _ rfl #[.int .i64 n,.int .i64 y,.int .i64 m,.int .i64 d,.int .i64 (L - d+1),.int .i64 wd,.int .i64 a1,.int .i64 a2,.int .i64 a3,.int .i64 a4] rfl rfl underlying125 rfl kQ kQ hbx htx.out ?_;intro W' hLd hbE)
  (try simp only[Exit.inBlock,Exit.then])
  refine waY (v:=.agg #[.int .i64 n,.int .i64 y,.int .i64 m,.int .i64 d,.int .i64 (L - d+1),.int .i64 wd,.int .i64 a1,.int .i64 a2,.int .i64 a3,.int .i64 a4]) ?_ rfl ⟨rfl,hbE⟩;rw[zah rfl];exact hLd.out
 |false=>
  have hl1:Hid (lpC (yD n)=0):=by show _=_;rw[hl.out,hq];rfl
  rw[hl1.out] at HW2 ⊢;rw[show (365:Int)+0=365 from rfl] at HW2 ⊢
  rw[hq] at HLp;clear hl hl1 hq hp;generalize zoD (dD n) (zbw (yD n) (mD n))=a1 at *;generalize zoE (dD n) (zbw (yD n) (mD n))=a2 at *;generalize zoD (zcG (yD n) (mD n)+dD n) _=a3 at *;generalize zoE (zcG (yD n) (mD n)+dD n) _=a4 at *;generalize hO:zcG (yD n) (mD n)+dD n=o at *;clear hO;generalize zbw (yD n) (mD n)=L at *;generalize zcG (yD n) (mD n)=C at *;generalize wdD n=wd at *;generalize yD n=y at *;generalize mD n=m at *;generalize dD n=d at *;clear c0 c1;go_enter func131,ntmps131;go_wp2_with fail;refine(HL.out _).mono ?_;rintro e w1 ⟨rfl,hb1⟩;obtain⟨hc,hf⟩:=zad hb1;have hbw:Below w.heap.size w w1:=((waC _ w).alloc (waJ _) _).trans (hb1.mono (by simp))
  have HT:=waV (zaL (zb8 w _ 125) (by simp) hb1)
  have hz1:w.heap.size<w1.heap.size:=by have:=hb1.size;simp at this;omega
  clear hb1 hc hf HL;go_wp2_with fail;refine(HLp.out _).mono ?_;rintro e w2 ⟨rfl,rfl⟩;go_wp2_with fail;refine(HD.out _).mono ?_;rintro e w2 ⟨rfl,rfl⟩;go_wp2_with fail;refine(HW1.out _).mono ?_;rintro e w2 ⟨rfl,rfl⟩;go_wp2_with fail;refine(HW2.out _).mono ?_;rintro e w2 ⟨rfl,rfl⟩;have hbx:Below w.heap.size w (w1.alloc (.cells #[.int .i64 n,.int .i64 y,.int .i64 m,.int .i64 d,.int .i64 (L - d+1),.int .i64 wd,.int .i64 a1,.int .i64 a2,.int .i64 a3,.int .i64 a4] 125)):=hbw.alloc oQ _;have htx:(w1.alloc (.cells #[.int .i64 n,.int .i64 y,.int .i64 m,.int .i64 d,.int .i64 (L - d+1),.int .i64 wd,.int .i64 a1,.int .i64 a2,.int .i64 a3,.int .i64 a4] 125)).there w.heap.size 0 10:=zaL HT.out hz1 ((waC _ _).alloc (waJ _) _);replace htx:=waV htx;clear HT
  go_wp2_with (refine zc8 (w:=w) rfl 125 _ _ rfl #[.int .i64 n,.int .i64 y,.int .i64 m,.int .i64 d,.int .i64 (L - d+1),.int .i64 wd,.int .i64 a1,.int .i64 a2,.int .i64 a3,.int .i64 a4] rfl rfl underlying125 rfl kQ kQ hbx htx.out ?_;intro W' hLd hbE)
  (try simp only[Exit.inBlock,Exit.then])
  refine waY (v:=.agg #[.int .i64 n,.int .i64 y,.int .i64 m,.int .i64 d,.int .i64 (L - d+1),.int .i64 wd,.int .i64 a1,.int .i64 a2,.int .i64 a3,.int .i64 a4]) ?_ rfl ⟨rfl,hbE⟩;rw[zah rfl];exact hLd.out
theorem zj3 (n:Int) (h:0≤n) (h1:n<146097) (w:World):Calls prog 150 #[.int .i64 n] w (Ret (.tuple #[shV n,.bool true]) w):=by
 obtain⟨y0,y1,m0,m1,d0,d1,l0,l1,c0,c1⟩:=za2 h h1;have HD:=waV (fun W=>zmk n h h1 W)
 have HO:=waV (fun W=>zg0 (yD n) (mD n) (dD n) y0 oQ m0 m1 d0 d1 W)
 have HS:=waV (fun W=>zic n h h1 W)
 unfold shV at *;generalize shN n (yD n) (mD n) (dD n)=g at *;generalize zcG (yD n) (mD n)+dD n=o at *;generalize yD n=y at *;generalize mD n=m at *;generalize dD n=d at *;clear y0 y1 m0 m1 d0 d1 l0 l1 c0 c1;have hn0:¬n<0:=by omega
 have hn1:¬146097≤n:=by omega
 go_enter func150,ntmps150;go_wp2_with fail;refine(HD.out _).mono ?_;rintro e w1 ⟨rfl,hb1⟩;have HT:=waV (zaL (zb8 w _ 125) (by simp) hb1)
 have hz1:w.heap.size<w1.heap.size:=by have:=hb1.size;simp at this;omega
 have hbw:Below w.heap.size w w1:=((waC _ w).alloc (waJ _) _).trans (hb1.mono (by simp))
 clear hb1 HD;go_wp2_with fail;refine(HO.out _).mono ?_;rintro e w2 ⟨rfl,hb2⟩;replace HT:=waV (zaL HT.out hz1 hb2);have hbw2:=zak hbw hb2 hbw.size;have hz2:w.heap.size<w2.heap.size:=waD hz1 hb2.size;clear hb2 hbw HO;go_wp2_with fail;refine(HS.out _).mono ?_;rintro e w3 ⟨rfl,hb3⟩;replace HT:=waV (zaL HT.out hz2 hb3);have hbw3:=zak hbw2 hb3 hbw2.size;clear hb3 hbw2 HS
 go_wp2_with (refine zc8 (w:=w) rfl 125 _ _ rfl #[.int .i64 (g 0),.int .i64 (g 1),.int .i64 (g 2),.int .i64 (g 3),.int .i64 (g 4),.int .i64 (g 5),.int .i64 (g 6),.int .i64 (g 7),.int .i64 (g 8),.int .i64 (g 9)] rfl rfl underlying125 rfl kQ kQ hbw3 HT.out ?_;intro W' hLd hbE)
 (try simp only[Exit.inBlock,Exit.then])
 refine waY (v:=.tuple #[.agg #[.int .i64 (g 0),.int .i64 (g 1),.int .i64 (g 2),.int .i64 (g 3),.int .i64 (g 4),.int .i64 (g 5),.int .i64 (g 6),.int .i64 (g 7),.int .i64 (g 8),.int .i64 (g 9)],.bool true]) ?_ rfl ⟨rfl,hbE⟩;rw[zay rfl];show((loadVar 125 ⟨w.heap.size,0,none⟩).run prog W').andThen (fun v w₂=>Result.ok (Value.tuple #[v,Value.bool true]) w₂)=_
 rw[hLd.out];rfl
end Go.Proofs.YtgedndlifiihkaaGreatDoor
namespace Go.Proofs.YtgedndlifiihkaaGreatDoor
open Go.Proofs.Tryz
theorem zud {n y:Int} (h:0≤n) (h1:n<146097) (a:jan y≤n) (b:n<jan (y+1)):yD n=y:=by
 obtain⟨c,d,_⟩:=zgU h h1
 false_or_by_contra
 rcases Int.lt_or_gt_of_ne ‹_› with e|e
 ·have:=zgw (a:=yD n+1) (b:=y) oQ;omega
 ·have:=zgw (a:=y+1) (b:=yD n) oQ;omega
theorem zrL {n m:Int} (h:0≤n) (h1:n<146097) (m1:1≤m) (m2:m≤12) (a:jan (yD n)+zcG (yD n) m≤n) (b:n<jan (yD n)+zcG (yD n) (m+1)):mD n=m:=by
 obtain⟨_,_,c,d,_⟩:=zgU h h1;obtain⟨_,e1,e2,_⟩:=zc7 h h1
 false_or_by_contra
 rcases Int.lt_or_gt_of_ne ‹_› with e|e
 ·have:=zbR (y:=yD n) (a:=mD n+1) (b:=m) oQ oQ oQ;omega
 ·have:=zbR (y:=yD n) (a:=m+1) (b:=mD n) oQ oQ oQ;omega
theorem zlj {n y m d:Int} (h:0≤n) (h1:n<146097) (m1:1≤m) (m2:m≤12) (d1:1≤d) (d2:d≤zbw y m) (e:n=jan y+zcG y m+d - 1):yD n=y∧mD n=m∧dD n=d:=by
 have c1:=zbR (y:=y) (a:=1) (b:=m) oQ m1 oQ;have c2:=zbR (y:=y) (a:=m+1) (b:=13) oQ oQ oQ;have c3:=zd8 (y:=y) m1 m2;rw[zdJ] at c1;rw[zfn] at c2;have hy:=zud h h1 (y:=y) oQ (by have:=zfm y;omega)
 have hm:=zrL h h1 m1 m2 (by rw[hy];omega) (by rw[hy];omega)
 have hj:=(zc7 h h1).1;rw[hy,hm] at hj;exact⟨hy,hm,by omega⟩
theorem zg1 {n:Int} (h:0≤n) (h1:n+1<146097):
 (dD n+1≤zbw (yD n) (mD n)→yD (n+1)=yD n∧mD (n+1)=mD n∧dD (n+1)=dD n+1)∧
 (¬dD n+1≤zbw (yD n) (mD n)→mD n<12→yD (n+1)=yD n∧mD (n+1)=mD n+1∧dD (n+1)=1∧zcG (yD n) (mD n+1)=zcG (yD n) (mD n)+dD n)∧
 (¬dD n+1≤zbw (yD n) (mD n)→¬mD n<12→yD (n+1)=yD n+1∧mD (n+1)=1∧dD (n+1)=1):=by
 obtain⟨hj,m1,m2,d1,d2⟩:=zc7 h oQ;have c3:=zd8 (y:=yD n) m1 m2;refine⟨fun hl=>zlj oQ h1 m1 m2 oQ hl oQ,fun hl hm=>?_,fun hl hm=>?_⟩
 ·obtain⟨a,b,c⟩:=zlj (n:=n+1) (y:=yD n) (m:=mD n+1) (d:=1) oQ h1 oQ oQ oQ (by have:=zcD (y:=yD n) (m:=mD n+1) oQ oQ;omega) oQ
  exact⟨a,b,c,by omega⟩
 ·have e12:mD n=12:=by omega
  rw[e12] at c3 hj hl d2;have c13:=zfn (yD n);have js:=zfm (yD n);have c1:=zdJ (yD n+1);rw[show (12:Int)+1=13 from rfl] at c3
  exact zlj oQ h1 oQ oQ oQ (by have:=zcD (y:=yD n+1) (m:=1) oQ oQ;omega) oQ
def zcI (a b:Int):List Int:=zhO a (b+1 - a).toNat
theorem zaS {a b x:Int}:x∈zcI a b↔a≤x∧x≤b:=by unfold zcI;rw[zcE];omega
theorem zg2 (a b:Int):(zcI a b).length=(b+1 - a).toNat:=by simp[zcI,zhO]
end Go.Proofs.YtgedndlifiihkaaGreatDoor
