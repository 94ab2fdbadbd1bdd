/- A part of the proof: WHeld -/
import Derived.OrdersHeld
import Derived.Test.YtllcdbgjeidlkaaGreatDoorT14
import Derived.Test.YtllcdbgjeidlkaaGreatDoorT13
import Derived.Test.YtllcdbgjeidlkaaGreatDoorT09
import Derived.Test.YtllcdbgjeidlkaaGreatDoorT12
set_option maxHeartbeats 80000000
set_option maxRecDepth 100000
set_option linter.unusedSimpArgs false
set_option linter.unusedVariables false
namespace Go.Proofs.YtllcdbgjeidlkaaGreatDoor
open Go.Proofs.Tryz
section
variable {P : Program} {ops : Array Oper} {Q : Exit -> Act -> World -> Prop} {md : Region.Mode} {S : World -> Prop} {k : Nat}
def zcc (P:Program) (md:Region.Mode) (ops:Array Oper) (Q:Exit->Act->World->Prop) (S:World->Prop) (k:Nat):Nat->Array Bool->Act->World->Prop
 |0,listed,a,w=>Region.ready md ops listed=[]/\Q .normal a w
 |fuel+1,listed,a,w=>
  (Region.ready md ops listed=[]->Q .normal a w)/\
  ∀i∈Region.ready md ops listed,wpOp P ops Q i (fun a' w'=>(i≠k->listed.getD k true=false->S w')/\zcc P md ops Q S k fuel (listed.setIfInBounds i true) a' w') a w
theorem zfN:∀(fuel:Nat) (listed:Array Bool) (a:Act) (w:World),zcc P md ops Q S k fuel listed a w->wpAny P md ops Q fuel listed a w
 |0,_,_,_,h=>h
 |fuel+1,_,_,_,h=>⟨h.1,fun i hi=>wpOp_mono (fun a' w' h'=>zfN fuel _ a' w' h'.2) (h.2 i hi)⟩
def dcB (md:Region.Mode) (ops:Array Oper) (L:Array Bool):Bool:=
 (List.range ops.size).all fun i=>!L.getD i false||((ops[i]?).map fun o=>o.after.all fun e=>!Region.binds md e||L.getD e.on false).getD true
theorem zxo {L:Array Bool} (h:dcB md ops L=true):DcL md ops L:=fun i o ho hl e he hb=>by
 have h1:=List.all_eq_true.1 h i (wbG.2 (waL.1 ho).1);rw[hl,ho] at h1;have h2:(o.after.all fun e=>!Region.binds md e||L.getD e.on false)=true:=h1
 have h3:=Array.all_eq_true_iff_forall_mem.1 h2 e he;rw[hb] at h3;simpa using h3
theorem zsT {i:Nat} (h:(zkg md ops (k+1) [k]).contains i=true) (hs:k<ops.size) {L:Array Bool} (hL:L.size=ops.size) (hd:DcL md ops L) (hi:L.getD i true=false):L.getD k true=false:=by
 cases hk:L.getD k true with
 |false=>rfl
 |true=>
  have hk':L.getD k false=true:=by rw[zew (by omega) false true];exact hk
  have:=zeb hd (k+1) [k] (by intro x hx;rw[wbC.1 hx];exact hk') i (List.contains_iff_mem.1 h)
  rcases Nat.lt_or_ge i L.size with hlt|hge
  ·rw[zew hlt false true,hi] at this;cases this
  ·rw[wbL,Array.getElem?_eq_none hge] at this;cases this
theorem zxp {L:Array Bool} (hd:DcL md ops L) {i:Nat} (hi:i∈Region.ready md ops L):DcL md ops (L.setIfInBounds i true):=fun j oj hj hjl e he hb=>by
 obtain⟨h1,o,ho,h2⟩:=mem_ready.1 hi
 by_cases hji:i=j
 ·subst hji;rw[ho] at hj;cases hj;exact getD_set_true (h2 e he hb)
 ·rw[getD_set_ne false hji] at hjl;exact getD_set_true (hd j oj hj hjl e he hb)
theorem zkh {i:Nat} {oi:Oper} {v:Value} (hi:ops[i]?=some oi) (hsel:∀(j:Nat) (o:Oper) cs b,ops[j]?=some o->o.op≠.select cs b)
 (hQ:∀c a w,Q (.panic c) (a.put oi.dst v) w->Q (.panic c) a w) (hik:i≠k) (hks:k<ops.size) (hcl:(zkg md ops (k+1) [k]).contains i=true):
 ∀(fuel:Nat) (listed:Array Bool) (a:Act) (w:World),listed.size=ops.size->DcL md ops listed->
  (∀j oj,ops[j]?=some oj->j≠i->listed.getD j true=false->(∀e∈oj.after,Region.binds md e=true->e.on≠i)->oi.apart ops oj=true)->
  i∈Region.ready md ops listed->YieldsIf P ops S oi v a->S w->
  zcc P md ops Q S k fuel (listed.setIfInBounds i true) (a.put oi.dst v) w->zcc P md ops Q S k (fuel+1) listed a w:=by
 intro fuel;induction fuel with
 |zero=>
  intro listed a w _ _ _ hr hy hS H;refine⟨fun h=>(by rw[h] at hr;cases hr),fun j hj=>?_⟩
  by_cases hji:j=i
  ·subst hji;exact hy.wpOp hi hS ⟨fun _ _=>hS,H⟩
  ·have:=ready_mono hj hji;rw[H.1] at this;cases this
 |succ fuel ih=>
  intro listed a w hsz hdc hfree hr hy hS H;refine⟨fun h=>(by rw[h] at hr;cases hr),fun j hj=>?_⟩
  by_cases hji:j=i
  ·subst hji;exact hy.wpOp hi hS ⟨fun _ _=>hS,H⟩
  ·have h1:=H.2 j (ready_mono hj hji);obtain⟨hjun,oj,hoj,hall⟩:=mem_ready.1 hj;have hnot:∀e∈oj.after,Region.binds md e=true->e.on≠i:=fun e he hb heq=>by
    have h1:=hall e he hb;have h0:=(mem_ready.1 hr).1;rw[heq] at h1;rcases Nat.lt_or_ge i listed.size with h'|h'
    ·rw[zew h' false true,h0] at h1;cases h1
    ·rw[wbL,Array.getElem?_eq_none h'] at h1;cases h1
   have h2:=wpOp_putIf hoj (hfree j oj hoj hji hjun hnot) (fun cs b=>hsel i oi cs b hi) (fun cs b=>hsel j oj cs b hoj) hQ hy h1
   have hfree':∀k ok,ops[k]?=some ok->k≠i->(listed.setIfInBounds j true).getD k true=false->
    (∀e∈ok.after,Region.binds md e=true->e.on≠i)->oi.apart ops ok=true:=fun k ok hk hki hun hno=>by
    refine hfree k ok hk hki ?_ hno
    by_cases hjk:j=k
    ·subst hjk;exact hjun
    ·rw[getD_set_ne true hjk] at hun;exact hun
   have hdc':=zxp hdc hj;have hun:(listed.setIfInBounds j true).getD i true=false:=by
    rw[getD_set_ne true hji];exact(mem_ready.1 hr).1
   have hkun:=zsT hcl hks (by simpa using hsz) hdc' hun
   have hjk:j≠k:=by
    rintro rfl;rw[wbL,Array.getElem?_setIfInBounds_self_of_lt (by omega)] at hkun
    cases hkun
   have hk0:(listed.setIfInBounds i true).getD k true=false:=by
    rw[getD_set_ne true hik];rw[getD_set_ne true hjk] at hkun;exact hkun
   refine wpOp_mono (fun a' w' h3=>⟨fun _ _=>h3.2.1 hjk hk0,ih (listed.setIfInBounds j true) a' w' (by simpa using hsz) hdc' hfree' (ready_mono hr (Ne.symm hji)) h3.1 (h3.2.1 hjk hk0) ?_⟩) h2
   rw[Array.setIfInBounds_comm _ _ hji];exact h3.2.2
theorem zai {i:Nat} {dst:Option Tmp} {v:Value} {fuel:Nat} {listed:Array Bool} {a:Act} {w:World} (hd:(ops[i]?).map (·.dst)=some dst:=by kernel_rfl)
 (hs:Region.noSelect ops=true:=by kernel_rfl) (hf:Region.free md ops listed i=true:=by kernel_rfl) (hr:(Region.ready md ops listed).contains i=true:=by kernel_rfl) (hk:(i !=k&&decide (k<ops.size)&&(zkg md ops (k+1) [k]).contains i&&listed.size==ops.size&&dcB md ops listed)=true:=by kernel_rfl)
 (hQ:∀c a w,Q (.panic c) (a.put dst v) w->Q (.panic c) a w:=by(intro _ _ _ h;first|exact h|exact absurd (And.left h) (by simp))) (hy:∀o,ops[i]?=some o->YieldsIf P ops S o v a) (hS:S w)
 (h:zcc P md ops Q S k fuel (listed.setIfInBounds i true) (a.put dst v) w):zcc P md ops Q S k (fuel+1) listed a w:=by
 obtain⟨o,ho,rfl⟩:∃o,ops[i]?=some o/\o.dst=dst:=by
  cases ho:ops[i]? with
  |none=>rw [ho] at hd;cases hd
  |some o=>rw [ho] at hd;exact⟨o,rfl,waB hd⟩
 simp only[waN,waM,bne_iff_ne,ne_eq,beq_iff_eq] at hk;obtain⟨⟨⟨⟨h1,h2⟩,h3⟩,h4⟩,h5⟩:=hk;exact zkh ho (Region.noSelect_spec hs) hQ h1 h2 h3 fuel listed a w h4 (zxo h5) (Region.free_spec ho hf) (by simpa using hr) (hy o ho) hS h
theorem zac {i:Nat} {fuel:Nat} {listed:Array Bool} {a:Act} {w:World} (hr:Region.ready md ops listed=[i])
 (h:∀(o:Oper),ops[i]?=some o->∀K':Act->World->Prop,(∀a' w',S w'->zcc P md ops Q S k fuel (listed.setIfInBounds i true) a' w'->K' a' w')->wpList P ops (Exit.then K' Q) [o] a w):zcc P md ops Q S k (fuel+1) listed a w:=by
 refine⟨fun h0=>(by rw[hr] at h0;cases h0),fun j hj=>?_⟩
 rw[hr,wbC] at hj;subst hj;have hm:j∈Region.ready md ops listed:=by rw[hr];simp
 obtain⟨_,o,ho,_⟩:=mem_ready.1 hm;exact za3 ho fun K' hK=>h o ho K' fun a' w' hS hW=>hK a' w' ⟨fun _ _=>hS,hW⟩
theorem zbG {i i':Nat} {fuel:Nat} {listed:Array Bool} {a:Act} {w:World} (hr:Region.ready md ops listed=[i,i'])
 (h:∀(o:Oper),ops[i]?=some o->∀K':Act->World->Prop,(∀a' w',S w'->zcc P md ops Q S k fuel (listed.setIfInBounds i true) a' w'->K' a' w')->wpList P ops (Exit.then K' Q) [o] a w)
 (h':∀(o:Oper),ops[i']?=some o->∀K':Act->World->Prop,(∀a' w',S w'->zcc P md ops Q S k fuel (listed.setIfInBounds i' true) a' w'->K' a' w')->wpList P ops (Exit.then K' Q) [o] a w):zcc P md ops Q S k (fuel+1) listed a w:=by
 refine⟨fun h0=>(by rw[h0] at hr;cases hr),fun j hj=>?_⟩
 obtain⟨_,o,ho,_⟩:=mem_ready.1 hj;rw[hr,List.mem_cons,wbC] at hj;rcases hj with rfl|rfl
 ·exact za3 ho fun K' hK=>h o ho K' fun a' w' hS hW=>hK a' w' ⟨fun _ _=>hS,hW⟩
 ·exact za3 ho fun K' hK=>h' o ho K' fun a' w' hS hW=>hK a' w' ⟨fun _ _=>hS,hW⟩
theorem zaq {j:Nat} {listed:Array Bool} {a:Act} {w:World} (hj:j<=ops.size) (hk:(listed.getD k true=true\/ops.size - j=k)) (hks:k<ops.size) (hc:zfl md ops ops.size j listed=true) (h:wpList P ops Q (ops.toList.drop (ops.size - j)) a w):zcc P md ops Q S k j listed a w:=by
 induction j generalizing listed a w with
 |zero=>
  rw[List.drop_eq_nil_of_le (by simp)] at h
  exact⟨by simpa[zfl] using hc,h⟩
 |succ j ih=>
  unfold zfl at hc;rw[waN] at hc;have hr:Region.ready md ops listed=[ops.size - (j+1)]:=by simpa using hc.1
  have hlt:ops.size - (j+1)<ops.toList.length:=by simp;omega
  rw[List.drop_eq_getElem_cons hlt,show ops.size - (j+1)+1=ops.size - j by omega] at h
  refine⟨fun h0=>(by rw[hr] at h0;cases h0),fun i hi=>?_⟩
  rw[hr,wbC] at hi;subst hi;have hset:(listed.setIfInBounds (ops.size - (j+1)) true).getD k true=true:=by
   rcases hk with hk|hk
   ·by_cases e:ops.size - (j+1)=k
    ·rw[e,wbL];rcases Nat.lt_or_ge k listed.size with hl|hl
     ·rw[Array.getElem?_setIfInBounds_self_of_lt hl];rfl
     ·rw[Array.getElem?_eq_none (by simpa using hl)];rfl
    ·rw[getD_set_ne true e];exact hk
   ·rw[hk,wbL];rcases Nat.lt_or_ge k listed.size with hl|hl
    ·rw[Array.getElem?_setIfInBounds_self_of_lt hl];rfl
    ·rw[Array.getElem?_eq_none (by simpa using hl)];rfl
  refine wpOp_mono (fun a' w' h'=>⟨fun h1 h2=>?_,ih oQ (.inl hset) hc.2 h'⟩) ?_
  ·rcases hk with hk|hk
   ·rw[hk] at h2;cases h2
   ·exact absurd hk h1
  ·unfold wpOp;rw[wbI (by omega)]
   dsimp only;have e:ops.toList[ops.size - (j+1)]=ops[ops.size - (j+1)]'oQ:=by simp
   rw[e] at h;unfold wpList at h;exact h
theorem zaB {id:Nat} {a:Act} {w:World} (k:Nat) (S:World->Prop) (hm:P.follows .mixedOrders=true) (h:zcc P .any ops Q S k ops.size (Array.replicate ops.size false) a w.drew):(Code.region id ops true).wp P Q a w:=
 wp_region_any hm (zfN _ _ _ _ h)
end
theorem viaP {p:Prop} (h:p:=by(obtain rfl:=waB ho_;refine Or.inl ⟨by rfl,?_⟩;intro w_ hSw_;(try dsimp only at hSw_);go_simp;(try with_reducible rfl))):p:=h
theorem viaS {p:Prop} (h:p:=by(go_simp;(try with_reducible rfl))):p:=h
theorem zbj.{u_1}:∀{α:Type u_1} (l:List α) (i:Nat) (a:α),l.toArray.setIfInBounds i a=(l.set i a).toArray:=@_root_.List.setIfInBounds_toArray
theorem zbk.{u_1}:∀{α:Type u_1} {x:α} {xs:List α} {a:α},(x::xs).set 0 a=a::xs:=@_root_.List.set_cons_zero
theorem zbl.{u_1}:∀{α:Type u_1} {x:α} {xs:List α} {i:Nat} {a:α},(x::xs).set (i+1) a=x::xs.set i a:=@_root_.List.set_cons_succ
section
variable {P : Program} {ops : Array Oper} {Q : Exit -> Act -> World -> Prop} {md : Region.Mode} {S : World -> Prop} {k : Nat}
theorem kP (i d:Nat) {v:Value} {fuel:Nat} {listed:Array Bool} {a:Act} {w:World} (hd:(ops[i]?).map (·.dst)=some (some d):=by kernel_rfl)
 (hs:Region.noSelect ops=true:=by kernel_rfl) (hf:Region.free md ops listed i=true:=by kernel_rfl) (hr:(Region.ready md ops listed).contains i=true:=by kernel_rfl) (hk:(i !=k&&decide (k<ops.size)&&(zkg md ops (k+1) [k]).contains i&&listed.size==ops.size&&dcB md ops listed)=true:=by kernel_rfl)
 (hQ:∀c a w,Q (.panic c) (a.put (some d) v) w->Q (.panic c) a w:=by(intro _ _ _ h;first|exact h|exact absurd (And.left h) (by simp))) (hy:∀o,ops[i]?=some o->YieldsIf P ops S o v a:=by(intro o_ ho_;(try simp only[Act.put,zbj,zbk,zbl]);exact viaP)) (hS:S w:=by exact hHeld)
 (h:zcc P md ops Q S k fuel (listed.setIfInBounds i true) (a.put (some d) v) w):zcc P md ops Q S k (fuel+1) listed a w:=zai hd hs hf hr hk hQ hy hS h
theorem kR (i d:Nat) {F:World->Prop} (f:∀w_:World,S w_->F w_) {v:Value} {fuel:Nat} {listed:Array Bool} {a:Act} {w:World} (hd:(ops[i]?).map (·.dst)=some (some d):=by kernel_rfl)
 (hs:Region.noSelect ops=true:=by kernel_rfl) (hf:Region.free md ops listed i=true:=by kernel_rfl) (hr:(Region.ready md ops listed).contains i=true:=by kernel_rfl) (hk:(i !=k&&decide (k<ops.size)&&(zkg md ops (k+1) [k]).contains i&&listed.size==ops.size&&dcB md ops listed)=true:=by kernel_rfl)
 (hQ:∀c a w,Q (.panic c) (a.put (some d) v) w->Q (.panic c) a w:=by(intro _ _ _ h;first|exact h|exact absurd (And.left h) (by simp))) (hy:∀o,ops[i]?=some o->(∀w_:World,S w_->F w_)->YieldsIf P ops S o v a:=by(intro o_ ho_ hf_;(try simp only[Act.put,zbj,zbk,zbl]);obtain rfl:=waB ho_;refine Or.inl ⟨by rfl,?_⟩;intro w_ hSw_;have hr_:=hf_ w_ hSw_;exact viaS)) (hS:S w:=by exact hHeld)
 (h:zcc P md ops Q S k fuel (listed.setIfInBounds i true) (a.put (some d) v) w):zcc P md ops Q S k (fuel+1) listed a w:=zai hd hs hf hr hk hQ (fun o ho=>hy o ho f) hS h
end
def zki (m k:Nat):Nat:=m&&&2^k
theorem zgo (m k i:Nat):(zki m k).testBit i=(m.testBit i&&decide (k=i)):=by unfold zki;rw[Nat.testBit_and,Nat.testBit_two_pow]
theorem zlt {m k:Nat} (h:m<18446744073709551616):zki m k<18446744073709551616:=Nat.lt_of_le_of_lt Nat.and_le_left h
def hrM (h n z:Nat):Nat:=zki h (n * z / 3600)
def mnM (m n z:Nat):Nat:=if z<3600 then zki m (n * z / 60%60) else m
def scM (s n z:Nat):Nat:=if z=1 then zki s (n * z%60) else s
theorem zqc {h m s n z k:Nat} (hz:z=1\/z=60\/z=3600) (hn:n * z<86400) (hk:k<86400):
 zdh (k:Int) (hrM h n z:Nat) (mnM m n z:Nat) (scM s n z:Nat)=(zdh (k:Int) h m s&&decide (k / z=n)):=by
 have e1:((k:Int) / 3600)=((k / 3600:Nat):Int):=by omega
 have e2:((k:Int) / 60%60)=((k / 60%60:Nat):Int):=by omega
 have e3:((k:Int)%60)=((k%60:Nat):Int):=by omega
 unfold zdh;rw[e1,e2,e3];rw[zbw _ _ (by omega),zbw _ _ (by omega),zbw _ _ (by omega),zbw _ _ (by omega),zbw _ _ (by omega),zbw _ _ (by omega)]
 unfold hrM mnM scM;rw[zgo,waQ];rcases hz with rfl|rfl|rfl
 ·rw[if_pos (by decide),if_pos rfl,zgo,zgo]
  simp only[waN,waM];constructor
  ·rintro ⟨⟨a,b⟩,⟨c,d⟩,e,f⟩;exact⟨⟨a,c,e⟩,by omega⟩
  ·rintro ⟨⟨a,c,e⟩,f⟩;exact⟨⟨a,by omega⟩,⟨c,by omega⟩,e,by omega⟩
 ·rw[if_pos (by decide),if_neg (by decide),zgo]
  simp only[waN,waM];constructor
  ·rintro ⟨⟨a,b⟩,⟨c,d⟩,e⟩;exact⟨⟨a,c,e⟩,by omega⟩
  ·rintro ⟨⟨a,c,e⟩,f⟩;exact⟨⟨a,by omega⟩,⟨c,by omega⟩,e⟩
 ·rw[if_neg (by decide),if_neg (by decide)]
  simp only[waN,waM];constructor
  ·rintro ⟨⟨a,b⟩,c,e⟩;exact⟨⟨a,c,e⟩,by omega⟩
  ·rintro ⟨⟨a,c,e⟩,f⟩;exact⟨⟨a,by omega⟩,c,e⟩
def zwM (c:Cl) (x:LSt) (z n:Int) (k:Nat):Bool:=
 decide (x.fr<=(k:Int)/\(k:Int)<=x.un)&&zdh (k:Int) (c.m 2) (c.m 1) (c.m 0)&&decide (x.ph<=(k:Int) / z/\(k:Int) / z<n/\((k:Int) / z - x.ph)%c.s=0)
theorem zsU {s p n q:Int} (hs:1<=s) (hn:∃j:Nat,n=p+j * s):(p<=q/\q<n+s/\(q - p)%s=0)↔(p<=q/\q<n/\(q - p)%s=0)\/q=n:=by
 obtain⟨j,rfl⟩:=hn;constructor
 ·rintro ⟨h1,h2,h3⟩
  by_cases h:q<p+j * s
  ·exact .inl ⟨h1,h,h3⟩
  ·right;obtain⟨i,hi⟩:=Int.dvd_of_emod_eq_zero h3;have hj:(j:Int) * s=s * j:=Int.mul_comm _ _;have a1:s * (j:Int)<=s * i:=by omega
   have a2:s * i<s * (j+1):=by rw[Int.mul_add,Int.mul_one];omega
   have b1:=Int.le_of_mul_le_mul_left a1 oQ;have b2:=Int.lt_of_mul_lt_mul_left a2 oQ;have:i=j:=by omega
   subst this;omega
 ·rintro (⟨h1,h2,h3⟩|rfl)
  ·exact⟨h1,by omega,h3⟩
  ·have h0:(0:Int)<=(j:Int) * s:=Int.mul_nonneg oQ oQ;refine⟨by omega,by omega,?_⟩
   rw[show p+(j:Int) * s - p=(j:Int) * s by omega]
   exact Int.mul_emod_left _ _
end Go.Proofs.YtllcdbgjeidlkaaGreatDoor
namespace Go.Proofs.YtllcdbgjeidlkaaGreatDoor
open Go.Proofs.Tryz
open Go.RowKit Go.Shelf
def zgY (p q:Nat->Bool):Prop:=∀x,x<86400->p x=q x
theorem zvD {p q:Nat->Bool} (h:zcO (fun x=>p x^^q x) 0):zgY p q:=fun x hx=>by
 have h1:(p x^^q x)=false:=h x (waK _) hx;generalize p x=a at *;generalize q x=b at *;cases a<;>cases b<;>first|rfl|cases h1
theorem zvE {p q:Nat->Bool} {n:Nat} (h:zea (fun x=>p x^^q x) 0 n):¬zgY p q:=fun hs=>by
 have h2:(p n^^q n)=true:=h.2.2.1;rw[hs n h.1] at h2;generalize q n=b at *;cases b<;>cases h2
theorem zn3 (va vb:Value) (p q:Nat->Bool) (w:World) (hw:Tz w) (ha:zdN w va p) (hb:zdN w vb q):Calls prog 75 #[va,vb] w (fun e w'=>(∃r,e=.returned (.bool r)/\(r=true↔zgY p q))/\w'=w):=by
 have H:=waV (zh7 va vb p q w hw ha hb);clear ha hb hw;go_enter func75,ntmps75;go_wp2_with fail;refine H.out.mono ?_;rintro e w1 ⟨rfl,⟨x,rfl,hx⟩|⟨rfl,hx⟩⟩
 ·have HX:=waV (zvE hx);clear hx H;go_wp2;go_ret;exact⟨⟨false,rfl,by simp[HX.out]⟩,rfl⟩
 ·have HX:=waV (zvD hx);clear hx H;go_wp2;go_ret;exact⟨⟨true,rfl,by simp[HX.out]⟩,rfl⟩
end Go.Proofs.YtllcdbgjeidlkaaGreatDoor
namespace Go.Proofs.YtllcdbgjeidlkaaGreatDoor
open Go.Proofs.Tryz
open Go.RowKit Go.Shelf
attribute [local go_sem] Oper.semAt_some
def zsV (Ds:List Nat):List Deferred:=Ds.map fun D=>{target:=.collected D,args:=#[]}
def zed (B:Nat) (w:World) (Ds:List Nat):Prop:=Ds.Nodup/\∀D,D∈Ds->B<=D/\w.heap[D]?=some (.deferred (some []))
theorem zed.keeps {B:Nat} {w w':World} {Ds:List Nat} (h:zed B w Ds) (k:KeepsFrom B w w'):zed B w' Ds:=⟨h.1,fun D hD=>⟨(h.2 D hD).1,k.same D _ (h.2 D hD).1 (h.2 D hD).2 rfl⟩⟩
theorem zed.cons {B:Nat} {w:World} {Ds:List Nat} {D N:Nat} (h:zed B w Ds) (hN:∀D',D'∈Ds->D'<N) (hD:N<=D) (hB:B<=D) (hk:w.heap[D]?=some (.deferred (some []))):zed B w (D::Ds):=
 ⟨List.nodup_cons.2 ⟨fun hm=>by have:=hN D hm;omega,h.1⟩,fun D' hm=>by
  rcases List.mem_cons.1 hm with rfl|hm
  ·exact⟨hB,hk⟩
  ·exact h.2 D' hm⟩
theorem zed.lt {B:Nat} {w:World} {Ds:List Nat} (h:zed B w Ds):∀D,D∈Ds->D<w.heap.size:=fun D hD=>(waL.1 (h.2 D hD).2).1
theorem za7 {F:Fence} {n:Nat} {P:Program} {fn:Func} {tmps:Array Value} {R:Ending->World->Prop} {B:Nat}:∀(Ds:List Nat) (w:World),zed B w Ds->
 (∀w',Rl 0 0 B w w'->LeavesInM F n P fn tmps R [] .returning w')->LeavesInM F n P fn tmps R (zsV Ds) .returning w
 |[],w,_,h=>h w (Rl.refl _ _ _ _)
 |D::Ds,w,hm,h=>by
  obtain⟨h1,h2⟩:=hm.2 D (by simp)
  refine⟨by simp,.inl ⟨_,_,rfl,run_takeDeferred h2,?_⟩⟩
  refine za7 Ds _ ⟨(List.nodup_cons.1 hm.1).2,fun D' hD'=>?_⟩ (fun w' hr=>h w' (((Rl.refl _ _ _ w).put _ h2 rfl h1).trans hr))
  obtain⟨h3,h4⟩:=hm.2 D' (by simp[hD'])
  exact⟨h3,(World.putObj_heap_other (by intro e;subst e;exact(List.nodup_cons.1 hm.1).1 hD')).trans h4⟩
def wd1 (k:Nat) (l:List Nat):List Nat:=l.map fun n=>k * 64+n
theorem zgp (k:Nat) (l:List Nat) (x:Nat):wd1 k (l++[x])=wd1 k l++[k * 64+x]:=by simp[wd1]
theorem zlu (k:Nat) (l:List Nat):(wd1 k l).length=l.length:=by simp[wd1]
theorem zkj (p:Nat->Bool) (k:Nat):wdL p (k+1)=wdL p k++wd1 k (zam (zau p k)):=zmJ p k
theorem zvF (p:Nat->Bool) (k:Nat):(wdL p k).length<=k * 64:=by
 have h:=zi6 (f:=fun i=>(zam (zau p i)).map fun n=>i * 64+n) (c:=64) (List.range k) (fun i=>by rw[List.length_map];exact zdw _)
 rw[List.length_range] at h;exact h
theorem zvG (p:Nat->Bool) {k:Nat} (h:k<=1350):wdL p k<+:zeu p:=by
 rw[<-zp5];unfold wdL;exact zmK ⟨(List.range 1350).drop k,by
  have e:List.range k=(List.range 1350).take k:=by rw[List.take_range];congr 1;omega
  rw[e,List.take_append_drop]⟩
theorem zqd (M:Nat->Prop) (n b:Nat) (p:Nat->Bool) (nb:¬M b) (nt:¬M 0):
 zxj Fence.wide n prog 198 #[.pointer (some ⟨b,0,none⟩)] (fun k:Nat=> #[.int .i64 (k:Int)]) (fun k _=>k<86400) (KpM M) (fun xs=>xs=zeu p) (fun pre=>pre<+:zeu p) 300000 0 0
  (fun W=>(∀k,M k->k<W.heap.size)/\(∀j,j<1350->W.cell? ⟨b,j,none⟩=some (.int .u64 (zau p j:Nat)))/\Tz W):=by
 have eg:∀args w,(callFunc 154 args).run prog w=.ok (.enter 154 args) w:=enters_of func154 kQ rfl;intro l J Jx W ⟨hM,cw,hT⟩ hJ hJx hY h0;have HA:=waV (fun k j V B (hc:V.cell? ⟨B,0,none⟩=some (.int .u64 (zau p j:Nat)))=>wbP (n:=k).2 (zc2 (zau p j) (zbv p j) B 0 1 V hc))
 have HY:=waV hY;clear hY;have hbl:=waR W _ (cw 0 dQ)
 suffices hs20:∀k,CallsIn Fence.wide (k+20) prog 198 (#[.func (.yield l) #[] #[]]++ #[.pointer (some ⟨b,0,none⟩)]) W fun e W'=>(∃v,e=.returned v)/\((∃xs,xs=zeu p/\J xs W')\/(∃pre,pre<+:zeu p/\Jx pre W')) from wbP.2 (wbP.1 (hs20 0))
 intro k;refine callsIn_of_wp_marks func198 rfl trivial ?_ rfl;simp only[ntmps198,wbQ,waG,List.length_nil,Nat.reduceAdd,Nat.reduceSub,wbR,wbS,List.push_toArray,List.append_toArray,wbN,wbT]
 gi_wp2
 apply zcg;apply wpIn_seq;apply wpIn_label;simp only[Exit.then]
 have cY:=@zaa W #[.func (.yield l) #[] #[]] 111 W.heap.size 0 (.func (.yield l) #[] #[]) rfl rfl;have hb1:Below W.heap.size W (W.alloc (.cells #[.func (.yield l) #[] #[]] 111)):=(waC _ W).alloc (waJ _) _
 gi_wp2
 obtain⟨W0,hW0⟩:∃W0,W.alloc (.cells #[.func (.yield l) #[] #[]] 111)=W0:=⟨_,rfl⟩;rw[hW0] at cY hb1 ⊢;have hz0:=hb1.size;have hlY:=waR W0 _ cY;have cw0:∀j,j<1350->W0.cell? ⟨b,j,none⟩=some (.int .u64 (zau p j:Nat)):=fun j hj=>((zad hb1).1 _ _ hbl).trans (cw j hj)
 have hT0:=hT.below hb1;have hJ0:J (wdL p 0) W0:=hJ _ _ _ h0 ((Rl.refl _ _ _ W).below hb1);have nM:∀k,W.heap.size<=k->¬M k:=fun k h1 h2=>by have:=hM k h2;omega
 clear hW0 h0 hT cw hb1;refine wpIn_loop (fun a V=>∃(j:Nat) (Ds:List Nat) (u3 u4 u6 u7 u8 u9 u10 u11 u12 u13 u14 u15 u16 u17 u18 u19 u20 u21:Value),j<=1350/\a={tmps:=#[.func (.yield l) #[] #[],.pointer (some ⟨b,0,none⟩),.pointer (some ⟨W.heap.size,0,none⟩),u3,u4,.int .i64 (j:Int),u6,u7,u8,u9,u10,u11,u12,u13,u14,u15,u16,u17,u18,u19,u20,u21],defers:=zsV Ds}/\
  zed W.heap.size V Ds/\J (wdL p j) V/\KpM M W0 V/\KeepsFrom W.heap.size W0 V) (fun a _=>1350 - (intOf (a.tmps.getD 5 undef)).toNat) ⟨0,[],_,_,_,_,_,_,_,_,_,_,_,_,_,_,_,_,_,_,by omega,rfl,⟨by simp,by simp⟩,hJ0,KpM.refl _ _,KeepsFrom.refl _ _⟩ ?_
 rintro a V ⟨j,Ds,u3,u4,u6,u7,u8,u9,u10,u11,u12,u13,u14,u15,u16,u17,u18,u19,u20,u21,hj,rfl,hDs,hjV,hkV,hfV⟩;have hsV:=hkV.size;have cYV:=hkV.cell cY (nM _ (waJ _))
 by_cases hlt:j<1350
 ·have cwV:=hkV.cell (cw0 j hlt) nb;have hbV:=waR V _ cwV;have i0:(0:Int)<=(j:Int):=by omega
  have i1:(j:Int)<1350:=by omega
  have hDl:=hDs.lt
  gi_wp2_with (refine⟨trivial,?_⟩;gi_at_call 90;refine(HA.out _ j _ _ (zdj _ _ _ _)).mono ?_;rintro e w1 ⟨bA,rfl,cA,hlA,hq1⟩)
  have hb1:Below V.heap.size V w1:=((((waC _ V).alloc (waJ _) _).alloc (by simp) _).trans (hq1.mono (by simp;omega)))
  have cI:w1.cell? ⟨V.heap.size,0,none⟩=some (.int .i64 (j:Int)):=((zad hq1).1 _ _ (by simp;omega)).trans (zfi _ _ _ _)
  have hj1:=hJ _ _ _ hjV ((Rl.refl _ _ _ V).below hb1);have hk1:KpM M V w1:=KpM.of_below hb1;have hT1:=(hT0.kpM hkV nt).below hb1;have hs1:=hb1.size;have kf1:KeepsFrom W.heap.size V w1:=⟨hb1.size,fun i o _ h2 _=>(hb1.block i (waL.1 h2).1).trans h2⟩
  have hAn:V.heap.size<=bA:=waW (by simp;omega) hlA
  clear hq1 hlA;have hlenj:=zvF p j;refine wpIn_rangeFunc_ownH rfl oQ (gf:=154) (lb:=#[.pointer (some ⟨bA,0,none⟩)]) rfl trivial eg
   (zbD (fun x:{k // k∈zam (zau p j)}=>x.1) (zam (zau p j)).attach (KpM M) (k+19) bA (zau p j) oQ (zgO _) (zbv p j) (fun _ _ hk hc=>hk.cell hc (nM _ oQ)) (fun _ _ hk ht=>ht.kpM hk nt) w1 cA hT1)
   (fun h k=>h.trans k) (fun V l o o' _ hl ho _=>KpM.putObj o' hl ho) (waC _ _) (fun _=>rfl)
   (fun pre V'=>(J (wdL p j++wd1 j (zcD pre)) V'/\KpM M w1 V')/\KeepsFrom W.heap.size V V')
   (fun c pre V'=>(c=.exit 0/\Jx (wdL p j++wd1 j (zcD pre)) V')/\KeepsFrom W.heap.size V V')
   (OwnFrom.and (OwnFrom.and (zaM (lo:=0) (hi:=0) (fun _ X Y hs hr=>hJ _ X Y hs (hr.mono oQ))) zcN) (ownFrom_keepsFrom hb1.size))
   (fun c=>OwnFrom.and (zaM (lo:=0) (hi:=0) (fun _ X Y hs hr=>⟨hs.1,hJx _ X Y hs.2 (hr.mono oQ)⟩)) (ownFrom_keepsFrom hb1.size))
   ⟨⟨by simpa[zcD,wd1] using hj1,KpM.refl _ _⟩,kf1⟩
   (fun x a' _=>a'={tmps:=#[.func (.yield l) #[] #[],.pointer (some ⟨b,0,none⟩),.pointer (some ⟨W.heap.size,0,none⟩),.pointer (some ⟨V.heap.size,0,none⟩),.int .i64 (x.1:Int),.int .i64 (j:Int),.bool true,.int .i64 (j:Int),.int .i64 (j:Int),.pointer (some ⟨b,j,none⟩),.int .u64 (zau p j:Nat),.slice (some ⟨V.heap.size+1,0,none⟩) 1 1,.func (.func 154) #[] #[.pointer (some ⟨bA,0,none⟩)],.int .i64 (x.1:Int),u14,u15,u16,u17,u18,u19,u20,u21],defers:=[]})
   (fun _ _ _ _ _ _ hs _ _=>hs)
   ?assign ?body ?done ?stop
  case assign=>
   rintro l1 pre x V' K hi hK
   gi_wp2
   exact hK _ _ (KeepsFrom.refl _ _) (KpM.refl _ _) hi rfl
  case body=>
   rintro l1 pre x a' V' hl1 _ ⟨⟨hj',hk'⟩,hf'⟩ rfl hlt';have cY':=(hk1.trans hk').cell cYV (nM _ (waJ _));have cI':=hk'.cell cI (nM _ oQ);have hx:=(zaN.1 x.2).1;have hl2:=zlu j (zcD pre);rw[zi7] at hl2;obtain⟨fn,tmps,assign,body,hy,hR⟩:=HY.out _ (j * 64+x.1) V' hj' oQ (by simp only[waF];omega)
   have HR:=waV hR;have e0:((j * 64+x.1:Nat):Int)=(j:Int) * 64+(x.1:Int):=by push_cast;rfl
   rw[e0] at hy;clear hR hj' e0
   gi_wp2
   refine(zc3 (l':=l1) HR.out).mono ?_;rintro e W4 (⟨rfl,hj4,hk4,hf4⟩|⟨rfl,hj4,hf4⟩)
   ·rw[List.append_assoc,<-zgp,<-zct] at hj4;have HJ4:=waV hj4;clear hj4 HR hy
    gi_wp2
    exact⟨zan hf4 oQ,hk4,⟨HJ4.out,hk'.trans hk4⟩,hf'.trans hf4⟩
   ·rw[List.append_assoc,<-zgp,<-zct] at hj4;have HJ4:=waV hj4;clear hj4 HR hy
    gi_wp2
    exact⟨zan hf4 oQ,⟨rfl,HJ4.out⟩,hf'.trans hf4⟩
  case done=>
   rintro D zs V' hD rfl ⟨⟨hj',hk'⟩,hf'⟩ hKd;rw[zcE,<-zkj] at hj';have HJ':=waV hj';have hM':zed W.heap.size V' (D::Ds):=(hDs.keeps hf').cons hDl oQ oQ hKd;clear hj'
   gi_wp2
   refine⟨⟨j+1,D::Ds,_,_,_,_,_,_,_,_,_,_,_,_,_,_,_,_,_,_,by omega,rfl,hM',HJ'.out,hkV.trans (hk1.trans hk'),hfV.trans hf'⟩,?_⟩
   simp[intOf];omega
  case stop=>
   rintro D c pre V' hD hpre ⟨⟨rfl,hj'⟩,hf'⟩ hKd;have HJ':=waV hj';have hM':zed W.heap.size V' (D::Ds):=(hDs.keeps hf').cons hDl oQ oQ hKd;have HP:Hid (wdL p j++wd1 j (zcD pre)<+:zeu p):=by
    show _<+:_;refine List.IsPrefix.trans ?_ (zvG p (k:=j+1) oQ);rw[zkj,List.prefix_append_right_inj];obtain⟨r,hr⟩:=hpre;have h:=congrArg zcD hr;rw[zcE] at h;exact⟨wd1 j (zcD r),by unfold wd1;rw[<-List.map_append];congr 1;exact(by simpa[zcD] using h)⟩
   clear hpre hj'
   gi_wp2
   exact za7 (D::Ds) _ hM' fun w' hr=>⟨_,results_none rfl _ _ _,⟨_,rfl⟩,.inr ⟨_,HP.out,hJx _ _ _ HJ'.out hr⟩⟩
 ·have e:j=1350:=by omega
  subst e;rw[zp5] at hjV;have HJ:=waV hjV;clear hjV
  gi_wp2
  exact za7 Ds _ hDs fun w' hr=>⟨_,results_none rfl _ _ _,⟨_,rfl⟩,.inl ⟨_,rfl,hJ _ _ _ HJ.out hr⟩⟩
end Go.Proofs.YtllcdbgjeidlkaaGreatDoor
