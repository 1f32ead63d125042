/- A region that draws its order: the one order that the evaluator walks stands for all. -/
import Derived.Test.YtegbiibfmabnbaaGreatEvB
import Derived.Orders
import Derived.RangeFuncRecord
import Derived.Below
set_option linter.unusedSimpArgs false
set_option linter.unusedVariables false
set_option linter.unusedSectionVars false
namespace Go.Ev
theorem edgeMask_bit {acc:List Nat} {n:Nat}:∀ {es:List Edge} {j:Nat},(edgeMask acc n es).testBit j=true →
  ∃ e∈es,Region.binds .any e=true∧(j=e.on∨(e.on < n∧(acc.getD (n - 1 - e.on) 0).testBit j=true))
 | [],j,h=>by simp [edgeMask] at h
 | e::r,j,h=>by
  simp only [edgeMask,Nat.testBit_or,Bool.or_eq_true] at h
  rcases h with h|h
  ·split at h
   ·rename_i hb
    simp only [Nat.testBit_or,Bool.or_eq_true] at h
    refine ⟨e,by simp,hb,?_⟩
    rcases h with h|h
    ·left
     rw [Nat.testBit_two_pow] at h
     simp at h
     exact h.symm
    ·split at h
     ·right;exact ⟨by assumption,h⟩
     ·simp at h
   ·simp at h
  ·obtain ⟨e',h1,h2⟩:=edgeMask_bit h
   exact ⟨e',by simp [h1],h2⟩
theorem masksGo_spec:∀ (l:List Oper) (acc:List Nat) (n:Nat),acc.length=n →
  (masksGo l acc n).length=n+l.length ∧
  (∀ m,m < n→(masksGo l acc n).getD (n+l.length - 1 - m) 0=acc.getD (n - 1 - m) 0) ∧
  (∀ k o,l[k]?=some o→∃ acc',(masksGo l acc n).getD (n+l.length - 1 - (n+k)) 0=edgeMask acc' (n+k) o.after.toList∧∀ m,m < n+k→acc'.getD (n+k - 1 - m) 0=(masksGo l acc n).getD (n+l.length - 1 - m) 0)
 | [],acc,n,h=>by
  refine ⟨by simp [masksGo,h],fun m hm=>by simp [masksGo],fun k o ho=>by simp at ho⟩
 | o::l,acc,n,h=>by
  obtain ⟨i1,i2,i3⟩:=masksGo_spec l (edgeMask acc n o.after.toList::acc) (n+1) (by simp [h])
  simp only [masksGo]
  have e:n+1+l.length=n+(o::l).length:=by simp;omega
  rw [e] at i1 i2 i3
  refine ⟨i1,fun m hm=>?_,fun k p hp=>?_⟩
  ·rw [i2 m (by omega)]
   rw [show n+1 - 1 - m=(n - 1 - m)+1 by omega]
   simp
  ·cases k with
   | zero =>
    simp at hp;subst hp
    refine ⟨acc,?_,fun m hm=>?_⟩
    ·have:=i2 n (by omega)
     simp only [Nat.add_zero]
     rw [this]
     simp
    ·have:=i2 m (by omega)
     rw [this,show n+1 - 1 - m=(n - 1 - m)+1 by omega]
     simp
   | succ k =>
    obtain ⟨acc',a1,a2⟩:=i3 k p (by simpa using hp)
    have e2:n+(k+1)=n+1+k:=by omega
    rw [e2]
    exact ⟨acc',a1,fun m hm=>a2 m hm⟩
theorem masks_get (ops:Array Oper) {i:Nat} (hi:i < ops.size):(masks ops).getD i 0=(masksGo ops.toList [] 0).getD (ops.size - 1 - i) 0:=by
 have hl:=(masksGo_spec ops.toList [] 0 rfl).1
 simp only [Array.length_toList,Nat.zero_add] at hl
 unfold masks
 simp only [List.getD_eq_getElem?_getD]
 rw [List.getElem?_reverse (by omega),hl]
theorem masks_spec (ops:Array Oper) {i:Nat} {o:Oper} (ho:ops[i]?=some o) {j:Nat} (h:((masks ops).getD i 0).testBit j=true) :
  ∃ e∈o.after.toList,Region.binds .any e=true∧(j=e.on∨(e.on < i∧((masks ops).getD e.on 0).testBit j=true)):=by
 have hi:i < ops.size:=by
  rcases Nat.lt_or_ge i ops.size with h|h
  ·exact h
  ·rw [Array.getElem?_eq_none h] at ho;cases ho
 obtain ⟨_,_,h3⟩:=masksGo_spec ops.toList [] 0 rfl
 obtain ⟨acc',a1,a2⟩:=h3 i o (by simpa using ho)
 simp only [Nat.zero_add,Array.length_toList] at a1 a2
 rw [masks_get ops hi,a1] at h
 obtain ⟨e,e1,e2,e3⟩:=edgeMask_bit h
 refine ⟨e,e1,e2,e3.imp id fun ⟨q1,q2⟩=>⟨q1,?_⟩⟩
 rw [masks_get ops (by omega),←a2 e.on q1]
 exact q2
theorem Rel.apush {ρ:Ren} {H:Heap} {w:World} (R:Rel ρ H w) (ob:AObj):Rel ρ (H.push ob) w:=by
 have hne:∀ c m,ρ c=some m→c≠H.next:=fun c m h e=>by have:=R.dom c m h;omega
 refine ⟨fun c hc=>by simp only [Heap.next_push] at hc;rw [Heap.get_push,if_neg (by omega)];exact R.wf c (by omega),fun c m h=>by have:=R.dom c m h;simp;omega,R.cdom,fun c m x h1 h2=>?_,fun c c' m m' x x' hn h1 h2 h3 h4 h5=>?_⟩
 ·rw [Heap.get_push,if_neg (hne c m h1)] at h2
  exact R.live c m x h1 h2
 ·rw [Heap.get_push,if_neg (hne c m h1)] at h3
  rw [Heap.get_push,if_neg (hne c' m' h2)] at h4
  exact R.sep c c' m m' x x' hn h1 h2 h3 h4 h5
theorem Stp.apush {ρ0 ρ:Ren} {H0 H:Heap} {w0 w:World} (h:Stp ρ0 H0 w0 ρ H w) (R:Rel ρ H w) (ob:AObj):Stp ρ0 H0 w0 ρ (H.push ob) w:=by
 have hne:∀ c m,ρ c=some m→c≠H.next:=fun c m h e=>by have:=R.dom c m h;omega
 refine ⟨h.ren,h.new,Nat.le_trans h.next (by simp),fun c h1 h2=>?_,h.size,fun i hi=>?_,h.frame,h.os,h.tape,h.output⟩
 ·rw [Heap.get_push,if_neg (by have:=h.next;omega)]
  exact h.aframe c h1 h2
 ·obtain ⟨c,m,x,e1,e2,e3,e4⟩:=hi
  rw [Heap.get_push,if_neg (hne c m e1)] at e2
  exact h.own i ⟨c,m,x,e1,e2,e3,e4⟩
theorem Rel.late {ρ:Ren} {H:Heap} {w w':World} (R:Rel ρ H w) {id:Nat} {ob:AObj} {loc:Loc} {cob:Obj} (hid:ρ id=none) (hlt:id < H.next) (hg:H.get id=some ob) (hh:w'.heap=w.heap.push cob) (hc:loc.cb=w.heap.size)
  (ho:ORel (ρ.add id loc) loc ob (some cob)):Rel (ρ.add id loc) H w':=by
 have hle:=Ren.le_add loc hid
 have old:∀ i,i < w.heap.size→w'.heap[i]?=w.heap[i]?:=fun i hi=>by rw [hh];exact heap_push_get _ _ _ hi
 have new:w'.heap[loc.cb]?=some cob:=by rw [hh,hc];simp
 refine ⟨R.wf,fun c m h=>?_,fun c m h=>?_,fun c m x h1 h2=>?_,fun c c' m m' x x' hn h1 h2 h3 h4 h5=>?_⟩
 ·unfold Ren.add at h
  split at h
  ·rename_i e;subst e;exact hlt
  ·exact R.dom c m h
 ·unfold Ren.add at h
  split at h
  ·cases h;rw [hh,hc];simp
  ·have:=R.cdom c m h;rw [hh];simp;omega
 ·unfold Ren.add at h1
  split at h1
  ·rename_i e;subst e;cases h1
   rw [hg] at h2;cases h2
   rw [new];exact ho
  ·rw [old _ (R.cdom c m h1)]
   exact (R.live c m x h1 h2).mono hle
 ·unfold Ren.add at h1 h2
  by_cases e:c=id
  ·have e':c'≠id:=fun q=>hn (e.trans q.symm)
   rw [if_pos e] at h1
   rw [if_neg e'] at h2
   cases h1
   have:=R.cdom c' m' h2
   rw [hc];omega
  ·rw [if_neg e] at h1
   have:=R.cdom c m h1
   by_cases e':c'=id
   ·rw [if_pos e'] at h2;cases h2
    rw [hc];omega
   ·rw [if_neg e'] at h2
    exact R.sep c c' m m' x x' hn h1 h2 h3 h4 h5
theorem Stp.late {ρ0 ρ:Ren} {H0 H:Heap} {w0 w w':World} (h:Stp ρ0 H0 w0 ρ H w) {id:Nat} {loc:Loc} {cob:Obj} (hid:ρ id=none) (hge:H0.next≤id) (hh:w'.heap=w.heap.push cob) (hc:loc.cb=w.heap.size)
  (h1:w'.os=w.os) (h2:w'.tape=w.tape) (h3:w'.output=w.output):Stp ρ0 H0 w0 (ρ.add id loc) H w':=by
 refine ⟨Ren.le_trans h.ren (Ren.le_add loc hid),fun c m e=>?_,h.next,h.aframe,by rw [hh];have:=h.size;simp;omega,fun i hi=>?_,fun i hi hno=>?_,h1.trans h.os,h2.trans h.tape,h3.trans h.output⟩
 ·unfold Ren.add at e
  split at e
  ·exact .inr (by omega)
  ·exact h.new c m e
 ·obtain ⟨c,m,x,e1,e2,e3,e4⟩:=hi
  unfold Ren.add at e1
  split at e1
  ·cases e1;right;have:=h.size;omega
  ·exact h.own i ⟨c,m,x,e1,e2,e3,e4⟩
 ·have:=h.size
  rw [hh,heap_push_get _ _ _ (by omega)]
  exact h.frame i hi hno
theorem Heap.read_mono {H H':Heap} (hm:∀ b o,H.get b=some o→H'.get b=some o) {b off n:Nat} {cs:List Value} (h:H.read b off n=some cs):H'.read b off n=some cs:=by
 unfold Heap.read at h ⊢
 split at h
 ·rename_i vs wr g hg
  rw [hm b _ hg];exact h
 ·cases h
theorem aread_mono {T:Tab} {ev:Operand→Option Value} {H H':Heap} (hm:∀ b o,H.get b=some o→H'.get b=some o) {op:Op} {v:Value} (h:aread T ev H op=some v):aread T ev H' op=some v:=by
 cases op
 case load t x =>
  simp only [aread,Option.bind_eq_bind,Option.bind_eq_some_iff] at h ⊢
  obtain ⟨i,hi,a,ha,h⟩:=h
  refine ⟨i,hi,a,ha,?_⟩
  split at h
  ·split at h<;>simp only [Option.bind_eq_some_iff] at h<;>obtain ⟨cs,h1,h2⟩:=h
   ·rename_i hagg;simp only [hagg,if_true,Option.bind_eq_some_iff];exact ⟨cs,Heap.read_mono hm h1,h2⟩
   ·rename_i hagg;simp only [hagg,Option.bind_eq_some_iff];simp only [Bool.false_eq_true,if_false,Option.bind_eq_some_iff];exact ⟨cs,Heap.read_mono hm h1,h2⟩
  ·cases h
 case slice t x lo hi mx =>
  simp only [aread,aslice,Option.bind_eq_bind,Option.bind_eq_some_iff] at h ⊢
  obtain ⟨a,ha,vl,hvl,vh,hvh,vm,hvm,i,hi',nl,hnl,nh,hnh,nm,hnm,h⟩:=h
  refine ⟨a,ha,vl,hvl,vh,hvh,vm,hvm,i,hi',nl,hnl,nh,hnh,nm,hnm,?_⟩
  split at h<;>first|(exact h)|skip
  simp only [Option.bind_eq_some_iff] at h ⊢
  obtain ⟨j,hj,p,hp,h⟩:=h
  refine ⟨j,hj,p,hp,?_⟩
  obtain ⟨l,hh,m⟩:=p
  dsimp only at h ⊢
  split at h
  ·rename_i vs wr g hg
   rw [hm _ _ hg];exact h
  ·cases h
 case lookup t x k ok =>
  simp only [aread,Option.bind_eq_bind,Option.bind_eq_some_iff] at h ⊢
  obtain ⟨i,hi,a,ha,h⟩:=h
  refine ⟨i,hi,a,ha,?_⟩
  obtain ⟨d,s0,b0,z0,c0⟩:=i
  cases d<;>cases a<;>simp only at h ⊢<;>first|(cases h;done)|skip
  simp only [Option.bind_eq_some_iff] at h ⊢
  obtain ⟨kv,hkv,j,hj,h⟩:=h
  refine ⟨kv,hkv,j,hj,?_⟩
  split at h
  ·rename_i hfit
   rw [if_pos hfit]
   simp only [Option.bind_eq_some_iff] at h ⊢
   obtain ⟨es,hes,h⟩:=h
   refine ⟨es,?_,h⟩
   unfold mapEntries at hes ⊢
   split at hes
   ·exact hes
   ·split at hes
    ·rename_i hg;simp only [hm _ _ hg];exact hes
    ·cases hes
  ·cases h
 case convert s d x =>
  simp only [aread,Option.bind_eq_bind,Option.bind_eq_some_iff] at h ⊢
  obtain ⟨i,hi,j,hj,a,ha,h⟩:=h
  refine ⟨i,hi,j,hj,a,ha,?_⟩
  obtain ⟨d1,s1,b1,z1,c1⟩:=i
  obtain ⟨d2,s2,b2,z2,c2⟩:=j
  simp only at h ⊢
  split at h
  ·exact h
  ·simp only [Option.bind_eq_some_iff] at h ⊢
   obtain ⟨k,hk,h⟩:=h
   refine ⟨k,hk,?_⟩
   obtain ⟨d3,s3,b3,z3,c3⟩:=k
   simp only at h ⊢
   split at h
   ·simp only [Option.bind_eq_some_iff] at h ⊢
    obtain ⟨cs,h1,h2⟩:=h
    exact ⟨cs,Heap.read_mono hm h1,h2⟩
   ·cases h
  ·cases h
 case call c =>
  simp only [aread] at h ⊢
  cases hc:c.callee<;>simp only [hc] at h ⊢<;>first|(cases h;done)|skip
  unfold readBuiltin at h ⊢
  split at h
  ·simp only [Option.bind_eq_bind,Option.bind_eq_some_iff] at h ⊢
   obtain ⟨i,hi,a,ha,h⟩:=h
   refine ⟨i,hi,a,ha,?_⟩
   obtain ⟨d1,s1,b1,z1,c1⟩:=i
   simp only at h ⊢
   split at h
   ·exact h
   ·split at h
    ·rename_i hg;simp only [hm _ _ hg];exact h
    ·cases h
   ·cases h
  ·simp only [Option.bind_eq_bind,Option.bind_eq_some_iff] at h ⊢
   obtain ⟨i,hi,a,ha,h⟩:=h
   refine ⟨i,hi,a,ha,?_⟩
   obtain ⟨d1,s1,b1,z1,c1⟩:=i
   simp only at h ⊢
   split at h
   ·split at h
    ·rename_i hg;simp only [hm _ _ hg];exact h
    ·cases h
   ·cases h
  ·cases h
 all_goals (simp only [aread] at h;cases h)
theorem aval_mono {T:Tab} {ev:Operand→Option Value} {H H':Heap} (hm:∀ b o,H.get b=some o→H'.get b=some o) {op:Op} {v:Value} (h:aval T ev H op=some v):aval T ev H' op=some v:=by
 unfold aval at h ⊢
 cases hp:apure T ev op with
 | some u=>rw [hp] at h;exact h
 | none=>rw [hp] at h;exact aread_mono hm h
theorem aval_pure {T:Tab} {ev:Operand→Option Value} {H:Heap} {op:Op} {v:Value} (hr:isRead op=false) (h:aval T ev H op=some v) (H':Heap):aval T ev H' op=some v:=by
 unfold aval at h ⊢
 cases hp:apure T ev op with
 | some u=>rw [hp] at h;exact h
 | none =>
  rw [hp] at h
  have:aread T ev H op=none:=by cases op<;>first|rfl|(simp [isRead] at hr;done)
  simp only [this] at h
  cases h
theorem bytes_eq {a b:ByteArray} (h:(a==b)=true):a=b:=by
 rw [beq_toListBytes,ByteArray.toList_eq,ByteArray.toList_eq] at h
 have:=eq_of_beq h
 cases a;cases b
 simp only [Array.toList_inj] at this
 rw [this]
theorem veq1_eq {a b:Value} (h:veq1 a b=true):a=b:=by
 unfold veq1 at h
 split at h<;>first|(rw [bytes_eq h];done)|(simp_all [Array.size_eq_zero_iff];done)
theorem veqL_eq:∀ {x y:List Value},veqL x y=true→x=y
 | [],[],_=>rfl
 | [],_::_,h=>by simp [veqL] at h
 | _::_,[],h=>by simp [veqL] at h
 | a::x,b::y,h=>by
  simp only [veqL,Bool.and_eq_true] at h
  rw [veq1_eq h.1,veqL_eq h.2]
theorem veq_eq {a b:Value} (h:veq a b=true):a=b:=by
 unfold veq at h
 split at h
 ·rw [Array.toList_inj.1 (veqL_eq h)]
 ·rw [Array.toList_inj.1 (veqL_eq h)]
 ·simp only [Bool.and_eq_true,beq_iff_eq] at h
  rw [h.1.1,Array.toList_inj.1 (veqL_eq h.1.2),Array.toList_inj.1 (veqL_eq h.2)]
 ·exact veq1_eq h
end Go.Ev
namespace Go.Ev
def dstOf (ops:Array Oper) (i:Nat):Option Tmp:=(ops[i]?).bind (·.dst)
def clo (ops:Array Oper) (i j:Nat):Prop:=((masks ops).getD i 0).testBit j=true
theorem dsts_spec {size:Nat}:∀ {l:List Oper},dstsOK size l=true→(∀ (i:Nat) o d,l[i]?=some o→o.dst=some d→d < size) ∧
  (∀ (i j:Nat) o p d,l[i]?=some o→l[j]?=some p→o.dst=some d→p.dst=some d→i=j)
 | [],_=>⟨fun i o d h=>by simp at h,fun i j o p d h=>by simp at h⟩
 | o::r,h=>by
  simp only [dstsOK,Bool.and_eq_true] at h
  obtain ⟨h1,h2⟩:=h
  obtain ⟨i1,i2⟩:=dsts_spec h2
  refine ⟨fun i p d hp hd=>?_,fun i j p q d hp hq hd hd'=>?_⟩
  ·cases i with
   | zero=>simp at hp;subst hp;rw [hd] at h1;simp only [Bool.and_eq_true,decide_eq_true_eq] at h1;exact h1.1
   | succ i=>exact i1 i p d (by simpa using hp) hd
  ·have key:∀ (j:Nat) (q:Oper) d,r[j]?=some q→q.dst=some d→o.dst=some d→False:=by
    intro j q d hq hd' hd
    rw [hd] at h1
    simp only [Bool.and_eq_true,List.all_eq_true] at h1
    have:=h1.2 q (List.mem_of_getElem? hq)
    rw [hd'] at this
    simp at this
   cases i with
   | zero =>
    simp at hp;subst hp
    cases j with
    | zero=>rfl
    | succ j=>exact (key j q d (by simpa using hq) hd' hd).elim
   | succ i =>
    cases j with
    | zero=>simp at hq;subst hq;exact (key i p d (by simpa using hp) hd hd').elim
    | succ j=>rw [i2 i j p q d (by simpa using hp) (by simpa using hq) hd hd']
theorem dst_uniq {ops:Array Oper} {size:Nat} (h:dstsOK size ops.toList=true) {i j:Nat} {t:Tmp} (hi:dstOf ops i=some t) (hj:dstOf ops j=some t):i=j:=by
 simp only [dstOf,Option.bind_eq_some_iff] at hi hj
 obtain ⟨o,ho,hd⟩:=hi
 obtain ⟨p,hp,hd'⟩:=hj
 exact (dsts_spec h).2 i j o p t (by simpa using ho) (by simpa using hp) hd hd'
theorem dst_lt {ops:Array Oper} {size:Nat} (h:dstsOK size ops.toList=true) {i:Nat} {t:Tmp} (hi:dstOf ops i=some t):t < size:=by
 simp only [dstOf,Option.bind_eq_some_iff] at hi
 obtain ⟨o,ho,hd⟩:=hi
 exact (dsts_spec h).1 i o t (by simpa using ho) hd
theorem names_spec {ops:Array Oper} (h:namesOK ops (masks ops)=true) {i j:Nat} {o:Oper} {t:Tmp} (ho:ops[i]?=some o) (ht:t∈looks ops o) (hj:dstOf ops j=some t):i=j∨clo ops i j∨clo ops j i:=by
 have hi:i < ops.size:=by
  rcases Nat.lt_or_ge i ops.size with h|h
  ·exact h
  ·rw [Array.getElem?_eq_none h] at ho;cases ho
 simp only [dstOf,Option.bind_eq_some_iff] at hj
 obtain ⟨p,hp,hd⟩:=hj
 have hjl:j < ops.size:=by
  rcases Nat.lt_or_ge j ops.size with h|h
  ·exact h
  ·rw [Array.getElem?_eq_none h] at hp;cases hp
 unfold namesOK at h
 simp only [List.all_eq_true,List.mem_range] at h
 have h1:=h i hi
 rw [ho] at h1
 simp only [List.all_eq_true,List.mem_range] at h1
 have h2:=h1 t ht j hjl
 rw [hp] at h2
 simp only [hd,bne_self_eq_false,Bool.false_or,Bool.or_eq_true,beq_iff_eq] at h2
 rcases h2 with (h2|h2)|h2
 ·exact .inl h2
 ·exact .inr (.inl h2)
 ·exact .inr (.inr h2)
theorem operand_looks {ops:Array Oper} {o:Oper} {t:Tmp} (h:Operand.tmp t∈o.op.operands):t∈looks ops o:=by
 unfold looks tmpsOf
 refine List.mem_append_left _ (List.mem_filterMap.2 ⟨.tmp t,by simpa using h,rfl⟩)
theorem guard_looks {ops:Array Oper} {o:Oper} {g:Nat} {b:Bool} {d:Tmp} (h:o.guard=some (g,b)) (hd:dstOf ops g=some d):d∈looks ops o:=by
 unfold looks
 refine List.mem_append_right _ ?_
 rw [h]
 simp only [dstOf] at hd
 simp [hd]
theorem cput_get {env:Env} {d:Option Tmp} {v:Value} {t:Nat}:(cput env d v).getD t undef=if d=some t∧t < env.size then v else env.getD t undef:=by
 cases d with
 | none=>simp [cput]
 | some d =>
  simp only [cput,Array.getD_eq_getD_getElem?,Array.getElem?_setIfInBounds,Option.some.injEq]
  by_cases e:d=t
  ·subst e
   by_cases h:d < env.size<;>simp [h]
  ·simp [e]
theorem cput_size {env:Env} {d:Option Tmp} {v:Value}:(cput env d v).size=env.size:=by cases d<;>simp [cput]
theorem wanted_same {ρ:Ren} {ops:Array Oper} {o:Oper} {ex:Env} {ct:Array Value} (hs:ex.size=ct.size) (h:∀ t∈looks ops o,VRel ρ (ex.getD t undef) (ct.getD t undef)):Region.wanted o (yielded ops ct)=Region.wanted o (yielded ops ex):=by
 unfold Region.wanted
 cases hg:o.guard with
 | none=>rfl
 | some gb =>
  obtain ⟨g,b⟩:=gb
  simp only
  congr 1
  unfold yielded
  cases hd:(ops[g]?).bind (·.dst) with
  | none=>rfl
  | some d =>
   simp only [Option.bind_some]
   have r:=h d (guard_looks hg hd)
   by_cases hl:d < ex.size
   ·have hl':d < ct.size:=by rw [←hs];exact hl
    simp only [Array.getD_eq_getD_getElem?,Array.getElem?_eq_getElem hl,Array.getElem?_eq_getElem hl',Option.getD_some] at r
    rw [Array.getElem?_eq_getElem hl,Array.getElem?_eq_getElem hl']
    generalize ex[d]=a at r
    generalize ct[d]=c at r
    cases r<;>rfl
   ·have q1:ex[d]?=none:=Array.getElem?_eq_none_iff.2 (Nat.le_of_not_lt hl)
    have q2:ct[d]?=none:=Array.getElem?_eq_none_iff.2 (hs▸Nat.le_of_not_lt hl)
    rw [q1,q2]
theorem opRel_of_looks {ρ:Ren} {ops:Array Oper} {o:Oper} {ex:Env} {ct:Array Value} (h:∀ t∈looks ops o,VRel ρ (ex.getD t undef) (ct.getD t undef)):OpRel ρ o.op ex ct:=by
 intro x hx v hv
 cases x with
 | tmp t=>simp only [evOp,Option.some.injEq] at hv;subst hv;exact h t (operand_looks hx)
 | const c =>
  simp only [evOp] at hv
  split at hv
  ·cases hv;rename_i hc;exact .const ρ hc
  ·cases hv
 | global g=>cases hv
 | func f=>simp only [evOp,Option.some.injEq] at hv;subst hv;exact .func _ _ _ _ _ _ (.func f) rfl rfl (fun i=>by simpa using VRel.undef ρ) (fun i=>by simpa using VRel.undef ρ)
structure LateFact (T : Tab) (ops : Array Oper) (env0 : Env) (H0 : Heap) (x : Nat) (ex : Env) (pos : Nat → Nat) (id : Nat) (seen : Nat) (env : Env) (H : Heap) (ps : List Pend) (ρ : Ren) : Prop where
  size : ex.size = env0.size
  a : ∀ y t, seen.testBit y = true → pos y < pos x → dstOf ops y = some t → ex.getD t undef = env.getD t undef
  b : ∀ t, (∀ y, seen.testBit y = true → dstOf ops y = some t → ¬ pos y < pos x) → ex.getD t undef = env0.getD t undef
  what : ∀ o, ops[x]? = some o →
    (Region.wanted o (yielded ops ex) = false ∧ ∀ d, o.dst = some d → env.getD d undef = undef) ∨
    (Region.wanted o (yielded ops ex) = true ∧
      ((okind T o.op = .V ∧ ∃ v, aval T (evOp ex) H o.op = some v ∧ (∀ d, o.dst = some d → env.getD d undef = v) ∧ (isRead o.op = true → (⟨x, ex, v⟩ : Pend) ∈ ps)) ∨
       (okind T o.op = .A ∧ ∃ ob f, aalloc T (evOp ex) o.op = some (ob, f) ∧ H.get id = some ob ∧ ρ id = none ∧ H0.next ≤ id ∧ id < H.next ∧ (∀ d, o.dst = some d → env.getD d undef = f id))))
def PlanX (T:Tab) (ops:Array Oper) (XY:Nat→Nat→Prop) (l:List Nat) (seen:Nat):Prop :=
 ∃ ms':List Nat,(∀ i j,clo ops i j→(ms'.getD i 0).testBit j=true)∧(∀ i j,(ms'.getD i 0).testBit j=true→clo ops i j∨XY i j)∧planOK T ops ms' l seen=true
theorem PlanX.of {T:Tab} {ops:Array Oper} {XY:Nat→Nat→Prop} {l:List Nat} {seen:Nat} (h:planOK T ops (masks ops) l seen=true):PlanX T ops XY l seen:=⟨_,fun _ _ h=>h,fun _ _ h=>.inl h,h⟩
structure Inv (T:Tab) (C:CallSem) (ops:Array Oper) (XY:Nat→Nat→Prop) (env0:Env) (H0:Heap) (ρ0:Ren) (w0:World) (envF:Env) (HF:Heap)
  (pos:Nat→Nat) (pm:Nat) (E:Nat→Env) (idf:Nat→Nat) (Lr:List Nat) (seen:Nat) (env:Env) (H:Heap) (ps:List Pend) (ρ:Ren) (w:World) (ct:Array Value) (li:Nat→Bool):Prop where
 plan:PlanX T ops XY Lr seen
 run:evalDraw T C ops (masks ops) Lr env H ps=some (envF,HF)
 sz:env.size=env0.size
 csz:ct.size=env0.size
 sb:∀ y,seen.testBit y=true→y < ops.size
 lsub:∀ j,li j=true→seen.testBit j=true
 lcl:∀ j o,li j=true→ops[j]?=some o→∀ e∈o.after.toList,Region.binds .any e=true→li e.on=true
 scl:∀ y z,seen.testBit y=true→clo ops y z→seen.testBit z=true∧pos z < pos y
 pmx:∀ y,seen.testBit y=true→pos y < pm
 unw:∀ t,(∀ y,seen.testBit y=true→dstOf ops y≠some t)→env.getD t undef=env0.getD t undef
 slotA:∀ t,(∀ x,seen.testBit x=true→li x=false→dstOf ops x≠some t)→VRel ρ (env.getD t undef) (ct.getD t undef)
 slotB:∀ x t,seen.testBit x=true→li x=false→dstOf ops x=some t→VRel ρ (env0.getD t undef) (ct.getD t undef)
 late:∀ x,seen.testBit x=true→li x=false→LateFact T ops env0 H0 x (E x) pos (idf x) seen env H ps ρ
 ids:∀ x y o o',seen.testBit x=true→li x=false→seen.testBit y=true→li y=false→ops[x]?=some o→ops[y]?=some o'→okind T o.op=.A→okind T o'.op=.A →
  Region.wanted o (yielded ops (E x))=true→Region.wanted o' (yielded ops (E y))=true→idf x=idf y→x=y
 rel:Rel ρ H w
 stp:Stp ρ0 H0 w0 ρ H w
section
variable {P:Program} {T:Tab} (tok:TabOK P T) {C:CallSem} (hC:CSound P C) {ops:Array Oper} {XY:Nat→Nat→Prop} {env0:Env} {H0:Heap} {ρ0:Ren} {w0:World} {envF:Env} {HF:Heap}
 (hds:dstsOK env0.size ops.toList=true) (hnm:namesOK ops (masks ops)=true) (hpl:ops.all (fun o=>plainOp o.op)=true)
theorem clo_listed {li:Nat→Bool} (lcl:∀ j o,li j=true→ops[j]?=some o→∀ e∈o.after.toList,Region.binds .any e=true→li e.on=true) {i:Nat} {o:Oper} (ho:ops[i]?=some o)
  (hr:∀ e∈o.after.toList,Region.binds .any e=true→li e.on=true):∀ {j:Nat},clo ops i j→li j=true:=by
 have key:∀ (n i:Nat),i=n→∀ o,ops[i]?=some o→(∀ e∈o.after.toList,Region.binds .any e=true→li e.on=true)→∀ j,clo ops i j→li j=true:=by
  intro n
  induction n using Nat.strongRecOn with
  | _ n ih =>
   intro i hi o ho hr j hj
   obtain ⟨e,e1,e2,e3⟩:=masks_spec ops ho hj
   have hl:=hr e e1 e2
   rcases e3 with rfl|⟨e3,e4⟩
   ·exact hl
   ·cases hp:ops[e.on]? with
    | none =>
     exfalso
     have:ops.size≤e.on:=by rw [Array.getElem?_eq_none_iff] at hp;exact hp
     have hsz:i < ops.size:=by
      rcases Nat.lt_or_ge i ops.size with h|h
      ·exact h
      ·rw [Array.getElem?_eq_none h] at ho;cases ho
     omega
    | some p=>exact ih e.on (by omega) e.on rfl p hp (lcl e.on p hl hp) j e4
 exact fun {j} hj=>key i i rfl o ho hr j hj
include hds hnm in
theorem Inv.looksLate {pos pm E idf Lr seen env H ps ρ w ct li} (I:Inv T C ops XY env0 H0 ρ0 w0 envF HF pos pm E idf Lr seen env H ps ρ w ct li) {x:Nat} {o:Oper} (ho:ops[x]?=some o) (hs:seen.testBit x=true) (hx:li x=false)
  (hr:∀ e∈o.after.toList,Region.binds .any e=true→li e.on=true):∀ t∈looks ops o,VRel ρ ((E x).getD t undef) (ct.getD t undef):=by
 intro t ht
 have L:=I.late x hs hx
 by_cases hw:∃ y,dstOf ops y=some t
 ·obtain ⟨y,hy⟩:=hw
  have uq:∀ z,dstOf ops z=some t→z=y:=fun z hz=>dst_uniq hds hz hy
  rcases names_spec hnm ho ht hy with rfl|hxy|hyx
  ·rw [L.b t (fun z hz hd hp=>by rw [uq z hd] at hp;omega)]
   exact I.slotB x t hs hx hy
  ·have hly:=clo_listed I.lcl ho hr hxy
   obtain ⟨s1,s2⟩:=I.scl x y hs hxy
   rw [L.a y t s1 s2 hy]
   exact I.slotA t (fun z hz hl hd=>by rw [uq z hd,hly] at hl;cases hl)
  ·-- y hangs on x
   have hnl:li y=false:=by
    cases hl:li y with
    | false=>rfl
    | true =>
     exfalso
     cases hp:ops[y]? with
     | none=>simp [dstOf,hp] at hy
     | some p =>
      have:=clo_listed I.lcl hp (I.lcl y p hl hp) hyx
      rw [hx] at this;cases this
   by_cases hsy:seen.testBit y=true
   ·obtain ⟨_,s2⟩:=I.scl y x hsy hyx
    rw [L.b t (fun z hz hd hp=>by rw [uq z hd] at hp;omega)]
    exact I.slotB y t hsy hnl hy
   ·rw [L.b t (fun z hz hd hp=>by rw [uq z hd] at hz;exact hsy hz)]
    rw [←I.unw t (fun z hz hd=>by rw [uq z hd] at hz;exact hsy hz)]
    exact I.slotA t (fun z hz hl hd=>by rw [uq z hd] at hz;exact hsy hz)
 ·have no:∀ z,dstOf ops z≠some t:=fun z hz=>hw ⟨z,hz⟩
  rw [L.b t (fun z _ hd=>absurd hd (no z)),←I.unw t (fun z _=>no z)]
  exact I.slotA t (fun z _ _=>no z)
include hds hnm in
theorem Inv.looksHead {pos pm E idf Lr seen env H ps ρ w ct li} (I:Inv T C ops XY env0 H0 ρ0 w0 envF HF pos pm E idf Lr seen env H ps ρ w ct li) {x:Nat} {o:Oper} (ho:ops[x]?=some o) (hs:seen.testBit x=false)
  (hr:∀ e∈o.after.toList,Region.binds .any e=true→li e.on=true):∀ t∈looks ops o,VRel ρ (env.getD t undef) (ct.getD t undef):=by
 intro t ht
 refine I.slotA t fun z hz hl hd=>?_
 rcases names_spec hnm ho ht hd with rfl|hxy|hyx
 ·rw [hs] at hz;cases hz
 ·have:=clo_listed I.lcl ho hr hxy
  rw [hl] at this;cases this
 ·have:=(I.scl z x hz hyx).1
  rw [hs] at this;cases this
theorem plan_cons {ms:List Nat} {i:Nat} {r:List Nat} {seen:Nat} (h:planOK T ops ms (i::r) seen=true):∃ o,ops[i]?=some o∧seen.testBit i=false∧(∀ j,(ms.getD i 0).testBit j=true→seen.testBit j=true) ∧
  (okind T o.op=.E→∀ j∈r,(ms.getD j 0).testBit i=true)∧planOK T ops ms r (seen ||| 2 ^ i)=true:=by
 simp only [planOK] at h
 split at h
 ·cases h
 ·rename_i o ho
  simp only [Bool.and_eq_true,Bool.not_eq_true',beq_iff_eq,Bool.or_eq_true,bne_iff_ne,ne_eq,List.all_eq_true] at h
  obtain ⟨⟨⟨h1,h2⟩,h3⟩,h4⟩:=h
  refine ⟨o,ho,h1,fun j hj=>?_,fun hE j hj=>?_,h4⟩
  ·rw [←h2,Nat.testBit_and,Bool.and_eq_true] at hj
   exact hj.2
  ·rcases h3 with h3|h3
   ·exact absurd hE h3
   ·exact h3 j hj
theorem planX_cons {XY:Nat→Nat→Prop} {i:Nat} {r:List Nat} {seen:Nat} (h:PlanX T ops XY (i::r) seen):∃ o,ops[i]?=some o∧seen.testBit i=false∧(∀ j,clo ops i j→seen.testBit j=true) ∧
  (okind T o.op=.E→∀ j∈r,clo ops j i∨XY j i)∧PlanX T ops XY r (seen ||| 2 ^ i):=by
 obtain ⟨ms',h1,h2,h3⟩:=h
 obtain ⟨o,q1,q2,q3,q4,q5⟩:=plan_cons h3
 exact ⟨o,q1,q2,fun j hj=>q3 j (h1 i j hj),fun hE j hj=>h2 j i (q4 hE j hj),ms',h1,h2,q5⟩
theorem bit_or {seen i j:Nat}:(seen ||| 2 ^ i).testBit j=true↔seen.testBit j=true∨j=i:=by
 rw [Nat.testBit_or,Nat.testBit_two_pow,Bool.or_eq_true]
 constructor
 ·rintro (h|h)
  ·exact .inl h
  ·right;simp at h;exact h.symm
 ·rintro (h|h)
  ·exact .inl h
  ·right;simp [h]
end
end Go.Ev
namespace Go.Ev
section
variable {P:Program} {T:Tab} (tok:TabOK P T) {C:CallSem} (hC:CSound P C) {ops:Array Oper} {XY:Nat→Nat→Prop} {env0:Env} {H0:Heap} {ρ0:Ren} {w0:World} {envF:Env} {HF:Heap}
 (hds:dstsOK env0.size ops.toList=true) (hnm:namesOK ops (masks ops)=true) (hpl:ops.all (fun o=>plainOp o.op)=true)
theorem Inv.absorb_of {pos : Nat → Nat} {pm : Nat} {E : Nat → Env} {idf : Nat → Nat} {i : Nat} {r : List Nat} {seen : Nat} {env : Env} {H : Heap} {ps : List Pend} {ρ : Ren} {w : World} {ct : Array Value} {li : Nat → Bool}
    (hds : dstsOK env0.size ops.toList = true)
    (I : Inv T C ops XY env0 H0 ρ0 w0 envF HF pos pm E idf (i :: r) seen env H ps ρ w ct li) {o : Oper} (ho : ops[i]? = some o) {v : Value} {H' : Heap} {ps' : List Pend} {id : Nat}
    (hrun : evalDraw T C ops (masks ops) r (cput env o.dst v) H' ps' = some (envF, HF))
    (hm : ∀ b x, H.get b = some x → H'.get b = some x) (hps : ∀ p ∈ ps, p ∈ ps') (hnx : H.next ≤ H'.next)
    (hrel : Rel ρ H' w) (hstp : Stp ρ0 H0 w0 ρ H' w)
    (hwhat : (Region.wanted o (yielded ops env) = false ∧ v = undef) ∨ (Region.wanted o (yielded ops env) = true ∧
      ((okind T o.op = .V ∧ aval T (evOp env) H' o.op = some v ∧ (isRead o.op = true → (⟨i, env, v⟩ : Pend) ∈ ps')) ∨
       (okind T o.op = .A ∧ ∃ ob f, aalloc T (evOp env) o.op = some (ob, f) ∧ H'.get id = some ob ∧ id = H.next ∧ id < H'.next ∧ v = f id)))) :
    Inv T C ops XY env0 H0 ρ0 w0 envF HF (fun y => if y = i then pm else pos y) (pm + 1) (fun y => if y = i then env else E y) (fun y => if y = i then id else idf y) r (seen ||| 2 ^ i) (cput env o.dst v) H' ps' ρ w ct li := by
  obtain ⟨o', ho', p1, p2, p3, p4⟩ := planX_cons I.plan
  rw [ho] at ho'; cases ho'
  have hli : li i = false := by
    cases h : li i with
    | false => rfl
    | true => have := I.lsub i h; rw [p1] at this; cases this
  have hne : ∀ y, seen.testBit y = true → y ≠ i := fun y h e => by subst e; rw [p1] at h; cases h
  have dsti : dstOf ops i = o.dst := by simp [dstOf, ho]
  have envne : ∀ t, o.dst ≠ some t → (cput env o.dst v).getD t undef = env.getD t undef := fun t h => by rw [cput_get, if_neg (fun q => h q.1)]
  have enveq : ∀ t, o.dst = some t → (cput env o.dst v).getD t undef = v := fun t h => by
    have hlt : t < env.size := by have := dst_lt hds (i := i) (t := t) (by rw [dsti]; exact h); rw [I.sz]; exact this
    rw [cput_get, if_pos ⟨h, hlt⟩]
  have uq : ∀ y t, seen.testBit y = true → dstOf ops y = some t → o.dst ≠ some t := fun y t hy hd e => hne y hy (dst_uniq hds hd (by rw [dsti]; exact e))
  refine { plan := p4, run := hrun, sz := by rw [cput_size]; exact I.sz, csz := I.csz, sb := ?_, lsub := ?_, lcl := I.lcl, scl := ?_, pmx := ?_, unw := ?_, slotA := ?_, slotB := ?_, late := ?_, ids := ?_, rel := hrel, stp := hstp }
  · intro y hy
    rcases bit_or.1 hy with h | rfl
    · exact I.sb y h
    · rcases Nat.lt_or_ge y ops.size with h | h
      · exact h
      · simp [Array.getElem?_eq_none h] at ho
  · intro j hj; exact bit_or.2 (.inl (I.lsub j hj))
  · intro y z hy hz
    rcases bit_or.1 hy with h | rfl
    · obtain ⟨s1, s2⟩ := I.scl y z h hz
      refine ⟨bit_or.2 (.inl s1), ?_⟩
      simp only [if_neg (hne y h), if_neg (hne z s1)]; exact s2
    · have s1 := p2 z hz
      refine ⟨bit_or.2 (.inl s1), ?_⟩
      simp only [if_neg (hne z s1), if_true]; exact I.pmx z s1
  · intro y hy
    rcases bit_or.1 hy with h | rfl
    · simp only [if_neg (hne y h)]; have := I.pmx y h; omega
    · simp
  · intro t ht
    have h1 : o.dst ≠ some t := by rw [← dsti]; exact ht i (bit_or.2 (.inr rfl))
    rw [envne t h1]
    exact I.unw t fun y hy => ht y (bit_or.2 (.inl hy))
  · intro t ht
    have h1 : o.dst ≠ some t := by rw [← dsti]; exact ht i (bit_or.2 (.inr rfl)) hli
    rw [envne t h1]
    exact I.slotA t fun y hy hl => ht y (bit_or.2 (.inl hy)) hl
  · intro x t hx hl hd
    rcases bit_or.1 hx with h | rfl
    · exact I.slotB x t h hl hd
    · rw [dsti] at hd
      rw [← I.unw t (fun y hy hd' => uq y t hy hd' hd)]
      exact I.slotA t (fun y hy _ hd' => uq y t hy hd' hd)
  · intro x hx hl
    rcases bit_or.1 hx with h | rfl
    · have L := I.late x h hl
      simp only [if_neg (hne x h)]
      refine ⟨L.size, fun y t hy hp hd => ?_, fun t ht => L.b t fun y hy hd hp => ?_, fun q hq => ?_⟩
      · rcases bit_or.1 hy with hy | rfl
        · simp only [if_neg (hne y hy), if_neg (hne x h)] at hp
          rw [envne t (uq y t hy hd)]
          exact L.a y t hy hp hd
        · simp only [if_true, if_neg (hne x h)] at hp
          have := I.pmx x h; omega
      · have := ht y (bit_or.2 (.inl hy)) hd
        simp only [if_neg (hne y hy), if_neg (hne x h)] at this
        exact this hp
      · have dx : ∀ d, q.dst = some d → o.dst ≠ some d := fun d hd => uq x d h (by simp [dstOf, hq, hd])
        rcases L.what q hq with ⟨a1, a2⟩ | ⟨a1, a2⟩
        · exact .inl ⟨a1, fun d hd => by rw [envne d (dx d hd)]; exact a2 d hd⟩
        · refine .inr ⟨a1, ?_⟩
          rcases a2 with ⟨b1, u, b2, b3, b4⟩ | ⟨b1, ob, f, b2, b3, b4, b5, b6, b7⟩
          · exact .inl ⟨b1, u, aval_mono hm b2, fun d hd => by rw [envne d (dx d hd)]; exact b3 d hd, fun hr => hps _ (b4 hr)⟩
          · exact .inr ⟨b1, ob, f, b2, hm _ _ b3, b4, b5, by omega, fun d hd => by rw [envne d (dx d hd)]; exact b7 d hd⟩
    · simp only [if_true]
      refine ⟨I.sz, fun y t hy hp hd => ?_, fun t ht => ?_, fun q hq => ?_⟩
      · rcases bit_or.1 hy with hy | rfl
        · rw [envne t (uq y t hy hd)]
        · simp at hp
      · exact I.unw t fun y hy hd => by
          have := ht y (bit_or.2 (.inl hy)) hd
          simp only [if_neg (hne y hy)] at this
          exact this (I.pmx y hy)
      · rw [ho] at hq; cases hq
        rcases hwhat with ⟨a1, rfl⟩ | ⟨a1, a2⟩
        · exact .inl ⟨a1, fun d hd => enveq d hd⟩
        · refine .inr ⟨a1, ?_⟩
          rcases a2 with ⟨b1, b2, b3⟩ | ⟨b1, ob, f, b2, b3, b4, b5, rfl⟩
          · exact .inl ⟨b1, v, b2, fun d hd => enveq d hd, b3⟩
          · refine .inr ⟨b1, ob, f, b2, b3, ?_, ?_, b5, fun d hd => enveq d hd⟩
            · rw [b4]; exact I.rel.fresh (Nat.le_refl _)
            · rw [b4]; exact I.stp.next
  · intro x y q q' hx hlx hy hly hq hq' hk hk' hw hw' he
    have idlt : ∀ z (p : Oper), seen.testBit z = true → li z = false → ops[z]? = some p → okind T p.op = .A → Region.wanted p (yielded ops (E z)) = true → idf z < H.next := by
      intro z p hz hlz hp hkz hwz
      rcases (I.late z hz hlz).what p hp with ⟨a1, _⟩ | ⟨_, ⟨b1, _⟩ | ⟨b1, ob, f, b2, b3, b4, b5, b6, b7⟩⟩
      · rw [hwz] at a1; cases a1
      · rw [hkz] at b1; cases b1
      · exact b6
    rcases bit_or.1 hx with h | hxi <;> rcases bit_or.1 hy with h' | hyi
    · simp only [if_neg (hne x h), if_neg (hne y h')] at hw hw' he
      exact I.ids x y q q' h hlx h' hly hq hq' hk hk' hw hw' he
    · subst hyi
      simp only [if_neg (hne x h), if_true] at hw hw' he
      have := idlt x q h hlx hq hk hw
      rw [ho] at hq'; cases hq'
      rcases hwhat with ⟨a1, _⟩ | ⟨_, ⟨b1, _⟩ | ⟨_, _, _, _, _, b4, _⟩⟩
      · rw [hw'] at a1; cases a1
      · rw [hk'] at b1; cases b1
      · omega
    · subst hxi
      simp only [if_neg (hne y h'), if_true] at hw hw' he
      have := idlt y q' h' hly hq' hk' hw'
      rw [ho] at hq; cases hq
      rcases hwhat with ⟨a1, _⟩ | ⟨_, ⟨b1, _⟩ | ⟨_, _, _, _, _, b4, _⟩⟩
      · rw [hw] at a1; cases a1
      · rw [hk] at b1; cases b1
      · omega
    · rw [hxi, hyi]
theorem Inv.absorb (hds:dstsOK env0.size ops.toList=true):∀ (Lr:List Nat) {pos pm E idf seen env H ps ρ w ct li},Inv T C ops XY env0 H0 ρ0 w0 envF HF pos pm E idf Lr seen env H ps ρ w ct li →
  ∃ pos pm E idf Lr seen env H ps,Inv T C ops XY env0 H0 ρ0 w0 envF HF pos pm E idf Lr seen env H ps ρ w ct li∧(Lr=[]∨∃ i r o,Lr=i::r∧ops[i]?=some o∧Region.wanted o (yielded ops env)=true∧okind T o.op=.E)
 | [],pos,pm,E,idf,seen,env,H,ps,ρ,w,ct,li,I=>⟨pos,pm,E,idf,[],seen,env,H,ps,I,.inl rfl⟩
 | i::r,pos,pm,E,idf,seen,env,H,ps,ρ,w,ct,li,I=>by
  have hrun:=I.run
  simp only [evalDraw] at hrun
  split at hrun
  ·cases hrun
  ·rename_i o ho
   split at hrun
   ·rename_i hw
    split at hrun
    ·rename_i hk
     split at hrun
     ·rename_i v hv
      exact Inv.absorb hds r (Inv.absorb_of (id:=0) hds I ho hrun (fun _ _ h=>h) (fun p hp=>by split<;>simp [hp]) (Nat.le_refl _) I.rel I.stp (.inr ⟨hw,.inl ⟨hk,hv,fun hr=>by simp [hr]⟩⟩))
     ·cases hrun
    ·rename_i hk
     split at hrun
     ·rename_i ob f hv
      have hne:∀ b x,H.get b=some x→(H.push ob).get b=some x:=fun b x h=>by
       rw [Heap.get_push,if_neg]
       ·exact h
       ·intro e
        have:=I.rel.wf b (by omega)
        rw [h] at this;cases this
      exact Inv.absorb hds r (Inv.absorb_of (id:=H.next) hds I ho hrun hne (fun p hp=>hp) (by simp) (I.rel.apush ob) (I.stp.apush I.rel ob) (.inr ⟨hw,.inr ⟨hk,ob,f,hv,Heap.get_push_eq _ _,rfl,by simp,rfl⟩⟩))
     ·cases hrun
    ·rename_i hk
     exact ⟨pos,pm,E,idf,i::r,seen,env,H,ps,I,.inr ⟨i,r,o,rfl,ho,hw,hk⟩⟩
   ·rename_i hw
    exact Inv.absorb hds r (Inv.absorb_of (id:=0) hds I ho hrun (fun _ _ h=>h) (fun p hp=>hp) (Nat.le_refl _) I.rel I.stp (.inl ⟨by simpa using hw,rfl⟩))
end
end Go.Ev
namespace Go.Ev
def lis (li:Nat→Bool) (x:Nat):Nat→Bool:=fun j=>if j=x then true else li j
theorem lis_true {li:Nat→Bool} {x j:Nat} (h:li j=true):lis li x j=true:=by simp [lis,h]
theorem lis_false {li:Nat→Bool} {x j:Nat} (h:lis li x j=false):j≠x∧li j=false:=by
 unfold lis at h
 split at h
 ·cases h
 ·exact ⟨by assumption,h⟩
section
variable {P:Program} {T:Tab} (tok:TabOK P T) {C:CallSem} (hC:CSound P C) {ops:Array Oper} {XY:Nat→Nat→Prop} {env0:Env} {H0:Heap} {ρ0:Ren} {w0:World} {envF:Env} {HF:Heap}
 (hds:dstsOK env0.size ops.toList=true) (hnm:namesOK ops (masks ops)=true) (hpl:ops.all (fun o=>plainOp o.op)=true)
theorem Inv.done_of {pos pm E idf Lr seen env H ps ρ w ct li} (hds:dstsOK env0.size ops.toList=true) (I:Inv T C ops XY env0 H0 ρ0 w0 envF HF pos pm E idf Lr seen env H ps ρ w ct li) {x:Nat} {o:Oper} (ho:ops[x]?=some o) (hs:seen.testBit x=true) (hx:li x=false)
  (hr:∀ e∈o.after.toList,Region.binds .any e=true→li e.on=true) {ρ':Ren} {w':World} {cv:Value} (hle:ρ.le ρ') (hcv:∀ d,o.dst=some d→VRel ρ' (env.getD d undef) cv) (hrel:Rel ρ' H w') (hstp:Stp ρ0 H0 w0 ρ' H w')
  (hnone:∀ y q,seen.testBit y=true→li y=false→y≠x→ops[y]?=some q→okind T q.op=.A→Region.wanted q (yielded ops (E y))=true→ρ (idf y)=none→ρ' (idf y)=none) :
  Inv T C ops XY env0 H0 ρ0 w0 envF HF pos pm E idf Lr seen env H ps ρ' w' (cput ct o.dst cv) (lis li x):=by
 have dstx:dstOf ops x=o.dst:=by simp [dstOf,ho]
 have ctne:∀ t,o.dst≠some t→(cput ct o.dst cv).getD t undef=ct.getD t undef:=fun t h=>by rw [cput_get,if_neg (fun q=>h q.1)]
 refine { plan:=I.plan,run:=I.run,sz:=I.sz,csz:=by rw [cput_size];exact I.csz,sb:=I.sb,lsub:=?_,lcl:=?_,scl:=I.scl,pmx:=I.pmx,unw:=I.unw,slotA:=?_,slotB:=?_,late:=?_,ids:=?_,rel:=hrel,stp:=hstp }
 ·intro j hj
  unfold lis at hj
  split at hj
  ·rename_i e;subst e;exact hs
  ·exact I.lsub j hj
 ·intro j q hj hq e he hb
  unfold lis at hj
  split at hj
  ·rename_i e';subst e'
   rw [ho] at hq;cases hq
   exact lis_true (hr e he hb)
  ·exact lis_true (I.lcl j q hj hq e he hb)
 ·intro t ht
  by_cases hd:o.dst=some t
  ·have hlt:t < ct.size:=by have:=dst_lt hds (i:=x) (t:=t) (by rw [dstx];exact hd);rw [I.csz];exact this
   rw [cput_get,if_pos ⟨hd,hlt⟩]
   exact hcv t hd
  ·rw [ctne t hd]
   refine (I.slotA t fun y hy hl hd'=>?_).mono hle
   by_cases e:y=x
   ·subst e;rw [dstx] at hd';exact hd hd'
   ·exact ht y hy (by simp [lis,e,hl]) hd'
 ·intro y t hy hl hd
  obtain ⟨e,hl⟩:=lis_false hl
  rw [ctne t (fun q=>e (dst_uniq hds hd (by rw [dstx];exact q)))]
  exact (I.slotB y t hy hl hd).mono hle
 ·intro y hy hl
  obtain ⟨e,hl⟩:=lis_false hl
  have L:=I.late y hy hl
  refine ⟨L.size,L.a,L.b,fun q hq=>?_⟩
  rcases L.what q hq with a|⟨a1,b|⟨b1,ob,f,b2,b3,b4,b5,b6,b7⟩⟩
  ·exact .inl a
  ·exact .inr ⟨a1,.inl b⟩
  ·exact .inr ⟨a1,.inr ⟨b1,ob,f,b2,b3,hnone y q hy hl e hq b1 a1 b4,b5,b6,b7⟩⟩
 ·intro y z q q' hy hl hz hl' hq hq' hk hk' hw hw' he
  exact I.ids y z q q' hy (lis_false hl).2 hz (lis_false hl').2 hq hq' hk hk' hw hw' he
include tok hC hds hnm hpl in
theorem Inv.lateStep {pos pm E idf Lr seen env H ps ρ w ct li} (I:Inv T C ops XY env0 H0 ρ0 w0 envF HF pos pm E idf Lr seen env H ps ρ w ct li) {x:Nat} {o:Oper} (ho:ops[x]?=some o) (hs:seen.testBit x=true) (hx:li x=false)
  (hr:∀ e∈o.after.toList,Region.binds .any e=true→li e.on=true) (rest:List Nat) :
  ∃ ρ' w' ct',(∀ b ds k cs,Steps P (lone (fat b ct ds (.inRegion ops (x::rest)::k)) cs w) (lone (fat b ct' ds (.inRegion ops rest::k)) cs w')) ∧
   Inv T C ops XY env0 H0 ρ0 w0 envF HF pos pm E idf Lr seen env H ps ρ' w' ct' (lis li x):=by
 have hlk:=I.looksLate hds hnm ho hs hx hr
 have L:=I.late x hs hx
 have hws:=wanted_same (by rw [L.size,I.csz]) hlk
 have hop:=opRel_of_looks hlk
 have hpo:plainOp o.op=true:=Array.all_eq_true_iff_forall_mem.1 hpl o (Array.mem_of_getElem? ho)
 have hnd:=plain_noDefer hpo
 rcases L.what o ho with ⟨a1,a2⟩|⟨a1,⟨b1,v,b2,b3,b4⟩|⟨b1,ob,f,b2,b3,b4,b5,b6,b7⟩⟩
 ·refine ⟨ρ,w,cput ct o.dst undef,fun b ds k cs=>.one (st_opSkip ho (by rw [hws];exact a1)),I.done_of hds ho hs hx hr (Ren.le_refl _) (fun d hd=>by rw [a2 d hd];exact .undef _) I.rel I.stp (fun _ _ _ _ _ _ _ _ h=>h)⟩
 ·have he:=hop.evRel
  have hv:=b2
  rw [aval_congr (onlyOps_eq o.op (evOp (E x)))] at hv
  have:∃ cv,(execOp (cevOf ct) o).run P w=.ok (.value cv) w∧VRel ρ v cv:=by
   unfold aval at hv
   cases hpu:apure T (onlyOps o.op (evOp (E x))) o.op with
   | some u=>rw [hpu] at hv;cases hv;exact pure_sim tok he o hpu w
   | none=>rw [hpu] at hv;exact read_sim tok I.rel he o hv
  obtain ⟨cv,e1,e2⟩:=this
  exact ⟨ρ,w,cput ct o.dst cv,fun b ds k cs=>.one (st_opValue ho (by rw [hws];exact a1) hnd e1),I.done_of hds ho hs hx hr (Ren.le_refl _) (fun d hd=>by rw [b3 d hd];exact e2) I.rel I.stp (fun _ _ _ _ _ _ _ _ h=>h)⟩
 ·have he:=hop.evRel
  have hv:=b2
  rw [(op_congr (T:=T) (H:=H) (onlyOps_eq o.op (evOp (E x)))).2.2.1] at hv
  obtain ⟨cv,w',cob,loc,m1,m2,m3,m4,m5,m6,m7⟩:=alloc_sim tok he o hv w
  have hle:=Ren.le_add loc b4
  obtain ⟨v1,v2⟩:=m7 (ρ.add (idf x) loc) (idf x) hle (Ren.add_eq _ _ _)
  refine ⟨ρ.add (idf x) loc,w',cput ct o.dst cv,fun b ds k cs=>.one (st_opValue ho (by rw [hws];exact a1) hnd m1),I.done_of hds ho hs hx hr hle (fun d hd=>by rw [b7 d hd];exact v1) (I.rel.late b4 b6 b3 m2 m6 v2) (I.stp.late b4 b5 m2 m6 m3 m4 m5) (fun y q hy hl hne hq hk hw h=>?_)⟩
  unfold Ren.add
  rw [if_neg]
  ·exact h
  ·intro e
   exact hne (I.ids y x q o hy hl hs hx hq ho hk b1 hw a1 e)
include tok hC hds hnm hpl in
theorem Inv.headStep {pos:Nat→Nat} {pm:Nat} {E:Nat→Env} {idf:Nat→Nat} {i:Nat} {r:List Nat} {seen:Nat} {env:Env} {H:Heap} {ps:List Pend} {ρ:Ren} {w:World} {ct:Array Value} {li:Nat→Bool}
  (I:Inv T C ops XY env0 H0 ρ0 w0 envF HF pos pm E idf (i::r) seen env H ps ρ w ct li) {o:Oper} (ho:ops[i]?=some o) (hw:Region.wanted o (yielded ops env)=true) (hk:okind T o.op=.E)
  (hr:∀ e∈o.after.toList,Region.binds .any e=true→li e.on=true) (rest:List Nat) :
  ∀ b ds k cs,∃ pos' pm' E' seen' env' H' ps' ρ' w' ct',Steps P (lone (fat b ct ds (.inRegion ops (i::rest)::k)) cs w) (lone (fat b ct' ds (.inRegion ops rest::k)) cs w') ∧
   Inv T C ops XY env0 H0 ρ0 w0 envF HF pos' pm' E' idf r seen' env' H' ps' ρ' w' ct' (lis li i):=by
 obtain ⟨o',ho',p1,p2,p3,p4⟩:=planX_cons I.plan
 rw [ho] at ho';cases ho'
 have hrun:=I.run
 simp only [evalDraw,ho,hw,if_true,hk] at hrun
 split at hrun
 case h_2=>cases hrun
 rename_i v H' hE
 split at hrun
 case isFalse=>cases hrun
 rename_i hag
 have hlk:=I.looksHead hds hnm ho p1 hr
 have hws:=wanted_same (by rw [I.sz,I.csz]) hlk
 have hpo:plainOp o.op=true:=Array.all_eq_true_iff_forall_mem.1 hpl o (Array.mem_of_getElem? ho)
 intro b ds k cs
 obtain ⟨ρ',w',cv,s1,s2,s3,s4⟩:=e_steps tok hC I.rel (opRel_of_looks hlk) hE (rest:=rest) ho (by rw [hws];exact hw) hpo b ds k cs
 have hle:=s3.ren
 have hli:li i=false:=by
  cases h:li i with
  | false=>rfl
  | true=>have:=I.lsub i h;rw [p1] at this;cases this
 have hne:∀ y,seen.testBit y=true→y≠i:=fun y h e=>by subst e;rw [p1] at h;cases h
 have dsti:dstOf ops i=o.dst:=by simp [dstOf,ho]
 have envne:∀ t,o.dst≠some t→(cput env o.dst v).getD t undef=env.getD t undef:=fun t h=>by rw [cput_get,if_neg (fun q=>h q.1)]
 have ctne:∀ t,o.dst≠some t→(cput ct o.dst cv).getD t undef=ct.getD t undef:=fun t h=>by rw [cput_get,if_neg (fun q=>h q.1)]
 have uq:∀ y t,seen.testBit y=true→dstOf ops y=some t→o.dst≠some t:=fun y t hy hd e=>hne y hy (dst_uniq hds hd (by rw [dsti];exact e))
 have old:∀ x,(seen ||| 2 ^ i).testBit x=true→lis li i x=false→seen.testBit x=true∧li x=false∧x≠i:=by
  intro x hx hl
  obtain ⟨e,hl⟩:=lis_false hl
  rcases bit_or.1 hx with h|h
  ·exact ⟨h,hl,e⟩
  ·exact absurd h e
 refine ⟨fun y=>if y=i then pm else pos y,pm+1,E,seen ||| 2 ^ i,cput env o.dst v,H',ps.filter fun p=>!((masks ops).getD i 0).testBit p.i,ρ',w',cput ct o.dst cv,s1,?_⟩
 refine { plan:=p4,run:=hrun,sz:=by rw [cput_size];exact I.sz,csz:=by rw [cput_size];exact I.csz,sb:=?_,lsub:=?_,lcl:=?_,scl:=?_,pmx:=?_,unw:=?_,slotA:=?_,slotB:=?_,late:=?_,ids:=?_,rel:=s4,stp:=I.stp.trans s3 }
 ·intro y hy
  rcases bit_or.1 hy with h|rfl
  ·exact I.sb y h
  ·rcases Nat.lt_or_ge y ops.size with h|h
   ·exact h
   ·simp [Array.getElem?_eq_none h] at ho
 ·intro j hj
  unfold lis at hj
  split at hj
  ·rename_i e;exact bit_or.2 (.inr e)
  ·exact bit_or.2 (.inl (I.lsub j hj))
 ·intro j q hj hq e he hb
  unfold lis at hj
  split at hj
  ·rename_i e';subst e'
   rw [ho] at hq;cases hq
   exact lis_true (hr e he hb)
  ·exact lis_true (I.lcl j q hj hq e he hb)
 ·intro y z hy hz
  rcases bit_or.1 hy with h|rfl
  ·obtain ⟨q1,q2⟩:=I.scl y z h hz
   refine ⟨bit_or.2 (.inl q1),?_⟩
   simp only [if_neg (hne y h),if_neg (hne z q1)];exact q2
  ·have q1:=p2 z hz
   refine ⟨bit_or.2 (.inl q1),?_⟩
   simp only [if_neg (hne z q1),if_true];exact I.pmx z q1
 ·intro y hy
  rcases bit_or.1 hy with h|rfl
  ·simp only [if_neg (hne y h)];have:=I.pmx y h;omega
  ·simp
 ·intro t ht
  have h1:o.dst≠some t:=by rw [←dsti];exact ht i (bit_or.2 (.inr rfl))
  rw [envne t h1]
  exact I.unw t fun y hy=>ht y (bit_or.2 (.inl hy))
 ·intro t ht
  by_cases hd:o.dst=some t
  ·have hlt0:=dst_lt hds (i:=i) (t:=t) (by rw [dsti];exact hd)
   have hlt:t < ct.size:=by rw [I.csz];exact hlt0
   have hlt':t < env.size:=by rw [I.sz];exact hlt0
   rw [cput_get,if_pos ⟨hd,hlt'⟩,cput_get,if_pos ⟨hd,hlt⟩]
   exact s2
  ·rw [envne t hd,ctne t hd]
   refine (I.slotA t fun y hy hl hd'=>?_).mono hle
   exact ht y (bit_or.2 (.inl hy)) (by simp [lis,hne y hy,hl]) hd'
 ·intro x t hx hl hd
  obtain ⟨hx,hl,_⟩:=old x hx hl
  rw [ctne t (uq x t hx hd)]
  exact (I.slotB x t hx hl hd).mono hle
 ·intro x hx0 hl0
  obtain ⟨hx,hl,hxi⟩:=old x hx0 hl0
  have L:=I.late x hx hl
  refine ⟨L.size,fun y t hy hp hd=>?_,fun t ht=>L.b t fun y hy hd hp=>?_,fun q hq=>?_⟩
  ·rcases bit_or.1 hy with hy|rfl
   ·simp only [if_neg (hne y hy),if_neg hxi] at hp
    rw [envne t (uq y t hy hd)]
    exact L.a y t hy hp hd
   ·simp only [if_true,if_neg hxi] at hp
    have:=I.pmx x hx;omega
  ·have:=ht y (bit_or.2 (.inl hy)) hd
   simp only [if_neg (hne y hy),if_neg hxi] at this
   exact this hp
  ·have dx:∀ d,q.dst=some d→o.dst≠some d:=fun d hd=>uq x d hx (by simp [dstOf,hq,hd])
   rcases L.what q hq with ⟨a1,a2⟩|⟨a1,a2⟩
   ·exact .inl ⟨a1,fun d hd=>by rw [envne d (dx d hd)];exact a2 d hd⟩
   ·refine .inr ⟨a1,?_⟩
    rcases a2 with ⟨b1,u,b2,b3,b4⟩|⟨b1,ob,f,b2,b3,b4,b5,b6,b7⟩
    ·have hnot:((masks ops).getD i 0).testBit x=false:=by
      cases hb:((masks ops).getD i 0).testBit x with
      | false=>rfl
      | true=>have:=clo_listed I.lcl ho hr (j:=x) hb;rw [hl] at this;cases this
     have hmem:isRead q.op=true→(⟨x,E x,u⟩:Pend)∈ps.filter fun p=>!((masks ops).getD i 0).testBit p.i:=fun hrd=>List.mem_filter.2 ⟨b4 hrd,by show (!((masks ops).getD i 0).testBit x)=true;rw [hnot];rfl⟩
     have hval:aval T (evOp (E x)) H' q.op=some u:=by
      cases hrd:isRead q.op with
      | false=>exact aval_pure hrd b2 H'
      | true =>
       have:=List.all_eq_true.1 hag _ (hmem hrd)
       unfold again at this
       simp only [hq] at this
       split at this
       ·rename_i u' hu'
        rw [hu',veq_eq this]
       ·cases this
     exact .inl ⟨b1,u,hval,fun d hd=>by rw [envne d (dx d hd)];exact b3 d hd,hmem⟩
    ·have hnn:ρ' (idf x)=none:=by
      cases hn:ρ' (idf x) with
      | none=>rfl
      | some l =>
       rcases s3.new _ _ hn with e|e
       ·rw [b4] at e;cases e
       ·omega
     exact .inr ⟨b1,ob,f,b2,by rw [s3.aframe _ b4 b6];exact b3,hnn,b5,by have:=s3.next;omega,fun d hd=>by rw [envne d (dx d hd)];exact b7 d hd⟩
 ·intro x y q q' hx hlx hy hly hq hq' hkx hky hwx hwy he
  obtain ⟨hx,hlx,_⟩:=old x hx hlx
  obtain ⟨hy,hly,_⟩:=old y hy hly
  exact I.ids x y q q' hx hlx hy hly hq hq' hkx hky hwx hwy he
theorem Inv.progress {pos pm E idf Lr seen env H ps ρ w ct li} (I:Inv T C ops XY env0 H0 ρ0 w0 envF HF pos pm E idf Lr seen env H ps ρ w ct li) {x:Nat} (hs:seen.testBit x=true) (hx:li x=false) :
  ∃ y o,seen.testBit y=true∧li y=false∧ops[y]?=some o∧∀ j,clo ops y j→li j=true:=by
 have key:∀ (n x:Nat),pos x=n→seen.testBit x=true→li x=false→∃ y o,seen.testBit y=true∧li y=false∧ops[y]?=some o∧∀ j,clo ops y j→li j=true:=by
  intro n
  induction n using Nat.strongRecOn with
  | _ n ih =>
   intro x hn hs hx
   by_cases h:∀ j,clo ops x j→li j=true
   ·exact ⟨x,ops[x]'(I.sb x hs),hs,hx,Array.getElem?_eq_getElem _,h⟩
   ·obtain ⟨j,hj⟩:=Classical.not_forall.1 h
    obtain ⟨hj1,hj2⟩:=Classical.not_imp.1 hj
    obtain ⟨q1,q2⟩:=I.scl x j hs hj1
    exact ih (pos j) (by omega) j rfl q1 (by simpa using hj2)
 exact key (pos x) x rfl hs hx
theorem edge_clo {i:Nat} {o:Oper} (ho:ops[i]?=some o) {e:Edge} (he:e∈o.after.toList) (hb:Region.binds .any e=true):clo ops i e.on:=by
 have hi:i < ops.size:=by
  rcases Nat.lt_or_ge i ops.size with h|h
  ·exact h
  ·simp [Array.getElem?_eq_none h] at ho
 obtain ⟨_,_,h3⟩:=masksGo_spec ops.toList [] 0 rfl
 obtain ⟨acc',a1,a2⟩:=h3 i o (by simpa using ho)
 simp only [Nat.zero_add,Array.length_toList] at a1 a2
 unfold clo
 rw [masks_get ops hi,a1]
 generalize o.after.toList=es at he
 induction es with
 | nil=>cases he
 | cons a es ih =>
  simp only [edgeMask,Nat.testBit_or,Bool.or_eq_true]
  rcases List.mem_cons.1 he with rfl|h
  ·left
   rw [if_pos hb]
   simp [Nat.testBit_or,Nat.testBit_two_pow]
  ·exact .inr (ih h)
end
end Go.Ev
namespace Go.Ev
theorem Rel.drewW {ρ:Ren} {H:Heap} {w:World} (R:Rel ρ H w):Rel ρ H { w with drawn:=w.drawn+1 }:=⟨R.wf,R.dom,R.cdom,R.live,R.sep⟩
theorem Stp.drewW (ρ:Ren) (H:Heap) (w:World):Stp ρ H w ρ H { w with drawn:=w.drawn+1 } :=
 ⟨Ren.le_refl _,fun _ _ h=>.inl h,Nat.le_refl _,fun _ _ _=>rfl,Nat.le_refl _,fun _ h=>.inl h,fun _ _ _=>rfl,rfl,rfl,rfl⟩
section
variable {P:Program} {T:Tab} (tok:TabOK P T) {C:CallSem} (hC:CSound P C) {ops:Array Oper} {XY:Nat→Nat→Prop} {env0:Env} {H0:Heap} {ρ0:Ren} {w0:World} {envF:Env} {HF:Heap}
 (hds:dstsOK env0.size ops.toList=true) (hnm:namesOK ops (masks ops)=true) (hpl:ops.all (fun o=>plainOp o.op)=true)
theorem Inv.over {pos pm E idf seen env H ps ρ w ct li} (I:Inv T C ops XY env0 H0 ρ0 w0 envF HF pos pm E idf [] seen env H ps ρ w ct li) (hall:∀ x,seen.testBit x=true→li x=true) :
  ARel ρ envF ct∧Stp ρ0 H0 w0 ρ HF w∧Rel ρ HF w:=by
 have hrun:=I.run
 simp only [evalDraw,Option.some.injEq,Prod.mk.injEq] at hrun
 obtain ⟨rfl,rfl⟩:=hrun
 refine ⟨⟨by rw [I.sz,I.csz],fun t=>I.slotA t fun x hx hl=>?_⟩,I.stp,I.rel⟩
 rw [hall x hx] at hl;cases hl
def liOf (listed:Array Bool):Nat→Bool:=fun j=>listed.getD j false
theorem liOf_set {listed:Array Bool} {i:Nat} (hi:i < listed.size):liOf (listed.setIfInBounds i true)=lis (liOf listed) i:=by
 funext j
 simp only [liOf,lis,Array.getD_eq_getD_getElem?,Array.getElem?_setIfInBounds]
 by_cases e:j=i
 ·subst e;simp [hi]
 ·simp [e,Ne.symm e]
theorem ready_mem {listed:Array Bool} (hl:listed.size=ops.size) {i:Nat}:i∈Region.ready .any ops listed↔∃ o,ops[i]?=some o∧liOf listed i=false∧∀ e∈o.after.toList,Region.binds .any e=true→liOf listed e.on=true:=by
 unfold Region.ready
 simp only [List.mem_filter,List.mem_range,Bool.and_eq_true,Bool.not_eq_true']
 constructor
 ·rintro ⟨h1,h2,h3⟩
  refine ⟨ops[i],Array.getElem?_eq_getElem h1,?_,?_⟩
  ·have:i < listed.size:=by omega
   simp only [liOf,Array.getD_eq_getD_getElem?,Array.getElem?_eq_getElem this,Option.getD_some] at h2 ⊢
   exact h2
  ·rw [Array.getElem?_eq_getElem h1] at h3
   simp only [Option.map_some,Option.getD_some] at h3
   intro e he hb
   have:=Array.all_eq_true_iff_forall_mem.1 h3 e (by simpa using he)
   simp only [hb,Bool.not_true,Bool.false_or] at this
   exact this
 ·rintro ⟨o,ho,h2,h3⟩
  have h1:i < ops.size:=by
   rcases Nat.lt_or_ge i ops.size with h|h
   ·exact h
   ·simp [Array.getElem?_eq_none h] at ho
  refine ⟨h1,?_,?_⟩
  ·have:i < listed.size:=by omega
   simp only [liOf,Array.getD_eq_getD_getElem?,Array.getElem?_eq_getElem this,Option.getD_some] at h2 ⊢
   exact h2
  ·rw [ho]
   simp only [Option.map_some,Option.getD_some]
   refine Array.all_eq_true_iff_forall_mem.2 fun e he=>?_
   cases hb:Region.binds .any e with
   | false=>simp
   | true=>simp only [Bool.not_true,Bool.false_or];exact h3 e (by simpa using he) hb
def unl (ops:Array Oper) (li:Nat→Bool):Nat:=(List.range ops.size).countP fun j=>!li j
theorem unl_lis {li:Nat→Bool} {i:Nat} (hi:i < ops.size) (h:li i=false):unl ops (lis li i)+1=unl ops li:=by
 unfold unl
 have key:∀ (l:List Nat),l.Nodup→i∈l→l.countP (fun j=>!lis li i j)+1=l.countP fun j=>!li j:=by
  intro l
  induction l with
  | nil=>intro _ h;cases h
  | cons a l ih =>
   intro hn hm
   obtain ⟨h1,h2⟩:=List.nodup_cons.1 hn
   rw [List.countP_cons,List.countP_cons]
   rcases List.mem_cons.1 hm with rfl|hm
   ·have:l.countP (fun j=>!lis li i j)=l.countP fun j=>!li j:=by
     refine List.countP_congr fun j hj=>?_
     have:j≠i:=fun e=>h1 (e▸hj)
     simp [lis,this]
    rw [this]
    simp [lis,h]
   ·have hai:a≠i:=fun e=>h1 (e▸hm)
    have:=ih h2 hm
    have e:lis li i a=li a:=by simp [lis,hai]
    rw [e];omega
 exact key _ List.nodup_range (List.mem_range.2 hi)
def BefX (XY:Nat→Nat→Prop) (li:Nat→Bool) (l:List Nat):Prop:=∀ pre y post,l=pre++y::post→∀ x,XY y x→x∈pre∨li x=true
theorem BefX.tail {XY:Nat→Nat→Prop} {li:Nat→Bool} {i:Nat} {l:List Nat} (h:BefX XY li (i::l)):BefX XY (lis li i) l:=by
 intro pre y post e x hxy
 rcases h (i::pre) y post (by rw [e];rfl) x hxy with k|k
 ·rcases List.mem_cons.1 k with rfl|k
  ·right;simp [lis]
  ·exact .inl k
 ·exact .inr (lis_true k)
theorem BefX.none {li:Nat→Bool} {l:List Nat}:BefX (fun _ _=>False) li l:=fun _ _ _ _ _ h=>h.elim
include tok hC hds hnm hpl in
theorem draw_go:∀ (fuel t:Nat) (listed:Array Bool) {pos pm E idf Lr seen env H ps ρ w ct},Inv T C ops XY env0 H0 ρ0 w0 envF HF pos pm E idf Lr seen env H ps ρ w ct (liOf listed)→listed.size=ops.size→unl ops (liOf listed)≤fuel→BefX XY (liOf listed) (Region.linearise.go .any ops fuel t listed []) →
  ∀ b ds k cs,∃ ρ' w' ct',Steps P (lone (fat b ct ds (.inRegion ops (Region.linearise.go .any ops fuel t listed [])::k)) cs w) (lone (fat b ct' ds k) cs w') ∧
   ARel ρ' envF ct'∧Stp ρ0 H0 w0 ρ' HF w'∧Rel ρ' HF w':=by
 intro fuel
 induction fuel with
 | zero =>
  intro t listed pos pm E idf Lr seen env H ps ρ w ct I hls hu hbf b ds k cs
  obtain ⟨pos,pm,E,idf,Lr,seen,env,H,ps,I,hLr⟩:=Inv.absorb hds Lr I
  have all:∀ j,j < ops.size→liOf listed j=true:=by
   intro j hj
   have h0:unl ops (liOf listed)=0:=by omega
   unfold unl at h0
   rw [List.countP_eq_zero] at h0
   have:=h0 j (List.mem_range.2 hj)
   simpa using this
  rcases hLr with rfl|⟨i,r,o,rfl,ho,_,_⟩
  ·obtain ⟨a,b1,c⟩:=I.over fun x hx=>all x (I.sb x hx)
   exact ⟨ρ,w,ct,by simp only [Region.linearise.go,List.reverse_nil];exact .one st_regionEnd,a,b1,c⟩
  ·exfalso
   have hi:i < ops.size:=by
    rcases Nat.lt_or_ge i ops.size with h|h
    ·exact h
    ·simp [Array.getElem?_eq_none h] at ho
   obtain ⟨o',ho',p1,_⟩:=planX_cons I.plan
   have:=I.lsub i (all i hi)
   rw [p1] at this;cases this
 | succ fuel ih =>
  intro t listed pos pm E idf Lr seen env H ps ρ w ct I hls hu hbf b ds k cs
  obtain ⟨pos,pm,E,idf,Lr,seen,env,H,ps,I,hLr⟩:=Inv.absorb hds Lr I
  have hgo:Region.linearise.go .any ops (fuel+1) t listed []=match (Region.ready .any ops listed)[t % (Region.ready .any ops listed).length]? with
    | some i=>i::Region.linearise.go .any ops fuel (t / (Region.ready .any ops listed).length) (listed.setIfInBounds i true) []
    | none=>[]:=by
   simp only [Region.linearise.go]
   change (match (Region.ready .any ops listed)[t % (Region.ready .any ops listed).length]? with
    | some i=>Region.linearise.go .any ops fuel (t / (Region.ready .any ops listed).length) (listed.setIfInBounds i true) [i]
    | none=>[].reverse)=_
   split
   ·rw [linearise_go_acc];rfl
   ·rfl
  rw [hgo] at hbf ⊢
  split
  ·rename_i i hi
   rw [hi] at hbf
   have hmem:=List.mem_of_getElem? hi
   obtain ⟨o,ho,hl,hr⟩:=(ready_mem hls).1 hmem
   have hin:i < ops.size:=by
    rcases Nat.lt_or_ge i ops.size with h|h
    ·exact h
    ·simp [Array.getElem?_eq_none h] at ho
   have hset:=liOf_set (listed:=listed) (i:=i) (by omega)
   have hun:=unl_lis (ops:=ops) hin hl
   by_cases hs:seen.testBit i=true
   ·obtain ⟨ρ1,w1,ct1,s1,I1⟩:=I.lateStep tok hC hds hnm hpl ho hs hl hr (Region.linearise.go .any ops fuel (t / (Region.ready .any ops listed).length) (listed.setIfInBounds i true) [])
    rw [←hset] at I1
    obtain ⟨ρ2,w2,ct2,t1,t2,t3,t4⟩:=ih _ _ I1 (by simpa using hls) (by rw [hset];omega) (by rw [hset];exact hbf.tail) b ds k cs
    exact ⟨ρ2,w2,ct2,(s1 b ds k cs).trans t1,t2,t3,t4⟩
   ·rcases hLr with rfl|⟨x,r,q,rfl,hq,hw,hk⟩
    ·exfalso
     obtain ⟨_,_,_,hp⟩:=I.plan
     simp only [planOK,beq_iff_eq] at hp
     rw [hp] at hs
     exact hs (by rw [Nat.testBit_two_pow_sub_one];simpa using hin)
    ·have hxi:x=i:=by
      by_cases e:x=i
      ·exact e
      ·exfalso
       obtain ⟨o',ho',p1,p2,p3,p4⟩:=planX_cons I.plan
       rw [hq] at ho';cases ho'
       -- i is behind x in the plan
       have hin':i∈r:=by
        have gen:∀ (l:List Nat) (sn:Nat),PlanX T ops XY l sn→sn.testBit i=false→i∈l:=by
         intro l
         induction l with
         | nil =>
          intro sn hp hb
          obtain ⟨_,_,_,hp⟩:=hp
          simp only [planOK,beq_iff_eq] at hp
          rw [hp,Nat.testBit_two_pow_sub_one] at hb
          simp at hb;omega
         | cons a l ihl =>
          intro sn hp hb
          obtain ⟨_,_,_,_,_,q5⟩:=planX_cons hp
          by_cases ea:i=a
          ·simp [ea]
          ·refine List.mem_cons_of_mem _ (ihl _ q5 ?_)
           cases hb':(sn ||| 2 ^ a).testBit i with
           | false=>rfl
           | true =>
            rcases bit_or.1 hb' with h|h
            ·rw [hb] at h;cases h
            ·exact absurd h ea
        have:=gen (x::r) seen I.plan (by simpa using hs)
        rcases List.mem_cons.1 this with h|h
        ·exact absurd h.symm e
        ·exact h
       have hclo:clo ops i x:=by
        rcases p3 hk i hin' with h|h
        ·exact h
        ·exfalso
         rcases hbf [] i _ rfl x h with hx|hx
         ·cases hx
         ·have:=I.lsub x hx
          rw [p1] at this;cases this
       have hlx:=clo_listed I.lcl ho hr hclo
       have:=I.lsub x hlx
       rw [p1] at this;cases this
     subst hxi
     rw [ho] at hq;cases hq
     obtain ⟨pos',pm',E',seen',env',H',ps',ρ1,w1,ct1,s1,I1⟩:=I.headStep tok hC hds hnm hpl ho hw hk hr (Region.linearise.go .any ops fuel (t / (Region.ready .any ops listed).length) (listed.setIfInBounds x true) []) b ds k cs
     rw [←hset] at I1
     obtain ⟨ρ2,w2,ct2,t1,t2,t3,t4⟩:=ih _ _ I1 (by simpa using hls) (by rw [hset];omega) (by rw [hset];exact hbf.tail) b ds k cs
     exact ⟨ρ2,w2,ct2,s1.trans t1,t2,t3,t4⟩
  ·rename_i hnone
   have hnil:Region.ready .any ops listed=[]:=by
    cases hr:Region.ready .any ops listed with
    | nil=>rfl
    | cons x xs =>
     rw [hr] at hnone
     have hlt:t % (x::xs).length < (x::xs).length:=Nat.mod_lt _ (by simp)
     rw [List.getElem?_eq_none_iff] at hnone
     omega
   have nolate:∀ x,seen.testBit x=true→liOf listed x=true:=by
    intro x hx
    cases hl:liOf listed x with
    | true=>rfl
    | false =>
     exfalso
     obtain ⟨y,o,h1,h2,h3,h4⟩:=I.progress hx hl
     have:y∈Region.ready .any ops listed:=(ready_mem hls).2 ⟨o,h3,h2,fun e he hb=>h4 _ (edge_clo h3 he hb)⟩
     rw [hnil] at this;cases this
   rcases hLr with rfl|⟨i,r,o,rfl,ho,hw,hk⟩
   ·obtain ⟨a,b1,c⟩:=I.over nolate
    exact ⟨ρ,w,ct,.one st_regionEnd,a,b1,c⟩
   ·exfalso
    obtain ⟨o',ho',p1,p2,p3,p4⟩:=planX_cons I.plan
    have hl:liOf listed i=false:=by
     cases h:liOf listed i with
     | false=>rfl
     | true=>have:=I.lsub i h;rw [p1] at this;cases this
    have:i∈Region.ready .any ops listed:=(ready_mem hls).2 ⟨o,ho,hl,fun e he hb=>nolate _ (p2 _ (edge_clo ho he hb))⟩
    rw [hnil] at this;cases this
end
theorem bindIn_sup {ms:List Nat} {y x i j:Nat} (h:(ms.getD i 0).testBit j=true):((bindIn ms y x).getD i 0).testBit j=true:=by
 unfold bindIn
 rw [List.getD_eq_getElem?_getD,List.getElem?_set]
 split
 ·rename_i e
  subst e
  split
  ·simp only [Option.getD_some,Nat.testBit_or,h,Bool.true_or]
  ·rename_i hn
   rw [List.getD_eq_getElem?_getD,List.getElem?_eq_none (by omega)] at h
   simp at h
 ·rw [←List.getD_eq_getElem?_getD];exact h
theorem bindIn_sub {ms:List Nat} {y x i j:Nat} (h:((bindIn ms y x).getD i 0).testBit j=true):(ms.getD i 0).testBit j=true∨(i=y∧j=x):=by
 unfold bindIn at h
 rw [List.getD_eq_getElem?_getD,List.getElem?_set] at h
 split at h
 ·rename_i e
  subst e
  split at h
  ·simp only [Option.getD_some] at h
   rcases bit_or.1 h with h|h
   ·exact .inl h
   ·exact .inr ⟨rfl,h⟩
  ·simp at h
 ·rw [←List.getD_eq_getElem?_getD] at h;exact .inl h
structure Hq (H H':Heap):Prop where
 next:H'.next=H.next
 get:∀ b,H'.get b=H.get b
theorem Hq.refl (H:Heap):Hq H H:=⟨rfl,fun _=>rfl⟩
theorem Rel.hq {ρ:Ren} {H H':Heap} {w:World} (h:Hq H H') (R:Rel ρ H w):Rel ρ H' w :=
 ⟨fun b hb=>by rw [h.get];exact R.wf b (h.next▸hb),fun b l hl=>by rw [h.next];exact R.dom b l hl,R.cdom,fun b l o h1 h2=>R.live b l o h1 (by rw [←h.get];exact h2),
  fun b b' l l' o o' hn h1 h2 h3 h4 h5=>R.sep b b' l l' o o' hn h1 h2 (by rw [←h.get];exact h3) (by rw [←h.get];exact h4) h5⟩
theorem Own.hq {ρ:Ren} {H H':Heap} (h:Hq H H') {i:Nat} (o:Own ρ H' i):Own ρ H i:=by
 obtain ⟨b,l,o,h1,h2,h3,h4⟩:=o
 exact ⟨b,l,o,h1,by rw [←h.get];exact h2,h3,h4⟩
theorem Stp.hq {ρ ρ':Ren} {H H' H2:Heap} {w w':World} (h:Hq H' H2) (S:Stp ρ H w ρ' H' w'):Stp ρ H w ρ' H2 w' :=
 ⟨S.ren,S.new,by rw [h.next];exact S.next,fun b h1 h2=>by rw [h.get];exact S.aframe b h1 h2,S.size,fun i o=>S.own i (Own.hq h o),S.frame,S.os,S.tape,S.output⟩
theorem evalDraw_app {T:Tab} {C:CallSem} {ops:Array Oper} {ms:List Nat}:∀ (p:List Nat) {r:List Nat} {env:Env} {H:Heap} {ps:List Pend} {R:Env×Heap},evalDraw T C ops ms (p++r) env H ps=some R →
  ∃ env' H' ps',∀ r',evalDraw T C ops ms (p++r') env H ps=evalDraw T C ops ms r' env' H' ps'
 | [],r,env,H,ps,R,h=>⟨env,H,ps,fun _=>rfl⟩
 | i::p,r,env,H,ps,R,h=>by
  simp only [List.cons_append,evalDraw] at h ⊢
  split at h
  ·cases h
  ·split at h
   ·rename_i o ho hw
    simp only [hw,if_true]
    split at h
    ·rename_i hk
     split at h
     ·exact evalDraw_app p h
     ·cases h
    ·split at h
     ·exact evalDraw_app p h
     ·cases h
    ·split at h
     ·split at h
      ·rename_i hq
       simp only [hq,if_true]
       exact evalDraw_app p h
      ·cases h
     ·cases h
   ·rename_i o ho hw
    simp only [hw,if_false]
    exact evalDraw_app p h
def stF (T:Tab) (ops:Array Oper) (env:Env) (x:Nat) (H:Heap):Option Heap :=
 match ops[x]? with
 | some o=>if Region.wanted o (yielded ops env) then (aeff T (evOp env) H o.op).map (·.2) else some H
 | none=>none
theorem storeAt_spec {ops:Array Oper} {x:Nat} {a:Tmp} (h:storeAt ops x=some a):∃ o t v,ops[x]?=some o∧o.dst=none∧o.op=.store t (.tmp a) v:=by
 unfold storeAt at h
 split at h
 ·rename_i o ho
  split at h
  ·rename_i hd hop
   cases h
   exact ⟨o,_,_,ho,hd,hop⟩
  ·cases h
 ·cases h
theorem draw_store {T:Tab} {C:CallSem} {ops:Array Oper} {ms:List Nat} {x:Nat} {a:Tmp} (hx:storeAt ops x=some a) {r:List Nat} {env:Env} {H:Heap} {ps:List Pend} {R:Env×Heap} (h:evalDraw T C ops ms (x::r) env H ps=some R) :
  ∃ H' ps',stF T ops env x H=some H'∧evalDraw T C ops ms r env H' ps'=some R:=by
 obtain ⟨o,t,v,ho,hd,hop⟩:=storeAt_spec hx
 simp only [evalDraw,ho] at h
 unfold stF
 simp only [ho]
 split at h
 ·rename_i hw
  simp only [hw,if_true]
  have hk:okind T o.op=.E:=by rw [hop];rfl
  rw [hk] at h
  simp only at h
  have he:aE T C (evOp env) H o.op=aeff T (evOp env) H o.op:=by rw [hop];rfl
  rw [he] at h
  split at h
  ·rename_i u H' hE
   split at h
   ·rw [hd] at h
    exact ⟨H',_,by rw [hE];rfl,h⟩
   ·cases h
  ·cases h
 ·rename_i hw
  simp only [hw,if_false]
  rw [hd] at h
  exact ⟨H,ps,rfl,h⟩
theorem stF_spec {T:Tab} {ops:Array Oper} {x:Nat} {a:Tmp} (hx:storeAt ops x=some a) {env:Env} {H H':Heap} (h:stF T ops env x H=some H') :
  (H'=H∧∀ H2,stF T ops env x H2=some H2)∨(∃ blk off o',env.getD a undef=.pointer (some ⟨blk,off,none⟩)∧H'=H.put blk o'∧∀ H2,H2.get blk=H.get blk→stF T ops env x H2=some (H2.put blk o')):=by
 obtain ⟨o,t,v,ho,hd,hop⟩:=storeAt_spec hx
 unfold stF at h
 simp only [ho] at h
 split at h
 ·rename_i hw
  right
  simp only [hop,aeff,evOp,Option.bind_eq_bind,Option.map_eq_some_iff,Option.bind_eq_some_iff,Prod.exists] at h
  obtain ⟨u,H1,⟨i,hi,vv,hv,pv,hpv,h⟩,rfl⟩:=h
  cases hpv
  split at h
  ·rename_i b off hp
   split at h
   ·rename_i hc
    simp only [Option.bind_eq_some_iff,Option.some.injEq,Prod.mk.injEq] at h
    obtain ⟨H2,hw2,rfl,rfl⟩:=h
    unfold Heap.write at hw2
    split at hw2
    ·rename_i vs g hg
     simp only [Option.map_eq_some_iff] at hw2
     obtain ⟨vs',hs,rfl⟩:=hw2
     refine ⟨b,off,_,hp,rfl,fun H3 h3=>?_⟩
     unfold stF
     simp only [ho,hw,if_true]
     simp only [hop,aeff,evOp,hi,Option.bind_eq_bind,Option.bind_some]
     have hv':evOp env v=some vv:=hv
     simp only [evOp] at hv'
     rw [hp]
     simp only [hv',Option.bind_some,hc,and_self,if_true,Heap.write,h3,hg,hs,Option.map_some]
    ·cases hw2
   ·cases h
  ·cases h
 ·rename_i hw
  left
  cases h
  refine ⟨rfl,fun H2=>?_⟩
  unfold stF
  simp only [ho,hw,Bool.false_eq_true,if_false]
theorem swap_same {T:Tab} {C:CallSem} {ops:Array Oper} {ms:List Nat} {p:List Nat} {x y:Nat} {a b:Tmp} (hx:storeAt ops x=some a) (hy:storeAt ops y=some b) {env e1 e2:Env} {H H1 H2:Heap} (h1:evalDraw T C ops ms (p++[x,y]) env H []=some (e1,H1)) (h2:evalDraw T C ops ms (p++[y,x]) env H []=some (e2,H2))
  (hap:apartV (e1.getD a undef) (e1.getD b undef)=true):e2=e1∧Hq H2 H1:=by
 obtain ⟨em,Hm,ps,hm⟩:=evalDraw_app p h1
 rw [hm] at h1 h2
 obtain ⟨Hx,q1,s1,h1⟩:=draw_store hx h1
 obtain ⟨Hxy,q2,s2,h1⟩:=draw_store hy h1
 obtain ⟨Hy,q3,s3,h2⟩:=draw_store hy h2
 obtain ⟨Hyx,q4,s4,h2⟩:=draw_store hx h2
 simp only [evalDraw,Option.some.injEq,Prod.mk.injEq] at h1 h2
 obtain ⟨rfl,rfl⟩:=h1
 obtain ⟨rfl,rfl⟩:=h2
 refine ⟨rfl,?_⟩
 rcases stF_spec hx s1 with ⟨rfl,k1⟩|⟨bx,ox,cx,p1,rfl,k1⟩
 ·rw [k1] at s4;cases s4
  rw [s3] at s2;cases s2
  exact Hq.refl _
 ·rcases stF_spec hy s3 with ⟨rfl,k2⟩|⟨by_,oy,cy,p2,rfl,k2⟩
  ·rw [k2] at s2;cases s2
   rw [s1] at s4;cases s4
   exact Hq.refl _
  ·rw [p1,p2] at hap
   have hne:bx≠by_:=by simpa [apartV] using hap
   rw [k2 _ (Heap.get_put_ne _ _ (Ne.symm hne))] at s2
   rw [k1 _ (Heap.get_put_ne _ _ hne)] at s4
   cases s2;cases s4
   refine ⟨rfl,fun c=>?_⟩
   simp only [Heap.get_put]
   by_cases e1:c=bx
   ·subst e1;simp [hne]
   ·by_cases e2:c=by_
    ·subst e2;simp [e1]
    ·simp [e1,e2]
section
variable {P:Program} {T:Tab} (tok:TabOK P T) {C:CallSem} (hC:CSound P C) (hmix:P.follows .mixedOrders=true)
include tok hC hmix
theorem swap_steps (b:Frame) {id:Nat} {ops:Array Oper} {ρ:Ren} {H H':Heap} {w:World} {env env':Env} {ct:Array Value} (R:Rel ρ H w) (A:ARel ρ env ct) (h:evalSwap T C ops (masks ops) env H=some (env',H')) :
  ∀ ds k cs,∃ ρ' w' ct',Steps P (lone (fat b ct ds (.code (.region id ops true)::k)) cs w) (lone (fat b ct' ds k) cs w')∧ARel ρ' env' ct'∧Stp ρ H w ρ' H' w'∧Rel ρ' H' w':=by
 intro ds k cs
 unfold evalSwap at h
 split at h
 case h_2=>cases h
 rename_i s hs
 split at h
 case isFalse=>cases h
 rename_i hok
 simp only [Bool.and_eq_true] at hok
 obtain ⟨⟨o2,o3⟩,o4⟩:=hok
 simp only [Option.bind_eq_some_iff] at h
 obtain ⟨⟨e1,H1⟩,r1,⟨e2,H2⟩,r2,h⟩:=h
 split at h
 case isFalse=>cases h
 rename_i hap
 cases h
 have hsw:∃ a c,storeAt ops s.x=some a∧storeAt ops s.y=some c∧s.a=a∧s.b=c∧s.x≠s.y∧planOK T ops (bindIn (masks ops) s.y s.x) (s.pre++[s.x,s.y]) 0=true∧planOK T ops (bindIn (masks ops) s.x s.y) (s.pre++[s.y,s.x]) 0=true:=by
  unfold swapOf at hs
  dsimp only at hs
  split at hs
  ·rename_i a c ha hc
   split at hs
   ·rename_i hp
    simp only [Bool.and_eq_true,bne_iff_ne,ne_eq] at hp
    cases hs
    exact ⟨a,c,ha,hc,rfl,rfl,hp.1.1,hp.1.2,hp.2⟩
   ·cases hs
  ·cases hs
 obtain ⟨a,c,ha,hc,ea,ec,hne,pl1,pl2⟩:=hsw
 rw [ea,ec] at hap
 obtain ⟨he,hq⟩:=swap_same ha hc r1 r2 hap
 subst he
 have nl:∀ j,liOf (Array.replicate ops.size false) j=false:=by
  intro j
  simp only [liOf,Array.getD_eq_getD_getElem?,Array.getElem?_replicate]
  split<;>rfl
 have nb:∀ y,(0:Nat).testBit y=true→False:=fun y h=>by simp at h
 have mk:∀ {XY:Nat→Nat→Prop} {l:List Nat} {HF:Heap},PlanX T ops XY l 0→evalDraw T C ops (masks ops) l env H []=some (e2,HF) →
   Inv T C ops XY env H ρ w e2 HF (fun _=>0) 0 (fun _=>env) (fun _=>0) l 0 env H [] ρ { w with drawn:=w.drawn+1 } ct (liOf (Array.replicate ops.size false)):=fun hp hr =>
  {plan:=hp,run:=hr,sz:=rfl,csz:=A.1.symm,sb:=fun y h=>(nb y h).elim,lsub:=fun j h=>(by rw [nl] at h;cases h),lcl:=fun j o h=>(by rw [nl] at h;cases h),scl:=fun y z h=>(nb y h).elim,
   pmx:=fun y h=>(nb y h).elim,unw:=fun t _=>rfl,slotA:=fun t _=>A.2 t,slotB:=fun x t h=>(nb x h).elim,late:=fun x h=>(nb x h).elim,ids:=fun x y o o' h=>(nb x h).elim,rel:=R.drewW,stp:=Stp.drewW ρ H w }
 have hcount:unl ops (liOf (Array.replicate ops.size false))≤ops.size:=by
  unfold unl
  have:=List.countP_le_length (p:=fun j=>!liOf (Array.replicate ops.size false) j) (l:=List.range ops.size)
  simpa using this
 have sched:Region.schedule (P.follows .mixedOrders) ops (w.tape w.drawn (.order b.fn id))=Region.linearise.go .any ops ops.size (w.tape w.drawn (.order b.fn id)) (Array.replicate ops.size false) []:=by
  simp only [Region.schedule,hmix,Bool.true_or,if_true,Region.linearise]
 by_cases hb:BefX (fun i j=>i=s.y∧j=s.x) (liOf (Array.replicate ops.size false)) (Region.linearise.go .any ops ops.size (w.tape w.drawn (.order b.fn id)) (Array.replicate ops.size false) [])
 ·obtain ⟨ρ',w',ct',s1,s2,s3,s4⟩:=draw_go tok hC o2 o3 o4 ops.size (w.tape w.drawn (.order b.fn id)) (Array.replicate ops.size false) (mk ⟨_,fun i j h=>bindIn_sup h,fun i j h=>bindIn_sub h,pl1⟩ r1) (by simp) hcount hb b ds k cs
  exact ⟨ρ',w',ct',.head st_draw (by rw [sched];exact s1),s2,s3,s4⟩
 ·have hb2:BefX (fun i j=>i=s.x∧j=s.y) (liOf (Array.replicate ops.size false)) (Region.linearise.go .any ops ops.size (w.tape w.drawn (.order b.fn id)) (Array.replicate ops.size false) []):=by
   unfold BefX at hb
   simp only [Classical.not_forall] at hb
   obtain ⟨pre,y,post,e,x,⟨rfl,rfl⟩,hno⟩:=hb
   intro pre' x' post' e' y' ⟨h1,h2⟩
   subst h1;subst h2
   left
   rw [e] at e'
   rw [List.append_eq_append_iff] at e'
   rcases e' with ⟨as,q1,q2⟩|⟨as,q1,q2⟩
   ·cases as with
    | nil=>simp at q2;exact absurd q2.1.symm hne
    | cons z as=>simp at q2;rw [q1,←q2.1];simp
   ·cases as with
    | nil=>simp at q2;exact absurd q2.1 hne
    | cons z as=>simp at q2;exact absurd (Or.inl (by rw [q1,q2.1];simp)) hno
  obtain ⟨ρ',w',ct',s1,s2,s3,s4⟩:=draw_go tok hC o2 o3 o4 ops.size (w.tape w.drawn (.order b.fn id)) (Array.replicate ops.size false) (mk ⟨_,fun i j h=>bindIn_sup h,fun i j h=>bindIn_sub h,pl2⟩ r2) (by simp) hcount hb2 b ds k cs
  exact ⟨ρ',w',ct',.head st_draw (by rw [sched];exact s1),s2,s3.hq hq,s4.hq hq⟩
theorem region_steps (b : Frame) {id : Nat} {ops : Array Oper} {draw : Bool} {ρ : Ren} {H H' : Heap} {w : World} {env env' : Env} {ct : Array Value} (R : Rel ρ H w) (A : ARel ρ env ct) (h : evalRegion T C ops draw env H = some (env', H')) :
    ∀ ds k cs, ∃ ρ' w' ct', Steps P (lone (fat b ct ds (.code (.region id ops draw) :: k)) cs w) (lone (fat b ct' ds k) cs w') ∧ ARel ρ' env' ct' ∧ Stp ρ H w ρ' H' w' ∧ Rel ρ' H' w' := by
  intro ds k cs
  unfold evalRegion at h
  cases draw with
  | false =>
    simp only [Bool.false_eq_true, if_false] at h
    split at h
    · rename_i hpl
      obtain ⟨ρ', w', ct', s1, s2, s3, s4⟩ := seq_steps tok hC hpl (List.range ops.size) R A h b ds k cs
      exact ⟨ρ', w', ct', .head st_region s1, s2, s3, s4⟩
    · cases h
  | true =>
    simp only [if_true] at h
    split at h
    · rename_i hok
      simp only [Bool.and_eq_true] at hok
      obtain ⟨⟨⟨o1, o2⟩, o3⟩, o4⟩ := hok
      have I : Inv T C ops (fun _ _ => False) env H ρ w env' H' (fun _ => 0) 0 (fun _ => env) (fun _ => 0) (plan T ops (masks ops)) 0 env H [] ρ { w with drawn := w.drawn + 1 } ct (liOf (Array.replicate ops.size false)) := by
        have nl : ∀ j, liOf (Array.replicate ops.size false) j = false := by
          intro j
          simp only [liOf, Array.getD_eq_getD_getElem?, Array.getElem?_replicate]
          split <;> rfl
        have nb : ∀ y, (0 : Nat).testBit y = true → False := fun y h => by simp at h
        exact { plan := .of o1, run := h, sz := rfl, csz := A.1.symm, sb := fun y h => (nb y h).elim, lsub := fun j h => (by rw [nl] at h; cases h), lcl := fun j o h => (by rw [nl] at h; cases h), scl := fun y z h => (nb y h).elim,
                pmx := fun y h => (nb y h).elim, unw := fun t _ => rfl, slotA := fun t _ => A.2 t, slotB := fun x t h => (nb x h).elim, late := fun x h => (nb x h).elim, ids := fun x y o o' h => (nb x h).elim, rel := R.drewW, stp := Stp.drewW ρ H w }
      have hcount : unl ops (liOf (Array.replicate ops.size false)) ≤ ops.size := by
        unfold unl
        have := List.countP_le_length (p := fun j => !liOf (Array.replicate ops.size false) j) (l := List.range ops.size)
        simpa using this
      obtain ⟨ρ', w', ct', s1, s2, s3, s4⟩ := draw_go tok hC o2 o3 o4 ops.size (w.tape w.drawn (.order b.fn id)) (Array.replicate ops.size false) I (by simp) hcount .none b ds k cs
      refine ⟨ρ', w', ct', .head st_draw ?_, s2, s3, s4⟩
      have sched : Region.schedule (P.follows .mixedOrders) ops (w.tape w.drawn (.order b.fn id)) = Region.linearise.go .any ops ops.size (w.tape w.drawn (.order b.fn id)) (Array.replicate ops.size false) [] := by
        simp only [Region.schedule, hmix, Bool.true_or, if_true, Region.linearise]
      rw [sched]
      exact s1
    · exact swap_steps tok hC hmix b R A h ds k cs
end
end Go.Ev
namespace Go.Ev
def markOf (r:Nat):Deferred:={ target:=.collected r,args:=#[] }
def DOK (B:Nat) (w:World) (ds:List Deferred):Prop:=∃ rs:List Nat,ds=rs.map markOf∧rs.Nodup∧∀ r∈rs,B≤r∧w.heap[r]?=some (.deferred (some []))
theorem ORel.notDeferred {ρ:Ren} {l:Loc} {o:AObj} {x:Option (List Deferred)} (h:ORel ρ l o (some (.deferred x))):False:=by
 cases o with
 | cells vs wr g=>obtain ⟨_,_,_,C,et,fz,e,_⟩:=h;cases e
 | map es=>obtain ⟨_,_,e,_⟩:=h;cases e
 | loop st pend fn env params as bd=>obtain ⟨r,e,_⟩:=h;cases e
theorem not_own {ρ:Ren} {H:Heap} {w:World} (R:Rel ρ H w) {r:Nat} {x:Option (List Deferred)} (h:w.heap[r]?=some (.deferred x)):¬ Own ρ H r:=by
 rintro ⟨b,l,o,h1,h2,h3,h4⟩
 have:=R.live b l o h1 h2
 rw [h4,h] at this
 exact this.notDeferred
theorem lt_of_get {α:Type} {a:Array α} {i:Nat} {x:α} (h:a[i]?=some x):i < a.size:=by
 rcases Nat.lt_or_ge i a.size with h'|h'
 ·exact h'
 ·rw [Array.getElem?_eq_none h'] at h;cases h
theorem DOK.step {B:Nat} {ρ ρ':Ren} {H H':Heap} {w w':World} {ds:List Deferred} (h:DOK B w ds) (R:Rel ρ H w) (S:Stp ρ H w ρ' H' w'):DOK B w' ds:=by
 obtain ⟨rs,e,hn,hr⟩:=h
 exact ⟨rs,e,hn,fun r hm=>⟨(hr r hm).1,by rw [S.frame r (lt_of_get (hr r hm).2) (not_own R (hr r hm).2)];exact (hr r hm).2⟩⟩
def AtExit:AExit→List Item→List Item→Prop
 | .normal,k,k'=>k'=k
 | .ret,_,k'=>∃ q,k'=.code .ret::q
 | .exit id,k,k'=>∃ q,k'=.code (.exit id)::q∧exitTo id q=exitTo id k
def RdOK (ρ:Ren) (b:Frame):Option Nat→Prop
 | none=>b.roundOf=none
 | some l=>∃ loc,ρ l=some loc∧b.roundOf=some loc.cb
theorem RdOK.mono {ρ ρ':Ren} (h:ρ.le ρ') {b:Frame} {rd:Option Nat} (k:RdOK ρ b rd):RdOK ρ' b rd:=by
 cases rd with
 | none=>exact k
 | some l=>obtain ⟨loc,e,f⟩:=k;exact ⟨loc,h _ _ e,f⟩
def CodeRuns (P:Program) (B:Nat) (rd:Option Nat) (c:Code) (e:AExit) (b:Frame) (ρ:Ren) (H H':Heap) (w:World) (env':Env) (ct:Array Value) (ds:List Deferred):Prop :=
 ∀ k cs,∃ ρ' w' ct' ds',(∃ k',Steps P (lone (fat b ct ds (.code c::k)) cs w) (lone (fat b ct' ds' k') cs w')∧AtExit e k k') ∧
  ARel ρ' env' ct'∧Stp ρ H w ρ' H' w'∧Rel ρ' H' w'∧DOK B w' ds'∧(rd≠none→ds'=ds)
section
variable {P:Program} {T:Tab} (tok:TabOK P T) {C:CallSem} (hC:CSound P C) (hmix:P.follows .mixedOrders=true)
theorem AtExit.inner {e:AExit} {x:Item} {k k':List Item} (hx:∀ id,exitTo id (x::k)=exitTo id k) (he:e≠.normal) (h:AtExit e (x::k) k'):AtExit e k k':=by
 cases e with
 | normal=>exact absurd rfl he
 | ret=>exact h
 | exit id=>obtain ⟨q,h1,h2⟩:=h;exact ⟨q,h1,by rw [h2,hx]⟩
theorem loop_steps {B:Nat} {rd:Option Nat} {n0:Nat} {fn:FuncId} {c:Code} {b:Frame}
  (body:∀ {env env':Env} {H H':Heap} {e:AExit},evalCode T C n0 fn rd c env H=some (e,env',H')→∀ {ρ:Ren} {w:World} {ct:Array Value} {ds:List Deferred},Rel ρ H w→ARel ρ env ct→RdOK ρ b rd→DOK B w ds→B≤w.heap.size→CodeRuns P B rd c e b ρ H H' w env' ct ds) :
  ∀ (n:Nat) {env env':Env} {H H':Heap} {e:AExit},loopN (evalCode T C n0 fn rd c) n env H=some (e,env',H')→∀ {ρ:Ren} {w:World} {ct:Array Value} {ds:List Deferred},Rel ρ H w→ARel ρ env ct→RdOK ρ b rd→DOK B w ds→B≤w.heap.size →
   ∀ k cs,∃ ρ' w' ct' ds',(∃ k',Steps P (lone (fat b ct ds (.code c::.inLoop c::k)) cs w) (lone (fat b ct' ds' k') cs w')∧AtExit e k k') ∧
    ARel ρ' env' ct'∧Stp ρ H w ρ' H' w'∧Rel ρ' H' w'∧DOK B w' ds'∧(rd≠none→ds'=ds)∧e≠.normal:=by
 intro n
 induction n with
 | zero=>intro env env' H H' e h;simp [loopN] at h
 | succ n ih =>
  intro env env' H H' e h ρ w ct ds R A hrd hD hB k cs
  simp only [loopN] at h
  cases hs:evalCode T C n0 fn rd c env H with
  | none=>rw [hs] at h;cases h
  | some r =>
   obtain ⟨e1,env1,H1⟩:=r
   rw [hs] at h
   obtain ⟨ρ1,w1,ct1,ds1,⟨k1,p1,p2⟩,s2,s3,s4,s5,s6⟩:=body hs R A hrd hD hB (.inLoop c::k) cs
   by_cases hn:e1=.normal
   ·subst hn
    simp only at h
    obtain ⟨ρ2,w2,ct2,ds2,⟨k2,q1,q2⟩,t2,t3,t4,t5,t6,t7⟩:=ih h s4 s2 (hrd.mono s3.ren) s5 (Nat.le_trans hB s3.size) k cs
    refine ⟨ρ2,w2,ct2,ds2,?_,t2,s3.trans t3,t4,t5,fun hr=>(t6 hr).trans (s6 hr),t7⟩
    obtain rfl:k1=_:=p2
    exact ⟨k2,p1.trans (.head st_inLoop q1),q2⟩
   ·have h':some (e1,env1,H1)=some (e,env',H'):=by
     cases e1 with
     | normal=>exact absurd rfl hn
     | ret=>exact h
     | exit id=>exact h
    cases h'
    exact ⟨ρ1,w1,ct1,ds1,⟨k1,p1,p2.inner (fun id=>rfl) hn⟩,s2,s3,s4,s5,s6,hn⟩
include tok hC in
theorem range_steps {B:Nat} {rd:Option Nat} {n:Nat} {fn:FuncId} {f:Operand} {params:Array Tmp} {assign body:Code} {env env':Env} {H H':Heap} {e:AExit} (h:evalCode T C n fn rd (.rangeFunc f params assign body) env H=some (e,env',H'))
  {b:Frame} (hb:b.fn=fn) {ρ:Ren} {w:World} {ct:Array Value} {ds:List Deferred} (R:Rel ρ H w) (A:ARel ρ env ct) (hrd:RdOK ρ b rd) (hD:DOK B w ds) (hB:B≤w.heap.size):CodeRuns P B rd (.rangeFunc f params assign body) e b ρ H H' w env' ct ds:=by
 intro k cs
 simp only [evalCode] at h
 cases hfv:evOp env f with
 | none=>rw [hfv] at h;cases h
 | some fv =>
  rw [hfv] at h
  simp only at h
  split at h
  case isFalse=>cases h
  rename_i hil
  split at h
  case h_1=>cases h
  rename_i r0 v H2 hcall
  split at h
  case h_2=>cases h
  rename_i x0 st pend fn' envl params' assign' body' hg2
  split at h
  case isTrue=>cases h
  rename_i hst
  -- the loop's block
  have enter:∃ cl mark w1 dr,(Instr.enterLoop b.fn ct params assign body b.roundOf).run P w=.ok (cl,mark) w1 ∧
    (∃ pre:Array Obj,w1.heap=(w.heap++pre).push (.loop { state:=.ready,pending:=none,fn:=b.fn,tmps:=ct,params:=params,assign:=assign,body:=body,defers:=dr })∧cl=w.heap.size+pre.size ∧
     ((pre=#[]∧mark=[]∧rd≠none)∨(pre=#[.deferred (some [])]∧mark=[markOf w.heap.size]∧rd=none)))∧w1.os=w.os∧w1.tape=w.tape∧w1.output=w.output:=by
   cases rd with
   | none =>
    have hb0:b.roundOf=none:=hrd
    refine ⟨w.heap.size+1,[markOf w.heap.size],{ w with heap:=(w.heap.push (.deferred (some []))).push (.loop { state:=.ready,pending:=none,fn:=b.fn,tmps:=ct,params:=params,assign:=assign,body:=body,defers:=w.heap.size }) },w.heap.size,?_,⟨#[.deferred (some [])],?_,by simp,.inr ⟨rfl,rfl,rfl⟩⟩,rfl,rfl,rfl⟩
    ·rw [hb0]
     simp [Instr.enterLoop,markOf]
     rfl
    ·simp
   | some l =>
    obtain ⟨loc,e1,e2⟩:=hrd
    have:∃ st0 pd0 fn0 en0 pa0 as0 bd0,H.get l=some (.loop st0 pd0 fn0 en0 pa0 as0 bd0):=by
     simp only [isLoop] at hil
     split at hil
     ·rename_i hgl;exact ⟨_,_,_,_,_,_,_,hgl⟩
     ·cases hil
    obtain ⟨_,_,_,_,_,_,_,hgl⟩:=this
    obtain ⟨rr,q1,_⟩:=R.live l loc _ e1 hgl
    refine ⟨w.heap.size,[],{ w with heap:=w.heap.push (.loop { state:=.ready,pending:=none,fn:=b.fn,tmps:=ct,params:=params,assign:=assign,body:=body,defers:=rr.defers }) },rr.defers,?_,⟨#[],by simp,by simp,.inl ⟨rfl,rfl,by simp⟩⟩,rfl,rfl,rfl⟩
    rw [e2]
    simp [Instr.enterLoop,Instr.getLoop,getObj,Sem.run,q1]
  obtain ⟨cl,mark,w1,dr,n1,⟨pre,n2,n3,n4⟩,n5,n6,n7⟩:=enter
  let loc:Loc:=⟨cl,0,0,0,0⟩
  have hfr:=R.fresh (Nat.le_refl H.next)
  have hle:=Ren.le_add loc hfr
  have hsz:w1.heap.size=w.heap.size+pre.size+1:=by rw [n2];simp;try omega
  have hold:∀ i,i < w.heap.size→w1.heap[i]?=w.heap[i]?:=fun i hi=>by
   rw [n2,Array.getElem?_push,if_neg (by simp;omega),Array.getElem?_append,if_pos hi]
  have hnew:w1.heap[cl]?=some (.loop { state:=.ready,pending:=none,fn:=b.fn,tmps:=ct,params:=params,assign:=assign,body:=body,defers:=dr }):=by
   rw [n2,Array.getElem?_push,if_pos (by simp;omega)]
  have hobj:ORel (ρ.add H.next loc) loc (.loop .ready none fn env params assign body) w1.heap[loc.cb]?:=⟨_,hnew,rfl,rfl,hb,A.mono hle,rfl,rfl,rfl⟩
  have R1:=Rel.add R (w':=w1) (ob:=.loop .ready none fn env params assign body) (loc:=loc) (by omega) (fun i hi _=>hold i hi) (by show cl < _;omega) (fun c m x e1 _=>by have:=R.cdom c m e1;show m.cb≠cl;omega) hobj
  have S1:=Stp.add R (w':=w1) (ob:=.loop .ready none fn env params assign body) (loc:=loc) (by omega) (fun i hi _=>hold i hi) (.inr (by show w.heap.size≤cl;omega)) n5 n6 n7
  have hD1:DOK B w1 (mark++ds):=by
   obtain ⟨rs,e,hn,hr⟩:=hD.step R S1
   obtain ⟨rs0,e0,hn0,hr0⟩:=hD
   have hrs:rs.map markOf=rs0.map markOf:=by rw [←e,←e0]
   rcases n4 with ⟨rfl,rfl,_⟩|⟨rfl,rfl,_⟩
   ·exact ⟨rs,by simpa using e,hn,hr⟩
   ·refine ⟨w.heap.size::rs,by simp [e],List.nodup_cons.2 ⟨fun hm=>?_,hn⟩,fun r hm=>?_⟩
    ·have:rs=rs0:=by
      have inj:∀ a c:List Nat,a.map markOf=c.map markOf→a=c:=by
       intro a
       induction a with
       | nil=>intro c hc;cases c with
        | nil=>rfl
        | cons _ _=>simp at hc
       | cons x a iha=>intro c hc;cases c with
        | nil=>simp at hc
        | cons y c=>simp [markOf] at hc;rw [hc.1,iha c (by simpa [markOf] using hc.2)]
      exact inj _ _ hrs
     rw [this] at hm
     have:=lt_of_get (hr0 _ hm).2
     omega
    ·rcases List.mem_cons.1 hm with rfl|hm
     ·refine ⟨hB,?_⟩
      rw [n2,Array.getElem?_push,if_neg (by simp)]
      simp
     ·exact hr r hm
  -- the call
  have rfv:VRel (ρ.add H.next loc) fv (cevOf ct f):=(evOp_rel A f fv hfv).mono hle
  have ry:VRel (ρ.add H.next loc) (.func (.yield H.next) #[] #[]) (.func (.yield cl) #[] #[]) :=
   .func _ _ _ _ _ _ (.yield H.next loc (Ren.add_eq _ _ _)) rfl rfl (fun i=>by simpa using VRel.undef _) (fun i=>by simpa using VRel.undef _)
  obtain ⟨ρ2,w2,cv,c1,c2,S2,R2⟩:=hC fv _ _ v H2 hcall (ρ.add H.next loc) w1 (cevOf ct f) [.func (.yield cl) #[] #[]] rfv (.cons ry .nil) R1 (fat b ct (mark++ds) (.inRangeFunc cl::k)) cs
  obtain ⟨nx,w1',m1,m2⟩:=c1
  have hD2:=hD1.step R1 S2
  have hl2:=S2.ren _ _ (Ren.add_eq ρ H.next loc)
  obtain ⟨rr,q1,q2,q3,q4,q5,q6,q7,q8⟩:=R2.live H.next loc _ hl2 hg2
  have hcl2:cl < w2.heap.size:=lt_of_get q1
  -- the loop's end
  have hend:(Instr.endLoop cl).run P w2=.ok pend { w2 with heap:=w2.heap.setIfInBounds cl (.loop { rr with state:=.exhausted }) }:=by
   have hnb:(rr.state==LoopState.busy)=false:=by
    rw [q2]
    cases st<;>first|rfl|exact absurd rfl hst
   simp only [Instr.endLoop,Instr.getLoop,Sem.run_bind]
   have hg:(getObj cl).run P w2=.ok (.loop rr) w2:=by
    have q1':w2.heap[cl]?=some (.loop rr):=q1
    simp [getObj,Sem.run,q1']
   have hs:∀ o,(setObj cl o).run P w2=.ok () { w2 with heap:=w2.heap.setIfInBounds cl o }:=fun o=>by
    have q1':w2.heap[cl]?=some (.loop rr):=q1
    simp [setObj,Sem.run,q1']
   simp only [hg,Result.andThen_ok,Sem.run_pure,hnb]
   simp [hs,q3]
  obtain ⟨R3,S3⟩:=Rel.update (w':={ w2 with heap:=w2.heap.setIfInBounds cl (.loop { rr with state:=.exhausted }) }) R2 hl2 hg2 rfl (o':=.loop .exhausted pend fn' envl params' assign' body') rfl
   (fun i hi=>Array.getElem?_setIfInBounds_ne (Ne.symm hi)) (by simp)
   (by simp only [loc,Array.getElem?_setIfInBounds_self,hcl2,if_true];exact ⟨_,rfl,rfl,q3,q4,q5,q6,q7,q8⟩) rfl rfl rfl
  have hD3:=hD2.step R2 S3
  have S:=(S1.trans S2).trans S3
  have callSteps:Steps P (lone (fat b ct ds (.code (.rangeFunc f params assign body)::k)) cs w) (lone (fat b ct (mark++ds) ((pend.map Item.code).toList++k)) cs { w2 with heap:=w2.heap.setIfInBounds cl (.loop { rr with state:=.exhausted }) }):=by
   have hres:(do let d ←resolve (cevOf ct) { callee:=.value f,args:=#[.const (.func (.yield cl) #[] #[])],argTypes:=#[] } 0;invoke d.target d.args:Sem Next).run P w1=.ok nx w1':=by
    have:(#[Operand.const (.func (.yield cl) #[] #[])]).map (cevOf ct)=[Value.func (.yield cl) #[] #[]].toArray:=by simp [cevOf]
    simp only [resolve,this]
    exact m1
   rcases m2 with ⟨g,all,rfl,hs⟩|⟨l',f',ts,as',bd',rfl,hs⟩
   ·refine .head (st_rangeFunc (d:=markOf 0) n1 hres) ?_
    refine hs.trans ?_
    rw [fat_finishRange]
    exact .one (st_endRange hend)
   ·refine .head (st_rangeRound n1 hres) ?_
    refine hs.trans ?_
    rw [fat_finishRange]
    exact .one (st_endRange hend)
  have hmk:rd≠none→mark++ds=ds:=fun hne=>by
   rcases n4 with ⟨_,rfl,_⟩|⟨_,_,hr⟩
   ·rfl
   ·exact absurd hr hne
  refine ⟨ρ2,_,ct,mark++ds,⟨_,callSteps,?_⟩,?_,?_,?_,hD3,hmk⟩
  ·split at h<;>first|(cases h;done)|skip
   ·cases h;exact rfl
   ·cases h;exact ⟨k,rfl⟩
   ·cases h;exact ⟨k,rfl,rfl⟩
  all_goals (split at h<;>first|(cases h;done)|(cases h;first|exact A.mono (Ren.le_trans hle S2.ren)|exact S|exact R3))
include tok hC hmix in
theorem code_steps {B:Nat} {rd:Option Nat} {n:Nat} {fn:FuncId}:∀ (c:Code) {env env':Env} {H H':Heap} {e:AExit},evalCode T C n fn rd c env H=some (e,env',H') →
  ∀ {b:Frame},b.fn=fn→∀ {ρ:Ren} {w:World} {ct:Array Value} {ds:List Deferred},Rel ρ H w→ARel ρ env ct→RdOK ρ b rd→DOK B w ds→B≤w.heap.size→CodeRuns P B rd c e b ρ H H' w env' ct ds:=by
 intro c
 induction c with
 | skip =>
  intro env env' H H' e h b hb ρ w ct ds R A hrd hD hB
  simp only [evalCode,Option.some.injEq,Prod.mk.injEq] at h
  obtain ⟨rfl,rfl,rfl⟩:=h
  exact fun k cs=>⟨ρ,w,ct,ds,⟨k,.one st_skip,rfl⟩,A,Stp.refl _ _ _,R,hD,fun _=>rfl⟩
 | region id ops draw =>
  intro env env' H H' e h b hb ρ w ct ds R A hrd hD hB
  simp only [evalCode,Option.map_eq_some_iff,Prod.mk.injEq] at h
  obtain ⟨⟨env1,H1⟩,h,rfl,rfl,rfl⟩:=h
  intro k cs
  obtain ⟨ρ',w',ct',s1,s2,s3,s4⟩:=region_steps tok hC hmix b (id:=id) R A h ds k cs
  exact ⟨ρ',w',ct',ds,⟨k,s1,rfl⟩,s2,s3,s4,hD.step R s3,fun _=>rfl⟩
 | seq x y ihx ihy =>
  intro env env' H H' e h b hb ρ w ct ds R A hrd hD hB
  simp only [evalCode] at h
  cases hs:evalCode T C n fn rd x env H with
  | none=>rw [hs] at h;cases h
  | some r =>
   obtain ⟨e1,env1,H1⟩:=r
   rw [hs] at h
   intro k cs
   obtain ⟨ρ1,w1,ct1,ds1,⟨k1,p1,p2⟩,s2,s3,s4,s5,s6⟩:=ihx hs hb R A hrd hD hB (.code y::k) cs
   by_cases hn:e1=.normal
   ·subst hn
    simp only at h
    obtain ⟨ρ2,w2,ct2,ds2,⟨k2,q1,q2⟩,t2,t3,t4,t5,t6⟩:=ihy h hb s4 s2 (hrd.mono s3.ren) s5 (Nat.le_trans hB s3.size) k cs
    refine ⟨ρ2,w2,ct2,ds2,?_,t2,s3.trans t3,t4,t5,fun hr=>(t6 hr).trans (s6 hr)⟩
    obtain rfl:k1=_:=p2
    exact ⟨k2,.head st_seq (p1.trans q1),q2⟩
   ·have h':some (e1,env1,H1)=some (e,env',H'):=by
     cases e1 with
     | normal=>exact absurd rfl hn
     | ret=>exact h
     | exit id=>exact h
    cases h'
    exact ⟨ρ1,w1,ct1,ds1,⟨k1,.head st_seq p1,p2.inner (fun id=>rfl) hn⟩,s2,s3,s4,s5,s6⟩
 | cond c x y ihx ihy =>
  intro env env' H H' e h b hb ρ w ct ds R A hrd hD hB
  simp only [evalCode] at h
  split at h
  ·rename_i hc
   have hcc:cevOf ct c=.bool true:=by
    have:=evOp_rel A c _ hc
    generalize cevOf ct c=q at this ⊢
    cases this;rfl
   intro k cs
   obtain ⟨ρ1,w1,ct1,ds1,⟨k',p1,p2⟩,s2⟩:=ihx h hb R A hrd hD hB k cs
   exact ⟨ρ1,w1,ct1,ds1,⟨k',.head (st_cond hcc) p1,p2⟩,s2⟩
  ·rename_i hc
   have hcc:cevOf ct c=.bool false:=by
    have:=evOp_rel A c _ hc
    generalize cevOf ct c=q at this ⊢
    cases this;rfl
   intro k cs
   obtain ⟨ρ1,w1,ct1,ds1,⟨k',p1,p2⟩,s2⟩:=ihy h hb R A hrd hD hB k cs
   exact ⟨ρ1,w1,ct1,ds1,⟨k',.head (st_cond hcc) p1,p2⟩,s2⟩
  ·cases h
 | block id body ih =>
  intro env env' H H' e h b hb ρ w ct ds R A hrd hD hB
  simp only [evalCode] at h
  cases hs:evalCode T C n fn rd body env H with
  | none=>rw [hs] at h;cases h
  | some r =>
   obtain ⟨e1,env1,H1⟩:=r
   rw [hs] at h
   intro k cs
   obtain ⟨ρ1,w1,ct1,ds1,⟨k1,p1,p2⟩,s2⟩:=ih hs hb R A hrd hD hB (.inBlock id::k) cs
   cases e1 with
   | normal =>
    cases h
    refine ⟨ρ1,w1,ct1,ds1,?_,s2⟩
    obtain rfl:k1=_:=p2
    exact ⟨k,.head st_block (p1.trans (.one st_inBlock)),rfl⟩
   | ret =>
    cases h
    exact ⟨ρ1,w1,ct1,ds1,⟨k1,.head st_block p1,p2⟩,s2⟩
   | exit id' =>
    simp only at h
    split at h
    ·rename_i e1
     subst e1
     cases h
     refine ⟨ρ1,w1,ct1,ds1,?_,s2⟩
     obtain ⟨q,rfl,p2⟩:=p2
     exact ⟨k,.head st_block (p1.trans (.one (st_exit (by rw [p2];simp [exitTo])))),rfl⟩
    ·rename_i hne
     cases h
     refine ⟨ρ1,w1,ct1,ds1,?_,s2⟩
     obtain ⟨q,rfl,p2⟩:=p2
     refine ⟨_,.head st_block p1,q,rfl,?_⟩
     rw [p2]
     have:(id==id')=false:=by simp;exact fun e=>hne e.symm
     simp [exitTo,this]
 | loop body ih =>
  intro env env' H H' e h b hb ρ w ct ds R A hrd hD hB
  simp only [evalCode] at h
  intro k cs
  obtain ⟨ρ1,w1,ct1,ds1,⟨k',p1,p2⟩,s2,s3,s4,s5,s6,s7⟩:=loop_steps (P:=P) (b:=b) (B:=B) (fun hh=>fun R A hrd hD hB=>ih hh hb R A hrd hD hB) n h R A hrd hD hB k cs
  exact ⟨ρ1,w1,ct1,ds1,⟨k',.head st_loop p1,p2⟩,s2,s3,s4,s5,s6⟩
 | rangeFunc f params assign body _ _ =>
  intro env env' H H' e h b hb ρ w ct ds R A hrd hD hB
  exact range_steps tok hC h hb R A hrd hD hB
 | exit id =>
  intro env env' H H' e h b hb ρ w ct ds R A hrd hD hB
  simp only [evalCode,Option.some.injEq,Prod.mk.injEq] at h
  obtain ⟨rfl,rfl,rfl⟩:=h
  exact fun k cs=>⟨ρ,w,ct,ds,⟨_,⟨0,rfl⟩,k,rfl,rfl⟩,A,Stp.refl _ _ _,R,hD,fun _=>rfl⟩
 | ret =>
  intro env env' H H' e h b hb ρ w ct ds R A hrd hD hB
  simp only [evalCode,Option.some.injEq,Prod.mk.injEq] at h
  obtain ⟨rfl,rfl,rfl⟩:=h
  exact fun k cs=>⟨ρ,w,ct,ds,⟨_,⟨0,rfl⟩,k,rfl⟩,A,Stp.refl _ _ _,R,hD,fun _=>rfl⟩
 | _=>intro env env' H H' e h;simp [evalCode] at h
end
end Go.Ev
namespace Go.Ev
def NatOK (P:Program) (g:FuncId) (k:Nat) (fi:FI):Prop:=∀ (T:Tab),TabOK P T→∀ (F:FTab) (C:CallSem) (n:Nat) (args:List Value) (H:Heap) (v:Value) (H':Heap),F g k=some fi→args.length=k→callFn T F C n g args H=some (v,H') →
 ∀ (ρ:Ren) (w:World) (cargs:List Value),LRel ρ args cargs→Rel ρ H w →
  ∀ cs,∃ ρ' w' cv,(∃ fr,Steps P (lone (Frame.enter P g cargs.toArray .normal) cs w) (lone fr cs w')∧fr.fn=g∧fr.leaving P w' (.returned cv))∧VRel ρ' v cv∧Stp ρ H w ρ' H' w'∧Rel ρ' H' w'
def FOK (P:Program) (F:FTab):Prop:=∀ g k fi,F g k=some fi→∃ fn c,P.funcs[g]?=some fn∧fn.body=some c∧(fn.name == "runtime.NumGoroutine")=false ∧
 ((c=fi.code∧fn.results.toList=fi.results∧fn.ntmps=fi.ntmps)∨NatOK P g k fi)
theorem DOK.nil {B:Nat} {w:World}:DOK B w []:=⟨[],rfl,List.nodup_nil,by simp⟩
def resOf (ct:Array Value):ResultVar→Sem Value
 | .tmp t=>pure (ct.getD t undef)
 | .cell a t=>do loadVar t (←asAddr (ct.getD a undef))
theorem results_eq (fn:Func) (ct:Array Value):results fn ct=(do let vs ←fn.results.mapM (resOf ct);pure (if h:vs.size=1 then vs[0] else .tuple vs):Sem Value):=rfl
theorem foldl_rel {ρ:Ren}:∀ (ps:List Tmp) {args cargs:List Value} (ra:LRel ρ args cargs) {env ct:Array Value} (A:ARel ρ env ct),
  ARel ρ ((ps.zip args).foldl (fun ts p=>ts.setIfInBounds p.1 p.2) env) ((ps.zip cargs).foldl (fun ts p=>ts.setIfInBounds p.1 p.2) ct)
 | [],_,_,_,_,_,A=>A
 | p::ps,_,_,.nil,_,_,A=>A
 | p::ps,_,_,.cons r1 r2,_,_,A=>foldl_rel ps r2 (A.set p r1)
section
variable {P:Program} {T:Tab} (tok:TabOK P T)
include tok
theorem result_sim {ρ:Ren} {H:Heap} {w:World} (R:Rel ρ H w) {env:Env} {ct:Array Value} (A:ARel ρ env ct) {r:ResultVar} {v:Value} (h:aresult T env H r=some v) :
  ∃ cv,(resOf ct r).run P w=.ok cv w∧VRel ρ v cv:=by
 cases r with
 | tmp t =>
  simp only [aresult,Option.some.injEq] at h
  subst h
  exact ⟨_,rfl,A.2 t⟩
 | cell a t =>
  simp only [aresult,Option.bind_eq_bind,Option.bind_eq_some_iff] at h
  obtain ⟨i,hi,h⟩:=h
  have ra:=A.2 a
  generalize hcc:ct.getD a undef=cc at ra
  split at h
  ·rename_i b off hp
   rw [hp] at ra
   simp only [Option.bind_eq_some_iff] at h
   obtain ⟨cs,k1,k2⟩:=h
   cases ra with
   | ptr _ _ l hl =>
    obtain ⟨cv,e1,e2⟩:=loadVar_sim tok R hi hl k1 k2
    exact ⟨cv,by simp only [resOf,hcc,asAddr,Sem.run_bind,Sem.run_pure,Result.andThen_ok,e1],e2⟩
  ·cases h
theorem results_list {ρ:Ren} {H:Heap} {w:World} (R:Rel ρ H w) {env:Env} {ct:Array Value} (A:ARel ρ env ct):∀ (rs:List ResultVar) {vs:List Value},aresults T env H rs=some vs →
  ∃ cvs,(rs.mapM (resOf ct):Sem (List Value)).run P w=.ok cvs w∧LRel ρ vs cvs
 | [],vs,h=>by
  simp only [aresults,Option.some.injEq] at h
  subst h
  exact ⟨[],rfl,.nil⟩
 | r::rs,vs,h=>by
  simp only [aresults,Option.bind_eq_bind,Option.bind_eq_some_iff,Option.some.injEq] at h
  obtain ⟨v,hv,vs',hvs,rfl⟩:=h
  obtain ⟨cv,e1,r1⟩:=result_sim tok R A hv
  obtain ⟨cvs,e2,r2⟩:=results_list R A rs hvs
  refine ⟨cv::cvs,?_,.cons r1 r2⟩
  rw [List.mapM_cons,Sem.run_bind,e1,Result.andThen_ok,Sem.run_bind,e2,Result.andThen_ok]
  rfl
theorem results_sim {ρ:Ren} {H:Heap} {w:World} (R:Rel ρ H w) {env:Env} {ct:Array Value} (A:ARel ρ env ct) {fn:Func} {vs:List Value} (h:aresults T env H fn.results.toList=some vs) :
  ∃ cv,(results fn ct).run P w=.ok cv w∧VRel ρ (outOf vs) cv:=by
 obtain ⟨cvs,e,r⟩:=results_list tok R A _ h
 refine ⟨outOf cvs,?_,?_⟩
 ·rw [results_eq,Array.mapM_eq_mapM_toList]
  simp only [Sem.run_map,Sem.run_bind]
  rw [e]
  simp only [Result.andThen_ok,Sem.run_pure]
  cases r with
  | nil=>rfl
  | cons r1 r2=>cases r2 with
   | nil=>rfl
   | cons r2 r3=>simp [outOf,Sem.run]
 ·cases r with
  | nil=>exact .unit
  | cons r1 r2=>cases r2 with
   | nil=>exact r1
   | cons r2 r3 =>
    have:=ARel.of_list (.cons r1 (.cons r2 r3))
    exact .tuple _ _ this.1 this.2
end
theorem marks_steps {P:Program} (b:Frame):∀ (rs:List Nat) {w:World},rs.Nodup→(∀ r∈rs,w.heap[r]?=some (.deferred (some []))) →
  ∃ w',(∀ ct k cs,Steps P (lone { fat b ct (rs.map markOf) k with mode:=.returning } cs w) (lone { fat b ct [] k with mode:=.returning } cs w'))∧(∀ i,i∉rs→w'.heap[i]?=w.heap[i]?) ∧
   w'.heap.size=w.heap.size∧w'.os=w.os∧w'.tape=w.tape∧w'.output=w.output
 | [],w,_,_=>⟨w,fun _ _ _=>⟨0,rfl⟩,fun _ _=>rfl,rfl,rfl,rfl,rfl⟩
 | r::rs,w,hn,hr=>by
  obtain ⟨hn1,hn2⟩:=List.nodup_cons.1 hn
  have hk:=run_takeDeferred (P:=P) (hr r (by simp))
  obtain ⟨w',s1,s2,s3,s4,s5,s6⟩:=marks_steps b rs (w:=w.putObj r (.deferred none)) hn2 (fun q hq=>by
   have hne:r≠q:=fun e=>hn1 (e▸hq)
   simp [World.putObj,Array.getElem?_setIfInBounds_ne hne,hr q (by simp [hq])])
  refine ⟨w',fun ct k cs=>.head (st_take (k':=k) hk) (s1 ct k cs),fun i hi=>?_,by rw [s3];simp [World.putObj],s4,s5,s6⟩
  have h1:i∉rs:=fun e=>hi (by simp [e])
  have h2:r≠i:=fun e=>hi (by simp [e])
  rw [s2 i h1]
  simp [World.putObj,Array.getElem?_setIfInBounds_ne h2]
theorem Rel.unmark {ρ:Ren} {H:Heap} {w w':World} (R:Rel ρ H w) {rs:List Nat} (hr:∀ r∈rs,w.heap[r]?=some (.deferred (some []))) (hh:∀ i,i∉rs→w'.heap[i]?=w.heap[i]?) (hs:w'.heap.size=w.heap.size):Rel ρ H w':=by
 refine ⟨R.wf,R.dom,fun b l h=>by rw [hs];exact R.cdom b l h,fun b l o h1 h2=>?_,R.sep⟩
 have:=R.live b l o h1 h2
 have hn:l.cb∉rs:=fun hm=>by rw [hr _ hm] at this;exact this.notDeferred
 rw [hh _ hn];exact this
theorem Stp.unmark {ρ0 ρ:Ren} {H0 H:Heap} {w0 w w':World} (S:Stp ρ0 H0 w0 ρ H w) {rs:List Nat} (hr:∀ r∈rs,w0.heap.size≤r) (hh:∀ i,i∉rs→w'.heap[i]?=w.heap[i]?) (hs:w'.heap.size=w.heap.size)
  (h1:w'.os=w.os) (h2:w'.tape=w.tape) (h3:w'.output=w.output):Stp ρ0 H0 w0 ρ H w' :=
 ⟨S.ren,S.new,S.next,S.aframe,by rw [hs];exact S.size,S.own,fun i hi ho=>by rw [hh i (fun hm=>by have:=hr i hm;omega)];exact S.frame i hi ho,h1.trans S.os,h2.trans S.tape,h3.trans S.output⟩
section
variable {P:Program} {T:Tab} (tok:TabOK P T) {F:FTab} (fok:FOK P F) {C:CallSem} (hC:CSound P C) (hmix:P.follows .mixedOrders=true)
include tok fok hC hmix
theorem callFn_steps {n:Nat} {g:FuncId} {args:List Value} {H H':Heap} {v:Value} (h:callFn T F C n g args H=some (v,H')) {ρ:Ren} {w:World} {cargs:List Value} (ra:LRel ρ args cargs) (R:Rel ρ H w) :
  ∀ cs,∃ ρ' w' cv,(∃ fr,Steps P (lone (Frame.enter P g cargs.toArray .normal) cs w) (lone fr cs w')∧fr.fn=g∧fr.leaving P w' (.returned cv))∧VRel ρ' v cv∧Stp ρ H w ρ' H' w'∧Rel ρ' H' w':=by
 have h0:=h
 intro cs
 unfold callFn at h
 cases hF:F g args.length with
 | none=>rw [hF] at h;cases h
 | some fi =>
  rw [hF] at h
  simp only at h
  obtain ⟨fn,c0,f1,f2,f5,⟨rfl,f3,f4⟩|hnat⟩:=fok g _ fi hF
  case inr=>exact hnat T tok F C n args H v H' hF rfl h0 ρ w cargs ra R cs
  have hlen:=ra.length
  have A0:ARel ρ (args.toArray++Array.replicate (fi.ntmps - args.length) undef) (cargs.toArray++Array.replicate (fi.ntmps - args.length) undef):=by
   have:LRel ρ (args++List.replicate (fi.ntmps - args.length) undef) (cargs++List.replicate (fi.ntmps - args.length) undef):=by
    refine All2.append ra ?_
    generalize fi.ntmps - args.length=m
    induction m with
    | zero=>exact .nil
    | succ m ih=>exact .cons (.undef ρ) ih
   have:=ARel.of_list this
   rw [show args.toArray++Array.replicate (fi.ntmps - args.length) undef=(args++List.replicate (fi.ntmps - args.length) undef).toArray by apply Array.ext';simp,
    show cargs.toArray++Array.replicate (fi.ntmps - args.length) undef=(cargs++List.replicate (fi.ntmps - args.length) undef).toArray by apply Array.ext';simp]
   exact this
  let b:Frame:={ fn:=g,tmps:=#[],todo:=[],defers:=[],mode:=.run,kind:=.normal }
  have hent:Frame.enter P g cargs.toArray .normal=fat b (cargs.toArray++Array.replicate (fi.ntmps - args.length) undef) [] [.code fi.code]:=by
   simp [Frame.enter,fat,f1,f2,f4,hlen,b]
  have main:∀ e env,evalCode T C n g none fi.code (args.toArray++Array.replicate (fi.ntmps - args.length) undef) H=some (e,env,H')→(e=.normal∨e=.ret)→∀ vs,aresults T env H' fi.results=some vs→v=outOf vs →
    ∃ ρ' w' cv,(∃ fr,Steps P (lone (Frame.enter P g cargs.toArray .normal) cs w) (lone fr cs w')∧fr.fn=g∧fr.leaving P w' (.returned cv))∧VRel ρ' v cv∧Stp ρ H w ρ' H' w'∧Rel ρ' H' w':=by
   intro e env hev he vs hvs hv
   subst hv
   obtain ⟨ρ1,w1,ct1,ds1,⟨k',p1,p2⟩,s2,s3,s4,s5,s6⟩:=code_steps tok hC hmix (B:=w.heap.size) fi.code hev (b:=b) rfl R A0 (rfl:b.roundOf=none) DOK.nil (Nat.le_refl _) [] cs
   obtain ⟨rs,rfl,hn,hr⟩:=s5
   obtain ⟨w2,t1,t2,t3,t4,t5,t6⟩:=marks_steps (P:=P) b rs hn (fun r hm=>(hr r hm).2)
   have R2:=s4.unmark (fun r hm=>(hr r hm).2) t2 t3
   have S2:=s3.unmark (fun r hm=>(hr r hm).1) t2 t3 t4 t5 t6
   rw [←f3] at hvs
   obtain ⟨cv,c1,c2⟩:=results_sim tok R2 s2 hvs
   refine ⟨ρ1,w2,cv,?_,c2,S2,R2⟩
   rw [hent]
   rcases he with rfl|rfl
   ·obtain rfl:k'=[]:=p2
    exact ⟨_,p1.trans (.head (st_end rfl) (t1 ct1 [] cs)),rfl,rfl,rfl,rfl,fn,f1,c1⟩
   ·obtain ⟨q,rfl⟩:=p2
    exact ⟨_,p1.trans (.head (st_ret rfl) (t1 ct1 _ cs)),rfl,rfl,rfl,rfl,fn,f1,c1⟩
  split at h
  ·rename_i env H1 hev
   simp only [Option.map_eq_some_iff,Prod.mk.injEq] at h
   obtain ⟨vs,hvs,rfl,rfl⟩:=h
   exact main _ _ hev (.inl rfl) vs hvs rfl
  ·rename_i env H1 hev
   simp only [Option.map_eq_some_iff,Prod.mk.injEq] at h
   obtain ⟨vs,hvs,rfl,rfl⟩:=h
   exact main _ _ hev (.inr rfl) vs hvs rfl
  ·cases h
theorem round_steps {n:Nat} {l:Nat} {args:List Value} {H H':Heap} {v:Value} (h:yieldRound T C n l args H=some (v,H')) {ρ:Ren} {w:World} {cargs:List Value} (ra:LRel ρ args cargs) (R:Rel ρ H w) {loc:Loc} (hl:ρ l=some loc) :
  ∀ c cs,∃ ρ' w' cv,(∃ f ts as bd,(Instr.yield loc.cb cargs.toArray).run P w=.ok (.round loc.cb f ts as bd) w∧Steps P (lone (Frame.round loc.cb f ts as bd .normal) (c::cs) w) (lone (c.finish cv) cs w'))∧VRel ρ' v cv∧Stp ρ H w ρ' H' w'∧Rel ρ' H' w':=by
 intro c cs
 unfold yieldRound at h
 split at h
 case h_2=>cases h
 rename_i x0 pend fn env params assign body hg
 split at h
 case isFalse=>cases h
 rename_i hlen
 split at h
 case h_2=>cases h
 rename_i x1 env1 H1 hev1
 split at h
 case h_2=>cases h
 rename_i x2 pend1 fn1 env0 params1 assign1 body1 hg1
 split at h
 case h_2=>cases h
 rename_i x3 e env3' H3 hev2
 split at h
 case h_2=>cases h
 rename_i x4 st3 pend3 fn3 env3 params3 assign3 body3 hg3
 obtain ⟨r,q1,q2,q3,q4,q5,q6,q7,q8⟩:=R.live l loc _ hl hg
 have hyield:(Instr.yield loc.cb cargs.toArray).run P w=.ok (.round loc.cb r.fn ((r.params.zip cargs.toArray).foldl (fun tmps (t,a)=>tmps.setIfInBounds t a) r.tmps) r.assign r.body) w:=by
  have hs:cargs.length=r.params.size:=by rw [q6,←hlen,ra.length]
  simp [Instr.yield,Sem.run_bind,run_getLoop q1,hs]
 -- the round's frame
 let b:Frame:={ fn:=r.fn,tmps:=#[],todo:=[],defers:=[],mode:=.run,kind:=.normal,roundOf:=some loc.cb }
 have A0:ARel ρ ((params.zip args.toArray).foldl (fun ts p=>ts.setIfInBounds p.1 p.2) env) ((r.params.zip cargs.toArray).foldl (fun tmps (t,a)=>tmps.setIfInBounds t a) r.tmps):=by
  rw [q6,←Array.foldl_toList,←Array.foldl_toList]
  simp only [Array.toList_zip]
  exact foldl_rel params.toList ra q5
 obtain ⟨ρ1,w1,ct1,ds1,⟨k1,p1,p2⟩,s2,s3,s4,s5,s6⟩:=code_steps tok hC hmix (B:=w.heap.size) assign hev1 (b:=b) q4 R A0 ⟨loc,hl,rfl⟩ DOK.nil (Nat.le_refl _) [.beginRound,.code body] (c::cs)
 have s6':ds1=[]:=s6 (by simp)
 subst s6'
 have hl1:=s3.ren _ _ hl
 obtain ⟨r1,u1,u2,u3,u4,u5,u6,u7,u8⟩:=s4.live l loc _ hl1 hg1
 have hc1:loc.cb < w1.heap.size:=lt_of_get u1
 have hbeg:(Instr.beginRound loc.cb).run P w1=.ok () (w1.putObj loc.cb (.loop { r1 with state:=.busy })):=by
  have u1':w1.heap[loc.cb]?=some (.loop r1):=u1
  simp [Instr.beginRound,Sem.run_bind,run_getLoop u1,run_setObj_loop _ u1,Result.andThen,u2]
 obtain ⟨R1,S1⟩:=Rel.update (w':=w1.putObj loc.cb (.loop { r1 with state:=.busy })) s4 hl1 hg1 rfl (o':=.loop .busy pend1 fn1 env0 params1 assign1 body1) rfl
  (fun i hi=>by simp [World.putObj,Array.getElem?_setIfInBounds_ne (Ne.symm hi)]) (by simp [World.putObj])
  (by simp only [World.putObj,Array.getElem?_setIfInBounds_self,hc1,if_true];exact ⟨_,rfl,rfl,u3,u4,u5,u6,u7,u8⟩) rfl rfl rfl
 have SA:=s3.trans S1
 obtain ⟨ρ2,w2,ct2,ds2,⟨k2,p3,p4⟩,t2,t3,t4,t5,t6⟩:=code_steps tok hC hmix (B:=w.heap.size) body hev2 (b:=b) q4 R1 s2 ⟨loc,hl1,rfl⟩ DOK.nil SA.size [] (c::cs)
 have t6':ds2=[]:=t6 (by simp)
 subst t6'
 have hl2:=t3.ren _ _ hl1
 obtain ⟨r2,v1,v2,v3,v4,v5,v6,v7,v8⟩:=t4.live l loc _ hl2 hg3
 have hc2:loc.cb < w2.heap.size:=lt_of_get v1
 have SB:=SA.trans t3
 have fin:∀ jump:Option Code,Rel ρ2 (H3.put l (some (.loop (if jump.isNone then .ready else .done) jump fn3 env3 params3 assign3 body3))) (w2.putObj loc.cb (.loop { r2 with state:=if jump.isNone then .ready else .done,pending:=jump })) ∧
   Stp ρ2 H3 w2 ρ2 (H3.put l (some (.loop (if jump.isNone then .ready else .done) jump fn3 env3 params3 assign3 body3))) (w2.putObj loc.cb (.loop { r2 with state:=if jump.isNone then .ready else .done,pending:=jump })):=fun jump =>
  Rel.update (w':=w2.putObj loc.cb (.loop { r2 with state:=if jump.isNone then .ready else .done,pending:=jump })) t4 hl2 hg3 rfl (o':=.loop (if jump.isNone then .ready else .done) jump fn3 env3 params3 assign3 body3) rfl
   (fun i hi=>by simp [World.putObj,Array.getElem?_setIfInBounds_ne (Ne.symm hi)]) (by simp [World.putObj])
   (by simp only [World.putObj,Array.getElem?_setIfInBounds_self,hc2,if_true];exact ⟨_,rfl,rfl,rfl,v4,v5,v6,v7,v8⟩) rfl rfl rfl
 have hend:=fun jump=>run_endRound (P:=P) (w:=w2) jump v1
 have head:∃ k',Steps P (lone (Frame.round loc.cb r.fn ((r.params.zip cargs.toArray).foldl (fun tmps (t,a)=>tmps.setIfInBounds t a) r.tmps) r.assign r.body .normal) (c::cs) w) (lone (fat b ct2 [] k') (c::cs) w2)∧AtExit e [] k':=by
  obtain rfl:k1=_:=p2
  refine ⟨k2,?_,p4⟩
  have e0:Frame.round loc.cb r.fn ((r.params.zip cargs.toArray).foldl (fun tmps (t,a)=>tmps.setIfInBounds t a) r.tmps) r.assign r.body .normal =
    fat b ((r.params.zip cargs.toArray).foldl (fun tmps (t,a)=>tmps.setIfInBounds t a) r.tmps) [] [.code assign,.beginRound,.code body]:=by
   rw [q7,q8];rfl
  rw [e0]
  exact p1.trans (.head (st_beginRound rfl hbeg) p3)
 cases e with
 | normal =>
  simp only [Option.some.injEq,Prod.mk.injEq] at h
  obtain ⟨rfl,rfl⟩:=h
  obtain ⟨R4,S4⟩:=fin none
  refine ⟨ρ2,_,.bool true,⟨_,_,_,_,hyield,?_⟩,.bool true,SB.trans S4,R4⟩
  obtain ⟨k',p1,p2⟩:=head
  obtain rfl:k'=[]:=p2
  exact p1.trans (.one ((st_roundEnd rfl rfl (hend none)).1 rfl))
 | ret =>
  simp only [Option.some.injEq,Prod.mk.injEq] at h
  obtain ⟨rfl,rfl⟩:=h
  obtain ⟨R4,S4⟩:=fin (some .ret)
  refine ⟨ρ2,_,.bool false,⟨_,_,_,_,hyield,?_⟩,.bool false,SB.trans S4,R4⟩
  obtain ⟨k',p1,q,rfl⟩:=head
  exact p1.trans (.one ((st_roundEnd rfl rfl (hend (some .ret))).2.1 rfl q))
 | exit id =>
  simp only [Option.some.injEq,Prod.mk.injEq] at h
  obtain ⟨rfl,rfl⟩:=h
  obtain ⟨R4,S4⟩:=fin (some (.exit id))
  refine ⟨ρ2,_,.bool false,⟨_,_,_,_,hyield,?_⟩,.bool false,SB.trans S4,R4⟩
  obtain ⟨k',p1,q,rfl,p2⟩:=head
  exact p1.trans (.one ((st_roundEnd rfl rfl (hend (some (.exit id)))).2.2 id rfl q (by rw [p2];rfl)))
end
theorem evalCall_sound {P:Program} {T:Tab} (tok:TabOK P T) {F:FTab} (fok:FOK P F) (hmix:P.follows .mixedOrders=true):∀ n,CSound P (evalCall T F n)
 | 0=>fun fv args H v H' h=>by simp [evalCall] at h
 | n+1=>by
  have hC:=evalCall_sound tok fok hmix n
  intro fv args H v H' h ρ w cfv cargs rf ra R c cs
  simp only [evalCall] at h
  split at h
  ·rename_i g x y
   cases rf with
   | func _ fn' _ _ x' y' hf hx hy h1 h2 =>
    cases hf with
    | func _ =>
     have rall:LRel ρ (x.toList++args++y.toList) (x'.toList++cargs++y'.toList):=All2.append (All2.append (ARel.toList ⟨hx,h1⟩) ra) (ARel.toList ⟨hy,h2⟩)
     obtain ⟨ρ',w',cv,c1,c2,c3,c4⟩:=callFn_steps tok fok hC hmix h rall R (c::cs)
     refine ⟨ρ',w',cv,⟨.enter g (x'.toList++cargs++y'.toList).toArray,w,?_,.inl ⟨g,_,rfl,?_⟩⟩,c2,c3,c4⟩
     ·have hF:∃ fi,F g (x.toList++args++y.toList).length=some fi:=by
       unfold callFn at h
       cases hF:F g (x.toList++args++y.toList).length with
       | none=>rw [hF] at h;cases h
       | some fi=>exact ⟨fi,rfl⟩
      obtain ⟨fi,hF⟩:=hF
      obtain ⟨fn,c0,f1,f2,f5,_⟩:=fok g _ fi hF
      have e:x'++cargs.toArray++y'=(x'.toList++cargs++y'.toList).toArray:=by apply Array.ext';simp
      simp [Deferred.ofValue,invoke,callFunc,Sem.run_bind,program,Sem.run,f1,f2,e]
      simpa using f5
     ·obtain ⟨fr,p1,p2,p3⟩:=c1
      exact p1.trans (.one (step_leave_returned p3))
  ·rename_i l x y
   cases rf with
   | func _ fn' _ _ x' y' hf hx hy h1 h2 =>
    cases hf with
    | yield _ loc hl =>
     have rall:LRel ρ (x.toList++args) (x'.toList++cargs):=All2.append (ARel.toList ⟨hx,h1⟩) ra
     obtain ⟨ρ',w',cv,⟨f,ts,as,bd,c1,c1'⟩,c2,c3,c4⟩:=round_steps tok fok hC hmix h rall R hl c cs
     refine ⟨ρ',w',cv,⟨_,w,?_,.inr ⟨loc.cb,f,ts,as,bd,rfl,c1'⟩⟩,c2,c3,c4⟩
     have e:x'++cargs.toArray=(x'.toList++cargs).toArray:=by apply Array.ext';simp
     simp only [Deferred.ofValue,Sem.run_bind,Sem.run_pure,Result.andThen_ok,invoke,e,c1]
  ·cases h
end Go.Ev
namespace Go.Ev
theorem Stp.below {ρ ρ':Ren} {H H':Heap} {w w':World} (S:Stp ρ H w ρ' H' w') (h:∀ i,¬ Own ρ H i):RowKit.Below w.heap.size w w' :=
 ⟨S.os,S.tape,S.output,S.size,fun k hk=>S.frame k hk (h k)⟩
def noRen:Ren:=fun _=>none
def emptyHeap:Heap:=Heap.empty
theorem Rel.empty (w:World):Rel noRen emptyHeap w :=
 {wf:=fun b _=>rfl,dom:=fun b l h=>(by cases h),cdom:=fun b l h=>(by cases h),live:=fun b l o h=>(by cases h),sep:=fun b b' l l' o o' _ h=>(by cases h) }
end Go.Ev
namespace Go.Ev
def zeroCells (agg:Bool) (size:Nat) (z:Value):Option (List Value) :=
 if agg then match z with
  | .agg cs=>if cs.toList.all constOK1&&cs.toList.length==size then some cs.toList else none
  | _=>none
 else if constOK1 z&&1==size then some [z] else none
def tiOf (P:Program):Tab:=fun t =>
 match P.underlying t,P.info? t with
 | some d,some f=>match f.zero with
  | some z=>match zeroCells (isAggD d) f.size z with
   | some l=>some ⟨d,f.size,f.bytes,l,!(P.eqGuardType P.depth t)&&!(P.stoodInHeld t)⟩
   | none=>none
  | none=>none
 | _,_=>none
theorem zeroCells_ok {d:TypeDesc} {size bytes:Nat} {cmp:Bool} {z:Value} {l:List Value} (h:zeroCells (isAggD d) size z=some l):ofCells ⟨d,size,bytes,l,cmp⟩ l=some z∧l.all constOK1=true∧l.length=size:=by
 unfold zeroCells at h
 split at h
 ·rename_i ha
  split at h
  ·rename_i cs
   split at h
   ·rename_i hc
    simp only [Bool.and_eq_true,beq_iff_eq] at hc
    cases h
    exact ⟨by simp [ofCells,ha],hc⟩
   ·cases h
  ·cases h
 ·rename_i ha
  split at h
  ·rename_i hc
   simp only [Bool.and_eq_true,beq_iff_eq] at hc
   cases h
   exact ⟨by simp [ofCells,ha],by simp [hc.1],by simp [hc.2]⟩
  ·cases h
theorem tiOf_ok (P:Program):TabOK P (tiOf P):=by
 have key:∀ t i,tiOf P t=some i→∃ d f z l,P.underlying t=some d∧P.info? t=some f∧f.zero=some z∧zeroCells (isAggD d) f.size z=some l∧i=⟨d,f.size,f.bytes,l,!(P.eqGuardType P.depth t)&&!(P.stoodInHeld t)⟩:=by
  intro t i h
  unfold tiOf at h
  split at h
  ·split at h
   ·split at h
    ·cases h;exact ⟨_,_,_,_,‹_›,‹_›,‹_›,‹_›,rfl⟩
    ·cases h
   ·cases h
  ·cases h
 refine ⟨fun t i h=>?_,fun t i h=>?_,fun t i h=>?_,fun t i h hc=>?_⟩
 all_goals obtain ⟨d,f,z,l,h1,h2,h3,h4,rfl⟩:=key t i h
 ·exact h1
 ·exact ⟨f,z,h2,rfl,rfl,h3,(zeroCells_ok h4).1⟩
 ·exact (zeroCells_ok (bytes:=0) (cmp:=false) h4).2
 ·simpa using hc
theorem TabOK.mono {P:Program} {T T':Tab} (h:TabOK P T) (k:∀ t i,T' t=some i→T t=some i):TabOK P T' :=
 ⟨fun t i e=>h.und t i (k t i e),fun t i e=>h.info t i (k t i e),fun t i e=>h.zok t i (k t i e),fun t i e=>h.cmp t i (k t i e)⟩
def fnOf (P:Program):FTab:=fun g _ =>
 match P.funcs[g]? with
 | some fn=>if fn.name == "runtime.NumGoroutine" then none else match fn.body with
  | some c=>some ⟨c,fn.results.toList,fn.ntmps⟩
  | none=>none
 | none=>none
theorem fnOf_ok (P:Program):FOK P (fnOf P):=by
 intro g k fi h
 unfold fnOf at h
 split at h
 ·rename_i fn hf
  split at h
  ·cases h
  ·rename_i hn
   split at h
   ·rename_i c hc
    cases h
    exact ⟨fn,c,hf,hc,by simpa using hn,.inl ⟨rfl,rfl,rfl⟩⟩
   ·cases h
 ·cases h
theorem FOK.mono {P:Program} {F F':FTab} (h:FOK P F) (k:∀ g n fi,F' g n=some fi→F g n=some fi) (hn:∀ g n fi,F' g n=some fi→NatOK P g n fi→NatOK P g n fi:=fun _ _ _ _ x=>x):FOK P F':=fun g n fi e=>h g n fi (k g n fi e)
def isTrue:Option (Value×Heap)→Bool
 | some (.bool true,_)=>true
 | _=>false
end Go.Ev
