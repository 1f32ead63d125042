/- The base of the evaluator: an abstract heap, abstract objects, the relation of abstract and concrete values and worlds under a renaming of blocks. -/
import Derived.Calls
import Derived.Below
import Derived.Laws.Sem
import Derived.Laws.Entries
import Derived.Laws.StructEq
import Derived.Laws.Strings
import Derived.Laws.Slices
import Derived.ChangeKeysEq
import Derived.Laws.BytesString
set_option linter.unusedSimpArgs false
set_option linter.unusedVariables false
set_option linter.unusedSectionVars false
namespace Go.Ev
inductive AObj where
 | cells (vs:List Value) (wr:Bool) (g:Nat)
 | map (es:List (Value×Value))
 | loop (st:LoopState) (pending:Option Code) (fn:FuncId) (env:Array Value) (params:Array Tmp) (assign body:Code)
inductive Tree where
 | nil
 | node (o:Option AObj) (l r:Tree)
def Tree.get:Tree→Nat→Option AObj
 | .nil,_=>none
 | .node o l r,b=>if b=0 then o else if b % 2=1 then l.get (b / 2) else r.get (b / 2 - 1)
def Tree.kidL:Tree→Tree|.nil=>.nil|.node _ l _=>l
def Tree.kidR:Tree→Tree|.nil=>.nil|.node _ _ r=>r
def Tree.top:Tree→Option AObj|.nil=>none|.node o _ _=>o
def Tree.put:Nat→Tree→Nat→Option AObj→Tree
 | 0,t,_,x=>.node x t.kidL t.kidR
 | n+1,t,b,x=>if b=0 then .node x t.kidL t.kidR else if b % 2=1 then .node t.top (Tree.put n t.kidL (b / 2) x) t.kidR else .node t.top t.kidL (Tree.put n t.kidR (b / 2 - 1) x)
theorem Tree.get_kids (t:Tree) (b:Nat):t.get b=if b=0 then t.top else if b % 2=1 then t.kidL.get (b / 2) else t.kidR.get (b / 2 - 1):=by
 cases t<;>simp [Tree.get,Tree.kidL,Tree.kidR,Tree.top]
theorem Tree.get_put (n:Nat):∀ (t:Tree) (b c:Nat) (x:Option AObj),b < 2 ^ n→(t.put n b x).get c=if c=b then x else t.get c:=by
 induction n with
 | zero =>
  intro t b c x hb
  have:b=0:=by omega
  subst this
  rw [Tree.get_kids t c]
  simp only [Tree.put,Tree.get]
  split<;>simp_all
 | succ n ih =>
  intro t b c x hb
  rw [Tree.get_kids t c]
  simp only [Tree.put]
  by_cases h0:b=0
  ·subst h0
   simp only [if_true,Tree.get]
   split<;>simp_all
  ·by_cases h1:b % 2=1
   ·simp only [h0,h1,if_true,if_false,Tree.get]
    by_cases c0:c=0
    ·have:¬ (c=b):=by omega
     simp [c0];omega
    ·by_cases c1:c % 2=1
     ·simp only [c0,c1,if_true,if_false]
      rw [ih _ _ _ _ (by omega)]
      by_cases e:c=b
      ·subst e;simp
      ·have:¬ (c / 2=b / 2):=by omega
       simp [e,this]
     ·have:¬ (c=b):=by intro e;subst e;exact c1 h1
      simp [c0,c1,this]
   ·simp only [h0,h1,if_false,Tree.get]
    by_cases c0:c=0
    ·have:¬ (c=b):=by omega
     simp [c0];omega
    ·by_cases c1:c % 2=1
     ·have:¬ (c=b):=by intro e;subst e;exact h1 c1
      simp [c0,c1,this]
     ·simp only [c0,c1,if_false]
      rw [ih _ _ _ _ (by omega)]
      by_cases e:c=b
      ·subst e;simp
      ·have:¬ (c / 2 - 1=b / 2 - 1):=by omega
       simp [e,this]
structure Heap where
 next:Nat
 t:Tree
def Heap.get (H:Heap) (b:Nat):Option AObj:=H.t.get b
def Heap.put (H:Heap) (b:Nat) (x:Option AObj):Heap:=⟨H.next,H.t.put (b.log2+1) b x⟩
def Heap.push (H:Heap) (x:AObj):Heap:=⟨H.next+1,H.t.put (H.next.log2+1) H.next (some x)⟩
def Heap.empty:Heap:=⟨0,.nil⟩
@[simp] theorem Heap.next_put (H:Heap) (b:Nat) (x:Option AObj):(H.put b x).next=H.next:=rfl
@[simp] theorem Heap.next_push (H:Heap) (x:AObj):(H.push x).next=H.next+1:=rfl
theorem Heap.get_put (H:Heap) (b c:Nat) (x:Option AObj):(H.put b x).get c=if c=b then x else H.get c :=
 Tree.get_put _ _ _ _ _ Nat.lt_log2_self
theorem Heap.get_push (H:Heap) (c:Nat) (x:AObj):(H.push x).get c=if c=H.next then some x else H.get c :=
 Tree.get_put _ _ _ _ _ Nat.lt_log2_self
theorem Heap.get_put_eq (H:Heap) (b:Nat) (x:Option AObj):(H.put b x).get b=x:=by rw [Heap.get_put,if_pos rfl]
theorem Heap.get_put_ne (H:Heap) {b c:Nat} (x:Option AObj) (h:c≠b):(H.put b x).get c=H.get c:=by rw [Heap.get_put,if_neg h]
theorem Heap.get_push_eq (H:Heap) (x:AObj):(H.push x).get H.next=some x:=by rw [Heap.get_push,if_pos rfl]
theorem Heap.get_push_ne (H:Heap) {c:Nat} (x:AObj) (h:c≠H.next):(H.push x).get c=H.get c:=by rw [Heap.get_push,if_neg h]
structure Loc where
 cb:Nat
 base:Nat
 ext:Nat
 full:Nat
 sz:Nat
abbrev Ren:=Nat→Option Loc
def Ren.le (ρ ρ':Ren):Prop:=∀ b l,ρ b=some l→ρ' b=some l
theorem Ren.le_refl (ρ:Ren):ρ.le ρ:=fun _ _ h=>h
theorem Ren.le_trans {a b c:Ren} (h:a.le b) (k:b.le c):a.le c:=fun x l e=>k x l (h x l e)
def CapOK (l:Loc) (off c c':Nat):Prop:=c'=c∨(0 < l.sz∧off+c*l.sz=l.ext∧c≤c'∧off+c'*l.sz≤l.full)
inductive FnRel (ρ:Ren):Fn→Fn→Prop
 | func (f:FuncId):FnRel ρ (.func f) (.func f)
 | yield (b:Nat) (l:Loc) (h:ρ b=some l):FnRel ρ (.yield b) (.yield l.cb)
inductive VRel (ρ:Ren):Value→Value→Prop
 | bool (b:Bool):VRel ρ (.bool b) (.bool b)
 | int (k:IntKind) (n:Int):VRel ρ (.int k n) (.int k n)
 | string (s:ByteArray):VRel ρ (.string s) (.string s)
 | nilptr:VRel ρ (.pointer none) (.pointer none)
 | ptr (b off:Nat) (l:Loc) (h:ρ b=some l):VRel ρ (.pointer (some ⟨b,off,none⟩)) (.pointer (some ⟨l.cb,l.base+off,none⟩))
 | nilslice:VRel ρ (.slice none 0 0) (.slice none 0 0)
 | slice (b off n c c':Nat) (l:Loc) (h:ρ b=some l) (hn:n≤c) (hc:CapOK l off c c'):VRel ρ (.slice (some ⟨b,off,none⟩) n c) (.slice (some ⟨l.cb,l.base+off,none⟩) n c')
 | empty (b off:Nat) (a:Addr) (l:Loc) (h:ρ b=some l):VRel ρ (.slice (some ⟨b,off,none⟩) 0 0) (.slice (some a) 0 0)
 | nilmap:VRel ρ (.map none) (.map none)
 | map (b:Nat) (l:Loc) (h:ρ b=some l):VRel ρ (.map (some b)) (.map (some l.cb))
 | nilFunc:VRel ρ .nilFunc .nilFunc
 | func (fn fn':Fn) (x y x' y':Array Value) (hf:FnRel ρ fn fn') (hx:x.size=x'.size) (hy:y.size=y'.size)
   (h1:∀ i,VRel ρ (x.getD i undef) (x'.getD i undef)) (h2:∀ i,VRel ρ (y.getD i undef) (y'.getD i undef)):VRel ρ (.func fn x y) (.func fn' x' y')
 | nilIface:VRel ρ .nilIface .nilIface
 | iface (t:TypeId) (v v':Value) (h:VRel ρ v v'):VRel ρ (.iface t v) (.iface t v')
 | agg (x x':Array Value) (hx:x.size=x'.size) (h:∀ i,VRel ρ (x.getD i undef) (x'.getD i undef)):VRel ρ (.agg x) (.agg x')
 | unit:VRel ρ (.tuple #[]) (.tuple #[])
 | tuple (x x':Array Value) (hx:x.size=x'.size) (h:∀ i,VRel ρ (x.getD i undef) (x'.getD i undef)):VRel ρ (.tuple x) (.tuple x')
theorem FnRel.mono {ρ ρ':Ren} (h:ρ.le ρ') {f f':Fn} (k:FnRel ρ f f'):FnRel ρ' f f':=by
 cases k with
 | func f=>exact .func f
 | yield b l e=>exact .yield b l (h _ _ e)
theorem VRel.mono {ρ ρ':Ren} (h:ρ.le ρ') {v v':Value} (k:VRel ρ v v'):VRel ρ' v v':=by
 induction k with
 | bool b=>exact .bool b
 | int k n=>exact .int k n
 | string s=>exact .string s
 | nilptr=>exact .nilptr
 | ptr b off l e=>exact .ptr b off l (h _ _ e)
 | nilslice=>exact .nilslice
 | slice b off n c c' l e hn hc=>exact .slice b off n c c' l (h _ _ e) hn hc
 | empty b off a l e=>exact .empty b off a l (h _ _ e)
 | nilmap=>exact .nilmap
 | map b l e=>exact .map b l (h _ _ e)
 | nilFunc=>exact .nilFunc
 | func fn fn' x y x' y' hf hx hy _ _ ih1 ih2=>exact .func fn fn' x y x' y' (hf.mono h) hx hy ih1 ih2
 | nilIface=>exact .nilIface
 | iface t v v' _ ih=>exact .iface t v v' ih
 | agg x x' hx _ ih=>exact .agg x x' hx ih
 | unit=>exact .unit
 | tuple x x' hx _ ih=>exact .tuple x x' hx ih
def ARel (ρ:Ren) (x x':Array Value):Prop:=x.size=x'.size∧∀ i,VRel ρ (x.getD i undef) (x'.getD i undef)
theorem ARel.mono {ρ ρ':Ren} (h:ρ.le ρ') {x x':Array Value} (k:ARel ρ x x'):ARel ρ' x x':=⟨k.1,fun i=>(k.2 i).mono h⟩
theorem VRel.undef (ρ:Ren):VRel ρ undef undef:=.unit
theorem ARel.nil (ρ:Ren):ARel ρ #[] #[]:=⟨rfl,fun i=>by simpa using VRel.undef ρ⟩
inductive All2 {α β:Type} (R:α→β→Prop):List α→List β→Prop
 | nil:All2 R [] []
 | cons {a b x y} (h:R a b) (t:All2 R x y):All2 R (a::x) (b::y)
theorem All2.imp {α β:Type} {R S:α→β→Prop} (f:∀ a b,R a b→S a b) {x:List α} {y:List β} (h:All2 R x y):All2 S x y:=by
 induction h with
 | nil=>exact .nil
 | cons h _ ih=>exact .cons (f _ _ h) ih
theorem All2.length {α β:Type} {R:α→β→Prop} {x:List α} {y:List β} (h:All2 R x y):x.length=y.length:=by
 induction h with
 | nil=>rfl
 | cons h _ ih=>simp [ih]
theorem All2.append {α β:Type} {R:α→β→Prop} {x x1:List α} {y y1:List β} (h:All2 R x y) (k:All2 R x1 y1):All2 R (x++x1) (y++y1):=by
 induction h with
 | nil=>exact k
 | cons h _ ih=>exact .cons h ih
theorem All2.take {α β:Type} {R:α→β→Prop} {x:List α} {y:List β} (h:All2 R x y) (n:Nat):All2 R (x.take n) (y.take n):=by
 induction h generalizing n with
 | nil=>simpa using All2.nil
 | cons h _ ih=>cases n with
  | zero=>simpa using All2.nil
  | succ n=>simpa using All2.cons h (ih n)
theorem All2.drop {α β:Type} {R:α→β→Prop} {x:List α} {y:List β} (h:All2 R x y) (n:Nat):All2 R (x.drop n) (y.drop n):=by
 induction h generalizing n with
 | nil=>simpa using All2.nil
 | cons h t ih=>cases n with
  | zero=>simpa using All2.cons h t
  | succ n=>simpa using ih n
theorem All2.get {α β:Type} {R:α→β→Prop} {x:List α} {y:List β} (h:All2 R x y):∀ (i:Nat) (a:α),x[i]?=some a→∃ b,y[i]?=some b∧R a b:=by
 induction h with
 | nil=>intro i a e;simp at e
 | cons h _ ih=>intro i a e;cases i with
  | zero=>simp at e;subst e;exact ⟨_,by simp,h⟩
  | succ i=>simp at e;obtain ⟨b,e1,e2⟩:=ih i a e;exact ⟨b,by simpa using e1,e2⟩
theorem All2.of_get {α β:Type} {R:α→β→Prop}:∀ {x:List α} {y:List β},x.length=y.length→(∀ (i:Nat) (a:α),x[i]?=some a→∃ b,y[i]?=some b∧R a b)→All2 R x y
 | [],[],_,_=>.nil
 | [],_::_,h,_=>by simp at h
 | _::_,[],h,_=>by simp at h
 | a::x,b::y,h,k=>by
  obtain ⟨b',e,r⟩:=k 0 a (by simp)
  simp at e;subst e
  exact .cons r (All2.of_get (by simpa using h) fun i a e=>by simpa using k (i+1) a (by simpa using e))
abbrev LRel (ρ:Ren) (x x':List Value):Prop:=All2 (VRel ρ) x x'
theorem LRel.mono {ρ ρ':Ren} (h:ρ.le ρ') {x x':List Value} (k:LRel ρ x x'):LRel ρ' x x':=k.imp fun _ _ r=>r.mono h
theorem ARel.toList {ρ:Ren} {x x':Array Value} (k:ARel ρ x x'):LRel ρ x.toList x'.toList:=by
 refine All2.of_get (by simpa using k.1) fun i a e=>?_
 have hi:i < x.size:=by
  rcases Nat.lt_or_ge i x.size with h|h
  ·exact h
  ·rw [List.getElem?_eq_none (by simpa using h)] at e;cases e
 have hj:i < x'.size:=by rw [←k.1];exact hi
 have r:=k.2 i
 simp only [Array.getElem?_toList,Array.getElem?_eq_getElem hi,Option.some.injEq] at e
 simp only [Array.getD_eq_getD_getElem?,Array.getElem?_eq_getElem hi,Array.getElem?_eq_getElem hj,Option.getD_some] at r
 exact ⟨x'[i],by simp [Array.getElem?_toList,Array.getElem?_eq_getElem hj],e▸r⟩
theorem ARel.of_list {ρ:Ren} {x x':List Value} (k:LRel ρ x x'):ARel ρ x.toArray x'.toArray:=by
 refine ⟨by simpa using k.length,fun i=>?_⟩
 simp only [Array.getD_eq_getD_getElem?,List.getElem?_toArray]
 cases e:x[i]? with
 | none =>
  have:x'[i]?=none:=by rw [List.getElem?_eq_none_iff] at e ⊢;rw [←k.length];exact e
  simp only [this,Option.getD_none]
  exact .undef ρ
 | some a =>
  obtain ⟨b,e1,r⟩:=k.get i a e
  simp only [e1,Option.getD_some]
  exact r
def AObj.writable:AObj→Bool
 | .cells _ wr _=>wr
 | _=>true
def ORel (ρ:Ren) (l:Loc):AObj→Option Obj→Prop
 | .cells vs wr g,o=>vs.length=l.ext∧g=l.sz∧l.ext≤l.full∧∃ C et fz,o=some (.cells C et fz)∧l.base+l.full≤C.size ∧
   (∀ i v,vs[i]?=some v→∃ cv,C[l.base+i]?=some cv∧VRel ρ v cv)∧(wr=true→∀ i,i < l.full→¬ (fz.1≤l.base+i∧l.base+i < fz.2))
 | .map es,o=>∃ ces clock,o=some (.map ces clock)∧All2 (fun (e:Value×Value) (c:MapEntry)=>VRel ρ e.1 c.key∧VRel ρ e.2 c.val) es ces.toList
 | .loop st pend fn env params assign body,o=>∃ r:Loop,o=some (.loop r)∧r.state=st∧r.pending=pend∧r.fn=fn∧ARel ρ env r.tmps∧r.params=params∧r.assign=assign∧r.body=body
theorem ORel.mono {ρ ρ':Ren} (h:ρ.le ρ') {l:Loc} {o:AObj} {c:Option Obj} (k:ORel ρ l o c):ORel ρ' l o c:=by
 cases o with
 | cells vs wr g =>
  obtain ⟨a,b,c,C,et,fz,d,e,f,g⟩:=k
  exact ⟨a,b,c,C,et,fz,d,e,fun i v hv=>let ⟨cv,x,y⟩:=f i v hv;⟨cv,x,y.mono h⟩,g⟩
 | map es =>
  obtain ⟨ces,clock,a,b⟩:=k
  exact ⟨ces,clock,a,b.imp fun _ _ p=>⟨p.1.mono h,p.2.mono h⟩⟩
 | loop st pend fn env params assign body =>
  obtain ⟨r,a,b,c,d,e,f⟩:=k
  exact ⟨r,a,b,c,d,e.mono h,f⟩
structure Rel (ρ:Ren) (H:Heap) (w:World):Prop where
 wf:∀ b,H.next≤b→H.get b=none
 dom:∀ b l,ρ b=some l→b < H.next
 cdom:∀ b l,ρ b=some l→l.cb < w.heap.size
 live:∀ b l o,ρ b=some l→H.get b=some o→ORel ρ l o w.heap[l.cb]?
 sep:∀ b b' l l' o o',b≠b'→ρ b=some l→ρ b'=some l'→H.get b=some o→H.get b'=some o'→o.writable=true→l.cb≠l'.cb
def Own (ρ:Ren) (H:Heap) (i:Nat):Prop:=∃ b l o,ρ b=some l∧H.get b=some o∧o.writable=true∧l.cb=i
structure Stp (ρ:Ren) (H:Heap) (w:World) (ρ':Ren) (H':Heap) (w':World):Prop where
 ren:ρ.le ρ'
 new:∀ b l,ρ' b=some l→ρ b=some l∨H.next≤b
 next:H.next≤H'.next
 aframe:∀ b,ρ b=none→b < H.next→H'.get b=H.get b
 size:w.heap.size≤w'.heap.size
 own:∀ i,Own ρ' H' i→Own ρ H i∨w.heap.size≤i
 frame:∀ i,i < w.heap.size→¬ Own ρ H i→w'.heap[i]?=w.heap[i]?
 os:w'.os=w.os
 tape:w'.tape=w.tape
 output:w'.output=w.output
theorem Stp.refl (ρ:Ren) (H:Heap) (w:World):Stp ρ H w ρ H w :=
 ⟨Ren.le_refl _,fun _ _ h=>.inl h,Nat.le_refl _,fun _ _ _=>rfl,Nat.le_refl _,fun _ h=>.inl h,fun _ _ _=>rfl,rfl,rfl,rfl⟩
theorem Stp.trans {ρ ρ1 ρ2:Ren} {H H1 H2:Heap} {w w1 w2:World} (h:Stp ρ H w ρ1 H1 w1) (k:Stp ρ1 H1 w1 ρ2 H2 w2):Stp ρ H w ρ2 H2 w2 where
 ren:=Ren.le_trans h.ren k.ren
 new:=fun b l e=>by
  rcases k.new b l e with e1|e1
  ·exact h.new b l e1
  ·exact .inr (Nat.le_trans h.next e1)
 next:=Nat.le_trans h.next k.next
 aframe:=fun b e hb=>by
  have e1:ρ1 b=none:=by
   cases e1:ρ1 b with
   | none=>rfl
   | some l =>
    rcases h.new b l e1 with e2|e2
    ·rw [e] at e2;cases e2
    ·omega
  rw [k.aframe b e1 (Nat.lt_of_lt_of_le hb h.next),h.aframe b e hb]
 size:=Nat.le_trans h.size k.size
 own:=fun i o=>by
  rcases k.own i o with o1|o1
  ·exact h.own i o1
  ·exact .inr (Nat.le_trans h.size o1)
 frame:=fun i hi ho=>by
  rw [k.frame i (Nat.lt_of_lt_of_le hi h.size) (fun o=>(h.own i o).elim ho (by omega)),h.frame i hi ho]
 os:=k.os.trans h.os
 tape:=k.tape.trans h.tape
 output:=k.output.trans h.output
end Go.Ev
namespace Go.Ev
structure TI where
 d:TypeDesc
 size:Nat
 bytes:Nat
 zero:List Value
 cmp:Bool
abbrev Tab:=TypeId→Option TI
def isAggD:TypeDesc→Bool
 | .struct _=>true
 | .array _ _=>true
 | _=>false
def constOK1:Value→Bool
 | .bool _|.int _ _|.string _|.pointer none|.slice none 0 0|.map none|.nilFunc|.nilIface=>true
 | _=>false
def constOK:Value→Bool
 | .agg cs=>cs.toList.all constOK1
 | .tuple vs=>vs.size==0
 | v=>constOK1 v
def getCells (vs:List Value) (off n:Nat):Option (List Value):=if off+n≤vs.length then some ((vs.drop off).take n) else none
def setCells (vs:List Value) (off:Nat) (xs:List Value):Option (List Value):=if off+xs.length≤vs.length then some (vs.take off++(xs++vs.drop (off+xs.length))) else none
def Heap.read (H:Heap) (b off n:Nat):Option (List Value) :=
 match H.get b with
 | some (.cells vs _ _)=>getCells vs off n
 | _=>none
def Heap.write (H:Heap) (b off:Nat) (xs:List Value):Option Heap :=
 match H.get b with
 | some (.cells vs true g)=>(setCells vs off xs).map fun vs'=>H.put b (some (.cells vs' true g))
 | _=>none
def ofCells (i:TI) (cs:List Value):Option Value :=
 if isAggD i.d then some (.agg cs.toArray) else match cs with
  | [v]=>some v
  | _=>none
def apart (i:TI) (cs:Array Value) (off:Nat):Option Value :=
 if isAggD i.d then (if off+i.size≤cs.size then some (.agg (cs.extract off (off+i.size))) else none) else cs[off]?
def asI:Value→Option Int
 | .int _ n=>some n
 | _=>none
def eqFields (T:Tab) (eq:TypeId→Value→Value→Option Bool) (xs ys:Array Value):List Field→Option Bool
 | []=>some true
 | f::r=>if f.name ≠ "_" then do
   let j ←T f.type
   let a ←apart j xs f.offset
   let b ←apart j ys f.offset
   if ←eq f.type a b then eqFields T eq xs ys r else some false
  else eqFields T eq xs ys r
def eqItems (j:TI) (eq:Value→Value→Option Bool) (xs ys:Array Value):Nat→Nat→Option Bool
 | 0,_=>some true
 | n+1,k=>do
  let a ←apart j xs (k*j.size)
  let b ←apart j ys (k*j.size)
  if ←eq a b then eqItems j eq xs ys n (k+1) else some false
def aequal (T:Tab):Nat→TypeId→Value→Value→Option Bool
 | 0,_,_,_=>none
 | d+1,t,x,y=>do
  let i ←T t
  match i.d,x,y with
  | .bool,.bool a,.bool b=>some (a==b)
  | .int _,.int k a,.int k' b=>if k=k' then some (a==b) else none
  | .string,.string a,.string b=>some (a==b)
  | .pointer _,.pointer none,.pointer b=>some b.isNone
  | .pointer _,.pointer (some _),.pointer none=>some false
  | .slice _,.slice none _ _,.slice b _ _=>some b.isNone
  | .slice _,.slice (some _) _ _,.slice none _ _=>some false
  | .map _ _,.map none,.map b=>some b.isNone
  | .map _ _,.map (some _),.map none=>some false
  | .func _ _ _,.nilFunc,.nilFunc=>some true
  | .func _ _ _,.nilFunc,.func _ _ _|.func _ _ _,.func _ _ _,.nilFunc=>some false
  | .interface _,.nilIface,.iface _ _|.interface _,.iface _ _,.nilIface=>some false
  | .interface _,.nilIface,.nilIface=>some true
  | .struct fs,.agg xs,.agg ys=>if i.cmp then eqFields T (aequal T d) xs ys fs.toList else none
  | .array len e,.agg xs,.agg ys=>do
   let j ←T e
   eqItems j (aequal T d e) xs ys len 0
  | _,_,_=>none
def isConstO:Operand→Bool
 | .const _=>true
 | _=>false
def intBin (op:BinOp) (k:IntKind) (x y:Int):Option Value :=
 match op with
 | .add=>some (.int k (k.wrap (x+y)))
 | .sub=>some (.int k (k.wrap (x - y)))
 | .mul=>some (.int k (k.wrap (x*y)))
 | .quo=>if y=0 then none else some (.int k (k.wrap (x.tdiv y)))
 | .rem=>if y=0 then none else some (.int k (x.tmod y))
 | .and=>some (.int k (k.wrap (BitVec.ofInt k.bits x &&& BitVec.ofInt k.bits y).toNat))
 | .or=>some (.int k (k.wrap (BitVec.ofInt k.bits x ||| BitVec.ofInt k.bits y).toNat))
 | .xor=>some (.int k (k.wrap (BitVec.ofInt k.bits x ^^^ BitVec.ofInt k.bits y).toNat))
 | .andNot=>some (.int k (k.wrap (BitVec.ofInt k.bits x &&& ~~~BitVec.ofInt k.bits y).toNat))
 | .eql=>some (.bool (x==y))
 | .neq=>some (.bool (x != y))
 | .lss=>some (.bool (x < y))
 | .leq=>some (.bool (x≤y))
 | .gtr=>some (.bool (x > y))
 | .geq=>some (.bool (x≥y))
 | _=>none
def strBin (op:BinOp) (x y:ByteArray):Option Value :=
 match op with
 | .add=>if x.size+y.size≤9223372036854775807 then some (.string (x++y)) else none
 | .eql=>some (.bool (x.toList==y.toList))
 | .neq=>some (.bool !(x.toList==y.toList))
 | .lss=>some (.bool (Op.bytesLess x.toList y.toList))
 | .leq=>some (.bool (Op.bytesLess x.toList y.toList || x.toList==y.toList))
 | .gtr=>some (.bool !(Op.bytesLess x.toList y.toList || x.toList==y.toList))
 | .geq=>some (.bool !(Op.bytesLess x.toList y.toList))
 | _=>none
def eqFree (T:Tab) (t:TypeId) (x y:Operand) (a b:Value):Bool :=
 match a,b with
 | .nilIface,.nilIface=>isConstO x || isConstO y
 | .agg _,.agg _=>((T t).map (·.cmp)).getD false
 | .agg _,_=>false
 | _,_=>true
def abin (T:Tab) (op:BinOp) (t:TypeId) (x y:Operand) (a b:Value):Option Value :=
 match a,b with
 | .int k m,.int k' n =>
  match op with
  | .shl=>if n < 0 then none else some (.int k (k.wrap (m*2 ^ (min n.toNat k.bits))))
  | .shr=>if n < 0 then none else some (.int k (m.fdiv (2 ^ (min n.toNat k.bits))))
  | op=>if k=k' then intBin op k m n else none
 | .string s,.string u=>strBin op s u
 | a,b =>
  match op with
  | .eql=>if eqFree T t x y a b then (aequal T 8 t a b).map .bool else none
  | .neq=>if eqFree T t x y a b then (aequal T 8 t a b).map fun r=>.bool !r else none
  | _=>none
def aun (op:UnOp) (x:Value):Option Value :=
 match op,x with
 | .neg,.int k n=>some (.int k (k.wrap (0 - n)))
 | .xor,.int k n=>intBin .xor k (if k.signed then -1 else k.max) n
 | .not,.bool b=>some (.bool !b)
 | _,_=>none
def aconv (T:Tab) (src dst:TypeId) (x:Value):Option Value:=do
 let s ←T src
 let d ←T dst
 match s.d,d.d,x with
 | _,.int k,.int _ n=>some (.int k (k.wrap n))
 | _,.string,.int _ n=>some (.string (Utf8.encode n))
 | _,.string,.string b=>some (.string b)
 | _,_,_=>none
def asNat:Option Value→Option (Option Nat)
 | none=>some none
 | some (.int _ n)=>if 0≤n then some (some n.toNat) else none
 | some _=>none
def abounds (len cap:Nat) (lo hi mx:Option Nat):Option (Nat×Nat×Nat) :=
 let m:=mx.getD cap
 if mx.isSome&&hi.isNone then none else
 let h:=hi.getD len
 let l:=lo.getD 0
 if m≤cap∧h≤m∧l≤h then some (l,h,m) else none
def aslice (T:Tab) (H:Heap) (t:TypeId) (x:Value) (lo hi mx:Option Value):Option Value:=do
 let i ←T t
 let lo ←asNat lo
 let hi ←asNat hi
 let mx ←asNat mx
 match i.d,x with
 | .string,.string s=>if mx.isSome then none else do
   let (l,h,_) ←abounds s.size s.size lo hi none
   some (.string (s.extract l h))
 | .slice e,.slice none n c=>do
   let _ ←T e
   let (l,h,m) ←abounds n c lo hi mx
   some (.slice none (h - l) (m - l))
 | .slice e,.slice (some ⟨b,off,none⟩) n c=>do
   let j ←T e
   let (l,h,m) ←abounds n c lo hi mx
   match H.get b with
   | some (.cells _ _ g)=>if g=0∨g=j.size then some (.slice (some ⟨b,off+l*j.size,none⟩) (h - l) (m - l)) else none
   | _=>none
 | .array n e,.pointer (some ⟨b,off,none⟩)=>do
   let j ←T e
   let (l,h,m) ←abounds n n lo hi mx
   some (.slice (some ⟨b,off+l*j.size,none⟩) (h - l) (m - l))
 | _,_=>none
def anilchk:Value→Option Value
 | .pointer none|.nilIface|.nilFunc=>none
 | .func (.func f) x y=>some (.func (.func f) x y)
 | .func _ _ _=>none
 | v=>some v
def evs (ev:Operand→Option Value):List Operand→Option (List Value)
 | []=>some []
 | x::r=>do some ((←ev x)::(←evs ev r))
def evps (ev:Operand→Option Value):List (Nat×Operand)→Option (List (Nat×Value))
 | []=>some []
 | (i,x)::r=>do some ((i,←ev x)::(←evps ev r))
def evo (ev:Operand→Option Value):Option Operand→Option (Option Value)
 | none=>some none
 | some x=>(ev x).map some
def fieldsOf (T:Tab):List Field→Option (List (Nat×Nat))
 | []=>some []
 | f::r=>do some ((f.offset,(←T f.type).size)::(←fieldsOf T r))
def pureBuiltin (T:Tab) (ev:Operand→Option Value):Builtin→List Operand→List TypeId→Option Value
 | .len,[x],[t]=>do
  let i ←T t
  match i.d,←ev x with
  | .string,.string s=>some (goInt s.size)
  | .slice _,.slice _ n _=>some (goInt n)
  | .array n _,_=>some (goInt n)
  | _,_=>none
 | .cap,[x],[t]=>do
  let i ←T t
  match i.d,←ev x with
  | .slice _,.slice none _ n=>some (goInt n)
  | _,_=>none
 | .min,[x,y],_=>do
  match ←ev x,←ev y with
  | .int k m,.int _ n=>some (.int k (if n < m then n else m))
  | _,_=>none
 | .max,[x,y],_=>do
  match ←ev x,←ev y with
  | .int k m,.int _ n=>some (.int k (if n > m then n else m))
  | _,_=>none
 | _,_,_=>none
def apure (T:Tab) (ev:Operand→Option Value):Op→Option Value
 | .move x|.assign x=>ev x
 | .pick c a b=>do
  match ←ev c with
  | .bool true=>ev a
  | .bool false=>ev b
  | _=>none
 | .build t parts=>do
  let i ←T t
  let ps ←evps ev parts.toList
  match i.d with
  | .struct fs=>do
   let pl ←fieldsOf T fs.toList
   (Instr.fill (pl.toArray[·]?) i.zero.toArray ps).map .agg
  | .array _ e=>do
   let j ←T e
   (Instr.fill (fun k=>some (k*j.size,j.size)) i.zero.toArray ps).map .agg
  | _=>none
 | .nilCheck x=>do anilchk (←ev x)
 | .binOp op t x y _=>do abin T op t x y (←ev x) (←ev y)
 | .unOp op _ x=>do aun op (←ev x)
 | .convert s d x=>do aconv T s d (←ev x)
 | .makeInterface t x=>do
  let i ←T t
  match i.d with
  | .interface _=>none
  | _=>do some (.iface t (←ev x))
 | .makeFunc (.func f) x y=>do
  some (.func (.func f) (←evs ev x.toList).toArray (←evs ev y.toList).toArray)
 | .fieldAddr s x n=>do
  let i ←T s
  match i.d with
  | .struct fs=>do
   let f ←fs[n]?
   let j ←T f.type
   match ←ev x with
   | .pointer (some ⟨b,off,none⟩)=>if j.size=0 then none else some (.pointer (some ⟨b,off+f.offset,none⟩))
   | _=>none
  | _=>none
 | .field t x n=>do
  let i ←T t
  match i.d with
  | .struct fs=>do
   let f ←fs[n]?
   let j ←T f.type
   match ←ev x with
   | .agg cs=>apart j cs f.offset
   | _=>none
  | _=>none
 | .indexAddr t x ix=>do
  let i ←T t
  let n ←asI (←ev ix)
  match i.d,←ev x with
  | .slice e,.slice (some ⟨b,off,none⟩) len _=>do
   let j ←T e
   if 0≤n∧n < (len:Int) then some (.pointer (some ⟨b,off+n.toNat*j.size,none⟩)) else none
  | .array len e,.pointer (some ⟨b,off,none⟩)=>do
   let j ←T e
   if 0≤n∧n < (len:Int) then some (.pointer (some ⟨b,off+n.toNat*j.size,none⟩)) else none
  | _,_=>none
 | .index t x ix=>do
  let i ←T t
  let n ←asI (←ev ix)
  match i.d,←ev x with
  | .array len e,.agg cs=>do
   let j ←T e
   if 0≤n∧n < (len:Int) then apart j cs (n.toNat*j.size) else none
  | .string,.string s=>if 0≤n then (s[n.toNat]?).map fun b=>.int .u8 b.toNat else none
  | _,_=>none
 | .extract x n=>do
  match ←ev x with
  | .tuple vs=>vs[n]?
  | _=>none
 | .call c=>match c.callee with
  | .builtin b=>pureBuiltin T ev b c.args.toList c.argTypes.toList
  | _=>none
 | _=>none
def repCells (z:List Value):Nat→List Value
 | 0=>[]
 | n+1=>z++repCells z n
def aalloc (T:Tab) (ev:Operand→Option Value):Op→Option (AObj×(Nat→Value))
 | .alloc t=>do
  let i ←T t
  some (.cells i.zero true 0,fun b=>.pointer (some ⟨b,0,none⟩))
 | .box _ x=>do
  let v ←ev x
  some (.cells v.cells.toList true 0,fun b=>.pointer (some ⟨b,0,none⟩))
 | .buildSlice t len parts=>do
  let i ←T t
  match i.d with
  | .slice e=>do
   let j ←T e
   let ps ←evps ev parts.toList
   if len*j.size > 2 ^ 24 then none else do
   let cells ←Instr.fill (fun k=>some (k*j.size,j.size)) (repCells j.zero len).toArray ps
   some (.cells cells.toList true 0,fun b=>.slice (some ⟨b,0,none⟩) len len)
  | _=>none
 | .makeSlice t l c=>do
  let i ←T t
  match i.d with
  | .slice e=>do
   let j ←T e
   let l ←asI (←ev l)
   let c ←asI (←ev c)
   if 0≤l∧l≤c∧c≤9223372036854775807∧j.bytes*c≤2 ^ 48 then
    some (.cells (repCells j.zero c.toNat) true 0,fun b=>.slice (some ⟨b,0,none⟩) l.toNat c.toNat)
   else none
  | _=>none
 | .makeMap t r=>do
  let i ←T t
  match i.d,←evo ev r with
  | .map _ _,none=>some (.map [],fun b=>.map (some b))
  | .map _ _,some (.int _ _)=>some (.map [],fun b=>.map (some b))
  | _,_=>none
 | .convert s d x=>do
  let s ←T s
  let d ←T d
  match s.d,d.d,←ev x with
  | .string,.slice e,.string b=>do
   let j ←T e
   match j.d with
   | .int .u8=>if j.size=1 then some (.cells (b.data.toList.map fun x=>.int .u8 x.toNat) true 1,fun n=>.slice (some ⟨n,0,none⟩) b.size b.size) else none
   | _=>none
  | _,_,_=>none
 | _=>none
def keyFind (T:Tab) (kt:TypeId) (k:Value):List (Value×Value)→Nat→Option (Option (Nat×Value))
 | [],_=>some none
 | (a,v)::r,i=>do if ←aequal T 2 kt k a then some (some (i,v)) else keyFind T kt k r (i+1)
def keyOK (T:Tab) (kt:TypeId):Bool :=
 match T kt with
 | some ⟨.int _,_,_,_,_⟩|some ⟨.string,_,_,_,_⟩|some ⟨.bool,_,_,_,_⟩=>true
 | some ⟨.array _ e,_,_,_,_⟩=>match T e with
  | some ⟨.int _,1,_,_,_⟩=>true
  | _=>false
 | _=>false
def keyFits (T:Tab) (kt:TypeId) (k:Value):Bool :=
 match T kt,k with
 | some ⟨.int q,_,_,_,_⟩,.int q' _=>q==q'
 | some ⟨.string,_,_,_,_⟩,.string _=>true
 | some ⟨.bool,_,_,_,_⟩,.bool _=>true
 | some ⟨.array n e,_,_,_,_⟩,.agg cs=>match T e with
  | some ⟨.int q,1,_,_,_⟩=>cs.size==n&&cs.toList.all fun|.int q' _=>q==q'|_=>false
  | _=>false
 | _,_=>false
def mapEntries (H:Heap):Option Nat→Option (List (Value×Value))
 | none=>some []
 | some b=>match H.get b with
  | some (.map es)=>some es
  | _=>none
def foundOr (j:TI):Option (Nat×Value)→Option (Value×Bool)
 | some (_,v)=>some (v,true)
 | none=>(ofCells j j.zero).map fun z=>(z,false)
def readBuiltin (T:Tab) (ev:Operand→Option Value) (H:Heap):Builtin→List Operand→List TypeId→Option Value
 | .len,[x],[t]=>do
  let i ←T t
  match i.d,←ev x with
  | .map _ _,.map none=>some (goInt 0)
  | .map _ _,.map (some b)=>match H.get b with
   | some (.map es)=>some (goInt es.length)
   | _=>none
  | _,_=>none
 | .cap,[x],[t]=>do
  let i ←T t
  match i.d,←ev x with
  | .slice _,.slice (some ⟨b,off,none⟩) _ c=>match H.get b with
   | some (.cells vs _ g)=>if g=0∨off+c*g≠vs.length then some (goInt c) else none
   | _=>none
  | _,_=>none
 | _,_,_=>none
def bytesOf:List Value→Option (List UInt8)
 | []=>some []
 | .int .u8 n::r=>do some (UInt8.ofNat n.toNat::(←bytesOf r))
 | _=>none
def aread (T:Tab) (ev:Operand→Option Value) (H:Heap):Op→Option Value
 | .load t x=>do
  let i ←T t
  match ←ev x with
  | .pointer (some ⟨b,off,none⟩)=>if isAggD i.d then do ofCells i (←H.read b off i.size) else do ofCells i (←H.read b off 1)
  | _=>none
 | .slice t x lo hi mx=>do aslice T H t (←ev x) (←evo ev lo) (←evo ev hi) (←evo ev mx)
 | .lookup t x k ok=>do
  let i ←T t
  match i.d,←ev x with
  | .map kt et,.map m=>do
   let k ←ev k
   let j ←T et
   if keyFits T kt k then do
    let es ←mapEntries H m
    let r ←keyFind T kt k es 0
    let p ←foundOr j r
    some (if ok then .tuple #[p.1,.bool p.2] else p.1)
   else none
  | _,_=>none
 | .convert s d x=>do
  let s ←T s
  let d ←T d
  match s.d,d.d,←ev x with
  | .slice e,.string,.slice none _ _=>do
   let j ←T e
   match j.d with
   | .int .u8=>some (.string .empty)
   | _=>none
  | .slice e,.string,.slice (some ⟨b,off,none⟩) n _=>do
   let j ←T e
   match j.d with
   | .int .u8=>do
    let cs ←H.read b off n
    let l ←bytesOf cs
    some (.string ⟨l.toArray⟩)
   | _=>none
  | _,_,_=>none
 | .call c=>match c.callee with
  | .builtin b=>readBuiltin T ev H b c.args.toList c.argTypes.toList
  | _=>none
 | _=>none
def okCells (xs:List Value):Bool:=xs.all Value.oneCell'
def srcCells (H:Heap) (size:Nat):Value→Option (Nat×List Value)
 | .slice none n _=>if n=0 then some (0,[]) else none
 | .slice (some ⟨b,off,none⟩) n _=>do some (n,←H.read b off (n*size))
 | .string s=>if size=1 then some (s.size,s.data.toList.map fun b=>.int .u8 b.toNat) else none
 | _=>none
def aappendK (j:TI) (H:Heap) (s:Value) (k:Nat) (new:List Value):Option (Value×Heap) :=
 match s with
 | .slice none 0 0 =>
  if k=0 then some (.slice none 0 0,H)
  else if 0 < j.size∧j.bytes*k≤140737488355328∧k≤140737488355328∧okCells new then some (.slice (some ⟨H.next,0,none⟩) k k,H.push (.cells new true j.size))
  else none
 | .slice (some ⟨b,off,none⟩) n c =>
  if n+k≤c then
   if k=0 then some (.slice (some ⟨b,off,none⟩) n c,H) else
   if okCells new then do
    let H' ←H.write b (off+n*j.size) new
    some (.slice (some ⟨b,off,none⟩) (n+k) c,H')
   else none
  else
   if 0 < j.size∧j.bytes*(n+k)≤140737488355328∧n+k≤140737488355328∧okCells new then
    match H.get b with
    | some (.cells vs wr g)=>do
     let old ←getCells vs off (n*j.size)
     if okCells old then
      if g=0∨off+c*g≠vs.length then
       some (.slice (some ⟨H.next,0,none⟩) (n+k) (n+k),H.push (.cells (old++new) true j.size))
      else if g=j.size∧wr=true then
       some (.slice (some ⟨H.next,0,none⟩) (n+k) (n+k),(H.put b none).push (.cells (old++new) true j.size))
      else none
     else none
    | _=>none
   else none
 | _=>none
def aappend (j:TI) (H:Heap) (s x:Value):Option (Value×Heap):=do
 let (k,new) ←srcCells H j.size x
 aappendK j H s k new
def aappend0 (j:TI) (H:Heap) (s x:Value):Option (Value×Heap):=do
 let m ←asI x
 if 0≤m∧m*j.bytes≤140737488355328∧m≤140737488355328 then aappendK j H s m.toNat (repCells j.zero m.toNat) else none
def effBuiltin (T:Tab) (ev:Operand→Option Value) (H:Heap):Builtin→List Operand→List TypeId→Option (Value×Heap)
 | .append,[s,x],[t,u]=>do
  let i ←T t
  let j' ←T u
  match i.d,j'.d with
  | .slice e,.int _=>do
   let j ←T e
   aappend0 j H (←ev s) (←ev x)
  | .slice e,_=>do
   let j ←T e
   aappend j H (←ev s) (←ev x)
  | _,_=>none
 | .copy,[s,x],[t,_]=>do
  let i ←T t
  match i.d with
  | .slice e=>do
   let j ←T e
   let (k,cs) ←srcCells H j.size (←ev x)
   match ←ev s with
   | .slice none n _=>if n=0 then some (goInt 0,H) else none
   | .slice (some ⟨b,off,none⟩) n _ =>
    let m:=Nat.min k n
    let cs:=cs.take (m*j.size)
    if okCells cs then do
     if m=0 then some (goInt 0,H) else do
     let H' ←H.write b off cs
     some (goInt m,H')
    else none
   | _=>none
  | _=>none
 | .clear,[x],[t]=>do
  let i ←T t
  match i.d,←ev x with
  | .slice _,.slice none _ _=>some (.tuple #[],H)
  | .slice e,.slice (some ⟨b,off,none⟩) n _=>do
   if n=0 then some (.tuple #[],H) else do
   let j ←T e
   if okCells j.zero then do
    let H' ←H.write b off (repCells j.zero n)
    some (.tuple #[],H')
   else none
  | _,_=>none
 | _,_,_=>none
def sameI:Value→Value→Bool
 | .bool a,.bool b=>a==b
 | .int j a,.int k b=>j==k&&a==b
 | .string a,.string b=>a==b
 | _,_=>false
def sameK:Value→Value→Bool
 | .agg a,.agg b=>a.size==b.size&&(a.toList.zip b.toList).all fun p=>sameI p.1 p.2
 | a,b=>sameI a b
def aeff (T:Tab) (ev:Operand→Option Value) (H:Heap):Op→Option (Value×Heap)
 | .store t a x=>do
  let i ←T t
  let v ←ev x
  match ←ev a with
  | .pointer (some ⟨b,off,none⟩) =>
   if v.cells.size=i.size∧okCells v.cells.toList then do
    let H' ←H.write b off v.cells.toList
    some (undef,H')
   else none
  | _=>none
 | .mapUpdate t m k x|.insert t m k x=>do
  let i ←T t
  match i.d,←ev m with
  | .map kt _,.map (some b)=>do
   let k ←ev k
   let v ←ev x
   match H.get b with
   | some (.map es) =>
    if keyFits T kt k then do
     match ←keyFind T kt k es 0 with
     | some (n,_)=>if (es[n]?).any (fun e=>sameK e.1 k) then some (undef,H.put b (some (.map (es.set n (k,v))))) else none
     | none=>some (undef,H.put b (some (.map (es++[(k,v)]))))
    else none
   | _=>none
  | _,_=>none
 | .call c=>match c.callee with
  | .builtin b=>effBuiltin T ev H b c.args.toList c.argTypes.toList
  | _=>none
 | _=>none
end Go.Ev
namespace Go.Ev
structure TabOK (P:Program) (T:Tab):Prop where
 und:∀ t i,T t=some i→P.underlying t=some i.d
 info:∀ t i,T t=some i→∃ f z,P.info? t=some f∧f.size=i.size∧f.bytes=i.bytes∧f.zero=some z∧ofCells i i.zero=some z
 zok:∀ t i,T t=some i→i.zero.all constOK1=true∧i.zero.length=i.size
 cmp:∀ t i,T t=some i→i.cmp=true→P.eqGuardType P.depth t=false∧P.stoodInHeld t=false
theorem cells_const1 {v:Value} (h:constOK1 v=true):v.cells=#[v]:=by
 cases v<;>first|rfl|simp [constOK1] at h
theorem ofCells_cells {i:TI} {l:List Value} {z:Value} (h:ofCells i l=some z) (hc:l.all constOK1=true):z.cells.toList=l:=by
 unfold ofCells at h
 split at h
 ·cases h;simp [Value.cells]
 ·split at h
  ·cases h
   simp only [List.all_cons,List.all_nil,Bool.and_true] at hc
   rw [cells_const1 hc]
  ·cases h
section
variable {P:Program} {T:Tab} (tok:TabOK P T)
include tok
theorem TabOK.r_und {t:TypeId} {i:TI} (h:T t=some i) (w:World):(underlying t).run P w=.ok i.d w:=run_underlying (tok.und t i h) w
theorem TabOK.r_size {t:TypeId} {i:TI} (h:T t=some i) (w:World):(sizeOf t).run P w=.ok i.size w:=by
 obtain ⟨f,z,h1,h2,_⟩:=tok.info t i h
 simp [sizeOf,typeInfo,h1,h2]
theorem TabOK.r_bytes {t:TypeId} {i:TI} (h:T t=some i) (w:World):∃ f,(typeInfo t).run P w=.ok f w∧f.bytes=i.bytes∧f.size=i.size:=by
 obtain ⟨f,z,h1,h2,h3,_⟩:=tok.info t i h
 exact ⟨f,by simp [typeInfo,h1],h3,h2⟩
theorem TabOK.r_zero {t:TypeId} {i:TI} (h:T t=some i) (w:World):∃ z,(zeroValue t).run P w=.ok z w∧z.cells.toList=i.zero:=by
 obtain ⟨f,z,h1,h2,h3,h4,h5⟩:=tok.info t i h
 exact ⟨z,by simp [zeroValue,typeInfo,h1,h4],ofCells_cells h5 (tok.zok t i h).1⟩
theorem TabOK.r_zero' {t:TypeId} {i:TI} (h:T t=some i) {z:Value} (hz:ofCells i i.zero=some z) (w:World):(zeroValue t).run P w=.ok z w:=by
 obtain ⟨f,z',h1,h2,h3,h4,h5⟩:=tok.info t i h
 rw [h5] at hz;cases hz
 simp [zeroValue,typeInfo,h1,h4]
theorem TabOK.r_agg {t:TypeId} {i:TI} (h:T t=some i) (w:World):(isAgg t).run P w=.ok (isAggD i.d) w:=by
 simp only [isAgg,Sem.run_bind,tok.r_und h,Result.andThen_ok]
 cases i.d<;>simp [isAggD]
end
theorem VRel.const1 (ρ:Ren) {v:Value} (h:constOK1 v=true):VRel ρ v v:=by
 cases v with
 | bool b=>exact .bool b
 | int k n=>exact .int k n
 | string s=>exact .string s
 | pointer a=>cases a with
  | none=>exact .nilptr
  | some a=>simp [constOK1] at h
 | slice a n c=>cases a with
  | none=>cases n<;>cases c<;>simp [constOK1] at h;exact .nilslice
  | some a=>simp [constOK1] at h
 | map r=>cases r with
  | none=>exact .nilmap
  | some r=>simp [constOK1] at h
 | nilFunc=>exact .nilFunc
 | nilIface=>exact .nilIface
 | _=>simp [constOK1] at h
theorem LRel.const (ρ:Ren):∀ {x:List Value},x.all constOK1=true→LRel ρ x x
 | [],_=>.nil
 | v::x,h=>by
  simp only [List.all_cons,Bool.and_eq_true] at h
  exact .cons (.const1 ρ h.1) (LRel.const ρ h.2)
theorem VRel.const (ρ:Ren) {v:Value} (h:constOK v=true):VRel ρ v v:=by
 cases v with
 | agg cs =>
  have:=ARel.of_list (LRel.const ρ (x:=cs.toList) h)
  exact .agg _ _ rfl (by simpa using this.2)
 | tuple vs =>
  have:vs=#[]:=by simpa [constOK] using h
  subst this;exact .unit
 | _=>exact .const1 ρ h
def EvRel (ρ:Ren) (ev:Operand→Option Value) (cev:Operand→Value):Prop:=∀ x v,ev x=some v→VRel ρ v (cev x)
theorem VRel.cells {ρ:Ren} {v cv:Value} (h:VRel ρ v cv):LRel ρ v.cells.toList cv.cells.toList:=by
 cases h with
 | agg x x' hx h=>exact ARel.toList ⟨hx,h⟩
 | bool b=>exact .cons (.bool b) .nil
 | int k n=>exact .cons (.int k n) .nil
 | string s=>exact .cons (.string s) .nil
 | nilptr=>exact .cons .nilptr .nil
 | ptr b off l h=>exact .cons (.ptr b off l h) .nil
 | nilslice=>exact .cons .nilslice .nil
 | slice b off n c c' l h hn hc=>exact .cons (.slice b off n c c' l h hn hc) .nil
 | empty b off a l h=>exact .cons (.empty b off a l h) .nil
 | nilmap=>exact .cons .nilmap .nil
 | map b l h=>exact .cons (.map b l h) .nil
 | nilFunc=>exact .cons .nilFunc .nil
 | func fn fn' x y x' y' hf hx hy h1 h2=>exact .cons (.func fn fn' x y x' y' hf hx hy h1 h2) .nil
 | nilIface=>exact .cons .nilIface .nil
 | iface t v v' h=>exact .cons (.iface t v v' h) .nil
 | unit=>exact .cons .unit .nil
 | tuple x x' hx h=>exact .cons (.tuple x x' hx h) .nil
theorem ARel.cells {ρ:Ren} {v cv:Value} (h:VRel ρ v cv):ARel ρ v.cells cv.cells:=by
 have:=ARel.of_list h.cells
 simpa using this
theorem ARel.get? {ρ:Ren} {x y:Array Value} (h:ARel ρ x y) {i:Nat} {v:Value} (hv:x[i]?=some v):∃ cv,y[i]?=some cv∧VRel ρ v cv:=by
 have hi:i < x.size:=by
  rcases Nat.lt_or_ge i x.size with h|h
  ·exact h
  ·rw [Array.getElem?_eq_none h] at hv;cases hv
 have hj:i < y.size:=by rw [←h.1];exact hi
 have r:=h.2 i
 simp only [Array.getD_eq_getD_getElem?,hv,Array.getElem?_eq_getElem hj,Option.getD_some] at r
 exact ⟨y[i],Array.getElem?_eq_getElem hj,r⟩
theorem LRel.extract {ρ:Ren} {x y:Array Value} (h:ARel ρ x y) (a b:Nat):ARel ρ (x.extract a b) (y.extract a b):=by
 have h1:=ARel.of_list ((h.toList.drop a).take (b - a))
 have e:∀ z:Array Value,z.extract a b=((z.toList.drop a).take (b - a)).toArray:=fun z=>by
  apply Array.ext'
  simp [List.extract_eq_take_drop]
 rw [e x,e y]
 exact h1
theorem part_sim {P:Program} {T:Tab} (tok:TabOK P T) {ρ:Ren} {t:TypeId} {i:TI} (ht:T t=some i) {x y:Array Value} (h:ARel ρ x y) {off:Nat} {v:Value}
  (hv:apart i x off=some v) (w:World):∃ cv,(part t y off).run P w=.ok cv w∧VRel ρ v cv:=by
 unfold apart at hv
 simp only [part,Sem.run_bind,tok.r_agg ht,Result.andThen_ok]
 by_cases ha:isAggD i.d=true
 ·simp only [ha,if_true] at hv ⊢
  split at hv
  ·cases hv
   refine ⟨.agg (y.extract off (off+i.size)),by simp [tok.r_size ht],?_⟩
   have:=LRel.extract h off (off+i.size)
   exact .agg _ _ this.1 this.2
  ·cases hv
 ·simp only [ha,if_false] at hv ⊢
  obtain ⟨cv,e,r⟩:=h.get? hv
  exact ⟨cv,by simp [ha,e],r⟩
theorem fieldsOf_eq {P:Program} {t:TypeId} {fs:Array Field} (h:P.underlying t=some (.struct fs)):P.fieldsOf t=fs:=by simp [Program.fieldsOf,h]
set_option maxHeartbeats 4000000 in
theorem equal_sim {P:Program} {T:Tab} (tok:TabOK P T) {ρ:Ren}:∀ (d D:Nat) (t:TypeId) (x y cx cy:Value) (r:Bool),d≤D→aequal T d t x y=some r→VRel ρ x cx→VRel ρ y cy→∀ w,(Op.equalIn D t cx cy).run P w=.ok r w:=by
 intro d
 induction d with
 | zero=>intro D t x y cx cy r _ h;simp [aequal] at h
 | succ d ih =>
  intro D t x y cx cy r hD h hx hy w
  obtain ⟨D,rfl⟩:∃ k,D=k+1:=⟨D - 1,by omega⟩
  simp only [aequal,Option.bind_eq_bind,Option.bind_eq_some_iff] at h
  obtain ⟨i,hi,h⟩:=h
  have hu:=tok.und t i hi
  have hcmp:=tok.cmp t i hi
  obtain ⟨id,isz,iby,izero,icmp⟩:=i
  simp only at h hu
  split at h
  case h_1 =>
   cases hx;cases hy;simp at h;subst h
   simp [Op.equalIn,run_underlying hu]
  case h_2 =>
   cases hx;cases hy
   split at h
   ·simp at h;subst h;rename_i e;subst e
    simp [Op.equalIn,run_underlying hu]
   ·cases h
  case h_3 =>
   cases hx;cases hy;simp at h;subst h
   simp [Op.equalIn,run_underlying hu]
  case h_4 =>
   cases hx;simp at h;subst h
   cases hy<;>simp [Op.equalIn,run_underlying hu]
  case h_5 =>
   cases hx;cases hy;simp at h;subst h
   simp [Op.equalIn,run_underlying hu]
  case h_6 =>
   cases hx;simp at h;subst h
   cases hy<;>simp [Op.equalIn,run_underlying hu]
  case h_7 =>
   cases hy;simp at h;subst h
   cases hx<;>simp [Op.equalIn,run_underlying hu]
  case h_8 =>
   cases hx;simp at h;subst h
   cases hy<;>simp [Op.equalIn,run_underlying hu]
  case h_9 =>
   cases hy;simp at h;subst h
   cases hx<;>simp [Op.equalIn,run_underlying hu]
  case h_10 =>
   cases hx;cases hy;simp at h;subst h
   simp [Op.equalIn,run_underlying hu]
  case h_11 =>
   cases hx;cases hy;simp at h;subst h
   simp [Op.equalIn,run_underlying hu]
  case h_12 =>
   cases hx;cases hy;simp at h;subst h
   simp [Op.equalIn,run_underlying hu]
  case h_13 =>
   cases hx;cases hy;simp at h;subst h
   simp [Op.equalIn,run_underlying hu]
  case h_14 =>
   cases hx;cases hy;simp at h;subst h
   simp [Op.equalIn,run_underlying hu]
  case h_15 =>
   cases hx;cases hy;simp at h;subst h
   simp [Op.equalIn,run_underlying hu]
  case h_16 _ _ fs xs ys =>
   split at h
   case isFalse=>cases h
   rename_i hc
   cases hx;rename_i x' sx hx
   cases hy;rename_i y' sy hy
   have hfo:=fieldsOf_eq hu
   rw [run_equalIn_struct w D t x' y' (by rw [hfo];exact hu) (hcmp hc).2,hfo]
   have key:∀ (l:List Field) (r:Bool),eqFields T (aequal T d) xs ys l=some r→(Op.eqFields D x' y' l).run P w=.ok r w:=by
    intro l
    induction l with
    | nil=>intro r h;simp [eqFields] at h;subst h;simp [Op.eqFields]
    | cons f l ihl =>
     intro r h
     simp only [eqFields] at h
     simp only [Op.eqFields]
     split at h
     ·rename_i hn
      simp only [Option.bind_eq_bind,Option.bind_eq_some_iff] at h
      obtain ⟨j,hj,a,ha,b,hb,q,hq,h⟩:=h
      obtain ⟨ca,e1,r1⟩:=part_sim tok hj ⟨sx,hx⟩ ha w
      obtain ⟨cb,e2,r2⟩:=part_sim tok hj ⟨sy,hy⟩ hb w
      have e3:=ih D f.type a b ca cb q (by omega) hq r1 r2 w
      rw [if_pos hn]
      simp only [Sem.run_bind,e1,Result.andThen_ok,e2,e3,Sem.run_ite,Sem.run_pure]
      cases q
      ·simp at h;subst h;simp
      ·simp at h;simpa using ihl r h
     ·rename_i hn
      rw [if_neg hn]
      exact ihl r h
   exact key _ _ h
  case h_17 _ _ len e xs ys =>
   simp only [Option.bind_eq_bind,Option.bind_eq_some_iff] at h
   obtain ⟨j,hj,h⟩:=h
   cases hx;rename_i x' sx hx
   cases hy;rename_i y' sy hy
   obtain ⟨f,z,hf,hsz,_⟩:=tok.info e j hj
   rw [run_equalIn_array w D x' y' hu hf]
   have hce:P.cellsOf e=j.size:=by simp [Program.cellsOf,hf,hsz]
   rw [hce]
   have key:∀ (n k:Nat) (r:Bool),eqItems j (aequal T d e) xs ys n k=some r→(Op.eqItems D e j.size x' y' (List.range' k n)).run P w=.ok r w:=by
    intro n
    induction n with
    | zero=>intro k r h;simp [eqItems] at h;subst h;simp [Op.eqItems]
    | succ n ihn =>
     intro k r h
     simp only [eqItems,Option.bind_eq_bind,Option.bind_eq_some_iff] at h
     obtain ⟨a,ha,b,hb,q,hq,h⟩:=h
     obtain ⟨ca,e1,r1⟩:=part_sim tok hj ⟨sx,hx⟩ ha w
     obtain ⟨cb,e2,r2⟩:=part_sim tok hj ⟨sy,hy⟩ hb w
     have e3:=ih D e a b ca cb q (by omega) hq r1 r2 w
     simp only [List.range'_succ,Op.eqItems,Sem.run_bind,e1,Result.andThen_ok,e2,e3,Sem.run_ite,Sem.run_pure]
     cases q
     ·simp at h;subst h;simp
     ·simp at h;simpa using ihn (k+1) r h
   have:=key len 0 r h
   rwa [←List.range_eq_range'] at this
  case h_18=>cases h
end Go.Ev
namespace Go.Ev
theorem ARel.set {ρ:Ren} {x y:Array Value} (h:ARel ρ x y) (i:Nat) {v cv:Value} (r:VRel ρ v cv):ARel ρ (x.setIfInBounds i v) (y.setIfInBounds i cv):=by
 refine ⟨by simpa using h.1,fun j=>?_⟩
 simp only [Array.getD_eq_getD_getElem?,Array.getElem?_setIfInBounds]
 by_cases e:i=j
 ·subst e
  simp only [if_true,h.1]
  split
  ·simpa using r
  ·exact .undef ρ
 ·simp only [e,if_false]
  have:=h.2 j
  simpa [Array.getD_eq_getD_getElem?] using this
def PRel (ρ:Ren) (a b:Nat×Value):Prop:=a.1=b.1∧VRel ρ a.2 b.2
theorem evps_sim {ρ:Ren} {ev:Operand→Option Value} {cev:Operand→Value} (he:EvRel ρ ev cev):∀ (l:List (Nat×Operand)) (ps:List (Nat×Value)),evps ev l=some ps →
  All2 (PRel ρ) ps (l.map fun p=>(p.1,cev p.2))
 | [],ps,h=>by simp [evps] at h;subst h;exact .nil
 | (i,x)::l,ps,h=>by
  simp only [evps,Option.bind_eq_bind,Option.bind_eq_some_iff,Option.some.injEq] at h
  obtain ⟨v,hv,q,hq,rfl⟩:=h
  exact .cons ⟨rfl,he x v hv⟩ (evps_sim he l q hq)
theorem evs_sim {ρ:Ren} {ev:Operand→Option Value} {cev:Operand→Value} (he:EvRel ρ ev cev):∀ (l:List Operand) (ps:List Value),evs ev l=some ps→LRel ρ ps (l.map cev)
 | [],ps,h=>by simp [evs] at h;subst h;exact .nil
 | x::l,ps,h=>by
  simp only [evs,Option.bind_eq_bind,Option.bind_eq_some_iff,Option.some.injEq] at h
  obtain ⟨v,hv,q,hq,rfl⟩:=h
  exact .cons (he x v hv) (evs_sim he l q hq)
theorem fillFold_sim {ρ:Ren} (off:Nat):∀ (l l':List Value) (k:Nat) (x y:Array Value),LRel ρ l l'→ARel ρ x y →
  ARel ρ ((l.zipIdx k).foldl (fun cs (p:Value×Nat)=>cs.setIfInBounds (off+p.2) p.1) x) ((l'.zipIdx k).foldl (fun cs (p:Value×Nat)=>cs.setIfInBounds (off+p.2) p.1) y):=by
 intro l l' k x y h
 induction h generalizing k x y with
 | nil=>intro h;simpa using h
 | cons r _ ih =>
  intro h
  simp only [List.zipIdx_cons,List.foldl_cons]
  exact ih (k+1) _ _ (h.set _ r)
theorem fill_sim {ρ:Ren} (place:Nat→Option (Nat×Nat)):∀ (ps cps:List (Nat×Value)) (x y r:Array Value),All2 (PRel ρ) ps cps→ARel ρ x y→Instr.fill place x ps=some r →
  ∃ cr,Instr.fill place y cps=some cr∧ARel ρ r cr:=by
 intro ps cps x y r h
 induction h generalizing x y r with
 | nil=>intro ha h;simp [Instr.fill] at h;subst h;exact ⟨y,by simp [Instr.fill],ha⟩
 | cons hp _ ih =>
  rename_i a b p q _
  intro ha h
  obtain ⟨i,v⟩:=a
  obtain ⟨i',cv⟩:=b
  obtain ⟨rfl,hv⟩:=hp
  simp only [Instr.fill] at h ⊢
  cases hpl:place i with
  | none=>simp [hpl] at h
  | some os =>
   obtain ⟨off,size⟩:=os
   have hc:=ARel.cells hv
   simp only [hpl] at h ⊢
   simp only [←hc.1,←ha.1]
   split at h
   ·cases h
   ·rename_i hne
    rw [if_neg hne]
    refine ih _ _ _ ?_ h
    rw [←Array.foldl_toList,←Array.foldl_toList]
    simp only [Array.toList_zipIdx]
    exact fillFold_sim off _ _ 0 _ _ (VRel.cells hv) ha
theorem fieldsOf_sim {P:Program} {T:Tab} (tok:TabOK P T):∀ (fs:List Field) (pl:List (Nat×Nat)),fieldsOf T fs=some pl→∀ w:World,
  (fs.mapM fun f=>do pure (f.offset,←sizeOf f.type):Sem (List (Nat×Nat))).run P w=.ok pl w
 | [],pl,h,w=>by simp [fieldsOf] at h;subst h;simp
 | f::fs,pl,h,w=>by
  simp only [fieldsOf,Option.bind_eq_bind,Option.bind_eq_some_iff,Option.some.injEq] at h
  obtain ⟨j,hj,q,hq,rfl⟩:=h
  have ih:=fieldsOf_sim tok fs q hq w
  rw [List.mapM_cons]
  simp only [Sem.run_bind,tok.r_size hj,Result.andThen_ok,Sem.run_pure,ih]
theorem binOp_eql (t:TypeId) (x y:Value) (h1:∀ k k' a b,¬ (x=.int k a∧y=.int k' b)) (h2:∀ a b,¬ (x=.string a∧y=.string b))
  (h3:∀ k k' a b,¬ (x=.float k a∧y=.float k' b)) (h4:∀ k k' a b a' b',¬ (x=.complex k a b∧y=.complex k' a' b')) :
  binOp .eql t x y=(do pure (.bool (←Op.equal t x y)):Sem Value)∧binOp .neq t x y=(do pure (.bool (!(←Op.equal t x y))):Sem Value):=by
 constructor
 ·unfold binOp
  split<;>first|rfl|exact absurd ⟨rfl,rfl⟩ (h1 _ _ _ _)|exact absurd ⟨rfl,rfl⟩ (h2 _ _)|exact absurd ⟨rfl,rfl⟩ (h3 _ _ _ _)|exact absurd ⟨rfl,rfl⟩ (h4 _ _ _ _ _ _)|(exfalso;simp_all;done)
 ·unfold binOp
  split<;>first|rfl|exact absurd ⟨rfl,rfl⟩ (h1 _ _ _ _)|exact absurd ⟨rfl,rfl⟩ (h2 _ _)|exact absurd ⟨rfl,rfl⟩ (h3 _ _ _ _)|exact absurd ⟨rfl,rfl⟩ (h4 _ _ _ _ _ _)|(exfalso;simp_all;done)
theorem VRel.nofloat {ρ:Ren} {x cx:Value} (h:VRel ρ x cx):(∀ k a,cx≠.float k a)∧(∀ k a b,cx≠.complex k a b):=by
 cases h<;>simp
theorem aequal_bool {P:Program} {T:Tab} (tok:TabOK P T) {ρ:Ren} {t:TypeId} {x y cx cy:Value} {r:Bool} (h:aequal T 8 t x y=some r) (hx:VRel ρ x cx) (hy:VRel ρ y cy) (w:World) :
  (Op.equal t cx cy).run P w=.ok r w:=equal_sim tok 8 10000 t x y cx cy r (by omega) h hx hy w
theorem eqGuard_sim {P:Program} {T:Tab} (tok:TabOK P T) {ρ:Ren} (op:BinOp) {t:TypeId} {x y:Operand} {a b ca cb:Value} (h:eqFree T t x y a b=true) (hx:VRel ρ a ca) (hy:VRel ρ b cb) (w:World) :
  (eqGuard op t x y ca cb).run P w=.ok () w:=by
 unfold eqFree at h
 split at h
 ·cases hx;cases hy
  unfold eqGuard
  cases x<;>cases y<;>simp [isConstO] at h<;>cases op<;>simp
 ·cases hx;cases hy
  cases ht:T t with
  | none=>simp [ht] at h
  | some i =>
   simp [ht] at h
   exact run_eqGuard_agg w op t x y _ _ (tok.cmp t i ht h).1
 ·cases h
 ·rename_i h1 h2 h3
  unfold eqGuard
  cases hx<;>cases hy<;>first|(cases op<;>simp;done)|(exfalso;simp_all;done)
theorem intBin_sim {P:Program} (op:BinOp) (k:IntKind) (m n:Int) (v:Value) (t:TypeId) (h:intBin op k m n=some v) (w:World):(binOp op t (.int k m) (.int k n)).run P w=.ok v w:=by
 cases op<;>simp [intBin] at h<;>first
  | (subst h;simp [binOp,Op.intArith,Op.intBits,Op.intCmp];done)
  | (obtain ⟨h1,rfl⟩:=h;simp [binOp,Op.intDiv,h1];done)
theorem strBin_sim {P : Program} (op : BinOp) (s u : ByteArray) (v : Value) (t : TypeId) (h : strBin op s u = some v) (w : World) : (binOp op t (.string s) (.string u)).run P w = .ok v w := by
  cases op <;> simp [strBin] at h <;> first
    | (subst h; simp [binOp, Op.stringOp]; done)
    | (obtain ⟨h1, rfl⟩ := h; have : ¬ (IntKind.i64.max < ((s.size + u.size : Nat) : Int)) := by (show ¬ ((2 ^ 63 - 1 : Int) < _)); omega
       simp only [binOp, Op.stringOp]; rw [if_neg (by simpa using this)]; simp)
theorem shift_sim {P : Program} (op : BinOp) (k k' : IntKind) (m n : Int) (v : Value) (t : TypeId) (h : abin (fun _ => none) op t (.tmp 0) (.tmp 0) (.int k m) (.int k' n) = some v) (w : World) : (binOp op t (.int k m) (.int k' n)).run P w = .ok v w := by
  cases op <;> simp only [abin] at h <;> first
    | (split at h
       · cases h
       · rename_i hn; cases h; simp [binOp, Op.shift, hn]; done)
    | (split at h
       · rename_i e; subst e; exact intBin_sim _ _ _ _ _ _ h w
       · cases h)
theorem abin_sim {P:Program} {T:Tab} (tok:TabOK P T) {ρ:Ren} {op:BinOp} {t:TypeId} {x y:Operand} {a b ca cb v:Value} (h:abin T op t x y a b=some v) (hx:VRel ρ a ca) (hy:VRel ρ b cb) (w:World) :
  (do eqGuard op t x y ca cb;binOp op t ca cb:Sem Value).run P w=.ok v w∧VRel ρ v v:=by
 unfold abin at h
 split at h
 ·cases hx;cases hy
  rename_i k m k' n
  have hg:(eqGuard op t x y (.int k m) (.int k' n)).run P w=.ok () w:=by cases op<;>simp [eqGuard]
  have h':=shift_sim (P:=P) op k k' m n v t (by simpa [abin] using h) w
  refine ⟨by simp only [Sem.run_bind,hg,Result.andThen_ok,h'],?_⟩
  cases op<;>simp [intBin] at h<;>first
   | (subst h;constructor;done)
   | (obtain ⟨_,h⟩:=h;subst h;constructor;done)
   | (obtain ⟨_,_,h⟩:=h;subst h;constructor;done)
   | skip
 ·cases hx;cases hy
  rename_i s u
  have hg:(eqGuard op t x y (.string s) (.string u)).run P w=.ok () w:=by cases op<;>simp [eqGuard]
  have h':=strBin_sim (P:=P) op s u v t h w
  refine ⟨by simp only [Sem.run_bind,hg,Result.andThen_ok,h'],?_⟩
  cases op<;>simp [strBin] at h<;>first
   | (subst h;constructor;done)
   | (obtain ⟨_,h⟩:=h;subst h;constructor;done)
 ·rename_i n1 n2
  have m1:∀ k k' a' b',¬ (ca=.int k a'∧cb=.int k' b'):=by
   rintro k k' a' b' ⟨rfl,rfl⟩
   cases hx;cases hy;exact n1 _ _ _ _ rfl rfl
  have m2:∀ a' b',¬ (ca=.string a'∧cb=.string b'):=by
   rintro a' b' ⟨rfl,rfl⟩
   cases hx;cases hy;exact n2 _ _ rfl rfl
  have he:=binOp_eql t ca cb m1 m2 (fun k _ a' _ e=>(VRel.nofloat hx).1 k a' e.1) (fun k _ a' b' _ _ e=>(VRel.nofloat hx).2 k a' b' e.1)
  split at h
  ·split at h
   ·rename_i hf
    simp only [Option.map_eq_some_iff] at h
    obtain ⟨r,hr,rfl⟩:=h
    simp only [Sem.run_bind,eqGuard_sim tok .eql hf hx hy w,Result.andThen_ok,he.1,aequal_bool tok hr hx hy w,Sem.run_pure]
    exact ⟨trivial,.bool r⟩
   ·cases h
  ·split at h
   ·rename_i hf
    simp only [Option.map_eq_some_iff] at h
    obtain ⟨r,hr,rfl⟩:=h
    simp only [Sem.run_bind,eqGuard_sim tok .neq hf hx hy w,Result.andThen_ok,he.2,aequal_bool tok hr hx hy w,Sem.run_pure]
    exact ⟨trivial,.bool _⟩
   ·cases h
  ·cases h
end Go.Ev
namespace Go.Ev
section
variable {P:Program} {T:Tab} (tok:TabOK P T) {ρ:Ren} {ev:Operand→Option Value} {cev:Operand→Value} (he:EvRel ρ ev cev) (w:World)
include tok he
theorem sim_build {t:TypeId} {parts:Array (Nat×Operand)} {v:Value} (h:apure T ev (.build t parts)=some v) :
  ∃ cv,(Instr.build t (parts.map fun (i,x)=>(i,cev x))).run P w=.ok cv w∧VRel ρ v cv:=by
 simp only [apure,Option.bind_eq_bind,Option.bind_eq_some_iff] at h
 obtain ⟨i,hi,ps,hps,h⟩:=h
 have hp:=evps_sim he _ _ hps
 obtain ⟨z,hz,hzc⟩:=tok.r_zero hi w
 have hzz:ARel ρ i.zero.toArray z.cells:=by
  have:=ARel.of_list (LRel.const ρ (tok.zok t i hi).1)
  rw [show z.cells=i.zero.toArray by apply Array.ext';simpa using hzc]
  exact this
 have hm:(parts.map fun (i,x)=>(i,cev x)).toList=parts.toList.map fun p=>(p.1,cev p.2):=by simp
 unfold Instr.build
 simp only [Sem.run_bind,hz,Result.andThen_ok,tok.r_und hi]
 split at h
 ·rename_i fs hd
  simp only [Option.bind_eq_some_iff,Option.map_eq_some_iff] at h
  obtain ⟨pl,hpl,cs,hcs,rfl⟩:=h
  obtain ⟨ccs,e,r⟩:=fill_sim _ _ _ _ _ _ hp hzz hcs
  have hpl':=fieldsOf_sim tok _ _ hpl w
  simp only [hd,Sem.run_bind]
  rw [Array.mapM_eq_mapM_toList]
  simp only [Sem.run_map,Sem.run_bind] at hpl' ⊢
  rw [hpl']
  simp only [Result.andThen_ok]
  rw [hm,e]
  exact ⟨.agg ccs,by simp,.agg _ _ r.1 r.2⟩
 ·rename_i n e hd
  simp only [Option.bind_eq_some_iff,Option.map_eq_some_iff] at h
  obtain ⟨j,hj,cs,hcs,rfl⟩:=h
  obtain ⟨ccs,e',r⟩:=fill_sim _ _ _ _ _ _ hp hzz hcs
  simp only [hd,Sem.run_bind,tok.r_size hj,Result.andThen_ok]
  rw [hm,e']
  exact ⟨.agg ccs,by simp,.agg _ _ r.1 r.2⟩
 ·cases h
theorem asI_sim {x:Operand} {v:Value} {n:Int} (hx:ev x=some v) (h:asI v=some n):∃ k,v=.int k n∧cev x=.int k n:=by
 have r:=he x v hx
 cases v<;>simp [asI] at h
 subst h
 generalize cev x=c at r ⊢
 cases r
 exact ⟨_,rfl,rfl⟩
theorem sim_indexAddr {t:TypeId} {x ix:Operand} {v:Value} (h:apure T ev (.indexAddr t x ix)=some v) :
  ∃ cv,(Instr.indexAt t (cev x) (cev ix)).run P w=.ok cv w∧VRel ρ v cv:=by
 simp only [apure,Option.bind_eq_bind,Option.bind_eq_some_iff] at h
 obtain ⟨i,hi,vi,hvi,n,hn,vx,hvx,h⟩:=h
 obtain ⟨k,rfl,hci⟩:=asI_sim tok he hvi hn
 have rx:=he x vx hvx
 unfold Instr.indexAt
 simp only [hci,asIntOf,Sem.run_bind,Sem.run_pure,Result.andThen_ok,tok.r_und hi]
 generalize cev x=c at rx ⊢
 split at h
 ·rename_i e b off len cp hd
  simp only [Option.bind_eq_some_iff] at h
  obtain ⟨j,hj,h⟩:=h
  split at h
  ·rename_i hb
   cases h
   cases rx with
   | slice _ _ _ _ c' l hl hn hc =>
    refine ⟨.pointer (some ⟨l.cb,l.base+(off+n.toNat*j.size),none⟩),?_,.ptr _ _ l hl⟩
    simp only [hd]
    simp [hb,tok.r_size hj,tok.r_und hi,hd]
    unfold Addr.add
    split<;>simp_all<;>omega
   | empty=>simp at hb;omega
  ·cases h
 ·rename_i len e b off hd
  simp only [Option.bind_eq_some_iff] at h
  obtain ⟨j,hj,h⟩:=h
  split at h
  ·rename_i hb
   cases h
   cases rx with
   | ptr _ _ l hl =>
    refine ⟨.pointer (some ⟨l.cb,l.base+(off+n.toNat*j.size),none⟩),?_,.ptr _ _ l hl⟩
    simp only [hd]
    simp [hb,tok.r_size hj,tok.r_und hi,hd,Instr.sureAddr]
    unfold Addr.add
    split<;>simp_all<;>omega
  ·cases h
 ·cases h
theorem sim_index {t:TypeId} {x ix:Operand} {v:Value} (h:apure T ev (.index t x ix)=some v) :
  ∃ cv,(Instr.index t (cev x) (cev ix)).run P w=.ok cv w∧VRel ρ v cv:=by
 simp only [apure,Option.bind_eq_bind,Option.bind_eq_some_iff] at h
 obtain ⟨i,hi,vi,hvi,n,hn,vx,hvx,h⟩:=h
 obtain ⟨k,rfl,hci⟩:=asI_sim tok he hvi hn
 have rx:=he x vx hvx
 unfold Instr.index
 simp only [hci,asIntOf,Sem.run_bind,Sem.run_pure,Result.andThen_ok,tok.r_und hi]
 generalize cev x=c at rx ⊢
 split at h
 ·rename_i len e cs hd
  simp only [Option.bind_eq_some_iff] at h
  obtain ⟨j,hj,h⟩:=h
  split at h
  ·rename_i hb
   cases rx with
   | agg _ y hs hr =>
    obtain ⟨cv,e1,r1⟩:=part_sim tok hj ⟨hs,hr⟩ h w
    refine ⟨cv,?_,r1⟩
    simp only [hd]
    simp [hb,tok.r_size hj,e1]
  ·cases h
 ·rename_i s hd
  split at h
  ·rename_i hb
   simp only [Option.map_eq_some_iff] at h
   obtain ⟨b,hb',rfl⟩:=h
   cases rx
   refine ⟨.int .u8 b.toNat,?_,.int _ _⟩
   simp only [hd]
   simp [hb,hb']
  ·cases h
 ·cases h
theorem sim_fieldAddr {t:TypeId} {x:Operand} {n:Nat} {v:Value} (h:apure T ev (.fieldAddr t x n)=some v) :
  ∃ cv,(Instr.fieldAt t (cev x) n).run P w=.ok cv w∧VRel ρ v cv:=by
 simp only [apure,Option.bind_eq_bind,Option.bind_eq_some_iff] at h
 obtain ⟨i,hi,h⟩:=h
 split at h
 ·rename_i fs hd
  simp only [Option.bind_eq_some_iff] at h
  obtain ⟨f,hf,j,hj,vx,hvx,h⟩:=h
  split at h
  ·rename_i b off
   split at h
   ·cases h
   ·rename_i hz
    cases h
    have rx:=he x _ hvx
    generalize cev x=c at rx ⊢
    cases rx with
    | ptr _ _ l hl =>
     refine ⟨.pointer (some ⟨l.cb,l.base+(off+f.offset),none⟩),?_,.ptr _ _ l hl⟩
     unfold Instr.fieldAt
     simp [tok.r_und hi,hd,hf,Instr.sureAddr,fieldPlace,tok.r_size hj,hz]
     unfold Addr.add
     split<;>simp_all<;>omega
  ·cases h
 ·cases h
theorem sim_field {t:TypeId} {x:Operand} {n:Nat} {v:Value} (h:apure T ev (.field t x n)=some v) :
  ∃ cv,(Instr.field t (cev x) n).run P w=.ok cv w∧VRel ρ v cv:=by
 simp only [apure,Option.bind_eq_bind,Option.bind_eq_some_iff] at h
 obtain ⟨i,hi,h⟩:=h
 split at h
 ·rename_i fs hd
  simp only [Option.bind_eq_some_iff] at h
  obtain ⟨f,hf,j,hj,vx,hvx,h⟩:=h
  split at h
  ·rename_i cs
   have rx:=he x _ hvx
   generalize cev x=c at rx ⊢
   cases rx with
   | agg _ y hs hr =>
    obtain ⟨cv,e1,r1⟩:=part_sim tok hj ⟨hs,hr⟩ h w
    refine ⟨cv,?_,r1⟩
    unfold Instr.field
    simp [tok.r_und hi,hd,hf,asAgg,e1]
  ·cases h
 ·cases h
end
end Go.Ev
namespace Go.Ev
theorem nilchk_sim {P:Program} {ρ:Ren} {v cv r:Value} (h:anilchk v=some r) (rv:VRel ρ v cv):r=v∧(cv≠.pointer none∧cv≠.nilIface∧cv≠.nilFunc∧∀ s x y,cv≠.func (.method s) x y):=by
 unfold anilchk at h
 split at h
 ·cases h
 ·cases h
 ·cases h
 ·cases h
  cases rv with
  | func fn fn' x y x' y' hf _ _ _ _=>cases hf;simp
 ·cases h
 ·cases h
  rename_i h1 h2 h3 h4 h5
  cases rv<;>simp_all
set_option maxHeartbeats 1000000 in
theorem pure_sim {P:Program} {T:Tab} (tok:TabOK P T) {ρ:Ren} {ev:Operand→Option Value} {cev:Operand→Value} (he:EvRel ρ ev cev) (o:Oper) {v:Value} (h:apure T ev o.op=some v) (w:World) :
  ∃ cv,(execOp cev o).run P w=.ok (.value cv) w∧VRel ρ v cv:=by
 obtain ⟨dst,op,type,pos,after,guard⟩:=o
 simp only at h
 cases op
 case move x=>exact ⟨cev x,by simp [execOp],he x v (by simpa [apure] using h)⟩
 case assign x=>exact ⟨cev x,by simp [execOp],he x v (by simpa [apure] using h)⟩
 case pick c a b =>
  simp only [apure,Option.bind_eq_bind,Option.bind_eq_some_iff] at h
  obtain ⟨vc,hc,h⟩:=h
  have rc:=he c vc hc
  generalize hcc:cev c=cc at rc
  split at h
  ·cases rc
   exact ⟨cev a,by simp [execOp,hcc,asBool],he a v h⟩
  ·cases rc
   exact ⟨cev b,by simp [execOp,hcc,asBool],he b v h⟩
  ·cases h
 case build t parts =>
  obtain ⟨cv,h1,h2⟩:=sim_build tok he w h
  exact ⟨cv,by simp [execOp,h1],h2⟩
 case nilCheck x =>
  simp only [apure,Option.bind_eq_bind,Option.bind_eq_some_iff] at h
  obtain ⟨vx,hx,h⟩:=h
  have rx:=he x vx hx
  obtain ⟨rfl,h1,h2,h3,h4⟩:=nilchk_sim (P:=P) h rx
  refine ⟨cev x,?_,rx⟩
  simp only [execOp]
  first|rfl|(split<;>first|(exfalso;simp_all;done)|simp_all)
 case binOp op t x y yt =>
  simp only [apure,Option.bind_eq_bind,Option.bind_eq_some_iff] at h
  obtain ⟨a,ha,b,hb,h⟩:=h
  obtain ⟨h1,h2⟩:=abin_sim tok h (he x a ha) (he y b hb) w
  refine ⟨v,?_,h2⟩
  simp only [Sem.run_bind] at h1
  simp only [execOp,Sem.run_bind]
  generalize (eqGuard op t x y (cev x) (cev y)).run P w=r at h1 ⊢
  cases r with
  | ok u w1=>simp only [Result.andThen_ok] at h1 ⊢;rw [h1];simp
  | halt a b=>simp [Result.andThen] at h1
 case unOp op t x =>
  simp only [apure,Option.bind_eq_bind,Option.bind_eq_some_iff] at h
  obtain ⟨a,ha,h⟩:=h
  have ra:=he x a ha
  generalize hcc:cev x=cc at ra
  unfold aun at h
  split at h
  ·cases ra;cases h
   exact ⟨_,by simp [execOp,hcc,Op.unary,Op.intArith],.int _ _⟩
  ·cases ra
   simp only [intBin,Option.some.injEq] at h
   subst h
   exact ⟨_,by simp [execOp,hcc,Op.unary,Op.intBits],.int _ _⟩
  ·cases ra;cases h
   exact ⟨_,by simp [execOp,hcc,Op.unary],.bool _⟩
  ·cases h
 case convert s d x =>
  simp only [apure,aconv,Option.bind_eq_bind,Option.bind_eq_some_iff] at h
  obtain ⟨a,ha,i,hi,j,hj,h⟩:=h
  have ra:=he x a ha
  generalize hcc:cev x=cc at ra
  have hs:=tok.r_und hi w
  have hd:=tok.r_und hj w
  split at h
  ·rename_i k q n hjd
   cases ra;cases h
   refine ⟨_,?_,.int _ _⟩
   simp only [execOp,hcc,convert,Sem.run_bind,hs,hd,Result.andThen_ok,hjd]
   cases i.d<;>simp [Conv.intToInt]
  ·rename_i q n hjd
   cases ra;cases h
   refine ⟨_,?_,.string _⟩
   simp only [execOp,hcc,convert,Sem.run_bind,hs,hd,Result.andThen_ok,hjd]
   cases i.d<;>simp [Conv.intToString]
  ·rename_i b hjd
   cases ra;cases h
   refine ⟨_,?_,.string _⟩
   simp only [execOp,hcc,convert,Sem.run_bind,hs,hd,Result.andThen_ok,hjd]
   cases i.d<;>simp
  ·cases h
 case makeInterface t x =>
  simp only [apure,Option.bind_eq_bind,Option.bind_eq_some_iff] at h
  obtain ⟨i,hi,h⟩:=h
  split at h
  ·cases h
  ·rename_i hni
   simp only [Option.bind_eq_some_iff,Option.some.injEq] at h
   obtain ⟨a,ha,rfl⟩:=h
   refine ⟨.iface t (cev x),?_,.iface _ _ _ (he x a ha)⟩
   simp only [execOp,Instr.makeInterface,Sem.run_bind,tok.r_und hi,Result.andThen_ok]
   cases hd:i.d<;>simp_all
 case makeFunc fn x y =>
  cases fn<;>simp only [apure] at h<;>first|cases h|skip
  simp only [Option.bind_eq_bind,Option.bind_eq_some_iff,Option.some.injEq] at h
  obtain ⟨a,ha,b,hb,rfl⟩:=h
  have r1:=ARel.of_list (evs_sim he _ _ ha)
  have r2:=ARel.of_list (evs_sim he _ _ hb)
  have e1:x.map cev=(x.toList.map cev).toArray:=by apply Array.ext';simp
  have e2:y.map cev=(y.toList.map cev).toArray:=by apply Array.ext';simp
  rename_i f
  refine ⟨.func (.func f) (x.map cev) (y.map cev),by simp [execOp,Instr.makeFunc],?_⟩
  rw [e1,e2]
  exact .func _ _ _ _ _ _ (.func f) r1.1 r2.1 r1.2 r2.2
 case fieldAddr t x n =>
  obtain ⟨cv,h1,h2⟩:=sim_fieldAddr tok he w h
  exact ⟨cv,by simp [execOp,h1],h2⟩
 case field t x n =>
  obtain ⟨cv,h1,h2⟩:=sim_field tok he w h
  exact ⟨cv,by simp [execOp,h1],h2⟩
 case indexAddr t x n =>
  obtain ⟨cv,h1,h2⟩:=sim_indexAddr tok he w h
  exact ⟨cv,by simp [execOp,h1],h2⟩
 case index t x n =>
  obtain ⟨cv,h1,h2⟩:=sim_index tok he w h
  exact ⟨cv,by simp [execOp,h1],h2⟩
 case extract x n =>
  simp only [apure,Option.bind_eq_bind,Option.bind_eq_some_iff] at h
  obtain ⟨a,ha,h⟩:=h
  have ra:=he x a ha
  generalize hcc:cev x=cc at ra
  split at h
  ·cases ra with
   | unit=>simp at h
   | tuple _ y hs hr =>
    obtain ⟨cv,e1,r1⟩:=ARel.get? ⟨hs,hr⟩ h
    exact ⟨cv,by simp [execOp,hcc,Instr.extract,e1],r1⟩
  ·cases h
 case call c =>
  obtain ⟨callee,args,argTypes⟩:=c
  cases callee<;>simp only [apure] at h<;>first|(cases h;done)|skip
  rename_i b
  unfold pureBuiltin at h
  generalize hargs:args.toList=la at h
  generalize htys:argTypes.toList=lt at h
  split at h
  ·obtain rfl:args=#[_]:=Array.ext' hargs
   obtain rfl:argTypes=#[_]:=Array.ext' htys
   simp only [Option.bind_eq_bind,Option.bind_eq_some_iff] at h
   rename_i x t
   obtain ⟨i,hi,a,ha,h⟩:=h
   have ra:=he x a ha
   generalize hcc:cev x=cc at ra
   split at h
   ·cases ra;cases h
    rename_i hd
    exact ⟨_,by simp [execOp,resolve,invoke,builtin,Builtin.len_,goInt,hcc,tok.r_und hi,hd],.int _ _⟩
   ·cases h
    rename_i hd
    cases ra<;>exact ⟨_,by simp [execOp,resolve,invoke,builtin,Builtin.len_,goInt,hcc,tok.r_und hi,hd],.int _ _⟩
   ·cases h
    rename_i hd
    cases ra<;>exact ⟨_,by simp [execOp,resolve,invoke,builtin,Builtin.len_,goInt,hcc,tok.r_und hi,hd],.int _ _⟩
   ·cases h
  ·obtain rfl:args=#[_]:=Array.ext' hargs
   obtain rfl:argTypes=#[_]:=Array.ext' htys
   simp only [Option.bind_eq_bind,Option.bind_eq_some_iff] at h
   rename_i x t
   obtain ⟨i,hi,a,ha,h⟩:=h
   have ra:=he x a ha
   generalize hcc:cev x=cc at ra
   split at h
   ·cases h
    rename_i hd
    cases ra
    exact ⟨_,by simp [execOp,resolve,invoke,builtin,Builtin.cap_,goInt,hcc,tok.r_und hi,hd],.int _ _⟩
   ·cases h
  ·obtain rfl:args=#[_,_]:=Array.ext' hargs
   simp only [Option.bind_eq_bind,Option.bind_eq_some_iff] at h
   rename_i x y
   obtain ⟨a,ha,b,hb,h⟩:=h
   have ra:=he x a ha
   have rb:=he y b hb
   generalize hca:cev x=ca at ra
   generalize hcb:cev y=cb at rb
   split at h
   ·cases ra;cases rb;cases h
    exact ⟨_,by simp [execOp,resolve,invoke,builtin,Builtin.min_,Builtin.min2,hca,hcb],.int _ _⟩
   ·cases h
  ·obtain rfl:args=#[_,_]:=Array.ext' hargs
   simp only [Option.bind_eq_bind,Option.bind_eq_some_iff] at h
   rename_i x y
   obtain ⟨a,ha,b,hb,h⟩:=h
   have ra:=he x a ha
   have rb:=he y b hb
   generalize hca:cev x=ca at ra
   generalize hcb:cev y=cb at rb
   split at h
   ·cases ra;cases rb;cases h
    exact ⟨_,by simp [execOp,resolve,invoke,builtin,Builtin.max_,Builtin.max2,hca,hcb],.int _ _⟩
   ·cases h
  ·cases h
 all_goals cases h
end Go.Ev
namespace Go.Ev
theorem repCells_length (z:List Value):∀ n,(repCells z n).length=n*z.length
 | 0=>by simp [repCells]
 | n+1=>by simp [repCells,repCells_length z n,Nat.succ_mul];omega
theorem repCells_get (z:List Value):∀ (n i:Nat),(repCells z n)[i]?=if i < n*z.length then z[i % z.length]? else none
 | 0,i=>by simp [repCells]
 | n+1,i=>by
  simp only [repCells,List.getElem?_append,repCells_get z n]
  by_cases h:i < z.length
  ·rw [if_pos h,if_pos (by rw [Nat.succ_mul];omega),Nat.mod_eq_of_lt h]
  ·rw [if_neg h]
   have e:(i - z.length) % z.length=i % z.length:=by
    conv=>rhs;rw [show i=(i - z.length)+z.length by omega,Nat.add_mod_right]
   rw [e]
   by_cases h2:i < (n+1)*z.length
   ·rw [if_pos h2,if_pos (by rw [Nat.succ_mul] at h2;omega)]
   ·rw [if_neg h2,if_neg (by rw [Nat.succ_mul] at h2;omega)]
theorem zeros_eq (z:Array Value) (n:Nat) (h:z.size=0→n=0∨z.size*n=0):((Array.range (n*z.size)).map (z[· % z.size]!)).toList=repCells z.toList n:=by
 apply List.ext_getElem?
 intro i
 rw [repCells_get]
 simp only [Array.toList_map,Array.toList_range,List.getElem?_map,Array.length_toList,Array.getElem?_toList]
 by_cases hi:i < n*z.size
 ·rw [if_pos hi,List.getElem?_range hi]
  have hz:0 < z.size:=by
   rcases Nat.eq_zero_or_pos z.size with e|e
   ·rw [e] at hi;simp at hi
   ·exact e
  have:=Nat.mod_lt i hz
  simp [Array.getElem?_eq_getElem this,getElem!_pos z (i % z.size) this]
 ·rw [if_neg hi,List.getElem?_eq_none (by simpa using hi)]
  rfl
theorem ORel.new {ρ:Ren} {x:List Value} {y:Array Value} (h:LRel ρ x y.toList) (cb:Nat) (et:TypeId) (g full:Nat) (r:Array Value) (hf:full=x.length+r.size) (fz:Nat×Nat) (hz:∀ i,i < full→¬ (fz.1≤i∧i < fz.2)) :
  ORel ρ ⟨cb,0,x.length,full,g⟩ (.cells x true g) (some (.cells (y++r) et fz)):=by
 have hl:x.length=y.size:=by simpa using h.length
 refine ⟨rfl,rfl,by show x.length≤full;omega,y++r,et,fz,rfl,by simp;omega,fun i v hv=>?_,fun _ i hi=>by simpa using hz i hi⟩
 obtain ⟨cv,e,rr⟩:=h.get i v hv
 refine ⟨cv,?_,rr⟩
 have hi:i < y.size:=by
  rcases Nat.lt_or_ge i y.size with h|h
  ·exact h
  ·rw [List.getElem?_eq_none (by simpa using h)] at e;cases e
 simp only [Nat.zero_add]
 rw [Array.getElem?_append,if_pos hi]
 simpa using e
theorem ORel.new0 {ρ:Ren} {x:List Value} {y:Array Value} (h:LRel ρ x y.toList) (cb:Nat) (et:TypeId):ORel ρ ⟨cb,0,x.length,x.length,0⟩ (.cells x true 0) (some (.cells y et)):=by
 have:=ORel.new h cb et 0 x.length #[] (by simp) (0,0) (fun i _=>by simp)
 simpa using this
theorem fill0 {n:Nat} {z:List Value} {s len:Nat} (hz:z.length=s) (hn:n=len*s) (h0:n=0) (g:Nat→Value):(Array.range n).map g=(repCells z len).toArray:=by
 have:(repCells z len).length=0:=by rw [repCells_length,hz];omega
 rw [List.eq_nil_of_length_eq_zero this,h0]
 simp
theorem fill1 {z:Value} {l:List Value} {s len:Nat} (hz:l.length=s) (hc:z.cells.toList=l):(Array.range (len*s)).map (z.cells[· % z.cells.size]!)=(repCells l len).toArray:=by
 apply Array.ext'
 have hs:z.cells.size=s:=by rw [←hz,←hc];simp
 have:=zeros_eq z.cells len (fun h=>.inr (by rw [h];simp))
 rw [hs] at this ⊢
 rw [this,hc]
def Makes (P:Program) (ρ:Ren) (cev:Operand→Value) (o:Oper) (w:World) (ob:AObj) (f:Nat→Value):Prop :=
 ∃ cv w' cob loc,(execOp cev o).run P w=.ok (.value cv) w'∧w'.heap=w.heap.push cob∧w'.os=w.os∧w'.tape=w.tape∧w'.output=w.output∧loc.cb=w.heap.size ∧
  ∀ ρ' id,ρ.le ρ'→ρ' id=some loc→VRel ρ' (f id) cv∧ORel ρ' loc ob (some cob)
theorem wrap_small {c:Int} (h0:0≤c) (h1:c≤9223372036854775807):IntKind.i64.wrap c=c:=by
 have e:(2 ^ IntKind.i64.bits:Int)=18446744073709551616:=by decide
 have e2:(2 ^ (IntKind.i64.bits - 1):Int)=9223372036854775808:=by decide
 unfold IntKind.wrap
 simp only [e,e2]
 have:c % 18446744073709551616=c:=by omega
 rw [this]
 simp [IntKind.signed]
 omega
set_option maxHeartbeats 1000000 in
theorem alloc_sim {P:Program} {T:Tab} (tok:TabOK P T) {ρ:Ren} {ev:Operand→Option Value} {cev:Operand→Value} (he:EvRel ρ ev cev) (o:Oper) {ob:AObj} {f:Nat→Value}
  (h:aalloc T ev o.op=some (ob,f)) (w:World):Makes P ρ cev o w ob f:=by
 obtain ⟨dst,op,type,pos,after,guard⟩:=o
 simp only at h
 cases op
 case alloc t =>
  simp only [aalloc,Option.bind_eq_bind,Option.bind_eq_some_iff,Option.some.injEq,Prod.mk.injEq] at h
  obtain ⟨i,hi,rfl,rfl⟩:=h
  obtain ⟨z,hz,hzc⟩:=tok.r_zero hi w
  refine ⟨.pointer (some ⟨w.heap.size,0,none⟩),{ w with heap:=w.heap.push (.cells z.cells t) },.cells z.cells t,⟨w.heap.size,0,i.zero.length,i.zero.length,0⟩,?_,rfl,rfl,rfl,rfl,rfl,fun ρ' id hle hid=>⟨?_,?_⟩⟩
  ·simp [execOp,Instr.alloc,hz,newVar,newRow]
  ·simpa using VRel.ptr (ρ:=ρ') id 0 _ hid
  ·refine ORel.new0 ?_ _ _
   rw [hzc]
   exact LRel.const _ (tok.zok t i hi).1
 case box t x =>
  simp only [aalloc,Option.bind_eq_bind,Option.bind_eq_some_iff,Option.some.injEq,Prod.mk.injEq] at h
  obtain ⟨v,hv,rfl,rfl⟩:=h
  have r:=he x v hv
  refine ⟨.pointer (some ⟨w.heap.size,0,none⟩),{ w with heap:=w.heap.push (.cells (cev x).cells t) },.cells (cev x).cells t,⟨w.heap.size,0,v.cells.toList.length,v.cells.toList.length,0⟩,?_,rfl,rfl,rfl,rfl,rfl,fun ρ' id hle hid=>⟨?_,?_⟩⟩
  ·simp [execOp,Instr.box,newVar,newRow]
  ·simpa using VRel.ptr (ρ:=ρ') id 0 _ hid
  ·exact ORel.new0 (r.mono hle).cells _ _
 case buildSlice t len parts =>
  simp only [aalloc,Option.bind_eq_bind,Option.bind_eq_some_iff] at h
  obtain ⟨i,hi,h⟩:=h
  split at h
  ·rename_i e hd
   simp only [Option.bind_eq_some_iff] at h
   obtain ⟨j,hj,ps,hps,h⟩:=h
   split at h
   ·cases h
   ·rename_i hbig
    simp only [Option.bind_eq_some_iff,Option.some.injEq,Prod.mk.injEq] at h
    obtain ⟨cs,hcs,rfl,rfl⟩:=h
    have hp:=evps_sim he _ _ hps
    obtain ⟨z,hz,hzc⟩:=tok.r_zero hj w
    have hzl:=(tok.zok e j hj).2
    have hzr:LRel ρ (repCells j.zero len) (repCells j.zero len):=by
     refine LRel.const ρ ?_
     have h1:=(tok.zok e j hj).1
     clear hcs
     induction len with
     | zero=>rfl
     | succ n ih=>simp only [repCells,List.all_append,h1,Bool.true_and];exact ih (by rw [Nat.succ_mul] at hbig;omega)
    obtain ⟨ccs,e1,r1⟩:=fill_sim _ _ _ _ _ _ hp (ARel.of_list hzr) hcs
    have hm:(parts.map fun (i,x)=>(i,cev x)).toList=parts.toList.map fun p=>(p.1,cev p.2):=by simp
    refine ⟨.slice (some ⟨w.heap.size,0,none⟩) len len,{ w with heap:=w.heap.push (.cells ccs e) },.cells ccs e,⟨w.heap.size,0,cs.toList.length,cs.toList.length,0⟩,?_,rfl,rfl,rfl,rfl,rfl,fun ρ' id hle hid=>⟨?_,?_⟩⟩
    ·simp only [execOp,Instr.buildSlice,Sem.run_bind,tok.r_und hi,Result.andThen_ok,hd,tok.r_size hj,hbig,Sem.run_ite,if_false]
     by_cases h0:len*j.size=0
     ·rw [if_pos h0]
      simp only [Sem.run_bind,Sem.run_pure,Result.andThen_ok]
      rw [fill0 hzl rfl h0,hm,e1]
      simp [newRow]
     ·rw [if_neg h0]
      simp only [Sem.run_bind,Sem.run_pure,Result.andThen_ok,hz]
      rw [fill1 hzl hzc,hm,e1]
      simp [newRow]
    ·simpa using VRel.slice (ρ:=ρ') id 0 len len len _ hid (Nat.le_refl _) (.inl rfl)
    ·exact ORel.new0 (LRel.mono hle r1.toList) _ _
  ·cases h
 case makeSlice t l c =>
  simp only [aalloc,Option.bind_eq_bind,Option.bind_eq_some_iff] at h
  obtain ⟨i,hi,h⟩:=h
  split at h
  ·rename_i e hd
   simp only [Option.bind_eq_some_iff] at h
   obtain ⟨j,hj,vl,hvl,nl,hnl,vc,hvc,nc,hnc,h⟩:=h
   split at h
   ·rename_i hb
    cases h
    obtain ⟨h0,h1,h2,h3⟩:=hb
    obtain ⟨kl,rfl,hcl⟩:=asI_sim tok he hvl hnl
    obtain ⟨kc,rfl,hcc⟩:=asI_sim tok he hvc hnc
    obtain ⟨z,hz,hzc⟩:=tok.r_zero hj w
    obtain ⟨fi,hfi,hfb,hfs⟩:=tok.r_bytes hj w
    have hzl:=(tok.zok e j hj).2
    have hzr:LRel ρ (repCells j.zero nc.toNat) (repCells j.zero nc.toNat):=by
     refine LRel.const ρ ?_
     have h1:=(tok.zok e j hj).1
     generalize nc.toNat=n
     induction n with
     | zero=>rfl
     | succ n ih=>simp only [repCells,List.all_append,h1,Bool.true_and];exact ih
    refine ⟨.slice (some ⟨w.heap.size,0,none⟩) nl.toNat nc.toNat,{ w with heap:=w.heap.push (.cells (repCells j.zero nc.toNat).toArray e) },.cells (repCells j.zero nc.toNat).toArray e,⟨w.heap.size,0,(repCells j.zero nc.toNat).length,(repCells j.zero nc.toNat).length,0⟩,?_,rfl,rfl,rfl,rfl,rfl,fun ρ' id hle hid=>⟨?_,?_⟩⟩
    ·have w1:=wrap_small (c:=nl) h0 (by omega)
     have w2:=wrap_small (c:=nc) (by omega) h2
     have c1:¬ (nc < 0):=by omega
     have c2:¬ ((fi.bytes:Int)*nc > 2 ^ 48):=by rw [hfb];omega
     have c3:¬ (nl < 0):=by omega
     have c4:¬ (nl > nc):=by omega
     simp only [execOp,Instr.makeSlice,Sem.run_bind,tok.r_und hi,Result.andThen_ok,hd,hcl,hcc,asInt,asIntOf,Sem.run_pure,hfi,w1,w2]
     simp only [c1,c2,c3,c4,decide_false,Bool.or_false,Bool.false_eq_true,if_false,Bool.false_or]
     simp only [Sem.run_bind,run_askRoom,Result.andThen_ok,tok.r_size hj,Sem.run_ite]
     by_cases h0:nc.toNat*j.size=0
     ·rw [if_pos h0]
      simp only [Sem.run_bind,Sem.run_pure,Result.andThen_ok]
      rw [fill0 hzl rfl h0]
      simp [newRow]
     ·rw [if_neg h0]
      simp only [Sem.run_bind,Sem.run_pure,Result.andThen_ok,hz]
      rw [fill1 hzl hzc]
      simp [newRow]
    ·have:(nl.toNat:Nat)≤nc.toNat:=by omega
     simpa using VRel.slice (ρ:=ρ') id 0 nl.toNat nc.toNat nc.toNat _ hid this (.inl rfl)
    ·exact ORel.new0 (by simpa using LRel.mono hle hzr) _ _
   ·cases h
  ·cases h
 case makeMap t r =>
  simp only [aalloc,Option.bind_eq_bind,Option.bind_eq_some_iff] at h
  obtain ⟨i,hi,vr,hvr,h⟩:=h
  have mk:∀ b:Unit,(execOp cev ⟨dst,.makeMap t r,type,pos,after,guard⟩).run P w=.ok (.value (.map (some w.heap.size))) { w with heap:=w.heap.push (.map #[] 0) }→(ob,f)=(AObj.map [],fun b=>Value.map (some b))→Makes P ρ cev ⟨dst,.makeMap t r,type,pos,after,guard⟩ w ob f:=by
   intro _ hr hof
   simp only [Prod.mk.injEq] at hof
   obtain ⟨rfl,rfl⟩:=hof
   exact ⟨_,_,.map #[] 0,⟨w.heap.size,0,0,0,0⟩,hr,rfl,rfl,rfl,rfl,rfl,fun ρ' id hle hid=>⟨VRel.map (ρ:=ρ') id _ hid,⟨#[],0,rfl,.nil⟩⟩⟩
  split at h
  ·rename_i k e hd
   cases r with
   | none =>
    refine mk () ?_ (by simpa using h.symm)
    simp [execOp,Instr.makeMap]
   | some x=>simp [evo] at hvr
  ·rename_i k e q n hd
   cases r with
   | none=>simp [evo] at hvr
   | some x =>
    simp only [evo,Option.map_eq_some_iff,Option.some.injEq] at hvr
    obtain ⟨a,ha,rfl⟩:=hvr
    have rx:=he x _ ha
    generalize hcc:cev x=cc at rx
    cases rx
    refine mk () ?_ (by simpa using h.symm)
    simp [execOp,Instr.makeMap,tok.r_und hi,hd,hcc,asInt,asIntOf]
  ·cases h
 case convert s d x =>
  simp only [aalloc,Option.bind_eq_bind,Option.bind_eq_some_iff] at h
  obtain ⟨i,hi,j,hj,a,ha,h⟩:=h
  have ra:=he x a ha
  generalize hcc:cev x=cc at ra
  split at h
  ·rename_i e b hid hjd
   cases ra
   simp only [Option.bind_eq_some_iff] at h
   obtain ⟨k,hk,h⟩:=h
   split at h
   ·rename_i hkd
    split at h
    ·rename_i hks
     cases h
     have hu:=tok.r_und hk
     let q:=w.tape w.drawn (.appendCap b.size 0 e)
     let cp:=b.size+q % (2 ^ 63 - b.size)
     let elems:Array Value:=b.data.map fun x=>.int .u8 x.toNat
     let row:Array Value:=elems++Array.replicate (cp - b.size) (.int .u8 0)
     have hsz:elems.size=b.size:=by simp [elems]
     have hrow:row.size=cp:=by simp [row,hsz];omega
     refine ⟨.slice (some ⟨w.heap.size,0,none⟩) b.size cp,{ w with drawn:=w.drawn+1,heap:=w.heap.push (.cells row e (cp,cp+1)) },.cells row e (cp,cp+1),⟨w.heap.size,0,b.size,cp,1⟩,?_,rfl,rfl,rfl,rfl,rfl,fun ρ' id hle hid=>⟨?_,?_⟩⟩
     ·have hch:(choose (.appendCap b.size 0 e)).run P w=.ok cp { w with drawn:=w.drawn+1 }:=by
       simp [run_choose,Question.forced,Question.cut,cp,q]
      simp only [execOp,hcc,convert,Sem.run_bind,tok.r_und hi,tok.r_und hj,Result.andThen_ok,hid,hjd,hu,hkd,Conv.stringToBytes]
      rw [hch]
      simp only [Result.andThen_ok,newRow,Sem.run_bind,run_newObj,Sem.run_pure,markStringish,run_shape]
      have hsh:(World.mk (w.heap.push (.cells row e)) w.tape (w.drawn+1) w.os w.output).shape? w.heap.size=some (e,cp):=by
       simp [World.shape?,hrow]
      have hfr:(World.mk (w.heap.push (.cells row e)) w.tape (w.drawn+1) w.os w.output).freeze ⟨w.heap.size,cp,none⟩ 1=⟨w.heap.push (.cells row e (cp,cp+1)),w.tape,w.drawn+1,w.os,w.output⟩:=by
       simp only [World.freeze,Nat.one_ne_zero,if_false]
       congr 1
       apply Array.ext_getElem?
       intro i
       simp only [Array.getElem?_modify,Array.getElem?_push]
       by_cases e1:i=w.heap.size
       ·subst e1;simp
       ·simp [e1,Ne.symm e1]
      simp only [elems,row] at hsh hfr
      rw [hsh]
      simp only [run_freeze,hfr,Sem.run_bind,Result.andThen_ok,Sem.run_pure]
      rfl
     ·have:=VRel.slice (ρ:=ρ') id 0 b.size b.size cp _ hid (Nat.le_refl _) (.inr ⟨by simp,by simp,by simp [cp],by simp⟩)
      simpa using this
     ·have hl:(b.data.toList.map fun x=>Value.int .u8 x.toNat).length=b.size:=by simp
      have h1:LRel ρ' (b.data.toList.map fun x=>Value.int .u8 x.toNat) elems.toList:=by
       simp only [elems,Array.toList_map]
       generalize b.data.toList=l
       induction l with
       | nil=>exact .nil
       | cons a l ih=>exact .cons (.int _ _) ih
      have:=ORel.new h1 w.heap.size e 1 cp (Array.replicate (cp - b.size) (.int .u8 0)) (by rw [hl];simp [cp]) (cp,cp+1) (fun i hi=>by simp;omega)
      rw [hl] at this
      exact this
    ·cases h
   ·cases h
  ·cases h
 all_goals (simp only [aalloc] at h;cases h)
end Go.Ev
namespace Go.Ev
theorem getCells_some {vs:List Value} {off n:Nat} {cs:List Value} (h:getCells vs off n=some cs):off+n≤vs.length∧cs=(vs.drop off).take n∧cs.length=n:=by
 unfold getCells at h
 split at h
 ·rename_i hl
  cases h
  exact ⟨hl,rfl,by simp;omega⟩
 ·cases h
theorem Rel.cells {ρ:Ren} {H:Heap} {w:World} (R:Rel ρ H w) {b off n:Nat} {l:Loc} {cs:List Value} (hl:ρ b=some l) (h:H.read b off n=some cs) :
  ∃ ccs:List Value,LRel ρ cs ccs∧cs.length=n∧∀ j v,ccs[j]?=some v→w.cell? (Addr.add ⟨l.cb,l.base+off,none⟩ j)=some v:=by
 unfold Heap.read at h
 split at h
 ·rename_i vs wr g hg
  obtain ⟨h1,h2,h3⟩:=getCells_some h
  obtain ⟨e1,e2,e3,C,et,fz,e4,e5,e6,e7⟩:=R.live b l _ hl hg
  refine ⟨(C.toList.drop (l.base+off)).take n,All2.of_get ?_ ?_,h3,?_⟩
  ·rw [h3];simp;omega
  ·intro i a ha
   rw [h2] at ha
   rw [List.getElem?_take] at ha ⊢
   split at ha
   ·rename_i hi
    rw [List.getElem?_drop] at ha ⊢
    obtain ⟨cv,q1,q2⟩:=e6 _ _ ha
    refine ⟨cv,?_,q2⟩
    rw [if_pos hi,Array.getElem?_toList,show l.base+off+i=l.base+(off+i) by omega]
    exact q1
   ·cases ha
  ·intro j v hv
   rw [List.getElem?_take] at hv
   split at hv
   ·rw [List.getElem?_drop,Array.getElem?_toList] at hv
    have ha:(Addr.add ⟨l.cb,l.base+off,none⟩ j)=⟨l.cb,l.base+off+j,none⟩:=by unfold Addr.add;split<;>simp_all
    rw [ha]
    simp [World.cell?,e4,hv]
   ·cases hv
 ·cases h
theorem Rel.loads {P:Program} {ρ:Ren} {H:Heap} {w:World} (R:Rel ρ H w) {b off n:Nat} {l:Loc} {cs:List Value} (hl:ρ b=some l) (h:H.read b off n=some cs) :
  ∃ ccs:List Value,LRel ρ cs ccs∧cs.length=n∧(loadCells ⟨l.cb,l.base+off,none⟩ n).run P w=.ok ccs.toArray w:=by
 obtain ⟨ccs,h1,h2,h3⟩:=R.cells hl h
 refine ⟨ccs,h1,h2,?_⟩
 have:=run_loadCells_list (P:=P) w ⟨l.cb,l.base+off,none⟩ ccs h3
 rwa [←h1.length,h2] at this
theorem loadVar_sim {P : Program} {T : Tab} (tok : TabOK P T) {ρ : Ren} {H : Heap} {w : World} (R : Rel ρ H w) {t : TypeId} {i : TI} (hi : T t = some i) {b off : Nat} {l : Loc} {cs : List Value} {v : Value} (hl : ρ b = some l)
    (h : H.read b off (if isAggD i.d then i.size else 1) = some cs) (hv : ofCells i cs = some v) : ∃ cv, (loadVar t ⟨l.cb, l.base + off, none⟩).run P w = .ok cv w ∧ VRel ρ v cv := by
  obtain ⟨ccs, h1, h2, h3⟩ := R.loads (P := P) hl h
  unfold ofCells at hv
  by_cases ha : isAggD i.d = true
  · simp only [ha, if_true] at h3 hv
    cases hv
    have := ARel.of_list h1
    exact ⟨.agg ccs.toArray, by simp only [loadVar, Sem.run_bind, tok.r_agg hi, Result.andThen_ok, ha, if_true, tok.r_size hi, h3, Sem.run_pure], .agg _ _ this.1 this.2⟩
  · have ha' : isAggD i.d = false := by simpa using ha
    simp only [ha', Bool.false_eq_true, if_false] at h3 hv
    split at hv
    · cases hv
      cases h1 with
      | cons r t => cases t; rename_i cv
                    refine ⟨cv, ?_, r⟩
                    simp only [loadVar, Sem.run_bind, tok.r_agg hi, Result.andThen_ok, ha', Bool.false_eq_true, if_false]
                    simp only [loadCells, loadCellsFrom, Sem.run_bind, Sem.run_pure, Result.andThen_ok, Addr.add, if_true] at h3
                    have e : (Addr.mk l.cb (l.base + off) none).add 0 = ⟨l.cb, l.base + off, none⟩ := rfl
                    cases hr : (load ⟨l.cb, l.base + off, none⟩).run P w with
                    | ok x w1 =>
                      rw [hr] at h3
                      simp at h3
                      obtain ⟨rfl, rfl⟩ := h3
                      rfl
                    | halt x w1 => rw [hr] at h3; simp [Result.andThen] at h3
    · cases hv
theorem asNat_some {v:Option Value} {n:Option Nat} (h:asNat v=some n):(v=none∧n=none)∨∃ k i,v=some (.int k i)∧0≤i∧n=some i.toNat:=by
 unfold asNat at h
 split at h
 ·cases h;exact .inl ⟨rfl,rfl⟩
 ·split at h
  ·cases h;rename_i k i h0;exact .inr ⟨k,i,rfl,h0,rfl⟩
  ·cases h
 ·cases h
theorem evo_same {ρ:Ren} {ev:Operand→Option Value} {cev:Operand→Value} (he:EvRel ρ ev cev) {x:Option Operand} {v:Option Value} {n:Option Nat} (h:evo ev x=some v) (hn:asNat v=some n):x.map cev=v:=by
 cases x with
 | none=>simp [evo] at h;subst h;rfl
 | some x =>
  simp only [evo,Option.map_eq_some_iff] at h
  obtain ⟨a,ha,rfl⟩:=h
  rcases asNat_some hn with ⟨h1,_⟩|⟨k,i,h1,_⟩
  ·cases h1
  ·cases h1
   have r:=he x _ ha
   generalize hc:cev x=c at r
   cases r
   simp [hc]
theorem bound_run {P:Program} (w:World) (k:IntKind) (i:Int) (y:Nat) (code:BoundsCode) (h0:0≤i) (h1:i.toNat≤y):(Instr.sliceBound (.int k i) y code).run P w=.ok i.toNat w:=by
 have:0≤i∧i≤(y:Int):=⟨h0,by omega⟩
 simp [Instr.sliceBound,asIntOf,this]
theorem bounds_run {P:Program} (w:World) (isS:Bool) {len c c':Nat} (hc:c≤c') {low high mx:Option Value} {lo hi m0:Option Nat} (hlo:asNat low=some lo) (hhi:asNat high=some hi) (hmx:asNat mx=some m0)
  {l h m:Nat} (hb:abounds len c lo hi m0=some (l,h,m)) :
  (Instr.sliceBounds isS len c' low high mx).run P w=.ok (l,h,m0.getD c') w∧l≤h∧h≤m∧m≤c∧m=m0.getD c:=by
 unfold abounds at hb
 split at hb
 ·cases hb
 ·rename_i hns
  dsimp only at hb
  split at hb
  ·rename_i hok
   cases hb
   obtain ⟨b1,b2,b3⟩:=hok
   refine ⟨?_,b3,b2,b1,rfl⟩
   unfold Instr.sliceBounds
   rcases asNat_some hmx with ⟨rfl,rfl⟩|⟨km,im,rfl,hm0,rfl⟩
   ·rcases asNat_some hhi with ⟨rfl,rfl⟩|⟨kh,ih,rfl,hh0,rfl⟩
    ·rcases asNat_some hlo with ⟨rfl,rfl⟩|⟨kl,il,rfl,hl0,rfl⟩
     ·simp
     ·simp only [Option.getD_some,Option.getD_none] at b1 b2 b3
      simp only [Sem.run_bind,Sem.run_pure,Result.andThen_ok]
      rw [bound_run w kl il _ _ hl0 b3]
      simp
    ·simp only [Option.getD_some,Option.getD_none] at b1 b2 b3
     simp only [Sem.run_bind,Sem.run_pure,Result.andThen_ok]
     rw [bound_run w kh ih _ _ hh0 (by omega)]
     simp only [Result.andThen_ok,Sem.run_bind]
     rcases asNat_some hlo with ⟨rfl,rfl⟩|⟨kl,il,rfl,hl0,rfl⟩
     ·simp
     ·simp only [Option.getD_some,Option.getD_none] at b3
      simp only [Sem.run_bind]
      rw [bound_run w kl il _ _ hl0 b3]
      simp
   ·simp only [Option.getD_some] at b1 b2 b3
    simp only [Sem.run_bind,Sem.run_pure,Result.andThen_ok]
    rw [bound_run w km im _ _ hm0 (by omega)]
    simp only [Result.andThen_ok,Sem.run_bind]
    rcases asNat_some hhi with ⟨rfl,rfl⟩|⟨kh,ih,rfl,hh0,rfl⟩
    ·simp at hns
    ·simp only [Option.getD_some,Option.getD_none] at b1 b2 b3
     simp only [Sem.run_bind]
     rw [bound_run w kh ih _ _ hh0 (by omega)]
     simp only [Result.andThen_ok,Sem.run_bind]
     rcases asNat_some hlo with ⟨rfl,rfl⟩|⟨kl,il,rfl,hl0,rfl⟩
     ·simp
     ·simp only [Option.getD_some,Option.getD_none] at b3
      simp only [Sem.run_bind]
      rw [bound_run w kl il _ _ hl0 b3]
      simp
  ·cases hb
theorem CapOK.le {l:Loc} {off c c':Nat} (h:CapOK l off c c'):c≤c':=by
 rcases h with h|h
 ·omega
 ·exact h.2.2.1
theorem slice_sim {P:Program} {T:Tab} (tok:TabOK P T) {ρ:Ren} {H:Heap} {w:World} (R:Rel ρ H w) {t:TypeId} {x cx v:Value} {low high mx:Option Value} (h:aslice T H t x low high mx=some v) (hx:VRel ρ x cx) :
  ∃ cv,(Instr.sliceAt t cx low high mx).run P w=.ok cv w∧VRel ρ v cv:=by
 simp only [aslice,Option.bind_eq_bind,Option.bind_eq_some_iff] at h
 obtain ⟨i,hi,lo,hlo,hi',hhi,m0,hm0,h⟩:=h
 have hu:=tok.r_und hi w
 unfold Instr.sliceAt
 simp only [Sem.run_bind,hu,Result.andThen_ok]
 split at h
 ·rename_i s hd
  cases hx
  split at h
  ·cases h
  ·rename_i hns
   simp only [Option.bind_eq_some_iff] at h
   obtain ⟨⟨l,hh,m⟩,hb,h⟩:=h
   dsimp only at h
   cases h
   have hmn:m0=none:=by cases m0<;>simp at hns ⊢
   have hmx:mx=none:=by rcases asNat_some hm0 with ⟨h1,_⟩|⟨_,_,_,_,h2⟩;exact h1;rw [hmn] at h2;cases h2
   subst hmx
   obtain ⟨e1,_⟩:=bounds_run (P:=P) w false (Nat.le_refl s.size) hlo hhi (show asNat none=some none from rfl) hb
   refine ⟨.string (s.extract l hh),?_,.string _⟩
   simp only [hd,Instr.slice,Sem.run_bind,hu,Result.andThen_ok,e1]
   simp [e1]
 ·rename_i e n c hd
  cases hx
  simp only [Option.bind_eq_some_iff] at h
  obtain ⟨j,hj,⟨l,hh,m⟩,hb,h⟩:=h
  dsimp only at h
  cases h
  obtain ⟨e1,b1,b2,b3,b4⟩:=bounds_run (P:=P) w true (Nat.le_refl 0) hlo hhi hm0 hb
  have:hh=0∧l=0∧m=0:=by omega
  obtain ⟨rfl,rfl,rfl⟩:=this
  refine ⟨.slice none 0 0,?_,.nilslice⟩
  simp only [hd,Instr.slice,Sem.run_bind,hu,Result.andThen_ok,e1,tok.r_size hj,Sem.run_pure]
  simp [←b4]
 ·rename_i e b off n c hd
  simp only [Option.bind_eq_some_iff] at h
  obtain ⟨j,hj,⟨l,hh,m⟩,hb,h⟩:=h
  dsimp only at h
  split at h
  ·rename_i vs wr g hg
   split at h
   ·rename_i hgs
    cases h
    cases hx with
    | slice _ _ _ _ c' lc hl hn hc =>
     obtain ⟨e1,b1,b2,b3,b4⟩:=bounds_run (P:=P) w true hc.le hlo hhi hm0 hb
     have hor:=R.live b lc _ hl hg
     obtain ⟨o1,o2,o3,_⟩:=hor
     by_cases hml:m0.getD c'=l
     ·have hm:m=l∧hh=l:=by
       have:m≤m0.getD c':=by
        cases m0 with
        | none=>simp only [Option.getD_none] at b4 ⊢;rw [b4];exact hc.le
        | some q=>simp only [Option.getD_some] at b4 ⊢;omega
       omega
      obtain ⟨rfl,rfl⟩:=hm
      refine ⟨.slice (some ⟨lc.cb,lc.base+off,none⟩) 0 0,?_,?_⟩
      ·simp only [hd,Instr.slice,Sem.run_bind,hu,Result.andThen_ok,e1,tok.r_size hj,Sem.run_pure]
       simp [hml]
      ·simpa using VRel.empty b (off+hh*j.size) _ lc hl
     ·refine ⟨.slice (some ⟨lc.cb,lc.base+(off+l*j.size),none⟩) (hh - l) (m0.getD c' - l),?_,.slice b _ _ _ _ lc hl (by omega) ?_⟩
      ·simp only [hd,Instr.slice,Sem.run_bind,hu,Result.andThen_ok,e1,tok.r_size hj,Sem.run_pure]
       rw [if_neg hml]
       simp only [Option.map_some,Addr.add]
       split<;>simp_all<;>omega
      ·cases m0 with
       | some q =>
        simp only [Option.getD_some] at b4 ⊢
        exact .inl (by omega)
       | none =>
        simp only [Option.getD_none] at b4 hml ⊢
        subst b4
        rcases hc with rfl|⟨q1,q2,q3,q4⟩
        ·exact .inl rfl
        ·rcases hgs with hgs|hgs
         ·omega
         ·refine .inr ⟨q1,?_,by omega,?_⟩
          ·have:j.size=lc.sz:=by omega
           rw [this,Nat.add_assoc,←Nat.add_mul,show l+(m - l)=m by omega];exact q2
          ·have:j.size=lc.sz:=by omega
           rw [this,Nat.add_assoc,←Nat.add_mul,show l+(c' - l)=c' by omega];exact q4
    | empty _ _ a lc hl =>
     obtain ⟨e1,b1,b2,b3,b4⟩:=bounds_run (P:=P) w true (Nat.le_refl 0) hlo hhi hm0 hb
     have:hh=0∧l=0∧m=0:=by omega
     obtain ⟨rfl,rfl,rfl⟩:=this
     refine ⟨.slice (some a) 0 0,?_,by simpa using VRel.empty b off a lc hl⟩
     simp only [hd,Instr.slice,Sem.run_bind,hu,Result.andThen_ok,e1,tok.r_size hj,Sem.run_pure]
     simp [←b4]
   ·cases h
  ·cases h
 ·rename_i n e b off hd
  simp only [Option.bind_eq_some_iff] at h
  obtain ⟨j,hj,⟨l,hh,m⟩,hb,h⟩:=h
  dsimp only at h
  cases h
  cases hx with
  | ptr _ _ lc hl =>
   obtain ⟨e1,b1,b2,b3,b4⟩:=bounds_run (P:=P) w false (Nat.le_refl n) hlo hhi hm0 hb
   by_cases hml:m=l
   ·have hm:hh=l:=by omega
    subst hm
    subst hml
    refine ⟨.slice (some ⟨lc.cb,lc.base+off,none⟩) 0 0,?_,?_⟩
    ·simp only [hd,Sem.run_bind,Result.andThen_ok,Instr.sureAddr,Sem.run_pure,e1,tok.r_size hj]
     simp [←b4]
    ·simpa using VRel.empty b (off+m*j.size) _ lc hl
   ·refine ⟨.slice (some ⟨lc.cb,lc.base+(off+l*j.size),none⟩) (hh - l) (m - l),?_,.slice b _ _ _ _ lc hl (by omega) (.inl rfl)⟩
    simp only [hd,Sem.run_bind,Result.andThen_ok,Instr.sureAddr,Sem.run_pure,e1,tok.r_size hj]
    rw [←b4,if_neg hml]
    simp only [Addr.add]
    split<;>simp_all<;>omega
 ·cases h
end Go.Ev
namespace Go.Ev
abbrev ERel (ρ:Ren) (es:List (Value×Value)) (ces:List MapEntry):Prop:=All2 (fun (e:Value×Value) (c:MapEntry)=>VRel ρ e.1 c.key∧VRel ρ e.2 c.val) es ces
def FindRel (ρ:Ren) (i:Nat):Option (Nat×Value)→Option (Nat×Value)→Prop
 | none,none=>True
 | some (n,v),some (m,cv)=>n=m∧i≤n∧VRel ρ v cv
 | _,_=>False
theorem FindRel.up {ρ:Ren} {i:Nat} {a b:Option (Nat×Value)} (h:FindRel ρ (i+1) a b):FindRel ρ i a b:=by
 cases a<;>cases b<;>simp only [FindRel] at h ⊢
 exact ⟨h.1,by omega,h.2.2⟩
theorem findNow_sim {T:Tab} {ρ:Ren} {kt:TypeId} {i:TI} (hi:T kt=some i) (hd:(∃ q,i.d=.int q)∨i.d=.string∨i.d=.bool) {k ck:Value} (hk:VRel ρ k ck) :
  ∀ {es:List (Value×Value)} {ces:List MapEntry},ERel ρ es ces→∀ (n:Nat) (r:Option (Nat×Value)),keyFind T kt k es n=some r→(hfit:keyFits T kt k=true)→∃ cr,Instr.findNow i.d ck ces n=some cr∧FindRel ρ n r cr:=by
 intro es ces he
 induction he with
 | nil=>intro n r h _;simp [keyFind] at h;subst h;exact ⟨none,by simp [Instr.findNow],trivial⟩
 | cons hx _ ih =>
  rename_i e c _ _ _
  obtain ⟨a,v⟩:=e
  intro n r h hfit
  simp only [keyFind,Option.bind_eq_bind,Option.bind_eq_some_iff] at h
  obtain ⟨q,hq,h⟩:=h
  obtain ⟨h1,h2⟩:=hx
  simp only at h1 h2
  have hs:Instr.sameNow i.d ck c.key=some q:=by
   generalize c.key=cc at h1
   obtain ⟨d,s,b,z0,c0⟩:=i
   simp only at hd ⊢
   unfold aequal at hq
   simp only [hi,Option.bind_eq_bind,Option.bind_some] at hq
   rcases hd with ⟨z,rfl⟩|rfl|rfl
   ·cases k<;>first|(simp [keyFits,hi] at hfit;done)|skip
    cases a<;>first|(simp at hq;done)|skip
    cases hk;cases h1
    simp only at hq
    simp only [Instr.sameNow]
    exact hq
   ·cases k<;>first|(simp [keyFits,hi] at hfit;done)|skip
    cases a<;>first|(simp at hq;done)|skip
    cases hk;cases h1
    simp only at hq
    simp only [Instr.sameNow]
    exact hq
   ·cases k<;>first|(simp [keyFits,hi] at hfit;done)|skip
    cases a<;>first|(simp at hq;done)|skip
    cases hk;cases h1
    simp only at hq
    simp only [Instr.sameNow]
    exact hq
  simp only [Instr.findNow,hs]
  cases q
  ·simp only [if_false,Bool.false_eq_true] at h
   obtain ⟨cr,e1,e2⟩:=ih (n+1) r h hfit
   exact ⟨cr,e1,e2.up⟩
  ·simp only [if_true,Option.some.injEq] at h
   subst h
   exact ⟨_,rfl,rfl,Nat.le_refl _,h2⟩
theorem findAsking_sim {P:Program} {T:Tab} (tok:TabOK P T) {ρ:Ren} {kt:TypeId} {k ck:Value} (hk:VRel ρ k ck) (w:World) :
  ∀ {es:List (Value×Value)} {ces:List MapEntry},ERel ρ es ces→∀ (n:Nat) (r:Option (Nat×Value)),keyFind T kt k es n=some r→∃ cr,(Instr.findAsking kt ck ces n).run P w=.ok cr w∧FindRel ρ n r cr:=by
 intro es ces he
 induction he with
 | nil=>intro n r h;simp [keyFind] at h;subst h;exact ⟨none,by simp [Instr.findAsking],trivial⟩
 | cons hx _ ih =>
  rename_i e c _ _ _
  obtain ⟨a,v⟩:=e
  intro n r h
  simp only [keyFind,Option.bind_eq_bind,Option.bind_eq_some_iff] at h
  obtain ⟨q,hq,h⟩:=h
  obtain ⟨h1,h2⟩:=hx
  have hs:(Op.equal kt ck c.key).run P w=.ok q w:=equal_sim tok 2 10000 kt k a ck c.key q (by omega) hq hk h1 w
  simp only [Instr.findAsking,Sem.run_bind,hs,Result.andThen_ok]
  cases q
  ·simp only [if_false,Bool.false_eq_true] at h ⊢
   obtain ⟨cr,e1,e2⟩:=ih (n+1) r h
   exact ⟨cr,e1,e2.up⟩
  ·simp only [if_true,Option.some.injEq] at h ⊢
   subst h
   exact ⟨_,rfl,rfl,Nat.le_refl _,h2⟩
theorem checkKey_plain {P:Program} {T:Tab} (tok:TabOK P T) {kt:TypeId} {i:TI} (hi:T kt=some i) (hd:(∃ q,i.d=.int q)∨i.d=.string∨i.d=.bool) (empty:Bool) (n:Nat) (v:Value) (w:World):(Instr.checkKey empty (n+1) kt v).run P w=.ok () w:=by
 rcases hd with ⟨q,hd⟩|hd|hd<;>simp [Instr.checkKey,tok.r_und hi,hd]
theorem checkKey_items {P:Program} {T:Tab} (tok:TabOK P T) {e:TypeId} {j:TI} (hj:T e=some j) {q:IntKind} (hd:j.d=.int q) (hs:j.size=1) (empty:Bool) (d:Nat) {kt:TypeId} {i:TI} {n:Nat} (hi:T kt=some i) (hid:i.d=.array n e)
  (cs:Array Value) (w:World) (hc:∀ k∈List.range n,∃ m,cs[k]?=some (.int q m)):(Instr.checkKey empty (d+2) kt (.agg cs)).run P w=.ok () w:=by
 rw [Instr.checkKey]
 simp only [Sem.run_bind,tok.r_und hi,Result.andThen_ok,hid]
 simp only [Std.Legacy.Range.forIn_eq_forIn_range',Std.Legacy.Range.size,Nat.sub_zero,Nat.add_one_sub_one,Nat.div_one,←List.range_eq_range']
 generalize List.range n=is at hc ⊢
 induction is with
 | nil=>simp
 | cons k is ih =>
  obtain ⟨m,hm⟩:=hc k (by simp)
  have hp:(part e cs (k*j.size)).run P w=.ok (.int q m) w:=by
   simp [part,tok.r_agg hj,hd,isAggD,hs,hm]
  have hk:(Instr.checkKey empty (d+1) e (.int q m)).run P w=.ok () w:=checkKey_plain tok hj (.inl ⟨q,hd⟩) empty d _ w
  simp only [List.forIn_cons,Sem.run_bind,tok.r_size hj,Result.andThen_ok,hp,hk,Sem.run_pure]
  exact ih fun i hi=>hc i (by simp [hi])
theorem key_sim {P:Program} {T:Tab} (tok:TabOK P T) {ρ:Ren} {kt:TypeId} {k ck:Value} (hk:VRel ρ k ck) (hfit:keyFits T kt k=true) (w:World) (empty:Bool)
  {es:List (Value×Value)} {ces:List MapEntry} (he:ERel ρ es ces) {r:Option (Nat×Value)} (h:keyFind T kt k es 0=some r) :
  (Instr.checkKey empty 10000 kt ck).run P w=.ok () w∧∃ cr,(Instr.findKey kt ck ces).run P w=.ok cr w∧FindRel ρ 0 r cr:=by
 have hfit':=hfit
 unfold keyFits at hfit
 split at hfit
 ·rename_i q s b z c k' n hi
  have hu:=tok.r_und hi w
  cases hk
  obtain ⟨cr,e1,e2⟩:=findNow_sim hi (.inl ⟨q,rfl⟩) (.int _ _) he 0 r h hfit'
  refine ⟨?_,cr,?_,e2⟩
  ·exact checkKey_plain tok hi (by simp) empty 9999 _ w
  ·simp only [Instr.findKey,Sem.run_bind,hu,Result.andThen_ok]
   rw [e1];simp
 ·rename_i s b z c k' hi
  have hu:=tok.r_und hi w
  cases hk
  obtain ⟨cr,e1,e2⟩:=findNow_sim hi (.inr (.inl rfl)) (.string _) he 0 r h hfit'
  refine ⟨?_,cr,?_,e2⟩
  ·exact checkKey_plain tok hi (by simp) empty 9999 _ w
  ·simp only [Instr.findKey,Sem.run_bind,hu,Result.andThen_ok]
   rw [e1];simp
 ·rename_i s b z c k' hi
  have hu:=tok.r_und hi w
  cases hk
  obtain ⟨cr,e1,e2⟩:=findNow_sim hi (.inr (.inr rfl)) (.bool _) he 0 r h hfit'
  refine ⟨?_,cr,?_,e2⟩
  ·exact checkKey_plain tok hi (by simp) empty 9999 _ w
  ·simp only [Instr.findKey,Sem.run_bind,hu,Result.andThen_ok]
   rw [e1];simp
 ·rename_i n e s b z c cs hi
  have hu:=tok.r_und hi w
  cases hk with
  | agg _ cs' hs hr =>
  split at hfit
  ·rename_i q b2 z2 c2 hj
   simp only [Bool.and_eq_true,beq_iff_eq,List.all_eq_true] at hfit
   obtain ⟨f1,f2⟩:=hfit
   have hcs:∀ i∈List.range n,∃ m,cs'[i]?=some (.int q m):=by
    intro i hin
    have hlt:i < cs.size:=by rw [f1];simpa using hin
    obtain ⟨cv,g1,g2⟩:=ARel.get? ⟨hs,hr⟩ (Array.getElem?_eq_getElem hlt)
    have:=f2 cs[i] (by simp)
    split at this
    ·rename_i heq
     rw [heq] at g2
     cases g2
     simp only [beq_iff_eq] at this
     subst this
     exact ⟨_,g1⟩
    ·cases this
   refine ⟨?_,?_⟩
   ·exact checkKey_items tok hj rfl rfl empty 9998 hi rfl cs' w hcs
   ·cases he with
    | nil =>
     simp only [keyFind,Option.some.injEq] at h;subst h
     exact ⟨none,by simp [Instr.findKey,hu,Instr.findNow],trivial⟩
    | cons hx ht =>
     rename_i e0 c0 es ces
     obtain ⟨cr,e1,e2⟩:=findAsking_sim tok (.agg _ cs' hs hr) w (.cons hx ht) 0 r h
     refine ⟨cr,?_,e2⟩
     simp only [Instr.findKey,Sem.run_bind,hu,Result.andThen_ok,Instr.findNow,Instr.sameNow]
     exact e1
  ·cases hfit
 ·cases hfit
end Go.Ev
namespace Go.Ev
theorem bytesOf_sim:∀ {cs:List Value} {l:List UInt8},bytesOf cs=some l→∃ ns:List Int,cs=ns.map (Value.int .u8)∧l=ns.map fun n=>UInt8.ofNat n.toNat
 | [],l,h=>by simp [bytesOf] at h;subst h;exact ⟨[],rfl,rfl⟩
 | c::cs,l,h=>by
  unfold bytesOf at h
  split at h
  ·cases ‹_=[]›
  ·rename_i n r heq
   cases heq
   simp only [Option.bind_eq_bind,Option.bind_eq_some_iff,Option.some.injEq] at h
   obtain ⟨q,hq,rfl⟩:=h
   obtain ⟨ns,rfl,rfl⟩:=bytesOf_sim hq
   exact ⟨n::ns,rfl,rfl⟩
  ·cases h
theorem ints_same {ρ:Ren} {k:IntKind}:∀ {ns:List Int} {cs:List Value},LRel ρ (ns.map (Value.int k)) cs→cs=ns.map (Value.int k)
 | [],_,h=>by cases h;rfl
 | n::ns,_,h=>by
  cases h with
  | cons r t=>cases r;rw [ints_same t];rfl
theorem pushes (f:Int→UInt8):∀ (ns:List Int) (acc:ByteArray),ns.foldl (fun r n=>r.push (f n)) acc=⟨acc.data++(ns.map f).toArray⟩
 | [],acc=>by cases acc;simp
 | n::ns,acc=>by
  rw [List.foldl_cons,pushes f ns]
  cases acc
  simp [ByteArray.push]
theorem pushes0 (f:Int→UInt8) (ns:List Int):ns.foldl (fun r n=>r.push (f n)) ByteArray.empty=⟨(ns.map f).toArray⟩:=by
 rw [pushes]
 have:ByteArray.empty.data=#[]:=rfl
 rw [this,Array.empty_append]
set_option maxHeartbeats 1000000 in
theorem read_sim {P:Program} {T:Tab} (tok:TabOK P T) {ρ:Ren} {H:Heap} {w:World} (R:Rel ρ H w) {ev:Operand→Option Value} {cev:Operand→Value} (he:EvRel ρ ev cev) (o:Oper) {v:Value} (h:aread T ev H o.op=some v) :
  ∃ cv,(execOp cev o).run P w=.ok (.value cv) w∧VRel ρ v cv:=by
 obtain ⟨dst,op,type,pos,after,guard⟩:=o
 simp only at h
 cases op
 case load t x =>
  simp only [aread,Option.bind_eq_bind,Option.bind_eq_some_iff] at h
  obtain ⟨i,hi,a,ha,h⟩:=h
  have ra:=he x a ha
  generalize hcc:cev x=cc at ra
  split at h
  ·rename_i b off
   cases ra with
   | ptr _ _ l hl =>
    have key:∃ cs,H.read b off (if isAggD i.d then i.size else 1)=some cs∧ofCells i cs=some v:=by
     split at h<;>simp only [Option.bind_eq_some_iff] at h<;>simp_all
    obtain ⟨cs,k1,k2⟩:=key
    obtain ⟨cv,e1,e2⟩:=loadVar_sim tok R hi hl k1 k2
    exact ⟨cv,by simp [execOp,Instr.loadAt,Instr.sureAddr,hcc,e1],e2⟩
  ·cases h
 case slice t x lo hi mx =>
  simp only [aread,Option.bind_eq_bind,Option.bind_eq_some_iff] at h
  obtain ⟨a,ha,vl,hvl,vh,hvh,vm,hvm,h⟩:=h
  have ra:=he x a ha
  have hsl:=h
  simp only [aslice,Option.bind_eq_bind,Option.bind_eq_some_iff] at hsl
  obtain ⟨i,hi',nl,hnl,nh,hnh,nm,hnm,_⟩:=hsl
  obtain ⟨cv,e1,e2⟩:=slice_sim tok R h ra
  exact ⟨cv,by simp [execOp,evo_same he hvl hnl,evo_same he hvh hnh,evo_same he hvm hnm,e1],e2⟩
 case lookup t x k ok =>
  simp only [aread,Option.bind_eq_bind,Option.bind_eq_some_iff] at h
  obtain ⟨i,hi,a,ha,h⟩:=h
  have ra:=he x a ha
  generalize hcc:cev x=cc at ra
  split at h
  ·rename_i kt et m hd
   simp only [Option.bind_eq_some_iff] at h
   obtain ⟨kv,hkv,j,hj,h⟩:=h
   have rk:=he k kv hkv
   split at h
   ·rename_i hfit
    simp only [Option.bind_eq_some_iff] at h
    obtain ⟨es,hes,fr,hfr,⟨v',is⟩,hv',h⟩:=h
    have zrel:∀ z,ofCells j j.zero=some z→VRel ρ z z:=by
     intro z hz
     refine VRel.const ρ ?_
     have hzc:=(tok.zok et j hj).1
     unfold ofCells at hz
     split at hz
     ·cases hz;simpa [constOK] using hzc
     ·split at hz
      ·cases hz
       rename_i heq
       rw [heq] at hzc
       simp only [List.all_cons,List.all_nil,Bool.and_true] at hzc
       cases z<;>first|exact hzc|simp [constOK1] at hzc
      ·cases hz
    have key:∀ (cm:Value) (ces:Array MapEntry),ERel ρ es ces.toList→(cm=.map none∧ces=#[]∨∃ r clock,cm=.map (some r)∧w.heap[r]?=some (.map ces clock)) →
      ∃ cv,(Instr.lookup t cm (cev k) ok).run P w=.ok cv w∧VRel ρ v cv:=by
     intro cm ces c2 hcm
     obtain ⟨c3,cr,c4,c5⟩:=key_sim tok rk hfit w ces.isEmpty c2 hfr
     cases fr with
     | none =>
      cases cr with
      | some _=>exact c5.elim
      | none =>
       simp only [foundOr,Option.map_eq_some_iff,Prod.mk.injEq] at hv'
       obtain ⟨z,hz,rfl,rfl⟩:=hv'
       have hzr:=tok.r_zero' hj hz w
       refine ⟨if ok then .tuple #[z,.bool false] else z,?_,?_⟩
       ·rcases hcm with ⟨rfl,rfl⟩|⟨r,clock,rfl,hr⟩
        ·simp only [Instr.lookup,Sem.run_bind,tok.r_und hi,Result.andThen_ok,hd,Sem.run_pure,c3,c4,hzr]
        ·have hg:(getObj r).run P w=.ok (.map ces clock) w:=by simp [getObj,Sem.run,hr]
         simp only [Instr.lookup,Sem.run_bind,tok.r_und hi,Result.andThen_ok,hd,hg,Sem.run_pure,c3,c4,hzr]
       ·simp only [Option.some.injEq] at h
        subst h
        have q:=zrel _ hz
        cases ok
        ·simpa using q
        ·have:=ARel.of_list (.cons q (.cons (.bool false) .nil):LRel ρ [z,.bool false] [z,.bool false])
         exact .tuple _ _ this.1 this.2
     | some q =>
      cases cr with
      | none=>exact c5.elim
      | some q' =>
       obtain ⟨n,qv⟩:=q
       obtain ⟨n',qv'⟩:=q'
       simp only [foundOr,Option.some.injEq,Prod.mk.injEq] at hv'
       obtain ⟨rfl,rfl⟩:=hv'
       refine ⟨if ok then .tuple #[qv',.bool true] else qv',?_,?_⟩
       ·rcases hcm with ⟨rfl,rfl⟩|⟨r,clock,rfl,hr⟩
        ·simp only [Instr.lookup,Sem.run_bind,tok.r_und hi,Result.andThen_ok,hd,Sem.run_pure,c3,c4]
        ·have hg:(getObj r).run P w=.ok (.map ces clock) w:=by simp [getObj,Sem.run,hr]
         simp only [Instr.lookup,Sem.run_bind,tok.r_und hi,Result.andThen_ok,hd,hg,Sem.run_pure,c3,c4]
       ·simp only [Option.some.injEq] at h
        subst h
        have q:=c5.2.2
        cases ok
        ·simpa using q
        ·have:=ARel.of_list (.cons q (.cons (.bool true) .nil):LRel ρ [qv,.bool true] [qv',.bool true])
         exact .tuple _ _ this.1 this.2
    have conc:∃ ces:Array MapEntry,ERel ρ es ces.toList∧(cc=.map none∧ces=#[]∨∃ r clock,cc=.map (some r)∧w.heap[r]?=some (.map ces clock)):=by
     cases ra with
     | nilmap=>simp [mapEntries] at hes;subst hes;exact ⟨#[],.nil,.inl ⟨rfl,rfl⟩⟩
     | map b l hl =>
      simp only [mapEntries] at hes
      split at hes
      ·rename_i es' hg
       cases hes
       obtain ⟨ces,clock,q1,q2⟩:=R.live b l _ hl hg
       exact ⟨ces,q2,.inr ⟨_,clock,rfl,q1⟩⟩
      ·cases hes
    obtain ⟨ces,k1,k2⟩:=conc
    obtain ⟨cv,k3,k4⟩:=key cc ces k1 k2
    exact ⟨cv,by simp [execOp,hcc,k3],k4⟩
   ·cases h
  ·cases h
 case convert s d x =>
  simp only [aread,Option.bind_eq_bind,Option.bind_eq_some_iff] at h
  obtain ⟨i,hi,j,hj,a,ha,h⟩:=h
  have ra:=he x a ha
  generalize hcc:cev x=cc at ra
  split at h
  ·rename_i e n c hid hjd
   simp only [Option.bind_eq_some_iff] at h
   obtain ⟨k,hk,h⟩:=h
   split at h
   ·rename_i hkd
    cases h
    cases ra
    refine ⟨.string .empty,?_,.string _⟩
    simp [execOp,hcc,convert,tok.r_und hi,tok.r_und hj,hid,hjd,tok.r_und hk,hkd,Conv.bytesToString]
   ·cases h
  ·rename_i e b off n c hid hjd
   simp only [Option.bind_eq_some_iff] at h
   obtain ⟨k,hk,h⟩:=h
   split at h
   ·rename_i hkd
    simp only [Option.bind_eq_some_iff,Option.some.injEq] at h
    obtain ⟨cs,hcs,l,hl,rfl⟩:=h
    obtain ⟨ns,rfl,rfl⟩:=bytesOf_sim hl
    refine ⟨_,?_,.string _⟩
    cases ra with
    | slice _ _ _ _ c' lc hlc hn hc =>
     obtain ⟨ccs,q1,q2,q3⟩:=R.loads (P:=P) hlc hcs
     rw [ints_same q1] at q3
     have:=run_bytesToString (P:=P) w ⟨lc.cb,lc.base+off,none⟩ n c' ns q3
     rw [pushes0] at this
     simp only [execOp,hcc,convert,Sem.run_bind,tok.r_und hi,tok.r_und hj,Result.andThen_ok,hid,hjd,tok.r_und hk,hkd]
     rw [this]
     simp
    | empty _ _ a0 l0 hl0 =>
     have h0:ns=[]:=by
      unfold Heap.read at hcs
      split at hcs
      ·have:=(getCells_some hcs).2.2
       simpa using this
      ·cases hcs
     subst h0
     have:=run_bytesToString (P:=P) w a0 0 0 [] (by simp [loadCells,loadCellsFrom])
     rw [pushes0] at this
     simp only [execOp,hcc,convert,Sem.run_bind,tok.r_und hi,tok.r_und hj,Result.andThen_ok,hid,hjd,tok.r_und hk,hkd]
     rw [this]
     simp
   ·cases h
  ·cases h
 case call c =>
  obtain ⟨callee,args,argTypes⟩:=c
  cases callee<;>simp only [aread] at h<;>first|(cases h;done)|skip
  rename_i b
  unfold readBuiltin at h
  generalize hargs:args.toList=la at h
  generalize htys:argTypes.toList=lt at h
  split at h
  ·obtain rfl:args=#[_]:=Array.ext' hargs
   obtain rfl:argTypes=#[_]:=Array.ext' htys
   simp only [Option.bind_eq_bind,Option.bind_eq_some_iff] at h
   rename_i x t
   obtain ⟨i,hi,a,ha,h⟩:=h
   have ra:=he x a ha
   generalize hcc:cev x=cc at ra
   split at h
   ·cases h
    rename_i hd
    cases ra
    exact ⟨_,by simp [execOp,resolve,invoke,builtin,Builtin.len_,goInt,hcc,tok.r_und hi,hd],.int _ _⟩
   ·split at h
    ·cases h
     rename_i hd _ es hg
     cases ra with
     | map b l hl =>
      obtain ⟨ces,clock,q1,q2⟩:=R.live _ l _ hl hg
      refine ⟨_,?_,.int _ _⟩
      simp [execOp,resolve,invoke,builtin,Builtin.len_,goInt,hcc,tok.r_und hi,hd,getObj,Sem.run,q1,q2.length]
    ·cases h
   ·cases h
  ·obtain rfl:args=#[_]:=Array.ext' hargs
   obtain rfl:argTypes=#[_]:=Array.ext' htys
   simp only [Option.bind_eq_bind,Option.bind_eq_some_iff] at h
   rename_i x t
   obtain ⟨i,hi,a,ha,h⟩:=h
   have ra:=he x a ha
   generalize hcc:cev x=cc at ra
   split at h
   ·rename_i e b off n c hd
    split at h
    ·rename_i vs wr g hg
     split at h
     ·rename_i hgg
      cases h
      cases ra with
      | slice _ _ _ _ c' l hl hn hc =>
       obtain ⟨o1,o2,_⟩:=R.live _ l (AObj.cells vs wr g) hl hg
       have hcc':c'=c:=by
        rcases hc with hc|hc
        ·exact hc
        ·rcases hgg with hg0|hg0
         ·omega
         ·rw [o1,o2] at hg0;exact absurd hc.2.1 hg0
       subst hcc'
       exact ⟨_,by simp [execOp,resolve,invoke,builtin,Builtin.cap_,goInt,hcc,tok.r_und hi,hd],.int _ _⟩
      | empty _ _ a0 l0 hl0 =>
       exact ⟨_,by simp [execOp,resolve,invoke,builtin,Builtin.cap_,goInt,hcc,tok.r_und hi,hd],.int _ _⟩
     ·cases h
    ·cases h
   ·cases h
  ·cases h
 all_goals (simp only [aread] at h;cases h)
end Go.Ev
