/- The operations that write, as edits of the heap. -/
import Derived.Test.YtegbiibfmabnbaaGreatEvC
import Derived.IntWalk
set_option linter.unusedSimpArgs false
set_option linter.unusedVariables false
set_option linter.unusedSectionVars false
namespace Go.Ev
inductive Ed where
 | put (b:Nat) (x:Option AObj)
 | push (x:AObj)
def apEd (H:Heap):List Ed→Heap
 | []=>H
 | .put b x::es=>apEd (H.put b x) es
 | .push x::es=>apEd (H.push x) es
abbrev EdR:=Option (Value×List Ed)
def edH (H:Heap) (r:EdR):Option (Value×Heap):=r.map fun p=>(p.1,apEd H p.2)
theorem edH_bind {α:Type} (H:Heap) (o:Option α) (f:α→EdR):edH H (o.bind f)=o.bind fun a=>edH H (f a):=by cases o<;>rfl
theorem bind_congr' {α β:Type} {o:Option α} {f g:α→Option β} (h:∀ a,f a=g a):o.bind f=o.bind g:=by cases o<;>simp [h]
def Heap.writeE (H:Heap) (b off:Nat) (xs:List Value) (v:Value):EdR :=
 match H.get b with
 | some (.cells vs true g)=>(setCells vs off xs).map fun vs'=>(v,[.put b (some (.cells vs' true g))])
 | _=>none
theorem writeE_eq (H:Heap) (b off:Nat) (xs:List Value) (v:Value):edH H (H.writeE b off xs v)=(H.write b off xs).bind fun H'=>some (v,H'):=by
 unfold Heap.writeE Heap.write edH
 generalize H.get b=o
 cases o with
 | none=>rfl
 | some o=>cases o with
  | cells vs wr g=>cases wr with
   | true =>
    dsimp only
    cases setCells vs off xs<;>rfl
   | false=>rfl
  | _=>rfl
def aappendKE (j:TI) (H:Heap) (s:Value) (k:Nat) (new:List Value):EdR :=
 match s with
 | .slice none 0 0 =>
  if k=0 then some (.slice none 0 0,[])
  else if 0 < j.size∧j.bytes*k≤140737488355328∧k≤140737488355328∧okCells new then some (.slice (some ⟨H.next,0,none⟩) k k,[.push (.cells new true j.size)])
  else none
 | .slice (some ⟨b,off,none⟩) n c =>
  if n+k≤c then
   if k=0 then some (.slice (some ⟨b,off,none⟩) n c,[]) else
   if okCells new then H.writeE b (off+n*j.size) new (.slice (some ⟨b,off,none⟩) (n+k) c)
   else none
  else
   if 0 < j.size∧j.bytes*(n+k)≤140737488355328∧n+k≤140737488355328∧okCells new then
    match H.get b with
    | some (.cells vs wr g)=>do
     let old ←getCells vs off (n*j.size)
     if okCells old then
      if g=0∨off+c*g≠vs.length then
       some (.slice (some ⟨H.next,0,none⟩) (n+k) (n+k),[.push (.cells (old++new) true j.size)])
      else if g=j.size∧wr=true then
       some (.slice (some ⟨H.next,0,none⟩) (n+k) (n+k),[.put b none,.push (.cells (old++new) true j.size)])
      else none
     else none
    | _=>none
   else none
 | _=>none
theorem aappendKE_eq (j:TI) (H:Heap) (s:Value) (k:Nat) (new:List Value):aappendK j H s k new=edH H (aappendKE j H s k new):=by
 unfold aappendK aappendKE
 split
 ·try dsimp only
  split
  ·rfl
  ·split<;>rfl
 ·dsimp only
  split
  ·split
   ·rfl
   ·split
    ·rw [writeE_eq];rfl
    ·rfl
  ·split
   ·generalize H.get _=o
    cases o with
    | none=>rfl
    | some o=>cases o with
     | cells vs wr g =>
      simp only [Option.bind_eq_bind,edH_bind]
      refine bind_congr' fun old=>?_
      split
      ·split
       ·rfl
       ·split<;>rfl
      ·rfl
     | _=>rfl
   ·rfl
 ·split
  ·rename_i h _ _ ;exact absurd rfl (by assumption)
  ·exfalso;simp_all;rename_i hx;exact hx _ _ _ _ rfl rfl rfl rfl
  ·rfl
def effBuiltinE (T:Tab) (ev:Operand→Option Value) (H:Heap):Builtin→List Operand→List TypeId→EdR
 | .append,[s,x],[t,u]=>do
  let i ←T t
  let j' ←T u
  match i.d,j'.d with
  | .slice e,.int _=>do
   let j ←T e
   let sv ←ev s
   let m ←asI (←ev x)
   if 0≤m∧m*j.bytes≤140737488355328∧m≤140737488355328 then aappendKE j H sv m.toNat (repCells j.zero m.toNat) else none
  | .slice e,_=>do
   let j ←T e
   let sv ←ev s
   let (k,new) ←srcCells H j.size (←ev x)
   aappendKE j H sv k new
  | _,_=>none
 | .copy,[s,x],[t,_]=>do
  let i ←T t
  match i.d with
  | .slice e=>do
   let j ←T e
   let (k,cs) ←srcCells H j.size (←ev x)
   match ←ev s with
   | .slice none n _=>if n=0 then some (goInt 0,[]) else none
   | .slice (some ⟨b,off,none⟩) n _ =>
    let m:=Nat.min k n
    let cs:=cs.take (m*j.size)
    if okCells cs then
     if m=0 then some (goInt 0,[]) else H.writeE b off cs (goInt m)
    else none
   | _=>none
  | _=>none
 | .clear,[x],[t]=>do
  let i ←T t
  match i.d,←ev x with
  | .slice _,.slice none _ _=>some (.tuple #[],[])
  | .slice e,.slice (some ⟨b,off,none⟩) n _=>do
   if n=0 then some (.tuple #[],[]) else do
   let j ←T e
   if okCells j.zero then H.writeE b off (repCells j.zero n) (.tuple #[])
   else none
  | _,_=>none
 | _,_,_=>none
theorem effBuiltinE_eq (T:Tab) (ev:Operand→Option Value) (H:Heap) (b:Builtin) (l:List Operand) (ts:List TypeId):effBuiltin T ev H b l ts=edH H (effBuiltinE T ev H b l ts):=by
 unfold effBuiltin effBuiltinE
 split
 ·simp only [Option.bind_eq_bind,edH_bind]
  refine bind_congr' fun i=>bind_congr' fun j'=>?_
  generalize i.d=di
  generalize j'.d=dj
  cases di with
  | slice e=>cases dj with
   | int q =>
    simp only [edH_bind]
    refine bind_congr' fun j=>bind_congr' fun sv=>bind_congr' fun xv=>?_
    simp only [aappend0,Option.bind_eq_bind,edH_bind]
    refine bind_congr' fun m=>?_
    split
    ·exact aappendKE_eq ..
    ·rfl
   | _ =>
    simp only [edH_bind]
    refine bind_congr' fun j=>bind_congr' fun sv=>bind_congr' fun xv=>?_
    simp only [aappend,Option.bind_eq_bind,edH_bind]
    refine bind_congr' fun p=>?_
    exact aappendKE_eq ..
  | _=>rfl
 ·simp only [Option.bind_eq_bind,edH_bind]
  refine bind_congr' fun i=>?_
  generalize i.d=di
  cases di with
  | slice e =>
   simp only [edH_bind]
   refine bind_congr' fun j=>bind_congr' fun xv=>bind_congr' fun p=>?_
   obtain ⟨k,cs⟩:=p
   try simp only [edH_bind]
   refine bind_congr' fun sv=>?_
   cases sv with
   | slice a n c =>
    cases a with
    | none=>dsimp only;split<;>rfl
    | some a =>
     obtain ⟨b,off,sp⟩:=a
     cases sp with
     | none =>
      dsimp only
      split
      ·split
       ·rfl
       ·rw [writeE_eq]
      ·rfl
     | some _=>rfl
   | _=>rfl
  | _=>rfl
 ·simp only [Option.bind_eq_bind,edH_bind]
  refine bind_congr' fun i=>bind_congr' fun xv=>?_
  generalize i.d=di
  cases di with
  | slice e =>
   cases xv with
   | slice a n c =>
    cases a with
    | none=>rfl
    | some a =>
     obtain ⟨b,off,sp⟩:=a
     cases sp with
     | none =>
      dsimp only
      split
      ·rfl
      ·simp only [edH_bind]
       refine bind_congr' fun j=>?_
       split
       ·rw [writeE_eq]
       ·rfl
     | some _=>rfl
   | _=>rfl
  | _=>rfl
 ·first
  | rfl
  | (split<;>first|rfl|(exfalso;simp_all;done)|(exfalso;simp_all;rename_i hx;exact hx _ _ _ _ rfl rfl rfl rfl))
def aeffE (T:Tab) (ev:Operand→Option Value) (H:Heap):Op→EdR
 | .store t a x=>do
  let i ←T t
  let v ←ev x
  match ←ev a with
  | .pointer (some ⟨b,off,none⟩) =>
   if v.cells.size=i.size∧okCells v.cells.toList then H.writeE b off v.cells.toList undef
   else none
  | _=>none
 | .mapUpdate t m k x|.insert t m k x=>do
  let i ←T t
  match i.d,←ev m with
  | .map kt _,.map (some b)=>do
   let k ←ev k
   let v ←ev x
   match H.get b with
   | some (.map es) =>
    if keyFits T kt k then do
     match ←keyFind T kt k es 0 with
     | some (n,_)=>if (es[n]?).any (fun e=>sameK e.1 k) then some (undef,[.put b (some (.map (es.set n (k,v))))]) else none
     | none=>some (undef,[.put b (some (.map (es++[(k,v)])))])
    else none
   | _=>none
  | _,_=>none
 | .call c=>match c.callee with
  | .builtin b=>effBuiltinE T ev H b c.args.toList c.argTypes.toList
  | _=>none
 | _=>none
theorem aeffE_eq (T:Tab) (ev:Operand→Option Value) (H:Heap) (op:Op):aeff T ev H op=edH H (aeffE T ev H op):=by
 have mapCase:∀ t m k x,aeff T ev H (.mapUpdate t m k x)=edH H (aeffE T ev H (.mapUpdate t m k x)):=by
  intro t m k x
  simp only [aeff,aeffE,Option.bind_eq_bind,edH_bind]
  refine bind_congr' fun i=>bind_congr' fun mv=>?_
  generalize i.d=di
  cases di with
  | map kt et=>cases mv with
   | map b=>cases b with
    | none=>rfl
    | some b =>
     simp only [edH_bind]
     refine bind_congr' fun kv=>bind_congr' fun v=>?_
     generalize H.get b=o
     cases o with
     | none=>rfl
     | some o=>cases o with
      | map es =>
       dsimp only
       split
       ·simp only [edH_bind]
        refine bind_congr' fun r=>?_
        cases r with
        | none=>rfl
        | some p=>dsimp only;split<;>rfl
       ·rfl
      | _=>rfl
   | _=>rfl
  | _=>rfl
 cases op with
 | store t a x =>
  simp only [aeff,aeffE,Option.bind_eq_bind,edH_bind]
  refine bind_congr' fun i=>bind_congr' fun v=>bind_congr' fun av=>?_
  cases av with
  | pointer p=>cases p with
   | none=>rfl
   | some a =>
    obtain ⟨b,off,sp⟩:=a
    cases sp with
    | none =>
     dsimp only
     split
     ·rw [writeE_eq]
     ·rfl
    | some _=>rfl
  | _=>rfl
 | mapUpdate t m k x=>exact mapCase t m k x
 | insert t m k x=>exact mapCase t m k x
 | call c =>
  simp only [aeff,aeffE]
  cases c.callee with
  | builtin b=>exact effBuiltinE_eq ..
  | _=>rfl
 | _=>rfl
end Go.Ev
namespace Go.Ev
theorem nbeq (m k:Nat):Nat.beq m k=decide (m=k):=by
 rw [Bool.eq_iff_iff,decide_eq_true_eq]
 exact iff_of_eq (Nat.beq_eq)
section
variable {α:Type}
def fNat (n:Nat) (k:Nat→α):α:=match n with
 | 0=>k 0
 | m+1=>k (Nat.succ m)
@[simp] theorem fNat_eq (n:Nat) (k:Nat→α):fNat n k=k n:=by cases n<;>rfl
def fInt (n:Int) (k:Int→α):α:=match n with
 | .ofNat m=>fNat m fun m=>k (.ofNat m)
 | .negSucc m=>fNat m fun m=>k (.negSucc m)
@[simp] theorem fInt_eq (n:Int) (k:Int→α):fInt n k=k n:=by cases n<;>simp [fInt]
def fBool (b:Bool) (k:Bool→α):α:=match b with
 | true=>k true
 | false=>k false
@[simp] theorem fBool_eq (b:Bool) (k:Bool→α):fBool b k=k b:=by cases b<;>rfl
def fAddr (a:Addr) (k:Addr→α):α:=match a with
 | ⟨b,o,none⟩=>fNat b fun b=>fNat o fun o=>k ⟨b,o,none⟩
 | ⟨b,o,some s⟩=>k ⟨b,o,some s⟩
@[simp] theorem fAddr_eq (a:Addr) (k:Addr→α):fAddr a k=k a:=by
 obtain ⟨b,o,s⟩:=a
 cases s<;>simp [fAddr]
def fOA (a:Option Addr) (k:Option Addr→α):α:=match a with
 | none=>k none
 | some a=>fAddr a fun a=>k (some a)
@[simp] theorem fOA_eq (a:Option Addr) (k:Option Addr→α):fOA a k=k a:=by cases a<;>simp [fOA]
def fV1 (v:Value) (k:Value→α):α:=match v with
 | .bool b=>fBool b fun b=>k (.bool b)
 | .int q n=>fInt n fun n=>k (.int q n)
 | .pointer a=>fOA a fun a=>k (.pointer a)
 | .slice a n c=>fOA a fun a=>fNat n fun n=>fNat c fun c=>k (.slice a n c)
 | .map (some b)=>fNat b fun b=>k (.map (some b))
 | v=>k v
@[simp] theorem fV1_eq (v:Value) (k:Value→α):fV1 v k=k v:=by
 unfold fV1
 split<;>simp
def fVs:List Value→(List Value→α)→α
 | [],k=>k []
 | v::r,k=>fV1 v fun v=>fVs r fun r=>k (v::r)
@[simp] theorem fVs_eq:∀ (l:List Value) (k:List Value→α),fVs l k=k l
 | [],_=>rfl
 | v::r,k=>by simp [fVs,fVs_eq r]
def fFn (f:Fn) (k:Fn→α):α:=match f with
 | .func g=>fNat g fun g=>k (.func g)
 | .yield l=>fNat l fun l=>k (.yield l)
 | f=>k f
@[simp] theorem fFn_eq (f:Fn) (k:Fn→α):fFn f k=k f:=by cases f<;>simp [fFn]
def fV (v:Value) (k:Value→α):α:=match v with
 | .agg ⟨l⟩=>fVs l fun l=>k (.agg ⟨l⟩)
 | .tuple ⟨l⟩=>fVs l fun l=>k (.tuple ⟨l⟩)
 | .func f ⟨x⟩ ⟨y⟩=>fFn f fun f=>fVs x fun x=>fVs y fun y=>k (.func f ⟨x⟩ ⟨y⟩)
 | v=>fV1 v k
@[simp] theorem fV_eq (v:Value) (k:Value→α):fV v k=k v:=by
 unfold fV
 split<;>simp
def fEs:List (Value×Value)→(List (Value×Value)→α)→α
 | [],k=>k []
 | (a,b)::r,k=>fV a fun a=>fV b fun b=>fEs r fun r=>k ((a,b)::r)
@[simp] theorem fEs_eq:∀ (l:List (Value×Value)) (k:List (Value×Value)→α),fEs l k=k l
 | [],_=>rfl
 | (a,b)::r,k=>by simp [fEs,fEs_eq r]
def fObj (o:AObj) (k:AObj→α):α:=match o with
 | .cells vs wr g=>fVs vs fun vs=>fBool wr fun wr=>fNat g fun g=>k (.cells vs wr g)
 | .map es=>fEs es fun es=>k (.map es)
 | o=>k o
@[simp] theorem fObj_eq (o:AObj) (k:AObj→α):fObj o k=k o:=by cases o<;>simp [fObj]
def fOO (o:Option AObj) (k:Option AObj→α):α:=match o with
 | none=>k none
 | some o=>fObj o fun o=>k (some o)
@[simp] theorem fOO_eq (o:Option AObj) (k:Option AObj→α):fOO o k=k o:=by cases o<;>simp [fOO]
def Tree.putK:Nat→Tree→Nat→Option AObj→(Tree→α)→α
 | 0,t,_,x,k=>match t with
  | .nil=>k (.node x .nil .nil)
  | .node _ l r=>k (.node x l r)
 | n+1,t,b,x,k=>match t with
  | .nil=>bif Nat.beq b 0 then k (.node x .nil .nil) else bif Nat.beq (Nat.mod b 2) 1 then putK n .nil (Nat.div b 2) x fun l=>k (.node none l .nil) else putK n .nil (Nat.sub (Nat.div b 2) 1) x fun r=>k (.node none .nil r)
  | .node o l r=>bif Nat.beq b 0 then k (.node x l r) else bif Nat.beq (Nat.mod b 2) 1 then putK n l (Nat.div b 2) x fun l=>k (.node o l r) else putK n r (Nat.sub (Nat.div b 2) 1) x fun r=>k (.node o l r)
theorem Tree.putK_eq:∀ (n:Nat) (t:Tree) (b:Nat) (x:Option AObj) (k:Tree→α),Tree.putK n t b x k=k (Tree.put n t b x)
 | 0,t,b,x,k=>by cases t<;>rfl
 | n+1,t,b,x,k=>by
  have e1:∀ m,Nat.beq m 0=decide (m=0):=fun m=>by cases m<;>rfl
  have e2:∀ m,Nat.beq m 1=decide (m=1):=fun m=>nbeq m 1
  cases t<;>simp only [putK,put,Tree.putK_eq n,e1,e2,cond_eq_ite,decide_eq_true_eq,Tree.kidL,Tree.kidR,Tree.top] <;>
   ·by_cases h0:b=0
    ·simp [h0]
    ·by_cases h1:b % 2=1
     ·have h1':b.mod 2=1:=h1
      simp only [h0,h1,h1',if_true,if_false];rfl
     ·have h1':¬ b.mod 2=1:=h1
      simp only [h0,h1,h1',if_true,if_false];rfl
def Heap.putK (H:Heap) (b:Nat) (x:Option AObj) (k:Heap→α):α:=match H with
 | ⟨n,t⟩=>Tree.putK (Nat.log2 b+1) t b x fun t=>k ⟨n,t⟩
@[simp] theorem Heap.putK_eq (H:Heap) (b:Nat) (x:Option AObj) (k:Heap→α):H.putK b x k=k (H.put b x):=by
 simp [Heap.putK,Tree.putK_eq,Heap.put]
def Heap.pushK (H:Heap) (x:AObj) (k:Heap→α):α:=match H with
 | ⟨n,t⟩=>Tree.putK (Nat.log2 n+1) t n (some x) fun t=>fNat (Nat.succ n) fun n'=>k ⟨n',t⟩
@[simp] theorem Heap.pushK_eq (H:Heap) (x:AObj) (k:Heap→α):H.pushK x k=k (H.push x):=by
 simp [Heap.pushK,Tree.putK_eq,Heap.push]
def apK (H:Heap):List Ed→(Heap→α)→α
 | [],k=>k H
 | .put b x::es,k=>fNat b fun b=>fOO x fun x=>H.putK b x fun H=>apK H es k
 | .push x::es,k=>fObj x fun x=>H.pushK x fun H=>apK H es k
theorem apK_eq (es:List Ed):∀ (H:Heap) (k:Heap→α),apK H es k=k (apEd H es):=by
 induction es with
 | nil=>intro H k;rfl
 | cons e es ih=>intro H k;cases e<;>simp [apK,apEd,ih]
inductive VT where
 | nil
 | node (v:Value) (l r:VT)
def VT.get?:VT→Nat→Option Value
 | .nil,_=>none
 | .node v l r,b=>bif Nat.beq b 0 then some v else bif Nat.beq (Nat.mod b 2) 1 then get? l (Nat.div b 2) else get? r (Nat.sub (Nat.div b 2) 1)
def VT.get (t:VT) (b:Nat):Value:=match t.get? b with
 | some v=>v
 | none=>undef
def VT.put (x:Value):VT→Nat→VT
 | .nil,_=>.nil
 | .node v l r,b=>bif Nat.beq b 0 then .node x l r else bif Nat.beq (Nat.mod b 2) 1 then .node v (put x l (Nat.div b 2)) r else .node v l (put x r (Nat.sub (Nat.div b 2) 1))
def VT.putK (x:Value):VT→Nat→(VT→α)→α
 | .nil,_,k=>k .nil
 | .node v l r,b,k=>bif Nat.beq b 0 then k (.node x l r) else bif Nat.beq (Nat.mod b 2) 1 then putK x l (Nat.div b 2) fun l=>k (.node v l r) else putK x r (Nat.sub (Nat.div b 2) 1) fun r=>k (.node v l r)
@[simp] theorem VT.putK_eq (x:Value):∀ (t:VT) (b:Nat) (k:VT→α),VT.putK x t b k=k (VT.put x t b)
 | .nil,_,_=>rfl
 | .node v l r,b,k=>by
  simp only [VT.putK,VT.put]
  cases Nat.beq b 0<;>cases Nat.beq (Nat.mod b 2) 1<;>simp [VT.putK_eq x l,VT.putK_eq x r]
theorem VT.get?_put (x:Value):∀ (t:VT) (b c:Nat),(VT.put x t b).get? c=if c=b then (t.get? b).map fun _=>x else t.get? c
 | .nil,_,c=>by simp [VT.put,VT.get?]
 | .node v l r,b,c=>by
  have e1:∀ m,Nat.beq m 0=decide (m=0):=fun m=>by cases m<;>rfl
  have e2:∀ m,Nat.beq m 1=decide (m=1):=fun m=>nbeq m 1
  have d2:∀ m:Nat,m.div 2=m / 2:=fun _=>rfl
  have m2:∀ m:Nat,m.mod 2=m % 2:=fun _=>rfl
  have s1:∀ m:Nat,m.sub 1=m - 1:=fun _=>rfl
  simp only [VT.put,VT.get?,e1,e2,cond_eq_ite,decide_eq_true_eq,d2,m2,s1]
  by_cases b0:b=0
  ·subst b0
   by_cases c0:c=0
   ·simp [c0,VT.get?,e1,cond_eq_ite]
   ·simp [c0,VT.get?,e1,e2,cond_eq_ite,d2,m2,s1]
  ·by_cases b1:b % 2=1
   ·by_cases c0:c=0
    ·subst c0
     simp [b0,b1,VT.get?,e1,cond_eq_ite,Ne.symm b0]
    ·by_cases c1:c % 2=1
     ·simp only [b0,b1,c0,c1,if_true,if_false,VT.get?,e1,e2,cond_eq_ite,decide_eq_true_eq,d2,m2,VT.get?_put x l]
      by_cases e:c=b
      ·subst e;simp
      ·have:¬ (c / 2=b / 2):=by omega
       simp [e,this]
     ·have:¬ (c=b):=by intro e;subst e;exact c1 b1
      simp [b0,b1,c0,c1,VT.get?,e1,e2,cond_eq_ite,d2,m2,s1,this]
   ·by_cases c0:c=0
    ·subst c0
     simp [b0,b1,VT.get?,e1,cond_eq_ite,Ne.symm b0]
    ·by_cases c1:c % 2=1
     ·have:¬ (c=b):=by intro e;subst e;exact b1 c1
      simp [b0,b1,c0,c1,VT.get?,e1,e2,cond_eq_ite,d2,m2,s1,this]
     ·simp only [b0,b1,c0,c1,if_true,if_false,VT.get?,e1,e2,cond_eq_ite,decide_eq_true_eq,d2,m2,s1,VT.get?_put x r]
      by_cases e:c=b
      ·subst e;simp
      ·have:¬ (c / 2 - 1=b / 2 - 1):=by omega
       simp [e,this]
def VT.mk:Nat→Nat→VT
 | 0,_=>.nil
 | f+1,n=>bif Nat.beq n 0 then .nil else .node undef (VT.mk f (Nat.div n 2)) (VT.mk f (Nat.div (Nat.sub n 1) 2))
theorem VT.get?_mk:∀ (f n b:Nat),n < 2 ^ f→(VT.mk f n).get? b=if b < n then some undef else none
 | 0,n,b,h=>by
  have:n=0:=by omega
  subst this
  simp [VT.mk,VT.get?]
 | f+1,n,b,h=>by
  have e1:∀ m,Nat.beq m 0=decide (m=0):=fun m=>by cases m<;>rfl
  have e2:∀ m,Nat.beq m 1=decide (m=1):=fun m=>nbeq m 1
  have d2:∀ m:Nat,m.div 2=m / 2:=fun _=>rfl
  have m2:∀ m:Nat,m.mod 2=m % 2:=fun _=>rfl
  have s1:∀ m:Nat,m.sub 1=m - 1:=fun _=>rfl
  have hp:2 ^ (f+1)=2*2 ^ f:=by rw [Nat.pow_succ];omega
  simp only [VT.mk,e1,cond_eq_ite,decide_eq_true_eq,d2,s1]
  by_cases n0:n=0
  ·simp [n0,VT.get?]
  ·simp only [n0,if_false,VT.get?,e1,e2,cond_eq_ite,decide_eq_true_eq,d2,m2,s1]
   by_cases b0:b=0
   ·subst b0;simp;omega
   ·by_cases b1:b % 2=1
    ·simp only [b0,b1,if_true,if_false,VT.get?_mk f (n / 2) _ (by omega)]
     by_cases hb:b < n
     ·rw [if_pos hb,if_pos (by omega)]
     ·rw [if_neg hb,if_neg (by omega)]
    ·simp only [b0,b1,if_false,VT.get?_mk f ((n - 1) / 2) _ (by omega)]
     by_cases hb:b < n
     ·rw [if_pos hb,if_pos (by omega)]
     ·rw [if_neg hb,if_neg (by omega)]
def VRep (n:Nat) (t:VT) (env:Array Value):Prop:=env.size=n∧∀ i,t.get? i=env[i]?
theorem VRep.get {n:Nat} {t:VT} {env:Array Value} (h:VRep n t env) (i:Nat):t.get i=env.getD i undef:=by
 unfold VT.get
 rw [h.2 i,Array.getD_eq_getD_getElem?]
 cases env[i]?<;>rfl
theorem VRep.put {n:Nat} {t:VT} {env:Array Value} (h:VRep n t env) (b:Nat) (x:Value):VRep n (t.put x b) (env.setIfInBounds b x):=by
 refine ⟨by simp [h.1],fun i=>?_⟩
 rw [VT.get?_put,h.2,h.2,Array.getElem?_setIfInBounds]
 by_cases e:i=b
 ·subst e
  simp only [if_true]
  by_cases hi:i < env.size
  ·simp [hi]
  ·simp [hi]
 ·rw [if_neg e,if_neg (Ne.symm e)]
def VT.fill:List Value→Nat→VT→VT
 | [],_,t=>t
 | v::r,i,t=>fill r (i+1) (t.put v i)
theorem VT.get?_fill:∀ (l:List Value) (i:Nat) (t:VT) (c:Nat),(VT.fill l i t).get? c=if i≤c∧c < i+l.length∧(t.get? c).isSome then l[c - i]? else t.get? c
 | [],i,t,c=>by
  have:¬ (i≤c∧c < i+([]:List Value).length∧(t.get? c).isSome):=by simp;omega
  rw [if_neg this];rfl
 | v::r,i,t,c=>by
  simp only [VT.fill,VT.get?_fill r (i+1),VT.get?_put,List.length_cons]
  by_cases e:c=i
  ·subst e
   have:¬ (c+1≤c):=by omega
   simp only [this,false_and,if_false,if_true,Nat.sub_self,List.getElem?_cons_zero,Nat.le_refl,true_and]
   cases t.get? c<;>simp
  ·simp only [e,if_false]
   by_cases h:i≤c∧c < i+(r.length+1)∧(t.get? c).isSome
   ·rw [if_pos ⟨by omega,by omega,h.2.2⟩,if_pos h]
    have:c - i=(c - (i+1))+1:=by omega
    rw [this,List.getElem?_cons_succ]
   ·rw [if_neg h,if_neg (fun h'=>h ⟨by omega,by omega,h'.2.2⟩)]
theorem VRep.enter (args:List Value) (m:Nat):VRep (args.length+(m - args.length)) (VT.fill args 0 (VT.mk (Nat.log2 (args.length+(m - args.length))+1) (args.length+(m - args.length)))) (args.toArray++Array.replicate (m - args.length) undef):=by
 refine ⟨by simp,fun i=>?_⟩
 have hlt:∀ q:Nat,q < 2 ^ (q.log2+1):=fun q=>Nat.lt_log2_self
 rw [VT.get?_fill,VT.get?_mk _ _ _ (hlt _),Array.getElem?_append]
 by_cases h1:i < args.length
 ·have h2:i < args.length+(m - args.length):=by omega
  simp [h1,h2]
 ·by_cases h2:i < args.length+(m - args.length)
  ·have h3:i - args.length < m - args.length:=by omega
   simp [h1,h2,h3]
  ·have h3:¬ (i - args.length < m - args.length):=by omega
   simp [h1,h2,h3]
end
end Go.Ev
namespace Go.Ev
section
variable {α:Type}
def evK (t:VT):Operand→Option Value
 | .tmp n=>some (t.get n)
 | .const v=>bif constOK v then some v else none
 | .global _=>none
 | .func f=>some (.func (.func f) #[] #[])
theorem evK_eq {n:Nat} {t:VT} {env:Array Value} (h:VRep n t env):evK t=evOp env:=by
 funext x
 cases x with
 | tmp i=>simp [evK,evOp,h.get]
 | const v=>simp only [evK,evOp,cond_eq_ite]
 | global _=>rfl
 | func _=>rfl
abbrev CallK (α:Type):=Value→List Value→Heap→(Value→Heap→Option α)→Option α
def CKOK (C:CallSem) (K:CallK α):Prop:=∀ fv args H k,K fv args H k=(C fv args H).bind fun p=>k p.1 p.2
def dstK (t:VT) (dst:Option Tmp) (v:Value) (k:VT→Option α):Option α:=match dst with
 | none=>k t
 | some d=>VT.putK v t d k
def yieldedK (ops:Array Oper) (t:VT) (j:Nat):Option Bool :=
 match ((ops[j]?).bind (·.dst)).bind (t.get? ·) with
 | some (.bool b)=>some b
 | _=>none
def wantedK (ops:Array Oper) (t:VT) (o:Oper):Bool :=
 match o.guard with
 | none=>true
 | some (j,want)=>yieldedK ops t j==some want
theorem wantedK_eq {n:Nat} {t:VT} {env:Array Value} (h:VRep n t env) (ops:Array Oper) (o:Oper):wantedK ops t o=Region.wanted o (yielded ops env):=by
 unfold wantedK Region.wanted
 split
 ·simp_all
 ·rename_i j want hg
  rw [hg]
  dsimp only
  congr 1
  unfold yieldedK yielded
  have:(fun x=>t.get? x)=(fun x=>env[x]?):=funext fun i=>h.2 i
  rw [this]
  rfl
def effK (T:Tab) (t:VT) (H:Heap) (op:Op) (k:Value→Heap→Option α):Option α :=
 match aeffE T (evK t) H op with
 | some (v,es)=>apK H es fun H'=>fV v fun v=>k v H'
 | none=>none
def callK (T:Tab) (K:CallK α) (t:VT) (H:Heap) (c:Call) (k:Value→Heap→Option α):Option α :=
 match c.callee with
 | .value f=>match evK t f with
  | some fv=>match evs (evK t) c.args.toList with
   | some args=>K fv args H k
   | none=>none
  | none=>none
 | _=>effK T t H (.call c) k
def eK (T:Tab) (K:CallK α) (t:VT) (H:Heap) (op:Op) (k:Value→Heap→Option α):Option α :=
 match op with
 | .call c=>callK T K t H c k
 | op=>effK T t H op k
def valK (T:Tab) (t:VT) (H:Heap) (op:Op) (k:Value→Option α):Option α :=
 match apure T (evK t) op with
 | some v=>fV v k
 | none=>match aread T (evK t) H op with
  | some v=>fV v k
  | none=>none
def newK (T:Tab) (t:VT) (H:Heap) (op:Op) (k:Value→Heap→Option α):Option α :=
 match aalloc T (evK t) op with
 | some (o,f)=>fObj o fun o=>H.pushK o fun H'=>fV (f H.next) fun v=>k v H'
 | none=>none
def stepK (T:Tab) (K:CallK α) (t:VT) (H:Heap) (op:Op) (k:Value→Heap→Option α):Option α :=
 match okind T op with
 | .V=>valK T t H op fun v=>k v H
 | .A=>newK T t H op k
 | .E=>eK T K t H op k
theorem effK_eq {T:Tab} {n:Nat} {t:VT} {env:Array Value} (h:VRep n t env) (H:Heap) (op:Op) (k:Value→Heap→Option α):effK T t H op k=(aeff T (evOp env) H op).bind fun p=>k p.1 p.2:=by
 unfold effK
 rw [aeffE_eq,evK_eq h]
 cases aeffE T (evOp env) H op with
 | none=>rfl
 | some p=>simp [edH,apK_eq]
theorem eK_eq {T:Tab} {C:CallSem} {K:CallK α} (hK:CKOK C K) {n:Nat} {t:VT} {env:Array Value} (h:VRep n t env) (H:Heap) (op:Op) (k:Value→Heap→Option α):eK T K t H op k=(aE T C (evOp env) H op).bind fun p=>k p.1 p.2:=by
 unfold eK aE
 split
 ·rename_i c
  dsimp only
  unfold callK
  cases hc:c.callee with
  | value f =>
   simp only [acall,hc,evK_eq h,Option.bind_eq_bind]
   cases evOp env f with
   | none=>rfl
   | some fv =>
    simp only [Option.bind_some]
    cases evs (evOp env) c.args.toList with
    | none=>rfl
    | some args=>exact hK fv args H k
  | _=>exact effK_eq h H (.call c) k
 ·split
  ·rename_i c hne;exact absurd rfl (hne c)
  ·exact effK_eq h H _ k
theorem valK_eq {T:Tab} {n:Nat} {t:VT} {env:Array Value} (h:VRep n t env) (H:Heap) (op:Op) (k:Value→Option α):valK T t H op k=(aval T (evOp env) H op).bind k:=by
 unfold valK aval
 rw [evK_eq h]
 cases apure T (evOp env) op with
 | some v=>simp
 | none=>cases aread T (evOp env) H op<;>simp
theorem newK_eq {T:Tab} {n:Nat} {t:VT} {env:Array Value} (h:VRep n t env) (H:Heap) (op:Op) (k:Value→Heap→Option α):newK T t H op k=(aalloc T (evOp env) op).bind fun p=>k (p.2 H.next) (H.push p.1):=by
 unfold newK
 rw [evK_eq h]
 cases aalloc T (evOp env) op with
 | none=>rfl
 | some p=>simp
theorem stepK_eq {T:Tab} {C:CallSem} {K:CallK α} (hK:CKOK C K) {n:Nat} {t:VT} {env:Array Value} (h:VRep n t env) (H:Heap) (op:Op) (k:Value→Heap→Option α):stepK T K t H op k=(astep T C (evOp env) H op).bind fun p=>k p.1 p.2:=by
 unfold stepK astep
 cases okind T op with
 | V=>simp only [valK_eq h];cases aval T (evOp env) H op<;>rfl
 | A=>simp only [newK_eq h];cases aalloc T (evOp env) op<;>rfl
 | E=>exact eK_eq hK h H op k
theorem dstK_eq {n:Nat} {t:VT} {env:Array Value} (h:VRep n t env) (d:Option Tmp) (v:Value):∃ t',VRep n t' (cput env d v)∧∀ k:VT→Option α,dstK t d v k=k t':=by
 cases d with
 | none=>exact ⟨t,h,fun k=>rfl⟩
 | some d=>exact ⟨t.put v d,h.put d v,fun k=>by simp [dstK]⟩
def seqK (T:Tab) (K:CallK α) (ops:Array Oper):List Oper→VT→Heap→(VT→Heap→Option α)→Option α
 | [],t,H,k=>k t H
 | o::r,t,H,k =>
  bif wantedK ops t o then stepK T K t H o.op fun v H'=>dstK t o.dst v fun t'=>seqK T K ops r t' H' k
  else dstK t o.dst undef fun t'=>seqK T K ops r t' H k
structure PendK where
 i:Nat
 t:VT
 v:Value
def againK (T:Tab) (ops:Array Oper) (H:Heap) (p:PendK):Bool :=
 match ops[p.i]? with
 | none=>false
 | some o=>match aval T (evK p.t) H o.op with
  | some v=>veq v p.v
  | none=>false
def keptK (m:Nat):List PendK→(List PendK→Option α)→Option α
 | [],k=>k []
 | p::r,k=>bif m.testBit p.i then keptK m r k else keptK m r fun r'=>k (p::r')
theorem keptK_eq (m:Nat):∀ (l:List PendK) (k:List PendK→Option α),keptK m l k=k (l.filter fun p=>!m.testBit p.i)
 | [],_=>rfl
 | p::r,k=>by
  simp only [keptK,List.filter_cons]
  cases m.testBit p.i<;>simp [keptK_eq m r]
def drawK (T:Tab) (K:CallK α) (ops:Array Oper) (ms:List Nat):List Nat→VT→Heap→List PendK→(VT→Heap→Option α)→Option α
 | [],t,H,_,k=>k t H
 | i::rest,t,H,ps,k =>
  match ops[i]? with
  | none=>none
  | some o =>
   bif wantedK ops t o then
    match okind T o.op with
    | .V=>valK T t H o.op fun v=>dstK t o.dst v fun t'=>drawK T K ops ms rest t' H (bif isRead o.op then ⟨i,t,v⟩::ps else ps) k
    | .A=>newK T t H o.op fun v H'=>dstK t o.dst v fun t'=>drawK T K ops ms rest t' H' ps k
    | .E=>eK T K t H o.op fun v H'=>keptK (ms.getD i 0) ps fun qs=>bif qs.all (againK T ops H') then dstK t o.dst v fun t'=>drawK T K ops ms rest t' H' qs k else none
   else dstK t o.dst undef fun t'=>drawK T K ops ms rest t' H ps k
def PRep (n:Nat) (p:PendK) (q:Pend):Prop:=p.i=q.i∧p.v=q.v∧VRep n p.t q.env
theorem againK_eq {T:Tab} {ops:Array Oper} {n:Nat} {p:PendK} {q:Pend} (h:PRep n p q) (H:Heap):againK T ops H p=again T ops H q:=by
 obtain ⟨h1,h2,h3⟩:=h
 unfold againK again
 rw [h1,evK_eq h3,h2]
 rfl
theorem PRep.filter {n:Nat} {m:Nat} {ps:List PendK} {qs:List Pend} (h:All2 (PRep n) ps qs):All2 (PRep n) (ps.filter fun p=>!m.testBit p.i) (qs.filter fun p=>!m.testBit p.i):=by
 induction h with
 | nil=>exact .nil
 | cons h t ih =>
  simp only [List.filter_cons,h.1]
  split
  ·exact .cons h ih
  ·exact ih
theorem PRep.all {T:Tab} {ops:Array Oper} {H:Heap} {n:Nat} {ps:List PendK} {qs:List Pend} (h:All2 (PRep n) ps qs):ps.all (againK T ops H)=qs.all (again T ops H):=by
 induction h with
 | nil=>rfl
 | cons h t ih=>simp only [List.all_cons,againK_eq h,ih]
theorem drawK_eq {T:Tab} {C:CallSem} {K:CallK α} (hK:CKOK C K) {n:Nat} (ops:Array Oper) (ms:List Nat) {k:VT→Heap→Option α} {k':Array Value→Heap→Option α} (hk:∀ t env H,VRep n t env→k t H=k' env H) :
  ∀ (l:List Nat) {t:VT} {env:Array Value} {H:Heap} {ps:List PendK} {qs:List Pend},VRep n t env→All2 (PRep n) ps qs→drawK T K ops ms l t H ps k=(evalDraw T C ops ms l env H qs).bind fun p=>k' p.1 p.2
 | [],t,env,H,ps,qs,h,hp=>by simp [drawK,evalDraw,hk _ _ _ h]
 | i::l,t,env,H,ps,qs,h,hp=>by
  have ih:=fun {t env H ps qs} h hp=>drawK_eq (T:=T) hK ops ms hk l (t:=t) (env:=env) (H:=H) (ps:=ps) (qs:=qs) h hp
  simp only [drawK,evalDraw]
  cases ops[i]? with
  | none=>rfl
  | some o =>
   simp only [wantedK_eq h,cond_eq_ite]
   split
   ·cases okind T o.op with
    | V =>
     simp only [valK_eq h]
     cases aval T (evOp env) H o.op with
     | none=>rfl
     | some v =>
      obtain ⟨t',h',e⟩:=dstK_eq (α:=α) h o.dst v
      simp only [Option.bind_some,e]
      refine ih h' ?_
      split
      ·exact .cons ⟨rfl,rfl,h⟩ hp
      ·exact hp
    | A =>
     simp only [newK_eq h]
     cases aalloc T (evOp env) o.op with
     | none=>rfl
     | some p =>
      obtain ⟨t',h',e⟩:=dstK_eq (α:=α) h o.dst (p.2 H.next)
      simp only [Option.bind_some,e]
      exact ih h' hp
    | E =>
     simp only [eK_eq hK h]
     cases aE T C (evOp env) H o.op with
     | none=>rfl
     | some p =>
      simp only [Option.bind_some,keptK_eq,PRep.all (PRep.filter hp)]
      split
      ·obtain ⟨t',h',e⟩:=dstK_eq (α:=α) h o.dst p.1
       simp only [e]
       exact ih h' (PRep.filter hp)
      ·rfl
   ·obtain ⟨t',h',e⟩:=dstK_eq (α:=α) h o.dst undef
    simp only [e]
    exact ih h' hp
def fNats:List Nat→(List Nat→α)→α
 | [],k=>k []
 | n::r,k=>fNat n fun n=>fNats r fun r=>k (n::r)
@[simp] theorem fNats_eq:∀ (l:List Nat) (k:List Nat→α),fNats l k=k l
 | [],_=>rfl
 | n::r,k=>by simp [fNats,fNats_eq r]
def planned (T:Tab) (ops:Array Oper) (n:Nat):Option (List Nat×List Nat) :=
 fNats (masks ops) fun ms=>fNats (plan T ops ms) fun l =>
  if planOK T ops ms l 0&&dstsOK n ops.toList&&namesOK ops ms&&ops.all (fun o=>plainOp o.op) then some (ms,l) else none
def swapK (T:Tab) (K:CallK α) (n:Nat) (ops:Array Oper) (t:VT) (H:Heap) (k:VT→Heap→Option α):Option α :=
 fNats (masks ops) fun ms=>match swapOf T ops ms with
  | some s=>bif dstsOK n ops.toList&&namesOK ops ms&&ops.all (fun o=>plainOp o.op) then
    drawK T K ops ms (s.pre++[s.x,s.y]) t H [] fun t1 H1=>drawK T K ops ms (s.pre++[s.y,s.x]) t H [] fun _ _=>bif apartV (t1.get s.a) (t1.get s.b) then k t1 H1 else none
   else none
  | none=>none
def regionK (T:Tab) (K:CallK α) (n:Nat) (ops:Array Oper) (draw:Bool) (t:VT) (H:Heap) (k:VT→Heap→Option α):Option α :=
 bif draw then
  match planned T ops n with
  | some (ms,l)=>drawK T K ops ms l t H [] k
  | none=>swapK T K n ops t H k
 else bif ops.all (fun o=>plainOp o.op) then seqK T K ops ops.toList t H k else none
theorem range_ops (ops:Array Oper):All2 (fun i o=>ops[i]?=some o) (List.range ops.size) ops.toList:=by
 refine All2.of_get (by simp) fun i a e=>?_
 have hi:i < ops.size:=by
  rcases Nat.lt_or_ge i ops.size with h|h
  ·exact h
  ·rw [List.getElem?_eq_none (by simpa using h)] at e;cases e
 rw [List.getElem?_range hi] at e
 cases e
 exact ⟨ops[i],by simp [hi],by simp [hi]⟩
theorem swapK_eq {T:Tab} {C:CallSem} {K:CallK α} (hK:CKOK C K) {n:Nat} (ops:Array Oper) {k:VT→Heap→Option α} {k':Array Value→Heap→Option α} (hk:∀ t env H,VRep n t env→k t H=k' env H)
  {t:VT} {env:Array Value} {H:Heap} (h:VRep n t env):swapK T K n ops t H k=(evalSwap T C ops (masks ops) env H).bind fun p=>k' p.1 p.2:=by
 unfold swapK evalSwap
 simp only [fNats_eq,h.1,cond_eq_ite]
 cases hs:swapOf T ops (masks ops) with
 | none=>rfl
 | some s =>
  dsimp only
  split
  ·rw [drawK_eq hK ops _ (k':=fun env1 H1=>(evalDraw T C ops (masks ops) (s.pre++[s.y,s.x]) env H []).bind fun _=>if apartV (env1.getD s.a undef) (env1.getD s.b undef) then k' env1 H1 else none) (fun t1 env1 H1 h1=>?_) _ h .nil]
   ·cases evalDraw T C ops (masks ops) (s.pre++[s.x,s.y]) env H [] with
    | none=>rfl
    | some r =>
     simp only [Option.bind_some]
     cases evalDraw T C ops (masks ops) (s.pre++[s.y,s.x]) env H [] with
     | none=>rfl
     | some _ =>
      simp only [Option.bind_some]
      split<;>rfl
   ·rw [drawK_eq hK ops _ (k':=fun _ _=>if apartV (env1.getD s.a undef) (env1.getD s.b undef) then k' env1 H1 else none) (fun t2 env2 H2 h2=>?_) _ h .nil]
    rw [h1.get,h1.get,hk _ _ _ h1]
  ·rfl
end
end Go.Ev
namespace Go.Ev
section
variable {α:Type}
def VT.listK (t:VT):Nat→Nat→(List Value→α)→α
 | 0,_,k=>k []
 | m+1,i,k=>fV (t.get i) fun v=>listK t m (Nat.succ i) fun r=>k (v::r)
@[simp] theorem VT.listK_eq (t:VT):∀ (m i:Nat) (k:List Value→α),t.listK m i k=k ((List.range' i m).map t.get)
 | 0,_,_=>rfl
 | m+1,i,k=>by simp [VT.listK,VT.listK_eq t m,List.range'_succ]
theorem VRep.list {n:Nat} {t:VT} {env:Array Value} (h:VRep n t env):(List.range' 0 n).map t.get=env.toList:=by
 apply List.ext_getElem?
 intro i
 simp only [List.getElem?_map,Array.getElem?_toList]
 by_cases hi:i < n
 ·rw [List.getElem?_range' hi]
  have hi':i < env.size:=by rw [h.1];exact hi
  simp [h.get,hi']
 ·rw [List.getElem?_eq_none (by simp;omega),Array.getElem?_eq_none (by rw [h.1];omega)]
  rfl
def loopK (step:VT→Heap→(AExit→VT→Heap→Option α)→Option α):Nat→VT→Heap→(AExit→VT→Heap→Option α)→Option α
 | 0,_,_,_=>none
 | n+1,t,H,k=>step t H fun e t' H'=>match e with
  | .normal=>loopK step n t' H' k
  | .ret=>k .ret t' H'
  | .exit id=>k (.exit id) t' H'
def jumpK (pend:Option Code) (t:VT) (H:Heap) (k:AExit→VT→Heap→Option α):Option α :=
 match pend with
 | none=>k .normal t H
 | some .ret=>k .ret t H
 | some (.exit id)=>k (.exit id) t H
 | _=>none
def codeK (T:Tab) (K:CallK α) (nf:Nat) (fn:FuncId) (rd:Option Nat) (n:Nat):Code→VT→Heap→(AExit→VT→Heap→Option α)→Option α
 | .skip,t,H,k=>k .normal t H
 | .region _ ops draw,t,H,k=>regionK T K n ops draw t H fun t H=>k .normal t H
 | .seq a b,t,H,k=>codeK T K nf fn rd n a t H fun e t' H'=>match e with
  | .normal=>codeK T K nf fn rd n b t' H' k
  | .ret=>k .ret t' H'
  | .exit id=>k (.exit id) t' H'
 | .cond c x y,t,H,k =>
  match evK t c with
  | some (.bool true)=>codeK T K nf fn rd n x t H k
  | some (.bool false)=>codeK T K nf fn rd n y t H k
  | _=>none
 | .block id body,t,H,k=>codeK T K nf fn rd n body t H fun e t' H'=>match e with
  | .normal=>k .normal t' H'
  | .ret=>k .ret t' H'
  | .exit id'=>if id'=id then k .normal t' H' else k (.exit id') t' H'
 | .loop body,t,H,k=>loopK (fun t H k=>codeK T K nf fn rd n body t H k) nf t H k
 | .exit id,t,H,k=>k (.exit id) t H
 | .ret,t,H,k=>k .ret t H
 | .rangeFunc f params assign body,t,H,k =>
  match evK t f with
  | none=>none
  | some fv =>
   bif isLoop H rd then
    fNat H.next fun l =>
    t.listK n 0 fun env =>
    H.pushK (.loop .ready none fn ⟨env⟩ params assign body) fun H1 =>
    K fv [.func (.yield l) #[] #[]] H1 fun _ H2 =>
     match H2.get l with
     | some (.loop st pend fn' env' params' assign' body') =>
      if st=.busy then none else
      H2.putK l (some (.loop .exhausted pend fn' env' params' assign' body')) fun H3=>jumpK pend t H3 k
     | _=>none
   else none
 | _,_,_,_=>none
def resK (T:Tab) (t:VT) (H:Heap):ResultVar→Option Value
 | .tmp i=>some (t.get i)
 | .cell a ty=>do
  let i ←T ty
  match t.get a with
  | .pointer (some ⟨b,off,none⟩)=>do ofCells i (←H.read b off (if isAggD i.d then i.size else 1))
  | _=>none
def ressK (T:Tab) (t:VT) (H:Heap):List ResultVar→Option (List Value)
 | []=>some []
 | r::rs=>do some ((←resK T t H r)::(←ressK T t H rs))
theorem ressK_eq {T:Tab} {n:Nat} {t:VT} {env:Array Value} (h:VRep n t env) (H:Heap):∀ rs,ressK T t H rs=aresults T env H rs
 | []=>rfl
 | r::rs=>by
  have:resK T t H r=aresult T env H r:=by
   cases r with
   | tmp i=>simp [resK,aresult,h.get]
   | cell a ty=>simp only [resK,aresult,h.get];rfl
  simp only [ressK,aresults,this,ressK_eq h H rs]
def parK:List (Tmp×Value)→VT→(VT→α)→α
 | [],t,k=>k t
 | (p,v)::r,t,k=>VT.putK v t p fun t=>parK r t k
theorem parK_eq {n:Nat}:∀ (l:List (Tmp×Value)) {t:VT} {env:Array Value},VRep n t env→∃ t',VRep n t' (l.foldl (fun ts p=>ts.setIfInBounds p.1 p.2) env)∧∀ k:VT→α,parK l t k=k t'
 | [],t,env,h=>⟨t,h,fun _=>rfl⟩
 | (p,v)::r,t,env,h=>by
  obtain ⟨t',h',e⟩:=parK_eq r (h.put p v)
  exact ⟨t',h',fun k=>by simp [parK,e]⟩
end
end Go.Ev
namespace Go.Ev
section
variable {α β:Type}
noncomputable def bc (c:Bool) (t e:β):β:=Bool.rec (motive:=fun _=>β) e t c
@[simp] theorem bc_eq (c:Bool) (t e:β):bc c t e=if c then t else e:=by cases c<;>rfl
noncomputable def nR (n:Nat) (k:Nat→β):β:=Nat.rec (motive:=fun _=>β) (k 0) (fun m _=>k (Nat.succ m)) n
@[simp] theorem nR_eq (n:Nat) (k:Nat→β):nR n k=k n:=by cases n<;>rfl
noncomputable def bR (b:Bool) (k:Bool→β):β:=Bool.rec (motive:=fun _=>β) (k false) (k true) b
@[simp] theorem bR_eq (b:Bool) (k:Bool→β):bR b k=k b:=by cases b<;>rfl
noncomputable def VT.getR (t:VT) (i:Nat) (k:Value→β):β :=
 VT.rec (motive:=fun _=>Nat→β) (fun _=>k undef) (fun v _ _ l r b=>bc (Nat.beq b 0) (k v) (bc (Nat.beq (Nat.mod b 2) 1) (l (Nat.div b 2)) (r (Nat.sub (Nat.div b 2) 1)))) t i
@[simp] theorem VT.getR_eq:∀ (t:VT) (i:Nat) (k:Value→β),VT.getR t i k=k (t.get i)
 | .nil,i,k=>rfl
 | .node v l r,i,k=>by
  show bc (Nat.beq i 0) (k v) (bc (Nat.beq (Nat.mod i 2) 1) (VT.getR l (Nat.div i 2) k) (VT.getR r (Nat.sub (Nat.div i 2) 1) k))=_
  simp only [bc_eq,VT.getR_eq l,VT.getR_eq r,VT.get,VT.get?,cond_eq_ite]
  split
  ·rfl
  ·split<;>rfl
noncomputable def VT.putR (x:Value) (t:VT) (i:Nat) (k:VT→β):β :=
 VT.rec (motive:=fun _=>Nat→(VT→β)→β) (fun _ k=>k .nil) (fun v l r ihl ihr b k=>bc (Nat.beq b 0) (k (.node x l r)) (bc (Nat.beq (Nat.mod b 2) 1) (ihl (Nat.div b 2) fun l=>k (.node v l r)) (ihr (Nat.sub (Nat.div b 2) 1) fun r=>k (.node v l r)))) t i k
@[simp] theorem VT.putR_eq (x:Value):∀ (t:VT) (i:Nat) (k:VT→β),VT.putR x t i k=k (t.put x i)
 | .nil,i,k=>rfl
 | .node v l r,i,k=>by
  show bc (Nat.beq i 0) (k (.node x l r)) (bc (Nat.beq (Nat.mod i 2) 1) (VT.putR x l (Nat.div i 2) fun l=>k (.node v l r)) (VT.putR x r (Nat.sub (Nat.div i 2) 1) fun r=>k (.node v l r)))=_
  simp only [bc_eq,VT.putR_eq x l,VT.putR_eq x r,VT.put,cond_eq_ite]
  split
  ·rfl
  ·split<;>rfl
noncomputable def Tree.getR (t:Tree) (i:Nat) (k:Option AObj→β):β :=
 Tree.rec (motive:=fun _=>Nat→β) (fun _=>k none) (fun o _ _ l r b=>bc (Nat.beq b 0) (k o) (bc (Nat.beq (Nat.mod b 2) 1) (l (Nat.div b 2)) (r (Nat.sub (Nat.div b 2) 1)))) t i
@[simp] theorem Tree.getR_eq:∀ (t:Tree) (i:Nat) (k:Option AObj→β),Tree.getR t i k=k (t.get i)
 | .nil,i,k=>rfl
 | .node o l r,i,k=>by
  have m2:∀ m:Nat,m.mod 2=m % 2:=fun _=>rfl
  show bc (Nat.beq i 0) (k o) (bc (Nat.beq (Nat.mod i 2) 1) (Tree.getR l (Nat.div i 2) k) (Tree.getR r (Nat.sub (Nat.div i 2) 1) k))=_
  simp only [bc_eq,Tree.getR_eq l,Tree.getR_eq r,Tree.get,nbeq,decide_eq_true_eq,m2]
  split
  ·rfl
  ·split<;>rfl
noncomputable def Tree.putR (m:Nat) (t:Tree) (b:Nat) (x:Option AObj) (k:Tree→β):β :=
 Nat.rec (motive:=fun _=>Tree→Nat→(Tree→β)→β)
  (fun t _ k=>Tree.rec (motive:=fun _=>β) (k (.node x .nil .nil)) (fun _ l r _ _=>k (.node x l r)) t)
  (fun _ ih t b k=>Tree.rec (motive:=fun _=>β)
   (bc (Nat.beq b 0) (k (.node x .nil .nil)) (bc (Nat.beq (Nat.mod b 2) 1) (ih .nil (Nat.div b 2) fun l=>k (.node none l .nil)) (ih .nil (Nat.sub (Nat.div b 2) 1) fun r=>k (.node none .nil r))))
   (fun o l r _ _=>bc (Nat.beq b 0) (k (.node x l r)) (bc (Nat.beq (Nat.mod b 2) 1) (ih l (Nat.div b 2) fun l=>k (.node o l r)) (ih r (Nat.sub (Nat.div b 2) 1) fun r=>k (.node o l r)))) t) m t b k
@[simp] theorem Tree.putR_eq (x:Option AObj):∀ (m:Nat) (t:Tree) (b:Nat) (k:Tree→β),Tree.putR m t b x k=k (Tree.put m t b x)
 | 0,t,b,k=>by cases t<;>rfl
 | m+1,t,b,k=>by
  rw [←Tree.putK_eq (m+1) t b x k]
  cases t with
  | nil =>
   show bc (Nat.beq b 0) (k (.node x .nil .nil)) (bc (Nat.beq (Nat.mod b 2) 1) (Tree.putR m .nil (Nat.div b 2) x fun l=>k (.node none l .nil)) (Tree.putR m .nil (Nat.sub (Nat.div b 2) 1) x fun r=>k (.node none .nil r)))=_
   simp only [bc_eq,Tree.putR_eq x m,Tree.putK,cond_eq_ite,Tree.putK_eq]
  | node o l r =>
   show bc (Nat.beq b 0) (k (.node x l r)) (bc (Nat.beq (Nat.mod b 2) 1) (Tree.putR m l (Nat.div b 2) x fun l=>k (.node o l r)) (Tree.putR m r (Nat.sub (Nat.div b 2) 1) x fun r=>k (.node o l r)))=_
   simp only [bc_eq,Tree.putR_eq x m,Tree.putK,cond_eq_ite,Tree.putK_eq]
noncomputable def Heap.putR (H:Heap) (b:Nat) (x:Option AObj) (k:Heap→β):β:=Heap.rec (motive:=fun _=>β) (fun n t=>Tree.putR (Nat.succ (Nat.log2 b)) t b x fun t=>k ⟨n,t⟩) H
@[simp] theorem Heap.putR_eq (H:Heap) (b:Nat) (x:Option AObj) (k:Heap→β):H.putR b x k=k (H.put b x):=by
 simp only [Heap.putR,Tree.putR_eq];rfl
noncomputable def Heap.pushR (H:Heap) (x:AObj) (k:Nat→Heap→β):β:=Heap.rec (motive:=fun _=>β) (fun n t=>Tree.putR (Nat.succ (Nat.log2 n)) t n (some x) fun t=>nR (Nat.succ n) fun m=>k n ⟨m,t⟩) H
@[simp] theorem Heap.pushR_eq (H:Heap) (x:AObj) (k:Nat→Heap→β):H.pushR x k=k H.next (H.push x):=by
 simp only [Heap.pushR,Tree.putR_eq,nR_eq];rfl
noncomputable def Heap.getR (H:Heap) (b:Nat) (k:Option AObj→β):β:=Heap.rec (motive:=fun _=>β) (fun _ t=>Tree.getR t b k) H
@[simp] theorem Heap.getR_eq (H:Heap) (b:Nat) (k:Option AObj→β):H.getR b k=k (H.get b):=by
 simp only [Heap.getR,Tree.getR_eq];rfl
noncomputable def nthR (l:List Value) (i:Nat) (no:β) (k:Value→β):β :=
 List.rec (motive:=fun _=>Nat→β) (fun _=>no) (fun v _ ih i=>Nat.rec (motive:=fun _=>β) (k v) (fun j _=>ih j) i) l i
@[simp] theorem nthR_eq (no:β) (k:Value→β):∀ (l:List Value) (i:Nat),nthR l i no k=match l[i]? with|some v=>k v|none=>no
 | [],i=>by simp [nthR]
 | v::l,0=>rfl
 | v::l,i+1=>by
  show nthR l i no k=_
  rw [nthR_eq no k l i];simp
noncomputable def takeR (l:List Value) (n:Nat) (no:β) (k:List Value→β):β :=
 List.rec (motive:=fun _=>Nat→(List Value→β)→β) (fun n k=>Nat.rec (motive:=fun _=>β) (k []) (fun _ _=>no) n) (fun v _ ih n k=>Nat.rec (motive:=fun _=>β) (k []) (fun m _=>ih m fun r=>k (v::r)) n) l n k
theorem takeR_eq (no:β):∀ (l:List Value) (n:Nat) (k:List Value→β),takeR l n no k=if n≤l.length then k (l.take n) else no
 | [],0,k=>rfl
 | [],n+1,k=>by simp [takeR]
 | v::l,0,k=>rfl
 | v::l,n+1,k=>by
  show takeR l n no (fun r=>k (v::r))=_
  rw [takeR_eq no l n];simp
noncomputable def partR (l:List Value) (off n:Nat) (no:β) (k:List Value→β):β :=
 List.rec (motive:=fun _=>Nat→β) (fun off=>Nat.rec (motive:=fun _=>β) (takeR [] n no k) (fun _ _=>no) off) (fun v l ih off=>Nat.rec (motive:=fun _=>β) (takeR (v::l) n no k) (fun o _=>ih o) off) l off
theorem partR_eq (n:Nat) (no:β) (k:List Value→β):∀ (l:List Value) (off:Nat),partR l off n no k=match getCells l off n with|some r=>k r|none=>no
 | [],0=>by
  show takeR [] n no k=_
  simp only [takeR_eq,getCells,Nat.zero_add,List.drop_zero]
  split<;>rfl
 | [],o+1=>by
  have:¬ (o+1+n≤([]:List Value).length):=by simp
  simp only [getCells,if_neg this];rfl
 | v::l,0=>by
  show takeR (v::l) n no k=_
  simp only [takeR_eq,getCells,Nat.zero_add,List.drop_zero]
  split<;>rfl
 | v::l,o+1=>by
  show partR l o n no k=_
  simp only [partR_eq n no k l o,getCells,List.length_cons,List.drop_succ_cons]
  by_cases h:o+n≤l.length
  ·rw [if_pos h,if_pos (by omega)]
  ·rw [if_neg h,if_neg (by omega)]
noncomputable def laidR (l xs:List Value) (no:β) (k:List Value→β):β :=
 List.rec (motive:=fun _=>List Value→(List Value→β)→β) (fun l k=>k l) (fun x _ ih l k=>List.rec (motive:=fun _=>β) no (fun _ l _=>ih l fun r=>k (x::r)) l) xs l k
theorem laidR_eq (no:β):∀ (xs l:List Value) (k:List Value→β),laidR l xs no k=if xs.length≤l.length then k (xs++l.drop xs.length) else no
 | [],l,k=>by simp [laidR]
 | x::xs,[],k=>by simp [laidR]
 | x::xs,y::l,k=>by
  show laidR l xs no (fun r=>k (x::r))=_
  rw [laidR_eq no xs l];simp
noncomputable def setR (l:List Value) (off:Nat) (xs:List Value) (no:β) (k:List Value→β):β :=
 List.rec (motive:=fun _=>Nat→(List Value→β)→β) (fun off k=>Nat.rec (motive:=fun _=>β) (laidR [] xs no k) (fun _ _=>no) off)
  (fun v l ih off k=>Nat.rec (motive:=fun _=>β) (laidR (v::l) xs no k) (fun o _=>ih o fun r=>k (v::r)) off) l off k
theorem setR_eq (xs:List Value) (no:β):∀ (l:List Value) (off:Nat) (k:List Value→β),setR l off xs no k=match setCells l off xs with|some r=>k r|none=>no
 | [],0,k=>by
  show laidR [] xs no k=_
  simp only [laidR_eq,setCells,Nat.zero_add,List.take_zero,List.nil_append]
  split<;>rfl
 | [],o+1,k=>by
  have:¬ (o+1+xs.length≤([]:List Value).length):=by simp
  simp only [setCells,if_neg this];rfl
 | v::l,0,k=>by
  show laidR (v::l) xs no k=_
  simp only [laidR_eq,setCells,Nat.zero_add,List.take_zero,List.nil_append]
  split<;>rfl
 | v::l,o+1,k=>by
  show setR l o xs no (fun r=>k (v::r))=_
  simp only [setR_eq xs no l o,setCells,List.length_cons]
  by_cases h:o+xs.length≤l.length
  ·rw [if_pos h,if_pos (by omega)]
   have:o+1+xs.length=(o+xs.length)+1:=by omega
   simp [this]
  ·rw [if_neg h,if_neg (by omega)]
end
end Go.Ev
namespace Go.Ev
inductive KO where
 | tmp (i:Nat)
 | val (v:Value)
def koOf:Operand→Option KO
 | .tmp i=>some (.tmp i)
 | .const v=>if constOK v then some (.val v) else none
 | .global _=>none
 | .func f=>some (.val (.func (.func f) #[] #[]))
def kosOf:List Operand→Option (List KO)
 | []=>some []
 | x::r=>match koOf x,kosOf r with
  | some y,some l=>some (y::l)
  | _,_=>none
def KO.ev (x:KO) (t:VT):Value:=match x with
 | .tmp i=>t.get i
 | .val v=>v
inductive Cop where
 | gen (op:Op)
 | mv (x:KO)
 | pick (c a b:KO) (g:Op)
 | add (x y:KO) (g:Op)
 | sub (x y:KO) (g:Op)
 | cmp (f:Nat→Nat→Bool) (x y:KO) (g:Op)
 | load1 (x:KO) (g:Op)
 | loadN (n:Nat) (x:KO) (g:Op)
 | fa (off:Nat) (x:KO) (g:Op)
 | ix (size:Nat) (x i:KO) (g:Op)
 | len (x:KO) (g:Op)
 | store (n:Nat) (a x:KO) (g:Op)
 | box (x:KO) (g:Op)
 | call (f:KO) (args:List KO)
 | pv (f:VT→Heap→Option Value)
 | pa (f:VT→Option (AObj×(Nat→Value)))
 | pe (f:VT→Heap→EdR)
def cmpF:BinOp→Option (Nat→Nat→Bool)
 | .eql=>some Nat.beq
 | .neq=>some fun a b=>!(Nat.beq a b)
 | .lss=>some fun a b=>Nat.ble (Nat.succ a) b
 | .leq=>some Nat.ble
 | .gtr=>some fun a b=>Nat.ble (Nat.succ b) a
 | .geq=>some fun a b=>Nat.ble b a
 | _=>none
def ko2 (x y:Operand) (f:KO→KO→Cop) (g:Op):Cop:=match koOf x,koOf y with
 | some a,some b=>f a b
 | _,_=>.gen g
def binC (o:BinOp) (x y:Operand) (g:Op):Cop:=match o with
 | .add=>ko2 x y (fun a b=>.add a b g) g
 | .sub=>ko2 x y (fun a b=>.sub a b g) g
 | o=>match cmpF o with
  | some f=>ko2 x y (fun a b=>.cmp f a b g) g
  | none=>.gen g
def apF (j:TI) (s x:KO) (t:VT) (H:Heap):EdR:=match srcCells H j.size (x.ev t) with
 | some (k,new)=>aappendKE j H (s.ev t) k new
 | none=>none
def apC (T:Tab) (c:Call):Cop:=match c.args.toList,c.argTypes.toList with
 | [s,x],[t,u]=>match koOf s,koOf x,T t,T u with
  | some s,some x,some i,some i'=>match i.d,i'.d with
   | .slice _,.int _=>.gen (.call c)
   | .slice e,_=>match T e with
    | some j=>.pe (apF j s x)
    | none=>.gen (.call c)
   | _,_=>.gen (.call c)
  | _,_,_,_=>.gen (.call c)
 | _,_=>.gen (.call c)
def callC (T:Tab) (c:Call):Cop:=match c.callee with
 | .builtin .append=>apC T c
 | .value f=>match koOf f,kosOf c.args.toList with
  | some f,some l=>.call f l
  | _,_=>.gen (.call c)
 | .builtin .len=>match c.args.toList,c.argTypes.toList with
  | [x],[t]=>match T t,koOf x with
   | some i,some y=>match i.d with
    | .slice _=>.len y (.call c)
    | _=>.gen (.call c)
   | _,_=>.gen (.call c)
  | _,_=>.gen (.call c)
 | _=>.gen (.call c)
def faC (T:Tab) (s:TypeId) (x:Operand) (n:Nat) (g:Op):Cop:=match T s,koOf x with
 | some i,some y=>match i.d with
  | .struct fs=>match fs[n]? with
   | some f=>match T f.type with
    | some j=>if j.size=0 then .gen g else .fa f.offset y g
    | none=>.gen g
   | none=>.gen g
  | _=>.gen g
 | _,_=>.gen g
def ixC (T:Tab) (t:TypeId) (x ix:Operand) (g:Op):Cop:=match T t,koOf x,koOf ix with
 | some i,some y,some z=>match i.d with
  | .slice e=>match T e with
   | some j=>.ix j.size y z g
   | none=>.gen g
  | _=>.gen g
 | _,_,_=>.gen g
def loadC (T:Tab) (t:TypeId) (x:Operand) (g:Op):Cop:=match T t,koOf x with
 | some i,some y=>if isAggD i.d then .loadN i.size y g else .load1 y g
 | _,_=>.gen g
def storeC (T:Tab) (t:TypeId) (a x:Operand) (g:Op):Cop:=match T t,koOf a,koOf x with
 | some i,some y,some z=>.store i.size y z g
 | _,_,_=>.gen g
def pickC (c a b:Operand) (g:Op):Cop:=match koOf c,koOf a,koOf b with
 | some c,some a,some b=>.pick c a b g
 | _,_,_=>.gen g
def mvC (x:Operand) (g:Op):Cop:=match koOf x with
 | some y=>.mv y
 | none=>.gen g
def boxC (x:Operand) (g:Op):Cop:=match koOf x with
 | some y=>.box y g
 | none=>.gen g
def unF (o:UnOp) (x:KO) (t:VT) (_:Heap):Option Value:=aun o (x.ev t)
def unC (o:UnOp) (x:Operand) (g:Op):Cop:=match koOf x with
 | some y=>.pv (unF o y)
 | none=>.gen g
def exF (n:Nat) (x:KO) (t:VT) (_:Heap):Option Value:=match x.ev t with
 | .tuple vs=>vs[n]?
 | _=>none
def exC (x:Operand) (n:Nat) (g:Op):Cop:=match koOf x with
 | some y=>.pv (exF n y)
 | none=>.gen g
def nilF (x:KO) (t:VT) (_:Heap):Option Value:=anilchk (x.ev t)
def nilC (x:Operand) (g:Op):Cop:=match koOf x with
 | some y=>.pv (nilF y)
 | none=>.gen g
def newF (z:List Value) (_:VT):Option (AObj×(Nat→Value)):=some (.cells z true 0,fun b=>.pointer (some ⟨b,0,none⟩))
def newC (T:Tab) (ty:TypeId) (g:Op):Cop:=match T ty with
 | some i=>.pa (newF i.zero)
 | none=>.gen g
def cvF (q:IntKind) (x:KO) (t:VT) (_:Heap):Option Value:=match x.ev t with
 | .int _ n=>some (.int q (q.wrap n))
 | _=>none
def cvC (T:Tab) (s d:TypeId) (x:Operand) (g:Op):Cop:=match T s,T d,koOf x with
 | some i,some j,some y=>match i.d,j.d with
  | .int _,.int q=>.pv (cvF q y)
  | _,_=>.gen g
 | _,_,_=>.gen g
def cop (T:Tab) (op:Op):Cop:=match op with
 | .convert s d x=>cvC T s d x op
 | .unOp o _ x=>unC o x op
 | .extract x n=>exC x n op
 | .nilCheck x=>nilC x op
 | .alloc ty=>newC T ty op
 | .move x=>mvC x op
 | .assign x=>mvC x op
 | .pick c a b=>pickC c a b op
 | .binOp o _ x y _=>binC o x y op
 | .load t x=>loadC T t x op
 | .fieldAddr s x n=>faC T s x n op
 | .indexAddr t x ix=>ixC T t x ix op
 | .store t a x=>storeC T t a x op
 | .box _ x=>boxC x op
 | .call c=>callC T c
 | op=>.gen op
def p64 (v:Value):Nat:=match v with
 | .int .i64 (.ofNat m)=>Nat.succ m
 | _=>0
def pPtr (v:Value):Option (Nat×Nat):=match v with
 | .pointer (some ⟨b,o,none⟩)=>some (b,o)
 | _=>none
def pSl (v:Value):Option (Nat×Nat×Nat):=match v with
 | .slice (some ⟨b,o,none⟩) n _=>some (b,o,n)
 | _=>none
def pLen (v:Value):Option Nat:=match v with
 | .slice _ n _=>some n
 | _=>none
def pB (v:Value):Option Bool:=match v with
 | .bool b=>some b
 | _=>none
def pCells (n:Nat) (v:Value):Option (List Value):=if v.cells.size=n∧okCells v.cells.toList then some v.cells.toList else none
def pObj (o:Option AObj):Option (List Value×Bool×Nat):=match o with
 | some (.cells vs wr g)=>some (vs,wr,g)
 | _=>none
section
variable {α β γ δ:Type}
noncomputable def oR (o:Option γ) (no:β) (k:γ→β):β:=Option.rec (motive:=fun _=>β) no k o
@[simp] theorem oR_none (no:β) (k:γ→β):oR none no k=no:=rfl
@[simp] theorem oR_some (x:γ) (no:β) (k:γ→β):oR (some x) no k=k x:=rfl
noncomputable def pR (p:γ×δ) (k:γ→δ→β):β:=Prod.rec (motive:=fun _=>β) k p
@[simp] theorem pR_eq (p:γ×δ) (k:γ→δ→β):pR p k=k p.1 p.2:=rfl
noncomputable def KO.getR (x:KO) (t:VT) (k:Value→β):β:=KO.rec (motive:=fun _=>β) (fun i=>t.getR i k) (fun v=>k v) x
@[simp] theorem KO.getR_eq (x:KO) (t:VT) (k:Value→β):x.getR t k=k (x.ev t):=by
 cases x with
 | tmp i=>exact VT.getR_eq t i k
 | val v=>rfl
noncomputable def kosR (l:List KO) (t:VT) (k:List Value→β):β:=List.rec (motive:=fun _=>(List Value→β)→β) (fun k=>k []) (fun x _ ih k=>x.getR t fun v=>ih fun r=>k (v::r)) l k
@[simp] theorem kosR_eq (t:VT):∀ (l:List KO) (k:List Value→β),kosR l t k=k (l.map (·.ev t))
 | [],k=>rfl
 | x::l,k=>by
  show x.getR t (fun v=>kosR l t fun r=>k (v::r))=_
  simp [kosR_eq t l]
noncomputable def two64 (a b:Value) (no:β) (k:Nat→Nat→β):β:=Nat.rec (motive:=fun _=>β) no (fun m _=>Nat.rec (motive:=fun _=>β) no (fun n _=>k m n) (p64 b)) (p64 a)
theorem p64_succ {v:Value} {m:Nat} (h:p64 v=m+1):v=.int .i64 (.ofNat m):=by
 unfold p64 at h
 split at h
 ·simp only [Nat.succ_eq_add_one,Nat.add_right_cancel_iff] at h;subst h;rfl
 ·cases h
theorem two64_eq (a b:Value) (no:β) (k:Nat→Nat→β):two64 a b no k=no∨∃ m n,a=.int .i64 (.ofNat m)∧b=.int .i64 (.ofNat n)∧two64 a b no k=k m n:=by
 unfold two64
 cases ha:p64 a with
 | zero=>exact .inl rfl
 | succ m=>cases hb:p64 b with
  | zero=>exact .inl rfl
  | succ n=>exact .inr ⟨m,n,p64_succ ha,p64_succ hb,rfl⟩
theorem pPtr_some {v:Value} {p:Nat×Nat} (h:pPtr v=some p):v=.pointer (some ⟨p.1,p.2,none⟩):=by
 unfold pPtr at h;split at h<;>cases h;rfl
theorem pSl_some {v:Value} {p:Nat×Nat×Nat} (h:pSl v=some p):∃ c,v=.slice (some ⟨p.1,p.2.1,none⟩) p.2.2 c:=by
 unfold pSl at h;split at h<;>cases h;exact ⟨_,rfl⟩
theorem pLen_some {v:Value} {n:Nat} (h:pLen v=some n):∃ a c,v=.slice a n c:=by
 unfold pLen at h;split at h<;>cases h;exact ⟨_,_,rfl⟩
theorem pB_some {v:Value} {b:Bool} (h:pB v=some b):v=.bool b:=by
 unfold pB at h;split at h<;>cases h;rfl
theorem pObj_some {o:Option AObj} {p:List Value×Bool×Nat} (h:pObj o=some p):o=some (.cells p.1 p.2.1 p.2.2):=by
 unfold pObj at h;split at h<;>cases h;rfl
noncomputable def addR (a b:Value) (no:β) (k:Value→β):β:=two64 a b no fun m n=>bc (Nat.ble (Nat.add m n) 9223372036854775807) (nR (Nat.add m n) fun s=>k (.int .i64 (.ofNat s))) no
noncomputable def subR (a b:Value) (no:β) (k:Value→β):β:=two64 a b no fun m n=>bc (Nat.ble n m) (bc (Nat.ble m 9223372036854775807) (nR (Nat.sub m n) fun s=>k (.int .i64 (.ofNat s))) no) no
noncomputable def cmpR (f:Nat→Nat→Bool) (a b:Value) (no:β) (k:Value→β):β:=two64 a b no fun m n=>bR (f m n) fun c=>k (.bool c)
noncomputable def objR (H:Heap) (b:Nat) (no:β) (k:List Value→Bool→Nat→β):β:=H.getR b fun o=>oR (pObj o) no fun p=>pR p fun vs q=>pR q fun wr g=>k vs wr g
noncomputable def load1R (H:Heap) (a:Value) (no:β) (k:Value→β):β:=oR (pPtr a) no fun p=>pR p fun b o=>objR H b no fun vs _ _=>nthR vs o no k
noncomputable def loadNR (n:Nat) (H:Heap) (a:Value) (no:β) (k:Value→β):β:=oR (pPtr a) no fun p=>pR p fun b o=>objR H b no fun vs _ _=>partR vs o n no fun l=>k (.agg ⟨l⟩)
noncomputable def faR (off:Nat) (a:Value) (no:β) (k:Value→β):β:=oR (pPtr a) no fun p=>pR p fun b o=>nR (Nat.add o off) fun o'=>k (.pointer (some ⟨b,o',none⟩))
noncomputable def ixR (size:Nat) (a i:Value) (no:β) (k:Value→β):β:=oR (pSl a) no fun p=>pR p fun b q=>pR q fun o len =>
 Nat.rec (motive:=fun _=>β) no (fun m _=>bc (Nat.ble (Nat.succ m) len) (nR (Nat.add o (Nat.mul m size)) fun o'=>k (.pointer (some ⟨b,o',none⟩))) no) (p64 i)
noncomputable def storeR (n:Nat) (H:Heap) (a v:Value) (no:β) (k:Heap→β):β:=oR (pPtr a) no fun p=>pR p fun b o=>oR (pCells n v) no fun l=>objR H b no fun vs wr g =>
 bc wr (setR vs o l no fun vs'=>H.putR b (some (.cells vs' true g)) k) no
noncomputable def genM (T:Tab) (K:CallK α) (op:Op) (t:VT) (H:Heap) (k:Value→Heap→Option α):Option α:=stepK T K t H op k
noncomputable def mvM (T:Tab) (K:CallK α) (x:KO) (t:VT) (H:Heap) (k:Value→Heap→Option α):Option α:=x.getR t fun v=>k v H
noncomputable def pickM (T:Tab) (K:CallK α) (c a b:KO) (g:Op) (t:VT) (H:Heap) (k:Value→Heap→Option α):Option α:=c.getR t fun v=>oR (pB v) (stepK T K t H g k) fun q=>bc q (a.getR t fun v=>k v H) (b.getR t fun v=>k v H)
noncomputable def addM (T:Tab) (K:CallK α) (x y:KO) (g:Op) (t:VT) (H:Heap) (k:Value→Heap→Option α):Option α:=x.getR t fun a=>y.getR t fun b=>addR a b (stepK T K t H g k) fun v=>k v H
noncomputable def subM (T:Tab) (K:CallK α) (x y:KO) (g:Op) (t:VT) (H:Heap) (k:Value→Heap→Option α):Option α:=x.getR t fun a=>y.getR t fun b=>subR a b (stepK T K t H g k) fun v=>k v H
noncomputable def cmpM (T:Tab) (K:CallK α) (f:Nat→Nat→Bool) (x y:KO) (g:Op) (t:VT) (H:Heap) (k:Value→Heap→Option α):Option α:=x.getR t fun a=>y.getR t fun b=>cmpR f a b (stepK T K t H g k) fun v=>k v H
noncomputable def load1M (T:Tab) (K:CallK α) (x:KO) (g:Op) (t:VT) (H:Heap) (k:Value→Heap→Option α):Option α:=x.getR t fun a=>load1R H a (stepK T K t H g k) fun v=>k v H
noncomputable def loadNM (T:Tab) (K:CallK α) (n:Nat) (x:KO) (g:Op) (t:VT) (H:Heap) (k:Value→Heap→Option α):Option α:=x.getR t fun a=>loadNR n H a (stepK T K t H g k) fun v=>k v H
noncomputable def faM (T:Tab) (K:CallK α) (off:Nat) (x:KO) (g:Op) (t:VT) (H:Heap) (k:Value→Heap→Option α):Option α:=x.getR t fun a=>faR off a (stepK T K t H g k) fun v=>k v H
noncomputable def ixM (T:Tab) (K:CallK α) (size:Nat) (x i:KO) (g:Op) (t:VT) (H:Heap) (k:Value→Heap→Option α):Option α:=x.getR t fun a=>i.getR t fun j=>ixR size a j (stepK T K t H g k) fun v=>k v H
noncomputable def lenM (T:Tab) (K:CallK α) (x:KO) (g:Op) (t:VT) (H:Heap) (k:Value→Heap→Option α):Option α:=x.getR t fun a=>oR (pLen a) (stepK T K t H g k) fun n=>k (.int .i64 (.ofNat n)) H
noncomputable def storeM (T:Tab) (K:CallK α) (n:Nat) (a x:KO) (g:Op) (t:VT) (H:Heap) (k:Value→Heap→Option α):Option α:=a.getR t fun p=>x.getR t fun v=>storeR n H p v (stepK T K t H g k) fun H'=>k undef H'
noncomputable def boxM (T:Tab) (K:CallK α) (x:KO) (g:Op) (t:VT) (H:Heap) (k:Value→Heap→Option α):Option α:=x.getR t fun v=>fVs v.cells.toList fun l=>H.pushR (.cells l true 0) fun b H'=>k (.pointer (some ⟨b,0,none⟩)) H'
noncomputable def callM (T:Tab) (K:CallK α) (f:KO) (args:List KO) (t:VT) (H:Heap) (k:Value→Heap→Option α):Option α:=f.getR t fun fv=>kosR args t fun l=>K fv l H k
noncomputable def pvM (T:Tab) (K:CallK α) (f:VT→Heap→Option Value) (t:VT) (H:Heap) (k:Value→Heap→Option α):Option α:=oR (f t H) none fun v=>fV v fun v=>k v H
noncomputable def paM (T:Tab) (K:CallK α) (f:VT→Option (AObj×(Nat→Value))) (t:VT) (H:Heap) (k:Value→Heap→Option α):Option α:=oR (f t) none fun p=>pR p fun o g=>fObj o fun o=>H.pushR o fun b H'=>fV (g b) fun v=>k v H'
noncomputable def peM (T:Tab) (K:CallK α) (f:VT→Heap→EdR) (t:VT) (H:Heap) (k:Value→Heap→Option α):Option α:=oR (f t H) none fun p=>pR p fun v es=>apK H es fun H'=>fV v fun v=>k v H'
noncomputable def stepR (T:Tab) (K:CallK α) (t:VT) (H:Heap) (c:Cop) (k:Value→Heap→Option α):Option α :=
 Cop.rec (motive:=fun _=>VT→Heap→(Value→Heap→Option α)→Option α) (genM T K) (mvM T K) (pickM T K) (addM T K) (subM T K) (cmpM T K) (load1M T K) (loadNM T K) (faM T K) (ixM T K) (lenM T K) (storeM T K) (boxM T K) (callM T K) (pvM T K) (paM T K) (peM T K) c t H k
end
theorem koOf_ev {x:Operand} {y:KO} (h:koOf x=some y) {n:Nat} {t:VT} {env:Array Value} (hr:VRep n t env):evOp env x=some (y.ev t):=by
 cases x with
 | tmp i=>simp only [koOf,Option.some.injEq] at h;subst h;simp [evOp,KO.ev,hr.get]
 | const v =>
  simp only [koOf] at h
  split at h
  ·cases h;simp_all [evOp,KO.ev]
  ·cases h
 | global _=>cases h
 | func f=>simp only [koOf,Option.some.injEq] at h;subst h;rfl
theorem kosOf_ev:∀ {l:List Operand} {r:List KO},kosOf l=some r→∀ {n:Nat} {t:VT} {env:Array Value},VRep n t env→evs (evOp env) l=some (r.map (·.ev t))
 | [],r,h,n,t,env,hr=>by simp only [kosOf,Option.some.injEq] at h;subst h;rfl
 | x::l,r,h,n,t,env,hr=>by
  simp only [kosOf] at h
  split at h
  ·rename_i y l' hx hl
   cases h
   simp [evs,koOf_ev hx hr,kosOf_ev hl hr]
  ·cases h
end Go.Ev
namespace Go.Ev
section
variable {α β:Type}
theorem addR_eq (a b:Value) (no:β) (k:Value→β):addR a b no k=no∨∃ m n,a=.int .i64 (.ofNat m)∧b=.int .i64 (.ofNat n)∧m+n≤9223372036854775807∧addR a b no k=k (.int .i64 (.ofNat (m+n))):=by
 unfold addR
 rcases two64_eq a b no (fun m n=>bc (Nat.ble (Nat.add m n) 9223372036854775807) (nR (Nat.add m n) fun s=>k (.int .i64 (.ofNat s))) no) with h|⟨m,n,rfl,rfl,h⟩
 ·exact .inl h
 ·rw [h,bc_eq,nR_eq]
  split
  ·rename_i hb
   exact .inr ⟨m,n,rfl,rfl,Nat.le_of_ble_eq_true hb,rfl⟩
  ·exact .inl rfl
theorem subR_eq (a b:Value) (no:β) (k:Value→β):subR a b no k=no∨∃ m n,a=.int .i64 (.ofNat m)∧b=.int .i64 (.ofNat n)∧n≤m∧m≤9223372036854775807∧subR a b no k=k (.int .i64 (.ofNat (m - n))):=by
 unfold subR
 rcases two64_eq a b no (fun m n=>bc (Nat.ble n m) (bc (Nat.ble m 9223372036854775807) (nR (Nat.sub m n) fun s=>k (.int .i64 (.ofNat s))) no) no) with h|⟨m,n,rfl,rfl,h⟩
 ·exact .inl h
 ·rw [h]
  simp only [bc_eq,nR_eq]
  split
  ·split
   ·rename_i h1 h2
    exact .inr ⟨m,n,rfl,rfl,Nat.le_of_ble_eq_true h1,Nat.le_of_ble_eq_true h2,rfl⟩
   ·exact .inl rfl
  ·exact .inl rfl
theorem cmpR_eq (f:Nat→Nat→Bool) (a b:Value) (no:β) (k:Value→β):cmpR f a b no k=no∨∃ m n,a=.int .i64 (.ofNat m)∧b=.int .i64 (.ofNat n)∧cmpR f a b no k=k (.bool (f m n)):=by
 unfold cmpR
 rcases two64_eq a b no (fun m n=>bR (f m n) fun c=>k (.bool c)) with h|⟨m,n,rfl,rfl,h⟩
 ·exact .inl h
 ·exact .inr ⟨m,n,rfl,rfl,by rw [h,bR_eq]⟩
theorem objR_eq (H:Heap) (b:Nat) (no:β) (k:List Value→Bool→Nat→β):objR H b no k=no∨∃ vs wr g,H.get b=some (.cells vs wr g)∧objR H b no k=k vs wr g:=by
 unfold objR
 rw [Heap.getR_eq]
 cases h:pObj (H.get b) with
 | none=>exact .inl rfl
 | some p=>exact .inr ⟨_,_,_,pObj_some h,rfl⟩
theorem load1R_eq (H:Heap) (a:Value) (no:β) (k:Value→β):load1R H a no k=no∨∃ b o vs wr g v,a=.pointer (some ⟨b,o,none⟩)∧H.get b=some (.cells vs wr g)∧vs[o]?=some v∧load1R H a no k=k v:=by
 unfold load1R
 cases h:pPtr a with
 | none=>exact .inl rfl
 | some p =>
  simp only [oR_some,pR_eq]
  rcases objR_eq H p.1 no (fun vs _ _=>nthR vs p.2 no k) with e|⟨vs,wr,g,e1,e2⟩
  ·exact .inl e
  ·rw [e2,nthR_eq]
   cases hv:vs[p.2]? with
   | none=>exact .inl rfl
   | some v=>exact .inr ⟨_,_,_,_,_,v,pPtr_some h,e1,hv,rfl⟩
theorem loadNR_eq (n:Nat) (H:Heap) (a:Value) (no:β) (k:Value→β):loadNR n H a no k=no∨∃ b o vs wr g l,a=.pointer (some ⟨b,o,none⟩)∧H.get b=some (.cells vs wr g)∧getCells vs o n=some l∧loadNR n H a no k=k (.agg ⟨l⟩):=by
 unfold loadNR
 cases h:pPtr a with
 | none=>exact .inl rfl
 | some p =>
  simp only [oR_some,pR_eq]
  rcases objR_eq H p.1 no (fun vs _ _=>partR vs p.2 n no fun l=>k (.agg ⟨l⟩)) with e|⟨vs,wr,g,e1,e2⟩
  ·exact .inl e
  ·rw [e2,partR_eq]
   cases hv:getCells vs p.2 n with
   | none=>exact .inl rfl
   | some l=>exact .inr ⟨_,_,_,_,_,l,pPtr_some h,e1,hv,rfl⟩
theorem faR_eq (off:Nat) (a:Value) (no:β) (k:Value→β):faR off a no k=no∨∃ b o,a=.pointer (some ⟨b,o,none⟩)∧faR off a no k=k (.pointer (some ⟨b,o+off,none⟩)):=by
 unfold faR
 cases h:pPtr a with
 | none=>exact .inl rfl
 | some p=>exact .inr ⟨_,_,pPtr_some h,by simp only [oR_some,pR_eq,nR_eq];rfl⟩
theorem ixR_eq (size:Nat) (a i:Value) (no:β) (k:Value→β):ixR size a i no k=no∨∃ b o len c m,a=.slice (some ⟨b,o,none⟩) len c∧i=.int .i64 (.ofNat m)∧m < len∧ixR size a i no k=k (.pointer (some ⟨b,o+m*size,none⟩)):=by
 unfold ixR
 cases h:pSl a with
 | none=>exact .inl rfl
 | some p =>
  obtain ⟨c,rfl⟩:=pSl_some h
  simp only [oR_some,pR_eq]
  cases hi:p64 i with
  | zero=>exact .inl rfl
  | succ m =>
   simp only [bc_eq,nR_eq]
   split
   ·rename_i hb
    exact .inr ⟨_,_,_,_,m,rfl,p64_succ hi,Nat.le_of_ble_eq_true hb,rfl⟩
   ·exact .inl rfl
theorem storeR_eq (n:Nat) (H:Heap) (a v:Value) (no:β) (k:Heap→β):storeR n H a v no k=no∨∃ b o vs g vs',a=.pointer (some ⟨b,o,none⟩)∧(v.cells.size=n∧okCells v.cells.toList)∧H.get b=some (.cells vs true g)∧setCells vs o v.cells.toList=some vs' ∧
  storeR n H a v no k=k (H.put b (some (.cells vs' true g))):=by
 unfold storeR
 cases h:pPtr a with
 | none=>exact .inl rfl
 | some p =>
  obtain rfl:=pPtr_some h
  simp only [oR_some,pR_eq,pCells]
  split
  ·rename_i hc
   simp only [oR_some]
   rcases objR_eq H p.1 no (fun vs wr g=>bc wr (setR vs p.2 v.cells.toList no fun vs'=>H.putR p.1 (some (.cells vs' true g)) k) no) with e|⟨vs,wr,g,e1,e2⟩
   ·exact .inl e
   ·rw [e2,bc_eq]
    cases wr with
    | false=>exact .inl rfl
    | true =>
     simp only [if_true,setR_eq,Heap.putR_eq]
     cases hs:setCells vs p.2 v.cells.toList with
     | none=>exact .inl rfl
     | some vs'=>exact .inr ⟨_,_,vs,g,vs',rfl,hc,e1,hs,rfl⟩
  ·exact .inl rfl
section
variable {T:Tab} {C:CallSem} {K:CallK α} (hK:CKOK C K) {n:Nat} {t:VT} {env:Array Value} (h:VRep n t env) (H:Heap) (k:Value→Heap→Option α)
theorem val_case {op:Op} {v:Value} (hk:okind T op=.V) (hv:aval T (evOp env) H op=some v):(astep T C (evOp env) H op).bind (fun p=>k p.1 p.2)=k v H:=by
 simp [astep,hk,hv]
include hK h
theorem gen_case (op:Op):stepR T K t H (.gen op) k=(astep T C (evOp env) H op).bind fun p=>k p.1 p.2:=stepK_eq hK h H op k
theorem mv_case {x:Operand} {op:Op} (ho:op=.move x∨op=.assign x):stepR T K t H (mvC x op) k=(astep T C (evOp env) H op).bind fun p=>k p.1 p.2:=by
 unfold mvC
 split
 ·rename_i y hy
  have:=koOf_ev hy h
  show y.getR t (fun v=>k v H)=_
  rw [KO.getR_eq]
  rcases ho with rfl|rfl
  ·rw [val_case H k (v:=y.ev t) rfl (by simp [aval,apure,this])]
  ·rw [val_case H k (v:=y.ev t) rfl (by simp [aval,apure,this])]
 ·exact gen_case hK h H k op
theorem pick_case (c a b:Operand):stepR T K t H (pickC c a b (.pick c a b)) k=(astep T C (evOp env) H (.pick c a b)).bind fun p=>k p.1 p.2:=by
 unfold pickC
 split
 ·rename_i c' a' b' hc ha hb
  have ec:=koOf_ev hc h
  have ea:=koOf_ev ha h
  have eb:=koOf_ev hb h
  show c'.getR t (fun v=>oR (pB v) (stepK T K t H (.pick c a b) k) fun q=>bc q (a'.getR t fun v=>k v H) (b'.getR t fun v=>k v H))=_
  simp only [KO.getR_eq,bc_eq]
  cases hq:pB (c'.ev t) with
  | none=>rw [oR_none];exact stepK_eq hK h H _ k
  | some q =>
   rw [pB_some hq] at ec
   simp only [oR_some]
   cases q with
   | true=>rw [val_case H k (v:=a'.ev t) rfl (by simp [aval,apure,ec,ea])];rfl
   | false=>rw [val_case H k (v:=b'.ev t) rfl (by simp [aval,apure,ec,eb])];rfl
 ·exact gen_case hK h H k _
theorem bin_case (o:BinOp) (ty:TypeId) (x y:Operand) (u:TypeId):stepR T K t H (binC o x y (.binOp o ty x y u)) k=(astep T C (evOp env) H (.binOp o ty x y u)).bind fun p=>k p.1 p.2:=by
 have gen:=gen_case (T:=T) hK h H k (.binOp o ty x y u)
 have two:∀ (f:KO→KO→Cop),(∀ a b,koOf x=some a→koOf y=some b→stepR T K t H (f a b) k=(astep T C (evOp env) H (.binOp o ty x y u)).bind fun p=>k p.1 p.2) →
   stepR T K t H (ko2 x y f (.binOp o ty x y u)) k=(astep T C (evOp env) H (.binOp o ty x y u)).bind fun p=>k p.1 p.2:=by
  intro f hf
  unfold ko2
  split
  ·exact hf _ _ ‹_› ‹_›
  ·exact gen
 have cmp:∀ f:Nat→Nat→Bool,(∀ m n:Nat,intBin o .i64 (.ofNat m) (.ofNat n)=some (.bool (f m n)))→(o≠.shl∧o≠.shr)→stepR T K t H (ko2 x y (fun a b=>.cmp f a b (.binOp o ty x y u)) (.binOp o ty x y u)) k=(astep T C (evOp env) H (.binOp o ty x y u)).bind fun p=>k p.1 p.2:=by
  intro f hf hne
  refine two _ fun a b ha hb=>?_
  show a.getR t (fun va=>b.getR t fun vb=>cmpR f va vb (stepK T K t H (.binOp o ty x y u) k) fun v=>k v H)=_
  simp only [KO.getR_eq]
  have ea:=koOf_ev ha h
  have eb:=koOf_ev hb h
  rcases cmpR_eq f (a.ev t) (b.ev t) (stepK T K t H (.binOp o ty x y u) k) (fun v=>k v H) with e|⟨m,n',e1,e2,e3⟩
  ·rw [e];exact gen
  ·rw [e3,val_case H k (v:=.bool (f m n')) rfl]
   rw [e1] at ea
   rw [e2] at eb
   have:abin T o ty x y (.int .i64 (.ofNat m)) (.int .i64 (.ofNat n'))=intBin o .i64 (.ofNat m) (.ofNat n'):=by
    cases o<;>first|rfl|exact absurd rfl hne.1|exact absurd rfl hne.2
   have hp:apure T (evOp env) (.binOp o ty x y u)=some (.bool (f m n')):=by
    simp only [apure,ea,eb,Option.bind_eq_bind,Option.bind_some]
    rw [this,hf]
   simp only [aval,hp]
 cases o with
 | add =>
  refine two _ fun a b ha hb=>?_
  show a.getR t (fun va=>b.getR t fun vb=>addR va vb (stepK T K t H (.binOp .add ty x y u) k) fun v=>k v H)=_
  simp only [KO.getR_eq]
  have ea:=koOf_ev ha h
  have eb:=koOf_ev hb h
  rcases addR_eq (a.ev t) (b.ev t) (stepK T K t H (.binOp .add ty x y u) k) (fun v=>k v H) with e|⟨m,n',e1,e2,e3,e4⟩
  ·rw [e];exact gen
  ·rw [e4,val_case H k (v:=.int .i64 (.ofNat (m+n'))) rfl]
   rw [e1] at ea
   rw [e2] at eb
   have hw:IntKind.i64.wrap ((m:Int)+(n':Int))=((m+n':Nat):Int):=by rw [IntKind.wrap_i64];omega
   simp [aval,apure,ea,eb,abin,intBin,hw]
 | sub =>
  refine two _ fun a b ha hb=>?_
  show a.getR t (fun va=>b.getR t fun vb=>subR va vb (stepK T K t H (.binOp .sub ty x y u) k) fun v=>k v H)=_
  simp only [KO.getR_eq]
  have ea:=koOf_ev ha h
  have eb:=koOf_ev hb h
  rcases subR_eq (a.ev t) (b.ev t) (stepK T K t H (.binOp .sub ty x y u) k) (fun v=>k v H) with e|⟨m,n',e1,e2,e3,e3',e4⟩
  ·rw [e];exact gen
  ·rw [e4,val_case H k (v:=.int .i64 (.ofNat (m - n'))) rfl]
   rw [e1] at ea
   rw [e2] at eb
   have hw:IntKind.i64.wrap ((m:Int) - (n':Int))=((m - n':Nat):Int):=by rw [IntKind.wrap_i64];omega
   simp [aval,apure,ea,eb,abin,intBin,hw]
 | eql=>exact cmp _ (fun m n=>by simp only [intBin];congr 2;rw [Bool.eq_iff_iff];simp [nbeq]<;>omega) (by simp)
 | neq=>exact cmp _ (fun m n=>by simp only [intBin];congr 2;rw [Bool.eq_iff_iff];simp [nbeq]<;>omega) (by simp)
 | lss=>exact cmp _ (fun m n=>by simp only [intBin];congr 2;rw [Bool.eq_iff_iff];simp [Nat.ble_eq]<;>omega) (by simp)
 | leq=>exact cmp _ (fun m n=>by simp only [intBin];congr 2;rw [Bool.eq_iff_iff];simp [Nat.ble_eq]<;>omega) (by simp)
 | gtr=>exact cmp _ (fun m n=>by simp only [intBin];congr 2;rw [Bool.eq_iff_iff];simp [Nat.ble_eq]<;>omega) (by simp)
 | geq=>exact cmp _ (fun m n=>by simp only [intBin];congr 2;rw [Bool.eq_iff_iff];simp [Nat.ble_eq]<;>omega) (by simp)
 | _=>exact gen
end
end
end Go.Ev
namespace Go.Ev
section
variable {α:Type} {T:Tab} {C:CallSem} {K:CallK α} (hK:CKOK C K) {n:Nat} {t:VT} {env:Array Value} (h:VRep n t env) (H:Heap) (k:Value→Heap→Option α)
include hK h
theorem load_case (ty:TypeId) (x:Operand):stepR T K t H (loadC T ty x (.load ty x)) k=(astep T C (evOp env) H (.load ty x)).bind fun p=>k p.1 p.2:=by
 have gen:=gen_case (T:=T) hK h H k (.load ty x)
 unfold loadC
 split
 ·rename_i i y hi hy
  have ey:=koOf_ev hy h
  split
  ·rename_i ha
   show y.getR t (fun a=>loadNR i.size H a (stepK T K t H (.load ty x) k) fun v=>k v H)=_
   rw [KO.getR_eq]
   rcases loadNR_eq i.size H (y.ev t) (stepK T K t H (.load ty x) k) (fun v=>k v H) with e|⟨b,o,vs,wr,g,l,e1,e2,e3,e4⟩
   ·rw [e];exact gen
   ·rw [e4,val_case H k (v:=.agg ⟨l⟩) rfl]
    rw [e1] at ey
    simp [aval,apure,aread,hi,ey,ha,Heap.read,e2,e3,ofCells]
  ·rename_i ha
   show y.getR t (fun a=>load1R H a (stepK T K t H (.load ty x) k) fun v=>k v H)=_
   rw [KO.getR_eq]
   rcases load1R_eq H (y.ev t) (stepK T K t H (.load ty x) k) (fun v=>k v H) with e|⟨b,o,vs,wr,g,v,e1,e2,e3,e4⟩
   ·rw [e];exact gen
   ·rw [e4,val_case H k (v:=v) rfl]
    rw [e1] at ey
    have hg:getCells vs o 1=some [v]:=by
     have hlt:o < vs.length:=by
      rcases Nat.lt_or_ge o vs.length with h|h
      ·exact h
      ·rw [List.getElem?_eq_none h] at e3;cases e3
     unfold getCells
     rw [if_pos (by omega)]
     congr 1
     rw [List.drop_eq_getElem_cons hlt]
     rw [List.getElem?_eq_getElem hlt] at e3
     cases e3
     rfl
    simp [aval,apure,aread,hi,ey,ha,Heap.read,e2,hg,ofCells]
 ·exact gen
theorem fa_case (s:TypeId) (x:Operand) (m:Nat):stepR T K t H (faC T s x m (.fieldAddr s x m)) k=(astep T C (evOp env) H (.fieldAddr s x m)).bind fun p=>k p.1 p.2:=by
 have gen:=gen_case (T:=T) hK h H k (.fieldAddr s x m)
 unfold faC
 split
 ·rename_i i y hi hy
  have ey:=koOf_ev hy h
  split
  ·rename_i fs hd
   split
   ·rename_i f hf
    split
    ·rename_i j hj
     split
     ·exact gen
     ·rename_i hz
      show y.getR t (fun a=>faR f.offset a (stepK T K t H (.fieldAddr s x m) k) fun v=>k v H)=_
      rw [KO.getR_eq]
      rcases faR_eq f.offset (y.ev t) (stepK T K t H (.fieldAddr s x m) k) (fun v=>k v H) with e|⟨b,o,e1,e2⟩
      ·rw [e];exact gen
      ·rw [e2,val_case H k (v:=.pointer (some ⟨b,o+f.offset,none⟩)) rfl]
       rw [e1] at ey
       simp [aval,apure,hi,hd,hf,hj,ey,hz]
    ·exact gen
   ·exact gen
  ·exact gen
 ·exact gen
theorem ix_case (s:TypeId) (x ix:Operand):stepR T K t H (ixC T s x ix (.indexAddr s x ix)) k=(astep T C (evOp env) H (.indexAddr s x ix)).bind fun p=>k p.1 p.2:=by
 have gen:=gen_case (T:=T) hK h H k (.indexAddr s x ix)
 unfold ixC
 split
 ·rename_i i y z hi hy hz
  have ey:=koOf_ev hy h
  have ez:=koOf_ev hz h
  split
  ·rename_i e hd
   split
   ·rename_i j hj
    show y.getR t (fun a=>z.getR t fun q=>ixR j.size a q (stepK T K t H (.indexAddr s x ix) k) fun v=>k v H)=_
    simp only [KO.getR_eq]
    rcases ixR_eq j.size (y.ev t) (z.ev t) (stepK T K t H (.indexAddr s x ix) k) (fun v=>k v H) with e|⟨b,o,len,c,m,e1,e2,e3,e4⟩
    ·rw [e];exact gen
    ·rw [e4,val_case H k (v:=.pointer (some ⟨b,o+m*j.size,none⟩)) rfl]
     rw [e1] at ey
     rw [e2] at ez
     have hp:apure T (evOp env) (.indexAddr s x ix)=some (.pointer (some ⟨b,o+m*j.size,none⟩)):=by
      simp only [apure,hi,ey,ez,Option.bind_eq_bind,Option.bind_some,asI,hd,hj]
      rw [if_pos ⟨Int.natCast_nonneg m,by simpa using e3⟩]
      rfl
     simp only [aval,hp]
   ·exact gen
  ·exact gen
 ·exact gen
theorem store_case (s:TypeId) (a x:Operand):stepR T K t H (storeC T s a x (.store s a x)) k=(astep T C (evOp env) H (.store s a x)).bind fun p=>k p.1 p.2:=by
 have gen:=gen_case (T:=T) hK h H k (.store s a x)
 unfold storeC
 split
 ·rename_i i y z hi hy hz
  have ey:=koOf_ev hy h
  have ez:=koOf_ev hz h
  show y.getR t (fun p=>z.getR t fun v=>storeR i.size H p v (stepK T K t H (.store s a x) k) fun H'=>k undef H')=_
  simp only [KO.getR_eq]
  rcases storeR_eq i.size H (y.ev t) (z.ev t) (stepK T K t H (.store s a x) k) (fun H'=>k undef H') with e|⟨b,o,vs,g,vs',e1,e2,e3,e4,e5⟩
  ·rw [e];exact gen
  ·rw [e5]
   rw [e1] at ey
   have:astep T C (evOp env) H (.store s a x)=some (undef,H.put b (some (.cells vs' true g))):=by
    have hs:aeff T (evOp env) H (.store s a x)=some (undef,H.put b (some (.cells vs' true g))):=by
     simp only [aeff,hi,ey,ez,Option.bind_eq_bind,Option.bind_some]
     rw [if_pos e2]
     simp [Heap.write,e3,e4]
    exact hs
   rw [this];rfl
 ·exact gen
theorem box_case (s:TypeId) (x:Operand):stepR T K t H (boxC x (.box s x)) k=(astep T C (evOp env) H (.box s x)).bind fun p=>k p.1 p.2:=by
 unfold boxC
 split
 ·rename_i y hy
  have ey:=koOf_ev hy h
  show y.getR t (fun v=>fVs v.cells.toList fun l=>H.pushR (.cells l true 0) fun b H'=>k (.pointer (some ⟨b,0,none⟩)) H')=_
  simp only [KO.getR_eq,fVs_eq,Heap.pushR_eq]
  have:astep T C (evOp env) H (.box s x)=some (.pointer (some ⟨H.next,0,none⟩),H.push (.cells (y.ev t).cells.toList true 0)):=by
   simp [astep,okind,aalloc,ey]
  rw [this];rfl
 ·exact gen_case hK h H k _
theorem pe_case {op:Op} {f:VT→Heap→EdR} (hk:okind T op=.E) (hc:∀ c,op=.call c→∀ g,c.callee≠.value g) (hf:edH H (f t H)=aeff T (evOp env) H op):stepR T K t H (.pe f) k=(astep T C (evOp env) H op).bind fun p=>k p.1 p.2:=by
 show oR (f t H) none (fun p=>pR p fun v es=>apK H es fun H'=>fV v fun v=>k v H')=_
 have:astep T C (evOp env) H op=edH H (f t H):=by
  rw [hf]
  simp only [astep,hk,aE]
  cases op with
  | call c=>cases hcc:c.callee with
   | value g=>exact absurd hcc (hc c rfl g)
   | _=>simp only [hcc]
  | _=>rfl
 rw [this]
 cases f t H with
 | none=>rfl
 | some p=>simp [edH,apK_eq]
theorem ap_case (c:Call) (hc:c.callee=.builtin .append):stepR T K t H (apC T c) k=(astep T C (evOp env) H (.call c)).bind fun p=>k p.1 p.2:=by
 have gen:=gen_case (T:=T) hK h H k (.call c)
 unfold apC
 split
 ·rename_i s x ty u ha hty
  split
  ·rename_i s' x' i i' hs hx hi hi'
   split
   ·exact gen
   ·rename_i e hd hni
    split
    ·rename_i j hj
     refine pe_case hK h H k (by simp [okind,hc]) (fun c' e' g=>by cases e';rw [hc];simp) ?_
     rw [aeffE_eq]
     congr 1
     simp only [aeffE,hc,ha,hty,effBuiltinE,hi,hi',Option.bind_eq_bind,Option.bind_some,koOf_ev hs h,koOf_ev hx h,hd,apF]
     generalize i'.d=dj at hni
     cases dj with
     | int q=>exact (hni q rfl).elim
     | _ =>
      simp only [hj,Option.bind_some]
      cases srcCells H j.size (x'.ev t)<;>rfl
    ·exact gen
   ·exact gen
  ·exact gen
 ·exact gen
theorem call_case (c:Call):stepR T K t H (callC T c) k=(astep T C (evOp env) H (.call c)).bind fun p=>k p.1 p.2:=by
 have gen:=gen_case (T:=T) hK h H k (.call c)
 unfold callC
 split
 ·rename_i hc;exact ap_case hK h H k c hc
 ·rename_i f hc
  split
  ·rename_i f' l hf hl
   have ef:=koOf_ev hf h
   have el:=kosOf_ev hl h
   show f'.getR t (fun fv=>kosR l t fun l=>K fv l H k)=_
   simp only [KO.getR_eq,kosR_eq]
   have:astep T C (evOp env) H (.call c)=C (f'.ev t) (l.map (·.ev t)) H:=by
    simp [astep,okind,hc,aE,acall,ef,el]
   rw [this]
   exact hK _ _ _ _
  ·exact gen
 ·rename_i hc
  split
  ·rename_i x ty hx hty
   split
   ·rename_i i y hi hy
    split
    ·rename_i e hd
     have ey:=koOf_ev hy h
     show y.getR t (fun a=>oR (pLen a) (stepK T K t H (.call c) k) fun n=>k (.int .i64 (.ofNat n)) H)=_
     rw [KO.getR_eq]
     cases hp:pLen (y.ev t) with
     | none=>rw [oR_none];exact gen
     | some m =>
      obtain ⟨a,c',e1⟩:=pLen_some hp
      rw [e1] at ey
      rw [oR_some,val_case H k (v:=.int .i64 (.ofNat m)) (by simp [okind,hc])]
      have hq:apure T (evOp env) (.call c)=some (.int .i64 (.ofNat m)):=by
       simp only [apure,hc,hx,hty,pureBuiltin,hi,ey,hd,Option.bind_eq_bind,Option.bind_some]
       rfl
      simp only [aval,hq]
    ·exact gen
   ·exact gen
  ·exact gen
 ·exact gen
theorem pv_case {op:Op} {f:VT→Heap→Option Value} (hk:okind T op=.V) (hf:f t H=aval T (evOp env) H op):stepR T K t H (.pv f) k=(astep T C (evOp env) H op).bind fun p=>k p.1 p.2:=by
 show oR (f t H) none (fun v=>fV v fun v=>k v H)=_
 rw [hf]
 simp only [astep,hk,fV_eq]
 cases aval T (evOp env) H op<;>rfl
theorem pa_case {op:Op} {f:VT→Option (AObj×(Nat→Value))} (hk:okind T op=.A) (hf:f t=aalloc T (evOp env) op):stepR T K t H (.pa f) k=(astep T C (evOp env) H op).bind fun p=>k p.1 p.2:=by
 show oR (f t) none (fun p=>pR p fun o g=>fObj o fun o=>H.pushR o fun b H'=>fV (g b) fun v=>k v H')=_
 rw [hf]
 simp only [astep,hk]
 cases aalloc T (evOp env) op with
 | none=>rfl
 | some p=>simp
theorem un_case (o:UnOp) (ty:TypeId) (x:Operand):stepR T K t H (unC o x (.unOp o ty x)) k=(astep T C (evOp env) H (.unOp o ty x)).bind fun p=>k p.1 p.2:=by
 unfold unC
 split
 ·rename_i y hy
  refine pv_case hK h H k rfl ?_
  have hp:apure T (evOp env) (.unOp o ty x)=aun o (y.ev t):=by simp [apure,koOf_ev hy h]
  simp only [aval,hp,unF,aread]
  cases aun o (y.ev t)<;>rfl
 ·exact gen_case hK h H k _
theorem ex_case (x:Operand) (m:Nat):stepR T K t H (exC x m (.extract x m)) k=(astep T C (evOp env) H (.extract x m)).bind fun p=>k p.1 p.2:=by
 unfold exC
 split
 ·rename_i y hy
  refine pv_case hK h H k rfl ?_
  have hp:apure T (evOp env) (.extract x m)=exF m y t H:=by simp only [apure,koOf_ev hy h,Option.bind_eq_bind,Option.bind_some,exF];rfl
  simp only [aval,hp,aread]
  cases exF m y t H<;>rfl
 ·exact gen_case hK h H k _
theorem nil_case (x:Operand):stepR T K t H (nilC x (.nilCheck x)) k=(astep T C (evOp env) H (.nilCheck x)).bind fun p=>k p.1 p.2:=by
 unfold nilC
 split
 ·rename_i y hy
  refine pv_case hK h H k rfl ?_
  have hp:apure T (evOp env) (.nilCheck x)=nilF y t H:=by simp [apure,koOf_ev hy h,nilF]
  simp only [aval,hp,aread]
  cases nilF y t H<;>rfl
 ·exact gen_case hK h H k _
theorem new_case (ty:TypeId):stepR T K t H (newC T ty (.alloc ty)) k=(astep T C (evOp env) H (.alloc ty)).bind fun p=>k p.1 p.2:=by
 unfold newC
 split
 ·rename_i i hi
  refine pa_case hK h H k rfl ?_
  simp [aalloc,hi,newF]
 ·exact gen_case hK h H k _
theorem cv_case (s d:TypeId) (x:Operand):stepR T K t H (cvC T s d x (.convert s d x)) k=(astep T C (evOp env) H (.convert s d x)).bind fun p=>k p.1 p.2:=by
 unfold cvC
 split
 ·rename_i i j y hi hj hy
  split
  ·rename_i q0 q hd hd'
   have hkd:okind T (.convert s d x)=.V:=by
    obtain ⟨d1,_,_,_,_⟩:=i
    obtain ⟨d2,_,_,_,_⟩:=j
    simp only at hd hd'
    subst hd;subst hd'
    simp [okind,hi,hj]
   refine pv_case hK h H k hkd ?_
   have e1:apure T (evOp env) (.convert s d x)=cvF q y t H:=by
    simp only [apure,koOf_ev hy h,Option.bind_eq_bind,Option.bind_some,aconv,hi,hj,hd,hd',cvF]
    cases y.ev t<;>rfl
   have e2:aread T (evOp env) H (.convert s d x)=none:=by
    simp [aread,hi,hj,hd,hd',koOf_ev hy h]
   simp only [aval,e1,e2]
   cases cvF q y t H<;>rfl
  ·exact gen_case hK h H k _
 ·exact gen_case hK h H k _
theorem stepR_eq (op:Op):stepR T K t H (cop T op) k=(astep T C (evOp env) H op).bind fun p=>k p.1 p.2:=by
 cases op with
 | move x=>exact mv_case hK h H k (.inl rfl)
 | assign x=>exact mv_case hK h H k (.inr rfl)
 | pick c a b=>exact pick_case hK h H k c a b
 | binOp o ty x y u=>exact bin_case hK h H k o ty x y u
 | load ty x=>exact load_case hK h H k ty x
 | fieldAddr s x m=>exact fa_case hK h H k s x m
 | indexAddr s x i=>exact ix_case hK h H k s x i
 | store s a x=>exact store_case hK h H k s a x
 | box s x=>exact box_case hK h H k s x
 | call c=>exact call_case hK h H k c
 | convert s d x=>exact cv_case hK h H k s d x
 | unOp o ty x=>exact un_case hK h H k o ty x
 | extract x m=>exact ex_case hK h H k x m
 | nilCheck x=>exact nil_case hK h H k x
 | alloc ty=>exact new_case hK h H k ty
 | _=>exact gen_case hK h H k _
end
end Go.Ev
namespace Go.Ev
structure CO where
 dst:Option Tmp
 g:Option (Nat×Bool)
 c:Cop
 kd:Kd
 rd:Bool
def coOf (T:Tab) (o:Oper):CO:=⟨o.dst,o.guard,cop T o.op,okind T o.op,isRead o.op⟩
def cosOf (T:Tab) (l:List Oper):List CO:=l.map (coOf T)
section
variable {α β:Type}
noncomputable def dstR (t:VT) (dst:Option Tmp) (v:Value) (k:VT→β):β:=Option.rec (motive:=fun _=>β) (k t) (fun d=>VT.putR v t d k) dst
noncomputable def wantR (ops:Array Oper) (t:VT) (g:Option (Nat×Bool)) (yes no:β):β:=Option.rec (motive:=fun _=>β) yes (fun p=>bc (yieldedK ops t p.1==some p.2) yes no) g
theorem dstR_eq {n:Nat} {t:VT} {env:Array Value} (h:VRep n t env) (d:Option Tmp) (v:Value):∃ t',VRep n t' (cput env d v)∧∀ k:VT→β,dstR t d v k=k t':=by
 cases d with
 | none=>exact ⟨t,h,fun k=>rfl⟩
 | some d=>exact ⟨t.put v d,h.put d v,fun k=>VT.putR_eq v t d k⟩
theorem wantR_eq {n:Nat} {t:VT} {env:Array Value} (h:VRep n t env) (ops:Array Oper) (o:Oper) (yes no:β):wantR ops t o.guard yes no=if Region.wanted o (yielded ops env) then yes else no:=by
 rw [←wantedK_eq h]
 unfold wantR wantedK
 cases o.guard with
 | none=>rfl
 | some p=>simp
noncomputable def seqR (T:Tab) (K:CallK α) (ops:Array Oper) (l:List CO):VT→Heap→(VT→Heap→Option α)→Option α :=
 List.rec (motive:=fun _=>VT→Heap→(VT→Heap→Option α)→Option α) (fun t H k=>k t H)
  (fun o _ ih t H k=>CO.rec (motive:=fun _=>Option α) (fun dst g c _ _=>wantR ops t g (stepR T K t H c fun v H'=>dstR t dst v fun t'=>ih t' H' k) (dstR t dst undef fun t'=>ih t' H k)) o) l
theorem seqR_cons (T:Tab) (K:CallK α) (ops:Array Oper) (o:Oper) (l:List CO) (t:VT) (H:Heap) (k:VT→Heap→Option α) :
  seqR T K ops (coOf T o::l) t H k=wantR ops t o.guard (stepR T K t H (cop T o.op) fun v H'=>dstR t o.dst v fun t'=>seqR T K ops l t' H' k) (dstR t o.dst undef fun t'=>seqR T K ops l t' H k):=rfl
theorem seqR_eq {T:Tab} {C:CallSem} {K:CallK α} (hK:CKOK C K) {n:Nat} (ops:Array Oper) {k:VT→Heap→Option α} {k':Array Value→Heap→Option α} (hk:∀ t env H,VRep n t env→k t H=k' env H) :
  ∀ (os:List Oper) (l:List Nat),All2 (fun i o=>ops[i]?=some o) l os→∀ {t:VT} {env:Array Value} {H:Heap},VRep n t env→seqR T K ops (cosOf T os) t H k=(evalSeq T C ops l env H).bind fun p=>k' p.1 p.2
 | _,_,.nil,t,env,H,h=>by simp [cosOf,evalSeq];exact hk _ _ _ h
 | _,_,.cons (a:=i) (b:=o) (x:=l) (y:=os) ho hl,t,env,H,h=>by
  have ih:=fun {t env H} h=>seqR_eq (T:=T) hK ops hk os l hl (t:=t) (env:=env) (H:=H) h
  show seqR T K ops (coOf T o::cosOf T os) t H k=_
  rw [seqR_cons,wantR_eq h]
  simp only [evalSeq,ho]
  split
  ·rw [stepR_eq hK h]
   cases astep T C (evOp env) H o.op with
   | none=>rfl
   | some p =>
    obtain ⟨t',h',e⟩:=dstR_eq (β:=Option α) h o.dst p.1
    simp only [Option.bind_some,e]
    exact ih h'
  ·obtain ⟨t',h',e⟩:=dstR_eq (β:=Option α) h o.dst undef
   simp only [e]
   exact ih h'
structure PO where
 i:Nat
 m:Nat
 o:CO
noncomputable def keptR (m:Nat) (l:List PendK) (k:List PendK→β):β :=
 List.rec (motive:=fun _=>(List PendK→β)→β) (fun k=>k []) (fun p _ ih k=>bc (m.testBit p.i) (ih k) (ih fun r=>k (p::r))) l k
theorem keptR_eq (m:Nat):∀ (l:List PendK) (k:List PendK→β),keptR m l k=k (l.filter fun p=>!m.testBit p.i)
 | [],_=>rfl
 | p::r,k=>by
  show bc (m.testBit p.i) (keptR m r k) (keptR m r fun r=>k (p::r))=_
  simp only [bc_eq,keptR_eq m r,List.filter_cons]
  cases m.testBit p.i<;>simp
noncomputable def drawR (T:Tab) (K:CallK α) (ops:Array Oper) (l:List PO):VT→Heap→List PendK→(VT→Heap→Option α)→Option α :=
 List.rec (motive:=fun _=>VT→Heap→List PendK→(VT→Heap→Option α)→Option α) (fun t H _ k=>k t H)
  (fun o _ ih t H ps k=>PO.rec (motive:=fun _=>Option α) (fun i m o=>CO.rec (motive:=fun _=>Option α) (fun dst g c kd rd =>
   wantR ops t g
    (Kd.rec (motive:=fun _=>Option α)
     (stepR T K t H c fun v H'=>dstR t dst v fun t'=>ih t' H' (bc rd (⟨i,t,v⟩::ps) ps) k)
     (stepR T K t H c fun v H'=>dstR t dst v fun t'=>ih t' H' ps k)
     (stepR T K t H c fun v H'=>keptR m ps fun qs=>bc (qs.all (againK T ops H')) (dstR t dst v fun t'=>ih t' H' qs k) none) kd)
    (dstR t dst undef fun t'=>ih t' H ps k)) o) o) l
theorem drawR_cons (T:Tab) (K:CallK α) (ops:Array Oper) (i m:Nat) (o:Oper) (l:List PO) (t:VT) (H:Heap) (ps:List PendK) (k:VT→Heap→Option α) :
  drawR T K ops (⟨i,m,coOf T o⟩::l) t H ps k=wantR ops t o.guard
    (Kd.rec (motive:=fun _=>Option α)
     (stepR T K t H (cop T o.op) fun v H'=>dstR t o.dst v fun t'=>drawR T K ops l t' H' (bc (isRead o.op) (⟨i,t,v⟩::ps) ps) k)
     (stepR T K t H (cop T o.op) fun v H'=>dstR t o.dst v fun t'=>drawR T K ops l t' H' ps k)
     (stepR T K t H (cop T o.op) fun v H'=>keptR m ps fun qs=>bc (qs.all (againK T ops H')) (dstR t o.dst v fun t'=>drawR T K ops l t' H' qs k) none) (okind T o.op))
    (dstR t o.dst undef fun t'=>drawR T K ops l t' H ps k):=rfl
def PlanIs (T:Tab) (ops:Array Oper) (ms:List Nat) (i:Nat) (p:PO):Prop:=∃ o,ops[i]?=some o∧p=⟨i,ms.getD i 0,coOf T o⟩
theorem drawR_eq {T:Tab} {C:CallSem} {K:CallK α} (hK:CKOK C K) {n:Nat} (ops:Array Oper) (ms:List Nat) {k:VT→Heap→Option α} {k':Array Value→Heap→Option α} (hk:∀ t env H,VRep n t env→k t H=k' env H) :
  ∀ (l:List Nat) (pl:List PO),All2 (PlanIs T ops ms) l pl→∀ {t:VT} {env:Array Value} {H:Heap} {ps:List PendK} {qs:List Pend},VRep n t env→All2 (PRep n) ps qs→drawR T K ops pl t H ps k=(evalDraw T C ops ms l env H qs).bind fun p=>k' p.1 p.2
 | _,_,.nil,t,env,H,ps,qs,h,hp=>by simp [evalDraw];exact hk _ _ _ h
 | _,_,.cons (a:=i) (b:=po) (x:=l) (y:=pl) hpo hl,t,env,H,ps,qs,h,hp=>by
  have ih:=fun {t env H ps qs} h hp=>drawR_eq (T:=T) hK ops ms hk l pl hl (t:=t) (env:=env) (H:=H) (ps:=ps) (qs:=qs) h hp
  obtain ⟨o,ho,rfl⟩:=hpo
  rw [drawR_cons,wantR_eq h]
  simp only [evalDraw,ho]
  split
  ·cases hkd:okind T o.op with
   | V =>
    dsimp only
    rw [stepR_eq hK h]
    simp only [astep,hkd]
    cases aval T (evOp env) H o.op with
    | none=>rfl
    | some v =>
     obtain ⟨t',h',e⟩:=dstR_eq (β:=Option α) h o.dst v
     simp only [Option.map_some,Option.bind_some,e,bc_eq]
     refine ih h' ?_
     split
     ·exact .cons ⟨rfl,rfl,h⟩ hp
     ·exact hp
   | A =>
    dsimp only
    rw [stepR_eq hK h]
    simp only [astep,hkd]
    cases aalloc T (evOp env) o.op with
    | none=>rfl
    | some p =>
     obtain ⟨t',h',e⟩:=dstR_eq (β:=Option α) h o.dst (p.2 H.next)
     simp only [Option.map_some,Option.bind_some,e]
     exact ih h' hp
   | E =>
    dsimp only
    rw [stepR_eq hK h]
    simp only [astep,hkd]
    cases aE T C (evOp env) H o.op with
    | none=>rfl
    | some p =>
     simp only [Option.bind_some,keptR_eq,bc_eq,PRep.all (PRep.filter hp)]
     split
     ·obtain ⟨t',h',e⟩:=dstR_eq (β:=Option α) h o.dst p.1
      simp only [e]
      exact ih h' (PRep.filter hp)
     ·rfl
  ·obtain ⟨t',h',e⟩:=dstR_eq (β:=Option α) h o.dst undef
   simp only [e]
   exact ih h' hp
def dstIs (d:Option Tmp) (t:Nat):Bool:=match d with
 | some x=>Nat.beq x t
 | none=>false
theorem dstIs_eq (d:Option Tmp) (t:Tmp):(d != some t)=!(dstIs d t):=by
 cases d with
 | none=>rfl
 | some x =>
  show (!(some x==some t))=!(Nat.beq x t)
  congr 1
  rw [nbeq,Bool.eq_iff_iff]
  simp
def dstsL (size:Nat):List (Option Tmp)→Bool
 | []=>true
 | o::r=>(match o with
  | none=>true
  | some d=>Nat.ble (Nat.succ d) size&&r.all fun p=>!(dstIs p d))&&dstsL size r
theorem dstsL_eq (size:Nat):∀ l:List Oper,dstsOK size l=dstsL size (l.map (·.dst))
 | []=>rfl
 | o::r=>by
  simp only [dstsOK,dstsL,List.map_cons,dstsL_eq size r]
  congr 1
  cases o.dst with
  | none=>rfl
  | some d =>
   dsimp only
   congr 1
   ·rw [Bool.eq_iff_iff,decide_eq_true_eq]
    exact (iff_of_eq (Nat.ble_eq (x:=d+1) (y:=size))).symm
   ·rw [List.all_map]
    congr 1
    funext p
    exact dstIs_eq _ _
def namesL (ops:Array Oper) (ms:List Nat) (zs:List (Oper×Nat)) (ds:List (Option Tmp×Nat)):Bool :=
 zs.all fun p=>(looks ops p.1).all fun t=>ds.all fun q=>!(dstIs q.1 t) || Nat.beq p.2 q.2 || (ms.getD p.2 0).testBit q.2 || (ms.getD q.2 0).testBit p.2
theorem range_all {f:Nat→Oper→Bool} (ops:Array Oper):((List.range ops.size).all fun i=>match ops[i]? with|none=>true|some o=>f i o)=ops.toList.zipIdx.all fun p=>f p.2 p.1:=by
 rw [Bool.eq_iff_iff,List.all_eq_true,List.all_eq_true]
 constructor
 ·rintro h ⟨o,i⟩ hm
  rw [List.mem_zipIdx_iff_getElem?] at hm
  simp only [Array.getElem?_toList] at hm
  have hi:=lt_of_get hm
  have:=h i (by simp;exact hi)
  rw [hm] at this
  exact this
 ·intro h i hi
  have hi':i < ops.size:=by simpa using hi
  have e:ops[i]?=some ops[i]:=Array.getElem?_eq_getElem hi'
  rw [e]
  exact h (ops[i],i) (by rw [List.mem_zipIdx_iff_getElem?];simp)
theorem namesL_eq (ops:Array Oper) (ms:List Nat):namesOK ops ms=namesL ops ms ops.toList.zipIdx (ops.toList.zipIdx.map fun p=>(p.1.dst,p.2)):=by
 unfold namesOK namesL
 refine (range_all (f:=fun i o=>(looks ops o).all fun t=>(List.range ops.size).all fun j=>match ops[j]? with
  | none=>true
  | some p=>p.dst != some t || i==j || (ms.getD i 0).testBit j || (ms.getD j 0).testBit i) ops).trans ?_
 congr 1
 funext p
 congr 1
 funext t
 refine (range_all (f:=fun j q=>q.dst != some t || p.2==j || (ms.getD p.2 0).testBit j || (ms.getD j 0).testBit p.2) ops).trans ?_
 rw [List.all_map]
 congr 1
 funext q
 have:(p.2==q.2)=Nat.beq p.2 q.2:=by rw [nbeq,Bool.eq_iff_iff];simp
 simp only [dstIs_eq,this,Function.comp]
def planned' (T:Tab) (ops:Array Oper) (n:Nat):Option (List Nat×List Nat) :=
 fNats (masks ops) fun ms=>fNats (plan T ops ms) fun l =>
  bif planOK T ops ms l 0&&dstsL n (ops.toList.map (·.dst))&&namesL ops ms ops.toList.zipIdx (ops.toList.zipIdx.map fun p=>(p.1.dst,p.2))&&ops.toList.all (fun o=>plainOp o.op) then some (ms,l) else none
theorem planned'_eq (T:Tab) (ops:Array Oper) (n:Nat):planned' T ops n=planned T ops n:=by
 simp only [planned',planned,fNats_eq,dstsL_eq,namesL_eq,cond_eq_ite,Array.all_toList]
def posOf (T:Tab) (ops:Array Oper) (ms:List Nat):List Nat→Option (List PO)
 | []=>some []
 | i::l=>match ops[i]?,posOf T ops ms l with
  | some o,some r=>some (⟨i,ms.getD i 0,coOf T o⟩::r)
  | _,_=>none
theorem posOf_is {T:Tab} {ops:Array Oper} {ms:List Nat}:∀ {l:List Nat} {r:List PO},posOf T ops ms l=some r→All2 (PlanIs T ops ms) l r
 | [],r,h=>by simp only [posOf,Option.some.injEq] at h;subst h;exact .nil
 | i::l,r,h=>by
  simp only [posOf] at h
  split at h
  ·rename_i o r' ho hr
   cases h
   exact .cons ⟨o,ho,rfl⟩ (posOf_is hr)
  ·cases h
def fPOs {γ:Type}:List PO→(List PO→γ)→γ
 | [],k=>k []
 | ⟨i,m,o⟩::r,k=>fNat i fun i=>fNat m fun m=>fPOs r fun r=>k (⟨i,m,o⟩::r)
@[simp] theorem fPOs_eq {γ:Type}:∀ (l:List PO) (k:List PO→γ),fPOs l k=k l
 | [],_=>rfl
 | ⟨i,m,o⟩::r,k=>by simp [fPOs,fPOs_eq r]
def planR (T:Tab) (ops:Array Oper) (n:Nat):Option (List PO) :=
 match planned' T ops n with
 | some (ms,l)=>match posOf T ops ms l with
  | some r=>fPOs r some
  | none=>none
 | none=>none
def plainAll (ops:Array Oper):Bool:=ops.toList.all (fun o=>plainOp o.op)
noncomputable def regionR (T:Tab) (K:CallK α) (n:Nat) (ops:Array Oper) (draw:Bool) (t:VT) (H:Heap) (k:VT→Heap→Option α):Option α :=
 bc draw (oR (planR T ops n) (swapK T K n ops t H k) fun l=>drawR T K ops l t H [] k) (bc (plainAll ops) (seqR T K ops (cosOf T ops.toList) t H k) none)
theorem planned_pos {T:Tab} {ops:Array Oper} {n:Nat} {ms l:List Nat} (h:planned T ops n=some (ms,l)):∃ r,posOf T ops ms l=some r:=by
 have hall:∀ i∈l,∃ o,ops[i]?=some o:=by
  simp only [planned,fNats_eq] at h
  split at h
  ·rename_i hc
   cases h
   simp only [Bool.and_eq_true] at hc
   have:=hc.1.1.1
   have go:∀ (l:List Nat) (seen:Nat),planOK T ops (masks ops) l seen=true→∀ i∈l,∃ o,ops[i]?=some o:=by
    intro l
    induction l with
    | nil=>intro _ _ i hi;cases hi
    | cons j l ih =>
     intro seen hp i hi
     simp only [planOK] at hp
     split at hp
     ·cases hp
     ·rename_i o ho
      simp only [Bool.and_eq_true] at hp
      rcases List.mem_cons.1 hi with rfl|hi
      ·exact ⟨o,ho⟩
      ·exact ih _ hp.2 i hi
   exact go _ _ this
  ·cases h
 clear h
 induction l with
 | nil=>exact ⟨[],rfl⟩
 | cons i l ih =>
  obtain ⟨o,ho⟩:=hall i (by simp)
  obtain ⟨r,hr⟩:=ih fun j hj=>hall j (by simp [hj])
  exact ⟨⟨i,ms.getD i 0,coOf T o⟩::r,by simp only [posOf,ho,hr]⟩
theorem regionR_eq {T:Tab} {C:CallSem} {K:CallK α} (hK:CKOK C K) {n:Nat} (ops:Array Oper) (draw:Bool) {k:VT→Heap→Option α} {k':Array Value→Heap→Option α} (hk:∀ t env H,VRep n t env→k t H=k' env H)
  {t:VT} {env:Array Value} {H:Heap} (h:VRep n t env):regionR T K n ops draw t H k=(evalRegion T C ops draw env H).bind fun p=>k' p.1 p.2:=by
 unfold regionR
 rw [bc_eq]
 cases draw with
 | true =>
  simp only [if_true,planR,planned'_eq]
  cases hp:planned T ops n with
  | none =>
   simp only [oR_none]
   simp only [planned,fNats_eq] at hp
   split at hp
   ·cases hp
   ·rename_i hc
    unfold evalRegion
    simp only [if_true,h.1]
    rw [if_neg hc]
    exact swapK_eq hK ops hk h
  | some q =>
   obtain ⟨ms,l⟩:=q
   obtain ⟨r,hr⟩:=planned_pos hp
   simp only [hr,fPOs_eq,oR_some]
   simp only [planned,fNats_eq] at hp
   split at hp
   ·rename_i hc
    cases hp
    unfold evalRegion
    simp only [if_true,h.1]
    rw [if_pos hc]
    exact drawR_eq hK ops _ hk _ _ (posOf_is hr) h .nil
   ·cases hp
 | false =>
  simp only [Bool.false_eq_true,if_false,bc_eq,plainAll,Array.all_toList]
  unfold evalRegion
  simp only [Bool.false_eq_true,if_false]
  split
  ·exact seqR_eq hK ops hk _ _ (range_ops ops) h
  ·rfl
end
end Go.Ev
namespace Go.Ev
abbrev KC (α:Type):=AExit→VT→Heap→Option α
abbrev CodeF (α:Type):=VT→Heap→KC α→Option α
section
variable {α β:Type}
noncomputable def exR (e:AExit) (n:β) (x:Nat→β) (r:β):β:=AExit.rec (motive:=fun _=>β) n x r e
noncomputable def loopR (step:CodeF α) (n:Nat):CodeF α :=
 Nat.rec (motive:=fun _=>CodeF α) (fun _ _ _=>none) (fun _ ih t H k=>step t H fun e t' H'=>exR e (ih t' H' k) (fun id=>k (.exit id) t' H') (k .ret t' H')) n
noncomputable def condR (t:VT) (c:Option KO) (x y:Option α):Option α:=oR c none fun c=>c.getR t fun v=>oR (pB v) none fun b=>bc b x y
noncomputable def rangeR (T:Tab) (K:CallK α) (fn:FuncId) (rd:Option Nat) (n:Nat) (f:Operand) (params:Array Tmp) (assign body:Code) (t:VT) (H:Heap) (k:KC α):Option α :=
 oR (koOf f) none fun f=>f.getR t fun fv =>
 bc (isLoop H rd)
  (t.listK n 0 fun env=>H.pushR (.loop .ready none fn ⟨env⟩ params assign body) fun l H1 =>
   K fv [.func (.yield l) #[] #[]] H1 fun _ H2 =>
    match H2.get l with
    | some (.loop st pend fn' env' params' assign' body') =>
     if st=.busy then none else
     H2.putR l (some (.loop .exhausted pend fn' env' params' assign' body')) fun H3=>jumpK pend t H3 k
    | _=>none) none
noncomputable def codeR (T:Tab) (K:CallK α) (nf:Nat) (fn:FuncId) (rd:Option Nat) (n:Nat) (c:Code):CodeF α :=
 Code.rec (motive:=fun _=>CodeF α)
  (fun t H k=>k .normal t H)
  (fun _ ops draw t H k=>regionR T K n ops draw t H fun t H=>k .normal t H)
  (fun _ _ iha ihb t H k=>iha t H fun e t' H'=>exR e (ihb t' H' k) (fun id=>k (.exit id) t' H') (k .ret t' H'))
  (fun c _ _ ihx ihy t H k=>condR t (koOf c) (ihx t H k) (ihy t H k))
  (fun id _ ih t H k=>ih t H fun e t' H'=>exR e (k .normal t' H') (fun id'=>bc (Nat.beq id' id) (k .normal t' H') (k (.exit id') t' H')) (k .ret t' H'))
  (fun _ ih t H k=>loopR ih nf t H k)
  (fun f params assign body _ _ t H k=>rangeR T K fn rd n f params assign body t H k)
  (fun id t H k=>k (.exit id) t H)
  (fun _ _ _ _ _=>none)
  (fun _ _ _ _=>none)
  (fun _ _ _ _=>none)
  (fun t H k=>k .ret t H)
  (fun _ _ _ _=>none) c
theorem koOf_none {x:Operand} (h:koOf x=none) (env:Array Value):evOp env x=none:=by
 cases x with
 | tmp i=>cases h
 | const v =>
  simp only [koOf] at h
  split at h
  ·cases h
  ·simp_all [evOp]
 | global _=>rfl
 | func f=>cases h
theorem codeR_eq {T:Tab} {C:CallSem} {K:CallK α} (hK:CKOK C K) (nf:Nat) (fn:FuncId) (rd:Option Nat) {n:Nat}:∀ (c:Code) {k:KC α} {k':AExit→Array Value→Heap→Option α}
  (hk:∀ e t env H,VRep n t env→k e t H=k' e env H) {t:VT} {env:Array Value} {H:Heap},VRep n t env→codeR T K nf fn rd n c t H k=(evalCode T C nf fn rd c env H).bind fun p=>k' p.1 p.2.1 p.2.2:=by
 intro c
 induction c with
 | skip=>intro k k' hk t env H h;exact hk _ _ _ _ h
 | region id ops draw =>
  intro k k' hk t env H h
  show regionR T K n ops draw t H (fun t H=>k .normal t H)=_
  simp only [evalCode]
  rw [regionR_eq (C:=C) (k':=fun env H=>k' .normal env H) hK ops draw (fun t env H h=>hk .normal t env H h) h]
  cases evalRegion T C ops draw env H<;>rfl
 | seq a b iha ihb =>
  intro k k' hk t env H h
  show codeR T K nf fn rd n a t H (fun e t' H'=>exR e (codeR T K nf fn rd n b t' H' k) (fun id=>k (.exit id) t' H') (k .ret t' H'))=_
  simp only [evalCode]
  rw [iha (k':=fun e env' H'=>match e with
   | .normal=>(evalCode T C nf fn rd b env' H').bind fun p=>k' p.1 p.2.1 p.2.2
   | .ret=>k' .ret env' H'
   | .exit id=>k' (.exit id) env' H') (fun e t env H h=>by
    cases e with
    | normal=>exact ihb hk h
    | ret=>exact hk _ _ _ _ h
    | exit id=>exact hk _ _ _ _ h) h]
  cases evalCode T C nf fn rd a env H with
  | none=>rfl
  | some p =>
   obtain ⟨e,env',H'⟩:=p
   cases e<;>rfl
 | cond c x y ihx ihy =>
  intro k k' hk t env H h
  show condR t (koOf c) (codeR T K nf fn rd n x t H k) (codeR T K nf fn rd n y t H k)=_
  simp only [evalCode,condR]
  cases hc:koOf c with
  | none=>rw [koOf_none hc];rfl
  | some c' =>
   rw [koOf_ev hc h]
   simp only [oR_some,KO.getR_eq,bc_eq]
   cases hv:c'.ev t with
   | bool b=>cases b with
    | true=>exact ihx hk h
    | false=>exact ihy hk h
   | _=>rfl
 | block id body ih =>
  intro k k' hk t env H h
  show codeR T K nf fn rd n body t H (fun e t' H'=>exR e (k .normal t' H') (fun id'=>bc (Nat.beq id' id) (k .normal t' H') (k (.exit id') t' H')) (k .ret t' H'))=_
  simp only [evalCode]
  rw [ih (k':=fun e env' H'=>match e with
   | .normal=>k' .normal env' H'
   | .ret=>k' .ret env' H'
   | .exit id'=>if id'=id then k' .normal env' H' else k' (.exit id') env' H') (fun e t env H h=>by
    cases e with
    | normal=>exact hk _ _ _ _ h
    | ret=>exact hk _ _ _ _ h
    | exit id' =>
     show bc (Nat.beq id' id) (k .normal t H) (k (.exit id') t H)=_
     rw [bc_eq,nbeq]
     simp only [decide_eq_true_eq]
     split
     ·exact hk _ _ _ _ h
     ·exact hk _ _ _ _ h) h]
  cases evalCode T C nf fn rd body env H with
  | none=>rfl
  | some p =>
   obtain ⟨e,env',H'⟩:=p
   cases e with
   | exit id' =>
    dsimp only [Option.bind_some]
    split<;>rfl
   | _=>rfl
 | loop body ih =>
  intro k k' hk t env H h
  show loopR (codeR T K nf fn rd n body) nf t H k=_
  simp only [evalCode]
  have go:∀ (m:Nat) {t:VT} {env:Array Value} {H:Heap},VRep n t env→loopR (codeR T K nf fn rd n body) m t H k=(loopN (evalCode T C nf fn rd body) m env H).bind fun p=>k' p.1 p.2.1 p.2.2:=by
   intro m
   induction m with
   | zero=>intro t env H h;rfl
   | succ m ihm =>
    intro t env H h
    show codeR T K nf fn rd n body t H (fun e t' H'=>exR e (loopR (codeR T K nf fn rd n body) m t' H' k) (fun id=>k (.exit id) t' H') (k .ret t' H'))=_
    simp only [loopN]
    rw [ih (k':=fun e env' H'=>match e with
     | .normal=>(loopN (evalCode T C nf fn rd body) m env' H').bind fun p=>k' p.1 p.2.1 p.2.2
     | .ret=>k' .ret env' H'
     | .exit id=>k' (.exit id) env' H') (fun e t env H h=>by
      cases e with
      | normal=>exact ihm h
      | ret=>exact hk _ _ _ _ h
      | exit id=>exact hk _ _ _ _ h) h]
    cases evalCode T C nf fn rd body env H with
    | none=>rfl
    | some p =>
     obtain ⟨e,env',H'⟩:=p
     cases e<;>rfl
  exact go nf h
 | rangeFunc f params assign body _ _ =>
  intro k k' hk t env H h
  show rangeR T K fn rd n f params assign body t H k=_
  simp only [evalCode,rangeR]
  cases hf:koOf f with
  | none=>rw [koOf_none hf];rfl
  | some f' =>
   rw [koOf_ev hf h]
   simp only [oR_some,KO.getR_eq,bc_eq,VT.listK_eq,h.list,Heap.pushR_eq]
   split
   ·rw [hK]
    cases C (f'.ev t) [.func (.yield H.next) #[] #[]] (H.push (.loop .ready none fn env params assign body)) with
    | none=>rfl
    | some p =>
     obtain ⟨v,H2⟩:=p
     simp only [Option.bind_some]
     cases H2.get H.next with
     | none=>rfl
     | some o=>cases o with
      | loop st pend fn' env' params' assign' body' =>
       simp only [Heap.putR_eq]
       split
       ·rfl
       ·unfold jumpK
        cases pend with
        | none=>exact hk _ _ _ _ h
        | some c=>cases c with
         | ret=>exact hk _ _ _ _ h
         | exit id=>exact hk _ _ _ _ h
         | _=>rfl
      | _=>rfl
   ·rfl
 | exit id=>intro k k' hk t env H h;exact hk _ _ _ _ h
 | ret=>intro k k' hk t env H h;exact hk _ _ _ _ h
 | _=>intro k k' hk t env H h;rfl
noncomputable def fillR (l:List Value):Nat→VT→(VT→β)→β :=
 List.rec (motive:=fun _=>Nat→VT→(VT→β)→β) (fun _ t k=>k t) (fun v _ ih i t k=>VT.putR v t i fun t=>ih (Nat.succ i) t k) l
theorem fillR_eq:∀ (l:List Value) (i:Nat) (t:VT) (k:VT→β),fillR l i t k=k (VT.fill l i t)
 | [],_,_,_=>rfl
 | v::r,i,t,k=>by
  show VT.putR v t i (fun t=>fillR r (Nat.succ i) t k)=_
  simp [VT.fill,fillR_eq r]
noncomputable def mkR (f:Nat):Nat→VT:=Nat.rec (motive:=fun _=>Nat→VT) (fun _=>.nil) (fun _ ih n=>bc (Nat.beq n 0) .nil (.node undef (ih (Nat.div n 2)) (ih (Nat.div (Nat.sub n 1) 2)))) f
theorem mkR_eq:∀ f n,mkR f n=VT.mk f n
 | 0,n=>rfl
 | f+1,n=>by
  show bc (Nat.beq n 0) VT.nil (VT.node undef (mkR f (Nat.div n 2)) (mkR f (Nat.div (Nat.sub n 1) 2)))=_
  rw [bc_eq,mkR_eq f,mkR_eq f,VT.mk,cond_eq_ite]
noncomputable def resR (T:Tab) (t:VT) (H:Heap) (l:List ResultVar):(List Value→Option β)→Option β :=
 List.rec (motive:=fun _=>(List Value→Option β)→Option β) (fun k=>k []) (fun r _ ih k=>ResultVar.rec (motive:=fun _=>Option β) (fun i=>t.getR i fun v=>ih fun l=>k (v::l)) (fun a ty=>oR (resK T t H (.cell a ty)) none fun v=>fV v fun v=>ih fun l=>k (v::l)) r) l
theorem resR_eq (T:Tab) (t:VT) (H:Heap):∀ (l:List ResultVar) (k:List Value→Option β),resR T t H l k=match ressK T t H l with|some vs=>k vs|none=>none
 | [],k=>rfl
 | .tmp i::l,k=>by
  show t.getR i (fun v=>resR T t H l fun l=>k (v::l))=_
  simp only [VT.getR_eq,resR_eq T t H l,ressK,resK,Option.bind_eq_bind,Option.bind_some]
  cases ressK T t H l<;>rfl
 | .cell a ty::l,k=>by
  show oR (resK T t H (.cell a ty)) none (fun v=>fV v fun v=>resR T t H l fun l=>k (v::l))=_
  simp only [ressK,Option.bind_eq_bind]
  cases resK T t H (.cell a ty) with
  | none=>rfl
  | some v =>
   simp only [oR_some,fV_eq,resR_eq T t H l,Option.bind_some]
   cases ressK T t H l<;>rfl
noncomputable def outR (l:List Value) (k:Value→β):β:=List.rec (motive:=fun _=>β) (k (.tuple #[])) (fun v r _=>List.rec (motive:=fun _=>β) (k v) (fun _ _ _=>k (.tuple ⟨v::r⟩)) r) l
theorem outR_eq (l:List Value) (k:Value→β):outR l k=k (outOf l):=by
 cases l with
 | nil=>rfl
 | cons v r=>cases r<;>rfl
noncomputable def fnR (T:Tab) (F:FTab) (K:CallK α) (nf:Nat) (g:FuncId) (args:List Value) (H:Heap) (k:Value→Heap→Option α):Option α :=
 oR (F g args.length) none fun fi=>FI.rec (motive:=fun _=>Option α) (fun code results ntmps =>
  nR (args.length+(ntmps - args.length)) fun n =>
  fillR args 0 (mkR (Nat.log2 n+1) n) fun t =>
  codeR T K nf g none n code t H fun e t' H'=>exR e (resR T t' H' results fun vs=>outR vs fun v=>k v H') (fun _=>none) (resR T t' H' results fun vs=>outR vs fun v=>k v H')) fi
theorem fnR_eq {T:Tab} {F:FTab} {C:CallSem} {K:CallK α} (hK:CKOK C K) (nf:Nat) (g:FuncId) (args:List Value) (H:Heap) (k:Value→Heap→Option α):fnR T F K nf g args H k=(callFn T F C nf g args H).bind fun p=>k p.1 p.2:=by
 unfold fnR callFn
 cases F g args.length with
 | none=>rfl
 | some fi =>
  obtain ⟨code,results,ntmps⟩:=fi
  simp only [oR_some,nR_eq,fillR_eq,mkR_eq]
  rw [codeR_eq (C:=C) hK nf g none code (k':=fun e env' H'=>match e with
   | .exit _=>none
   | _=>match aresults T env' H' results with
    | some vs=>k (outOf vs) H'
    | none=>none) (fun e t env H h=>by
    cases e<;>simp only [exR,resR_eq,ressK_eq h,outR_eq]) (VRep.enter args ntmps)]
  cases evalCode T C nf g none code (args.toArray++Array.replicate (ntmps - args.length) undef) H with
  | none=>rfl
  | some p =>
   obtain ⟨e,env',H'⟩:=p
   cases e with
   | exit id=>rfl
   | _=>simp only [Option.bind_some];cases aresults T env' H' results<;>rfl
def pFn (v:Value):Option (Nat×List Value×List Value):=match v with
 | .func (.func g) x y=>some (g,x.toList,y.toList)
 | _=>none
def pYi (v:Value):Option (Nat×List Value):=match v with
 | .func (.yield l) x _=>some (l,x.toList)
 | _=>none
noncomputable def yieldR (T:Tab) (K:CallK α) (nf:Nat) (l:Nat) (args:List Value) (H:Heap) (k:Value→Heap→Option α):Option α :=
 match H.get l with
 | some (.loop .ready pend fn env params assign body) =>
  if args.length=params.size then
   fNat env.size fun n =>
   fillR env.toList 0 (mkR (Nat.log2 n+1) n) fun t0 =>
   parK (params.toList.zip args) t0 fun t =>
   codeR T K nf fn (some l) n assign t H fun e t1 H1=>match e with
    | .normal=>match H1.get l with
     | some (.loop .ready pend1 fn1 env0 params1 assign1 body1) =>
      H1.putR l (some (.loop .busy pend1 fn1 env0 params1 assign1 body1)) fun H1' =>
      codeR T K nf fn (some l) n body t1 H1' fun e _ H3=>match H3.get l with
       | some (.loop _ _ fn3 env3 params3 assign3 body3)=>match e with
        | .normal=>H3.putR l (some (.loop .ready none fn3 env3 params3 assign3 body3)) fun H=>k (.bool true) H
        | .ret=>H3.putR l (some (.loop .done (some .ret) fn3 env3 params3 assign3 body3)) fun H=>k (.bool false) H
        | .exit id=>H3.putR l (some (.loop .done (some (.exit id)) fn3 env3 params3 assign3 body3)) fun H=>k (.bool false) H
       | _=>none
     | _=>none
    | _=>none
  else none
 | _=>none
theorem yieldR_eq {T:Tab} {C:CallSem} {K:CallK α} (hK:CKOK C K) (nf:Nat) (l:Nat) (args:List Value) (H:Heap) (k:Value→Heap→Option α):yieldR T K nf l args H k=(yieldRound T C nf l args H).bind fun p=>k p.1 p.2:=by
 unfold yieldR yieldRound
 cases H.get l with
 | none=>rfl
 | some o=>cases o with
  | loop st pend fn env params assign body=>cases st with
   | ready =>
    dsimp only
    split
    ·simp only [fNat_eq,fillR_eq,mkR_eq]
     have h0:VRep env.size (VT.fill env.toList 0 (VT.mk (Nat.log2 env.size+1) env.size)) env:=by
      have:=VRep.enter env.toList 0
      simpa using this
     obtain ⟨t,ht,et⟩:=parK_eq (α:=Option α) (params.toList.zip args) h0
     rw [et]
     have hf:(params.toList.zip args).foldl (fun ts p=>ts.setIfInBounds p.1 p.2) env=(params.zip args.toArray).foldl (fun ts p=>ts.setIfInBounds p.1 p.2) env:=by
      rw [←Array.foldl_toList];simp
     rw [hf] at ht
     rw [codeR_eq (C:=C) hK nf fn (some l) assign (k':=fun e env1 H1=>match e with
      | .normal=>match H1.get l with
       | some (.loop .ready pend1 fn1 env0 params1 assign1 body1) =>
        (evalCode T C nf fn (some l) body env1 (H1.put l (some (.loop .busy pend1 fn1 env0 params1 assign1 body1)))).bind fun p=>match p.2.2.get l with
         | some (.loop _ _ fn3 env3 params3 assign3 body3)=>match p.1 with
          | .normal=>k (.bool true) (p.2.2.put l (some (.loop .ready none fn3 env3 params3 assign3 body3)))
          | .ret=>k (.bool false) (p.2.2.put l (some (.loop .done (some .ret) fn3 env3 params3 assign3 body3)))
          | .exit id=>k (.bool false) (p.2.2.put l (some (.loop .done (some (.exit id)) fn3 env3 params3 assign3 body3)))
         | _=>none
       | _=>none
      | _=>none) (fun e t env1 H1 h1=>by
       cases e with
       | normal =>
        dsimp only
        cases H1.get l with
        | none=>rfl
        | some o=>cases o with
         | loop st1 pend1 fn1 env0 params1 assign1 body1=>cases st1 with
          | ready =>
           simp only [Heap.putR_eq]
           rw [codeR_eq (C:=C) hK nf fn (some l) body (k':=fun e _ H3=>match H3.get l with
            | some (.loop _ _ fn3 env3 params3 assign3 body3)=>match e with
             | .normal=>k (.bool true) (H3.put l (some (.loop .ready none fn3 env3 params3 assign3 body3)))
             | .ret=>k (.bool false) (H3.put l (some (.loop .done (some .ret) fn3 env3 params3 assign3 body3)))
             | .exit id=>k (.bool false) (H3.put l (some (.loop .done (some (.exit id)) fn3 env3 params3 assign3 body3)))
            | _=>none) (fun e t env H h=>rfl) h1]
          | _=>rfl
         | _=>rfl
       | _=>rfl) ht]
     cases evalCode T C nf fn (some l) assign ((params.zip args.toArray).foldl (fun ts p=>ts.setIfInBounds p.1 p.2) env) H with
     | none=>rfl
     | some p =>
      obtain ⟨e,env1,H1⟩:=p
      cases e with
      | normal =>
       simp only [Option.bind_some]
       cases H1.get l with
       | none=>rfl
       | some o=>cases o with
        | loop st1 pend1 fn1 env0 params1 assign1 body1=>cases st1 with
         | ready =>
          dsimp only
          cases evalCode T C nf fn (some l) body env1 (H1.put l (some (.loop .busy pend1 fn1 env0 params1 assign1 body1))) with
          | none=>rfl
          | some p =>
           obtain ⟨e,env3',H3⟩:=p
           simp only [Option.bind_some]
           cases H3.get l with
           | none=>rfl
           | some o=>cases o with
            | loop st3 pend3 fn3 env3 params3 assign3 body3=>cases e<;>rfl
            | _=>rfl
         | _=>rfl
        | _=>rfl
      | _=>rfl
    ·rfl
   | _=>rfl
  | _=>rfl
noncomputable def evalR (T:Tab) (F:FTab) (n:Nat):CallK α :=
 Nat.rec (motive:=fun _=>CallK α) (fun _ _ _ _=>none)
  (fun n ih fv args H k=>oR (pFn fv) (oR (pYi fv) none fun p=>pR p fun l x=>yieldR T ih n l (x++args) H k) fun p=>pR p fun g q=>pR q fun x y=>fnR T F ih n g ((x++args)++y) H k) n
theorem evalR_eq (T:Tab) (F:FTab):∀ n,CKOK (evalCall T F n) (evalR (α:=α) T F n)
 | 0=>fun _ _ _ _=>rfl
 | n+1=>by
  intro fv args H k
  show oR (pFn fv) (oR (pYi fv) none fun p=>pR p fun l x=>yieldR T (evalR T F n) n l (x++args) H k) (fun p=>pR p fun g q=>pR q fun x y=>fnR T F (evalR T F n) n g ((x++args)++y) H k)=_
  simp only [evalCall]
  cases fv with
  | func f x y=>cases f with
   | func g=>exact fnR_eq (evalR_eq T F n) ..
   | yield l=>exact yieldR_eq (evalR_eq T F n) ..
   | _=>rfl
  | _=>rfl
end
noncomputable def trueR (T:Tab) (F:FTab) (n:Nat) (g:FuncId):Option Bool :=
 fnR T F (evalR T F n) n g [] emptyHeap fun v _=>pB v
end Go.Ev
