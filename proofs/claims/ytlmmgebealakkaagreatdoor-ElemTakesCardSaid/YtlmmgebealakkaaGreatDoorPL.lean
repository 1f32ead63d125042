/- Rows of bytes and of numbers. -/
import Derived.Test.YtlmmgebealakkaaGreatDoorEvA
import Derived.Test.YtlmmgebealakkaaGreatDoorEvF
import Derived.Sort.AssemblyPlain
set_option linter.unusedVariables false
set_option linter.unusedSimpArgs false
namespace Go.Proofs.J
open Go Go.Ev
def by8 (l:List Int):List Value:=l.map (.int .u8)
def i64s (l:List Int):List Value:=l.map (Value.int .i64)
def lowc (w:UInt8):Prop:=97≤w.toNat∧w.toNat≤122
def digc (w:UInt8):Prop:=48≤w.toNat∧w.toNat≤57
instance (w:UInt8):Decidable (lowc w):=by unfold lowc;infer_instance
instance (w:UInt8):Decidable (digc w):=by unfold digc;infer_instance
def IsName (s:ByteArray):Prop:=1≤s.size∧s.size≤12∧∀ i (h:i < s.size),lowc s[i]∨(digc s[i]∧i≠0)
def wordL:List ByteArray:=[⟨#[102,108,97,103]⟩,⟨#[109,97,120]⟩,⟨#[115,101,116]⟩,⟨#[111,110,99,101]⟩,⟨#[109,97,112]⟩,⟨#[112,97,105,114]⟩]
def IsTableName (s:ByteArray):Prop:=IsName s∧s∉wordL
structure Tbl where
 name:ByteArray
 elems:List ByteArray
 above:List (List Int)
 wrong:List Bool
def RowOk (n:Nat) (l:List Int):Prop:=(∀ i (h:i < l.length),0≤l[i]∧l[i] < n)∧∀ i (h:i+1 < l.length),l[i] < l[i+1]
def Tbl.Ok (t:Tbl):Prop :=
 IsTableName t.name∧1≤t.elems.length∧t.elems.length≤12∧t.above.length=t.elems.length∧t.wrong.length=t.elems.length ∧
 (∀ i (h:i < t.elems.length),IsName t.elems[i])∧(∀ i j (h:i < t.elems.length) (hj:j < i),t.elems[j]≠t.elems[i])∧∀ i (h:i < t.above.length),RowOk t.elems.length t.above[i]
def Tbl.E (t:Tbl) (a b:Nat):Prop:=∃ h:a < t.above.length,(b:Int)∈t.above[a]
inductive Tbl.St (t:Tbl):Nat→Nat→Prop
 | one {a b:Nat} (h:t.E a b):Tbl.St t a b
 | more {a b c:Nat} (h:Tbl.St t a b) (k:t.E b c):Tbl.St t a c
def Tbl.Bl (t:Tbl) (a b:Nat):Prop:=a=b∨t.St a b
def Tbl.Jn (t:Tbl) (a b c:Nat):Prop:=c < t.elems.length∧t.Bl a c∧t.Bl b c∧∀ d,d < t.elems.length→t.Bl a d→t.Bl b d→t.Bl c d
def Tbl.wr (t:Tbl) (a:Nat):Prop:=t.wrong[a]?=some true
def Tbl.Lat (t:Tbl):Prop :=
 (∀ a,a < t.elems.length→¬ t.St a a)∧(∀ a,a < t.elems.length→t.Bl 0 a)∧(∀ a b,a < b→b < t.elems.length→∃ c,t.Jn a b c) ∧
 ¬ t.wr 0∧∀ a b,a < t.elems.length→b < t.elems.length→t.wr a→t.Bl a b→t.wr b
inductive Shp where
 | mk (kind:Int) (name:ByteArray) (kids:List Shp)
def Shp.kind:Shp→Int|.mk k _ _=>k
def Shp.name:Shp→ByteArray|.mk _ n _=>n
def Shp.kids:Shp→List Shp|.mk _ _ l=>l
mutual
def Shp.levels:Shp→Nat
 | .mk _ _ l=>levelsL l+1
def levelsL:List Shp→Nat
 | []=>0
 | s::r=>max s.levels (levelsL r)
end
def kidsOf (k:Int):Option Nat:=if k=1∨k=2∨k=3∨k=4∨k=5 then some 0 else if k=6 then some 1 else if k=7 then some 2 else none
mutual
def Shp.Ok:Shp→Prop
 | .mk k n l=>kidsOf k=some l.length∧(k=5→IsTableName n)∧(k≠5→n.size=0)∧ShpOkL l
def ShpOkL:List Shp→Prop
 | []=>True
 | s::r=>s.Ok∧ShpOkL r
end
mutual
def Shp.Named (ts:List Tbl):Shp→Prop
 | .mk k n l=>(k=5→∃ t∈ts,t.name=n)∧ShpNamedL ts l
def ShpNamedL (ts:List Tbl):List Shp→Prop
 | []=>True
 | s::r=>s.Named ts∧ShpNamedL ts r
end
theorem ShpOkL_iff:∀ {l:List Shp},ShpOkL l↔∀ s∈l,s.Ok
 | []=>by simp [ShpOkL]
 | s::r=>by simp [ShpOkL,ShpOkL_iff (l:=r)]
theorem ShpNamedL_iff {ts:List Tbl}:∀ {l:List Shp},ShpNamedL ts l↔∀ s∈l,s.Named ts
 | []=>by simp [ShpNamedL]
 | s::r=>by simp [ShpNamedL,ShpNamedL_iff (l:=r)]
theorem levelsL_le:∀ {l:List Shp} {n:Nat},levelsL l≤n↔∀ s∈l,s.levels≤n
 | [],n=>by simp [levelsL]
 | s::r,n=>by simp [levelsL,Nat.max_le,levelsL_le (l:=r)]
open Classical in
noncomputable def CSE (l:List Tbl) (s:Shp):Int :=
 if 8 < l.length∨4 < s.levels then 5
 else if ¬ ((∀ t∈l,t.Ok)∧s.Ok) then 4
 else if ¬ (∀ i j (h:i < l.length) (hj:j < i),l[j].name≠l[i].name) then 6
 else if ¬ (∀ t∈l,t.Lat) then 12
 else if ¬ s.Named l then 7
 else 0
theorem Tbl.St.trans {t:Tbl} {a b c:Nat} (h:t.St a b) (k:t.St b c):t.St a c:=by
 induction k with
 | one k=>exact .more h k
 | more _ k ih=>exact .more ih k
theorem Tbl.E.lt {t:Tbl} {a b:Nat} (h:t.E a b) (ok:t.Ok):b < t.elems.length:=by
 obtain ⟨h1,h2⟩:=h
 obtain ⟨i,hi,e⟩:=List.getElem_of_mem h2
 have:=((ok.2.2.2.2.2.2.2 a h1).1 i hi)
 rw [e] at this;omega
theorem Tbl.St.lt {t:Tbl} {a b:Nat} (h:t.St a b) (ok:t.Ok):b < t.elems.length:=by
 cases h with
 | one h=>exact h.lt ok
 | more _ h=>exact h.lt ok
theorem Tbl.St.ind {t:Tbl} {a:Nat} {P:Nat→Prop} (h1:∀ b,t.E a b→P b) (h2:∀ b c,P b→t.E b c→P c) {b:Nat} (h:t.St a b):P b:=by
 induction h with
 | one h=>exact h1 _ h
 | more _ k ih=>exact h2 _ _ ih k
theorem RowOk.length {n:Nat} {l:List Int} (h:RowOk n l):l.length≤n:=by
 have key:∀ i (hi:i < l.length),(i:Int)≤l[i]:=by
  intro i
  induction i with
  | zero=>intro hi;exact (h.1 0 hi).1
  | succ i ih=>intro hi;have:=ih (by omega);have:=h.2 i hi;omega
 cases e:l.length with
 | zero=>omega
 | succ k =>
  have h1:=key k (by omega)
  have h2:=(h.1 k (by omega)).2
  omega
def Rows (Z:Zone) (v:Value) (xss:List (List Int)):Prop:=∃ us,Sl Z 1 v xss.length us∧∀ i (h:i < xss.length),∃ u,us[i]?=some u∧Sl Z 1 u xss[i].length (xss[i].map (Value.int .i64))
theorem Rows.mono {Z Z':Zone} {v:Value} {xss:List (List Int)} (e:Ext Z Z') (h:Rows Z v xss):Rows Z' v xss :=
 let ⟨us,h1,h2⟩:=h;⟨us,h1.mono e,fun i hi=>let ⟨u,k1,k2⟩:=h2 i hi;⟨u,k1,k2.mono e⟩⟩
structure TbR (Z:Zone) (nm:ByteArray) (ve va vw:Value) (t:Tbl):Prop where
 name:nm=t.name
 elems:Sl Z 1 ve t.elems.length (t.elems.map Value.string)
 above:Rows Z va t.above
 wrong:Sl Z 1 vw t.wrong.length (t.wrong.map Value.bool)
theorem TbR.mono {Z Z':Zone} {nm:ByteArray} {ve va vw:Value} {t:Tbl} (e:Ext Z Z') (h:TbR Z nm ve va vw t):TbR Z' nm ve va vw t :=
 ⟨h.name,h.elems.mono e,h.above.mono e,h.wrong.mono e⟩
structure Tbl.Sm (t:Tbl):Prop where
 name:t.name.size≤1000000
 elems:t.elems.length≤1000000
 each:∀ s∈t.elems,s.size≤1000000
 above:t.above.length≤1000000
 rows:∀ l∈t.above,l.length≤1000000
 wrong:t.wrong.length≤1000000
def Ers (v:Value) (p:Prop) (n:Int):Prop:=(p∧v=.int .i64 0)∨(¬ p∧v=.int .i64 n)
theorem okCells_int (l:List Int):okCells (l.map (Value.int .i64))=true:=by
 simp only [okCells,List.all_map,List.all_eq_true];intro x _;rfl
theorem okCells_bool (l:List Bool):okCells (l.map Value.bool)=true:=by
 simp only [okCells,List.all_map,List.all_eq_true];intro x _;rfl
theorem rep_bool (n:Nat):repCells [Value.bool false] n=(List.replicate n false).map Value.bool:=by
 induction n with
 | zero=>rfl
 | succ n ih=>simp only [repCells,ih,List.replicate_succ,List.map_cons];rfl
structure Bfs (t:Tbl) (a:Nat) (been:List Bool) (todo:List Int):Prop where
 len:been.length=t.elems.length
 s1:∀ b,been[b]?=some true→t.St a b
 s2:∀ c∈todo,∃ k:Nat,c=k∧t.St a k
 s3:∀ b,t.E a b→been[b]?=some true∨(b:Int)∈todo
 s4:∀ b c,been[b]?=some true→t.E b c→been[c]?=some true∨(c:Int)∈todo
theorem Bfs.init {t:Tbl} {a:Nat} (ha:a < t.above.length) (ok:t.Ok):Bfs t a (List.replicate t.elems.length false) t.above[a] where
 len:=by simp
 s1:=fun b h=>by simp [List.getElem?_replicate] at h
 s2:=fun c hc=>by
  obtain ⟨i,hi,e⟩:=List.getElem_of_mem hc
  have:=(ok.2.2.2.2.2.2.2 a ha).1 i hi
  rw [e] at this
  have e2:((c.toNat:Nat):Int)=c:=Int.toNat_of_nonneg this.1
  exact ⟨c.toNat,e2.symm,.one ⟨ha,by rw [e2];exact hc⟩⟩
 s3:=fun b ⟨_,h⟩=>.inr h
 s4:=fun b c h=>by simp [List.getElem?_replicate] at h
theorem Bfs.skip {t:Tbl} {a:Nat} {been:List Bool} {k:Nat} {todo:List Int} (h:Bfs t a been ((k:Int)::todo)) (hk:been[k]?=some true):Bfs t a been todo where
 len:=h.len
 s1:=h.s1
 s2:=fun c hc=>h.s2 c (List.mem_cons_of_mem _ hc)
 s3:=fun b hb=>by
  rcases h.s3 b hb with q|q
  ·exact .inl q
  ·rcases List.mem_cons.1 q with q|q
   ·obtain rfl:b=k:=by omega
    exact .inl hk
   ·exact .inr q
 s4:=fun b c hb hc=>by
  rcases h.s4 b c hb hc with q|q
  ·exact .inl q
  ·rcases List.mem_cons.1 q with q|q
   ·obtain rfl:c=k:=by omega
    exact .inl hk
   ·exact .inr q
theorem set_get {been:List Bool} {k b:Nat} (hk:k < been.length):(been.set k true)[b]?=some true↔b=k∨been[b]?=some true:=by
 rw [List.getElem?_set]
 by_cases e:k=b
 ·subst e;simp [hk]
 ·simp [e];intro h;exact absurd h.symm e
theorem Bfs.mark {t:Tbl} {a:Nat} {been:List Bool} {k:Nat} {todo:List Int} (h:Bfs t a been ((k:Int)::todo)) (ok:t.Ok) (hk:k < t.above.length):Bfs t a (been.set k true) (todo++t.above[k]):=by
 obtain ⟨k',e,hst⟩:=h.s2 _ (List.mem_cons_self ..)
 obtain rfl:k'=k:=by omega
 have hk':k' < been.length:=by rw [h.len,←ok.2.2.2.1];exact hk
 exact {
  len:=by simp [h.len]
  s1:=fun b hb=>by
   rcases (set_get hk').1 hb with rfl|hb
   ·exact hst
   ·exact h.s1 b hb
  s2:=fun c hc=>by
   rcases List.mem_append.1 hc with hc|hc
   ·exact h.s2 c (List.mem_cons_of_mem _ hc)
   ·obtain ⟨i,hi,e⟩:=List.getElem_of_mem hc
    have:=(ok.2.2.2.2.2.2.2 k' hk).1 i hi
    rw [e] at this
    have e2:((c.toNat:Nat):Int)=c:=Int.toNat_of_nonneg this.1
    exact ⟨c.toNat,e2.symm,.more hst ⟨hk,by rw [e2];exact hc⟩⟩
  s3:=fun b hb=>by
   rcases h.s3 b hb with q|q
   ·exact .inl ((set_get hk').2 (.inr q))
   ·rcases List.mem_cons.1 q with q|q
    ·exact .inl ((set_get hk').2 (.inl (by omega)))
    ·exact .inr (List.mem_append.2 (.inl q))
  s4:=fun b c hb hc=>by
   rcases (set_get hk').1 hb with rfl|hb
   ·obtain ⟨_,hc⟩:=hc
    exact .inr (List.mem_append.2 (.inr hc))
   ·rcases h.s4 b c hb hc with q|q
    ·exact .inl ((set_get hk').2 (.inr q))
    ·rcases List.mem_cons.1 q with q|q
     ·exact .inl ((set_get hk').2 (.inl (by omega)))
     ·exact .inr (List.mem_append.2 (.inl q)) }
theorem Bfs.done {t:Tbl} {a:Nat} {been:List Bool} (h:Bfs t a been []) (b:Nat):been[b]?=some true↔t.St a b:=by
 refine ⟨h.s1 b,fun hs=>?_⟩
 refine hs.ind (P:=fun b=>been[b]?=some true) (fun b hb=>?_) (fun b c hb hc=>?_)
 ·rcases h.s3 b hb with q|q
  ·exact q
  ·cases q
 ·rcases h.s4 b c hb hc with q|q
  ·exact q
  ·cases q
theorem count_mark {been:List Bool} {k:Nat} (hk:k < been.length) (h:been[k]=false):(been.set k true).count false+1=been.count false:=by
 have hp:0 < been.count false:=List.count_pos_iff.2 (h▸List.getElem_mem hk)
 rw [List.count_set hk,h]
 simp
 omega
theorem set_cells {α:Type} (f:α→Value) (l:List α) (k:Nat) (x:α) (h:k < l.length):setCells (l.map f) (k*1) [f x]=some ((l.set k x).map f):=by
 unfold setCells
 rw [if_pos (by simp;omega),List.set_eq_take_append_cons_drop,if_pos h]
 simp
theorem olp_bool {Z:Zone} {b n:Nat} {s:List Cel} (h:(pt b (.cells (repCells [Value.bool false] n) true 0)).p Z s):Sat Z [olp b 1 (.slice (some ⟨b,0,none⟩) n n) n ((List.replicate n false).map Value.bool)] s:=by
 rw [rep_bool] at h
 exact Sat.one ⟨0,n,_,rfl,Nat.le_refl _,by simp,by rw [List.take_of_length_le (by simp)],.inl rfl,okCells_bool _,h⟩
structure TabR (Z:Zone) (b:Nat) (t:Tbl):Prop where
 ok:t.Ok
 sm:t.Sm
 rep:∃ nm ve va vw vs us,Z b=some (.cells [.string nm,ve,va,vw,vs] true 0)∧TbR Z nm ve va vw t∧Sl Z 1 vs t.elems.length us ∧
  ∀ a,a < t.elems.length→∃ (u:Value) (l:List Bool),us[a]?=some u∧Sl Z 1 u t.elems.length (l.map Value.bool)∧l.length=t.elems.length∧∀ c:Nat,l[c]?=some true↔t.St a c
theorem TabR.mono {Z Z':Zone} {b:Nat} {t:Tbl} (e:Ext Z Z') (h:TabR Z b t):TabR Z' b t :=
 ⟨h.ok,h.sm,let ⟨nm,ve,va,vw,vs,us,h1,h2,h3,h4⟩:=h.rep;⟨nm,ve,va,vw,vs,us,e _ _ h1,h2.mono e,h3.mono e,fun a ha=>let ⟨u,l,k1,k2,k3⟩:=h4 a ha;⟨u,l,k1,k2.mono e,k3⟩⟩⟩
def nats (l:List Nat):List Value:=l.map fun a:Nat=>Value.int .i64 ((a:Nat):Int)
theorem nats_get {l:List Nat} {i:Nat} (h:i < l.length):(nats l)[i]?=some (.int .i64 (l[i]:Nat)):=by simp [nats,h]
structure Whe (n:Nat) (p:Nat→Prop) (l:List Nat):Prop where
 mem:∀ a,a∈l↔a < n∧p a
 asc:l.Pairwise (· < ·)
theorem Whe.len {n:Nat} {p:Nat→Prop} {l:List Nat} (h:Whe n p l):l.length≤n:=by
 have hp:=List.pairwise_iff_getElem.1 h.asc
 have key:∀ i (hi:i < l.length),i≤l[i]:=by
  intro i
  induction i with
  | zero=>intro hi;omega
  | succ i ih=>intro hi;have:=ih (by omega);have:=hp i (i+1) (by omega) hi (by omega);omega
 cases e:l.length with
 | zero=>omega
 | succ k =>
  have h1:=key k (by omega)
  have h2:=((h.mem l[k]).1 (List.getElem_mem (by omega))).1
  omega
theorem Whe.nil {p:Nat→Prop}:Whe 0 p []:=⟨fun a=>by simp,.nil⟩
theorem Whe.snoc {j:Nat} {p:Nat→Prop} {l:List Nat} (h:Whe j p l) (hp:p j):Whe (j+1) p (l++[j]):=by
 refine ⟨fun a=>?_,?_⟩
 ·rw [List.mem_append,h.mem,List.mem_singleton]
  constructor
  ·rintro (⟨h1,h2⟩|rfl)
   ·exact ⟨by omega,h2⟩
   ·exact ⟨by omega,hp⟩
  ·rintro ⟨h1,h2⟩
   by_cases e:a=j
   ·exact .inr e
   ·exact .inl ⟨by omega,h2⟩
 ·rw [List.pairwise_append]
  exact ⟨h.asc,by simp,fun a ha b hb=>by rw [List.mem_singleton] at hb;subst hb;exact ((h.mem a).1 ha).1⟩
theorem Whe.skip {j:Nat} {p:Nat→Prop} {l:List Nat} (h:Whe j p l) (hp:¬ p j):Whe (j+1) p l:=by
 refine ⟨fun a=>?_,h.asc⟩
 rw [h.mem]
 constructor
 ·rintro ⟨h1,h2⟩;exact ⟨by omega,h2⟩
 ·rintro ⟨h1,h2⟩
  by_cases e:a=j
  ·subst e;exact absurd h2 hp
  ·exact ⟨by omega,h2⟩
theorem nats_snoc (l:List Nat) (a:Nat):nats (l++[a])=nats l++[.int .i64 (a:Int)]:=by simp [nats]
mutual
def ShR (Z:Zone):Shp→List Value→Prop
 | .mk k n l,cs=>∃ vk us,cs=[.int .u8 k,.string n,vk]∧Sl Z 3 vk l.length us∧ShRL Z l us
def ShRL (Z:Zone):List Shp→List Value→Prop
 | [],us=>us=[]
 | s::r,us=>∃ c rest,us=c++rest∧ShR Z s c∧ShRL Z r rest
end
mutual
theorem ShR.mono {Z Z':Zone} (e:Ext Z Z'):∀ {s:Shp} {cs:List Value},ShR Z s cs→ShR Z' s cs
 | .mk k n l,cs,h=>by
  simp only [ShR] at h ⊢
  obtain ⟨vk,us,h1,h2,h3⟩:=h
  exact ⟨vk,us,h1,h2.mono e,ShRL.mono e h3⟩
theorem ShRL.mono {Z Z':Zone} (e:Ext Z Z'):∀ {l:List Shp} {us:List Value},ShRL Z l us→ShRL Z' l us
 | [],us,h=>by simp only [ShRL] at h ⊢;exact h
 | s::r,us,h=>by
  simp only [ShRL] at h ⊢
  obtain ⟨c,rest,h1,h2,h3⟩:=h
  exact ⟨c,rest,h1,ShR.mono e h2,ShRL.mono e h3⟩
end
theorem ShR.form {Z:Zone} {s:Shp} {cs:List Value} (h:ShR Z s cs):∃ a c us,cs=[.int .u8 s.kind,.string s.name,.slice a s.kids.length c]∧Sl Z 3 (.slice a s.kids.length c) s.kids.length us∧ShRL Z s.kids us:=by
 cases s with
 | mk k n l =>
  simp only [ShR] at h
  obtain ⟨vk,us,h1,h2,h3⟩:=h
  have:=h2
  rcases this with ⟨rfl,h4,rfl⟩|⟨b,off,c,xs,wr,g,rfl,_⟩
  ·exact ⟨none,0,[],by rw [h1];simp only [Shp.kind,Shp.name,Shp.kids,h4],by simp only [Shp.kids,h4];exact Sl.nil,h3⟩
  ·exact ⟨_,_,us,h1,h2,h3⟩
theorem getCells_app {c rest:List Value}:getCells (c++rest) 0 c.length=some c:=by unfold getCells;simp
theorem ShRL.get {Z:Zone}:∀ {l:List Shp} {us:List Value},ShRL Z l us→∀ i (h:i < l.length),∃ k n a m c,getCells us (i*3) 3=some [.int .u8 k,.string n,.slice a m c]∧ShR Z l[i] [.int .u8 k,.string n,.slice a m c]
 | [],us,h,i,hi=>by simp at hi
 | s::r,us,h,0,hi=>by
  simp only [ShRL] at h
  obtain ⟨c,rest,rfl,h2,h3⟩:=h
  obtain ⟨a,cc,us',rfl,_⟩:=h2.form
  exact ⟨_,_,_,_,_,getCells_app,h2⟩
 | s::r,us,h,i+1,hi=>by
  simp only [ShRL] at h
  obtain ⟨c,rest,rfl,h2,h3⟩:=h
  obtain ⟨k,n,a,m,cc,g1,g2⟩:=ShRL.get h3 i (by simpa using hi)
  obtain ⟨a',c',us',rfl,_⟩:=h2.form
  refine ⟨k,n,a,m,cc,?_,g2⟩
  unfold getCells at g1 ⊢
  simp only [List.length_append,List.length_cons,List.length_nil]
  split at g1
  ·rw [if_pos (by omega)]
   have e:(i+1)*3=3+i*3:=by omega
   rw [e,←List.drop_drop]
   exact g1
  ·cases g1
theorem Shp.kid_levels {s:Shp} {d:Nat} (h:s.levels≤d+1) {i:Nat} (hi:i < s.kids.length):s.kids[i].levels≤d:=by
 cases s with
 | mk k n l =>
  simp only [Shp.levels] at h
  exact (levelsL_le (l:=l)).1 (by omega) _ (List.getElem_mem hi)
theorem Shp.levels_pos (s:Shp):1≤s.levels:=by cases s;simp only [Shp.levels];omega
def Shp.Sm:Nat→Shp→Prop
 | 0,_=>True
 | d+1,s=>s.name.size≤1000000∧s.kids.length≤1000000∧∀ k∈s.kids,Shp.Sm d k
theorem levelsL_take {l:List Shp} {j:Nat} (h:j < l.length):levelsL (l.take (j+1))=max (levelsL (l.take j)) l[j].levels:=by
 have key:∀ (a b:List Shp),levelsL (a++b)=max (levelsL a) (levelsL b):=by
  intro a b
  induction a with
  | nil=>simp [levelsL]
  | cons x a ih=>simp only [List.cons_append,levelsL,ih];omega
 rw [List.take_succ_eq_append_getElem h,key]
 simp [levelsL]
def TbsR (Z:Zone) (v:Value) (ts:List Tbl):Prop:=∃ us,Sl Z 4 v ts.length us∧∀ i (h:i < ts.length),∃ nm a1 m1 c1 a2 m2 c2 a3 m3 c3,getCells us (i*4) 4=some [.string nm,.slice a1 m1 c1,.slice a2 m2 c2,.slice a3 m3 c3]∧TbR Z nm (.slice a1 m1 c1) (.slice a2 m2 c2) (.slice a3 m3 c3) ts[i]
theorem TbsR.mono {Z Z':Zone} {v:Value} {ts:List Tbl} (e:Ext Z Z') (h:TbsR Z v ts):TbsR Z' v ts :=
 let ⟨us,h1,h2⟩:=h;⟨us,h1.mono e,fun i hi=>let ⟨nm,a1,m1,c1,a2,m2,c2,a3,m3,c3,k1,k2⟩:=h2 i hi;⟨nm,a1,m1,c1,a2,m2,c2,a3,m3,c3,k1,k2.mono e⟩⟩
def kidE:List (Int×Value):=[(1,.int .i64 0),(2,.int .i64 0),(3,.int .i64 0),(4,.int .i64 0),(5,.int .i64 0),(6,.int .i64 1),(7,.int .i64 2)]
theorem kid_found (k:Int):(∃ m:Nat,kidsOf k=some m∧findI .u8 k kidE 0=some ((k - 1).toNat,.int .i64 (m:Nat)))∨(kidsOf k=none∧findI .u8 k kidE 0=none):=by
 simp only [kidE,findI,kidsOf]
 by_cases h1:k=1
 ·subst h1;exact .inl ⟨0,by simp,by simp⟩
 by_cases h2:k=2
 ·subst h2;exact .inl ⟨0,by simp,by simp⟩
 by_cases h3:k=3
 ·subst h3;exact .inl ⟨0,by simp,by simp⟩
 by_cases h4:k=4
 ·subst h4;exact .inl ⟨0,by simp,by simp⟩
 by_cases h5:k=5
 ·subst h5;exact .inl ⟨0,by simp,by simp⟩
 by_cases h6:k=6
 ·subst h6;exact .inl ⟨1,by simp,by simp⟩
 by_cases h7:k=7
 ·subst h7;exact .inl ⟨2,by simp,by simp⟩
 ·exact .inr ⟨by simp [h1,h2,h3,h4,h5,h6,h7],by simp [h1,h2,h3,h4,h5,h6,h7]⟩
theorem ShRL.rws {Z:Zone} {l:List Shp} {us:List Value} (h:ShRL Z l us):∃ cs:Nat→List Value,∀ i (hi:i < l.length),getCells us (i*3) 3=some (cs i)∧okCells (cs i)=true∧ShR Z l[i] (cs i):=by
 refine ⟨fun i=>(getCells us (i*3) 3).getD [],fun i hi=>?_⟩
 obtain ⟨k,n,a,m,c,g1,g2⟩:=h.get i hi
 simp only [g1,Option.getD_some]
 exact ⟨trivial,rfl,g2⟩
theorem size0 {s:ByteArray}:s.size=0↔s=ByteArray.empty:=by
 constructor
 ·intro h
  cases s
  simp only [ByteArray.size] at h
  simp only [Array.size_eq_zero_iff] at h
  subst h;rfl
 ·rintro rfl;rfl
theorem empty_eq:((ByteArray.empty).toList==({ data:=#[] }:ByteArray).toList)=true:=strEq.2 rfl
theorem TbsR.form {Z:Zone} {v:Value} {ts:List Tbl} (h:TbsR Z v ts):∃ a c,v=.slice a ts.length c:=by
 obtain ⟨us,hs,_⟩:=h
 rcases hs with ⟨rfl,h0,_⟩|⟨b,off,c,xs,wr,g,rfl,_⟩
 ·exact ⟨none,0,by rw [h0]⟩
 ·exact ⟨_,_,rfl⟩
theorem TbsR.rws {Z:Zone} {v:Value} {ts:List Tbl} (h:TbsR Z v ts):∃ (us:List Value) (cs:Nat→List Value),Sl Z 4 v ts.length us∧∀ i (hi:i < ts.length),getCells us (i*4) 4=some (cs i)∧okCells (cs i)=true ∧
  ∃ a1 m1 c1 a2 m2 c2 a3 m3 c3,cs i=[.string ts[i].name,.slice a1 m1 c1,.slice a2 m2 c2,.slice a3 m3 c3]∧TbR Z ts[i].name (.slice a1 m1 c1) (.slice a2 m2 c2) (.slice a3 m3 c3) ts[i]:=by
 obtain ⟨us,hs,hr⟩:=h
 refine ⟨us,fun i=>(getCells us (i*4) 4).getD [],hs,fun i hi=>?_⟩
 obtain ⟨nm,a1,m1,c1,a2,m2,c2,a3,m3,c3,g1,g2⟩:=hr i hi
 obtain rfl:=g2.name
 simp only [g1,Option.getD_some]
 exact ⟨trivial,rfl,a1,m1,c1,a2,m2,c2,a3,m3,c3,rfl,g2⟩
theorem TbsR.take {Z:Zone} {v':Value} {ts:List Tbl} {us:List Value} {i:Nat} (hi:i≤ts.length)
  (hr:∀ i (h:i < ts.length),∃ nm a1 m1 c1 a2 m2 c2 a3 m3 c3,getCells us (i*4) 4=some [.string nm,.slice a1 m1 c1,.slice a2 m2 c2,.slice a3 m3 c3]∧TbR Z nm (.slice a1 m1 c1) (.slice a2 m2 c2) (.slice a3 m3 c3) ts[i])
  (h:Sl Z 4 v' (i - 0) ((us.drop (0*4)).take ((i - 0)*4))):TbsR Z v' (ts.take i):=by
 have e:(ts.take i).length=i:=by rw [List.length_take];omega
 refine ⟨_,by rw [e];simpa using h,fun j hj=>?_⟩
 rw [e] at hj
 obtain ⟨nm,a1,m1,c1,a2,m2,c2,a3,m3,c3,g1,g2⟩:=hr j (by omega)
 refine ⟨nm,a1,m1,c1,a2,m2,c2,a3,m3,c3,?_,by rw [List.getElem_take];exact g2⟩
 obtain ⟨k1,k2,_⟩:=getC_some g1
 unfold getCells
 have hl:=h.length
 simp only [Nat.zero_mul,List.drop_zero,Nat.sub_zero] at hl
 have hji:j*4+4≤i*4:=by omega
 rw [if_pos (by rw [hl];exact hji),k2]
 rw [List.drop_take,List.take_take]
 congr 1
 congr 1
 omega
def Clo (t:Tbl) (seen:List Bool) (b:Nat):Prop:=∀ c,t.E b c→seen[c]?=some true
structure Rb (t:Tbl) (a:Nat) (seen:List Bool) (todo:List Int) (x:Option Nat):Prop where
 len:seen.length=t.elems.length
 s1:∀ b:Nat,seen[b]?=some true→t.St a b
 s2:∀ c∈todo,∃ k:Nat,c=k∧(k=a∨t.St a k)
 s3:(a:Int)∈todo∨x=some a∨Clo t seen a
 s4:∀ b:Nat,seen[b]?=some true→(b:Int)∈todo∨x=some b∨Clo t seen b
theorem Rb.init (t:Tbl) (a:Nat):Rb t a (List.replicate t.elems.length false) [(a:Int)] none where
 len:=by simp
 s1:=fun b h=>by simp [List.getElem?_replicate] at h
 s2:=fun c hc=>⟨a,by simpa using hc,.inl rfl⟩
 s3:=.inl (by simp)
 s4:=fun b h=>by simp [List.getElem?_replicate] at h
theorem Rb.pop {t:Tbl} {a k:Nat} {seen:List Bool} {todo:List Int} (h:Rb t a seen ((k:Int)::todo) none):Rb t a seen todo (some k) where
 len:=h.len
 s1:=h.s1
 s2:=fun c hc=>h.s2 c (List.mem_cons_of_mem _ hc)
 s3:=by
  rcases h.s3 with q|q|q
  ·rcases List.mem_cons.1 q with q|q
   ·exact .inr (.inl (by rw [show a=k by omega]))
   ·exact .inl q
  ·cases q
  ·exact .inr (.inr q)
 s4:=fun b hb=>by
  rcases h.s4 b hb with q|q|q
  ·rcases List.mem_cons.1 q with q|q
   ·exact .inr (.inl (by rw [show b=k by omega]))
   ·exact .inl q
  ·cases q
  ·exact .inr (.inr q)
theorem Clo.mono {t:Tbl} {seen:List Bool} {b k:Nat} (hk:k < seen.length) (h:Clo t seen b):Clo t (seen.set k true) b:=fun c hc=>(set_get hk).2 (.inr (h c hc))
theorem Rb.push {t:Tbl} {a x k:Nat} {seen:List Bool} {todo:List Int} (h:Rb t a seen todo (some x)) (hk:k < seen.length) (hst:t.St a k):Rb t a (seen.set k true) (todo++[(k:Int)]) (some x) where
 len:=by simp [h.len]
 s1:=fun b hb=>by
  rcases (set_get hk).1 hb with rfl|hb
  ·exact hst
  ·exact h.s1 b hb
 s2:=fun c hc=>by
  rcases List.mem_append.1 hc with hc|hc
  ·exact h.s2 c hc
  ·exact ⟨k,by simpa using hc,.inr hst⟩
 s3:=by
  rcases h.s3 with q|q|q
  ·exact .inl (List.mem_append.2 (.inl q))
  ·exact .inr (.inl q)
  ·exact .inr (.inr (q.mono hk))
 s4:=fun b hb=>by
  rcases (set_get hk).1 hb with rfl|hb
  ·exact .inl (List.mem_append.2 (.inr (by simp)))
  ·rcases h.s4 b hb with q|q|q
   ·exact .inl (List.mem_append.2 (.inl q))
   ·exact .inr (.inl q)
   ·exact .inr (.inr (q.mono hk))
theorem Rb.closed {t:Tbl} {a x:Nat} {seen:List Bool} {todo:List Int} (h:Rb t a seen todo (some x)) (hx:Clo t seen x):Rb t a seen todo none where
 len:=h.len
 s1:=h.s1
 s2:=h.s2
 s3:=by
  rcases h.s3 with q|q|q
  ·exact .inl q
  ·cases q;exact .inr (.inr hx)
  ·exact .inr (.inr q)
 s4:=fun b hb=>by
  rcases h.s4 b hb with q|q|q
  ·exact .inl q
  ·cases q;exact .inr (.inr hx)
  ·exact .inr (.inr q)
theorem Rb.done {t:Tbl} {a:Nat} {seen:List Bool} (h:Rb t a seen [] none) (b:Nat):seen[b]?=some true↔t.St a b:=by
 refine ⟨h.s1 b,fun hs=>?_⟩
 have ca:Clo t seen a:=by
  rcases h.s3 with q|q|q
  ·cases q
  ·cases q
  ·exact q
 refine hs.ind (P:=fun b=>seen[b]?=some true) (fun b hb=>ca b hb) (fun b c hb hc=>?_)
 rcases h.s4 b hb with q|q|q
 ·cases q
 ·cases q
 ·exact q c hc
def RelR (Z:Zone) (v:Value) (t:Tbl):Prop:=∃ us,Sl Z 1 v t.elems.length us∧∀ a,a < t.elems.length→∃ (u:Value) (l:List Bool),us[a]?=some u∧Sl Z 1 u t.elems.length (l.map Value.bool)∧l.length=t.elems.length∧∀ c:Nat,c < t.elems.length→(l[c]?=some true↔t.Bl a c)
theorem RelR.mono {Z Z':Zone} {v:Value} {t:Tbl} (e:Ext Z Z') (h:RelR Z v t):RelR Z' v t :=
 let ⟨us,h1,h2⟩:=h;⟨us,h1.mono e,fun a ha=>let ⟨u,l,k1,k2,k3⟩:=h2 a ha;⟨u,l,k1,k2.mono e,k3⟩⟩
theorem RelR.row {Z:Zone} {t:Tbl} {us:List Value} (h2:∀ a,a < t.elems.length→∃ (u:Value) (l:List Bool),us[a]?=some u∧Sl Z 1 u t.elems.length (l.map Value.bool)∧l.length=t.elems.length∧∀ c:Nat,c < t.elems.length→(l[c]?=some true↔t.Bl a c)) (a:Nat) (ha:a < t.elems.length) :
  ∃ (u:Value) (l:List Bool),getCells us (a*1) 1=some [u]∧Sl Z 1 u t.elems.length (l.map Value.bool)∧l.length=t.elems.length∧∀ c (hc:c < l.length),l[c]=true↔t.Bl a c:=by
 obtain ⟨u,l,k1,k2,k3,k4⟩:=h2 a ha
 exact ⟨u,l,getCells_one (by rw [Nat.mul_one];exact k1),k2,k3,fun c hc=>by rw [←k4 c (by omega),List.getElem?_eq_getElem hc];simp⟩
def Shp.Thin:Nat→Shp→Prop
 | 0,_=>False
 | d+1,s=>s.kids.length≤4∧s.name.size≤30∧∀ k∈s.kids,Shp.Thin d k
theorem Shp.Thin.sm:∀ {d:Nat} {s:Shp},Shp.Thin d s→Shp.Sm d s∧s.levels≤d
 | 0,s,h=>h.elim
 | d+1,s,h=>by
  obtain ⟨h1,h2,h3⟩:=h
  refine ⟨⟨by omega,by omega,fun k hk=>(Shp.Thin.sm (h3 k hk)).1⟩,?_⟩
  cases s with
  | mk k n l =>
   simp only [Shp.levels]
   have:=levelsL_le.2 fun k hk=>(Shp.Thin.sm (h3 k hk)).2
   simp only [Shp.kids] at this
   omega
structure Tbl.Th (t:Tbl):Prop where
 elems:t.elems.length≤20
 above:t.above.length≤20
 wrong:t.wrong.length≤20
 name:t.name.size≤30
 each:∀ i (h:i < t.elems.length),t.elems[i].size≤30
 rows:∀ i (h:i < t.above.length),t.above[i].length≤20
theorem Tbl.Th.sm {t:Tbl} (h:t.Th):t.Sm where
 name:=by have:=h.name;omega
 elems:=by have:=h.elems;omega
 each:=fun s hs=>by obtain ⟨i,hi,rfl⟩:=List.getElem_of_mem hs;have:=h.each i hi;omega
 above:=by have:=h.above;omega
 rows:=fun s hs=>by obtain ⟨i,hi,rfl⟩:=List.getElem_of_mem hs;have:=h.rows i hi;omega
 wrong:=by have:=h.wrong;omega
abbrev Lat:=List Tbl×Shp
structure Lat.Th (l:Lat):Prop where
 few:¬ (4 < l.1.length∧l.1.length≤8)∧l.1.length≤10
 shape:Shp.Thin 6 l.2
 tables:∀ i (h:i < l.1.length),(l.1[i]).Th
def LatR (Z:Zone) (cs:List Value) (l:Lat):Prop:=∃ vt cs',cs=vt::cs'∧TbsR Z vt l.1∧ShR Z l.2 cs'
theorem LatR.mono {Z Z':Zone} {cs:List Value} {l:Lat} (e:Ext Z Z') (h:LatR Z cs l):LatR Z' cs l:=let ⟨vt,cs',h1,h2,h3⟩:=h;⟨vt,cs',h1,h2.mono e,h3.mono e⟩
theorem LatR.form {Z:Zone} {cs:List Value} {l:Lat} (h:LatR Z cs l):∃ a1 c1 a2 c2,cs=[.slice a1 l.1.length c1,.int .u8 l.2.kind,.string l.2.name,.slice a2 l.2.kids.length c2]∧TbsR Z (.slice a1 l.1.length c1) l.1∧ShR Z l.2 [.int .u8 l.2.kind,.string l.2.name,.slice a2 l.2.kids.length c2]:=by
 obtain ⟨vt,cs',rfl,h2,h3⟩:=h
 obtain ⟨a1,c1,rfl⟩:=h2.form
 obtain ⟨a2,c2,us,rfl,_⟩:=h3.form
 exact ⟨a1,c1,a2,c2,rfl,h2,h3⟩
theorem Lat.Th.chk {l:Lat} (h:l.Th):l.1.length≤1000000∧(∀ t∈l.1,t.Sm)∧l.2.levels≤6∧Shp.Sm 6 l.2 :=
 ⟨by have:=h.few.2;omega,fun t ht=>by obtain ⟨i,hi,rfl⟩:=List.getElem_of_mem ht;exact (h.tables i hi).sm,h.shape.sm.2,h.shape.sm.1⟩
theorem ShRL.snoc {Z:Zone} {s:Shp} {c:List Value} (h:ShR Z s c):∀ {l:List Shp} {us:List Value},ShRL Z l us→ShRL Z (l++[s]) (us++c)
 | [],us,k=>by simp only [ShRL] at k;subst k;simp only [List.nil_append,ShRL];exact ⟨c,[],by simp,h,rfl⟩
 | x::r,us,k=>by
  simp only [ShRL] at k
  obtain ⟨c0,rest,rfl,k2,k3⟩:=k
  simp only [List.cons_append,ShRL]
  exact ⟨c0,rest++c,by simp,k2,ShRL.snoc h k3⟩
inductive El where
 | mk (kind n:Int) (keys:List Int) (kids:List El)
def El.kind:El→Int|.mk k _ _ _=>k
def El.n:El→Int|.mk _ n _ _=>n
def El.keys:El→List Int|.mk _ _ l _=>l
def El.kids:El→List El|.mk _ _ _ l=>l
mutual
def El.levels:El→Nat
 | .mk _ _ _ l=>elLevelsL l+1
def elLevelsL:List El→Nat
 | []=>0
 | s::r=>max s.levels (elLevelsL r)
end
theorem elLevelsL_le:∀ {l:List El} {n:Nat},elLevelsL l≤n↔∀ s∈l,s.levels≤n
 | [],n=>by simp [elLevelsL]
 | s::r,n=>by simp [elLevelsL,Nat.max_le,elLevelsL_le (l:=r)]
theorem El.levels_pos (s:El):1≤s.levels:=by cases s;simp only [El.levels];omega
theorem El.kid_levels {s:El} {d:Nat} (h:s.levels≤d+1) {i:Nat} (hi:i < s.kids.length):s.kids[i].levels≤d:=by
 cases s with
 | mk k n ks l =>
  simp only [El.levels] at h
  exact (elLevelsL_le (l:=l)).1 (by omega) _ (List.getElem_mem hi)
def El.Sm:Nat→El→Prop
 | 0,_=>True
 | d+1,s=>s.keys.length≤17592186044416∧s.kids.length≤2199023255552∧(-9223372036854775808≤s.n∧s.n≤9223372036854775807)∧(0≤s.kind∧s.kind≤255)∧(∀ k∈s.keys,-9223372036854775808≤k∧k≤9223372036854775807)∧∀ k∈s.kids,El.Sm d k
mutual
def ElR (Z:Zone):El→List Value→Prop
 | .mk k n ks l,cs=>∃ vk vl us,cs=[.int .u8 k,.int .i64 n,vk,vl]∧Sl Z 1 vk ks.length (ks.map (Value.int .i64))∧Sl Z 4 vl l.length us∧ElRL Z l us
def ElRL (Z:Zone):List El→List Value→Prop
 | [],us=>us=[]
 | s::r,us=>∃ c rest,us=c++rest∧ElR Z s c∧ElRL Z r rest
end
mutual
theorem ElR.mono {Z Z':Zone} (e:Ext Z Z'):∀ {s:El} {cs:List Value},ElR Z s cs→ElR Z' s cs
 | .mk k n ks l,cs,h=>by
  simp only [ElR] at h ⊢
  obtain ⟨vk,vl,us,h1,h0,h2,h3⟩:=h
  exact ⟨vk,vl,us,h1,h0.mono e,h2.mono e,ElRL.mono e h3⟩
theorem ElRL.mono {Z Z':Zone} (e:Ext Z Z'):∀ {l:List El} {us:List Value},ElRL Z l us→ElRL Z' l us
 | [],us,h=>by simp only [ElRL] at h ⊢;exact h
 | s::r,us,h=>by
  simp only [ElRL] at h ⊢
  obtain ⟨c,rest,h1,h2,h3⟩:=h
  exact ⟨c,rest,h1,ElR.mono e h2,ElRL.mono e h3⟩
end
theorem ElR.form {Z:Zone} {s:El} {cs:List Value} (h:ElR Z s cs):∃ a1 c1 a2 c2 us,cs=[.int .u8 s.kind,.int .i64 s.n,.slice a1 s.keys.length c1,.slice a2 s.kids.length c2] ∧
  Sl Z 1 (.slice a1 s.keys.length c1) s.keys.length (s.keys.map (Value.int .i64))∧Sl Z 4 (.slice a2 s.kids.length c2) s.kids.length us∧ElRL Z s.kids us:=by
 cases s with
 | mk k n ks l =>
  simp only [ElR] at h
  obtain ⟨vk,vl,us,rfl,h0,h2,h3⟩:=h
  obtain ⟨a1,c1,rfl⟩:=h0.form
  obtain ⟨a2,c2,rfl⟩:=h2.form
  exact ⟨a1,c1,a2,c2,us,rfl,h0,h2,h3⟩
theorem ElR.of {Z:Zone} {s:El} {vk vl:Value} {us:List Value} (h0:Sl Z 1 vk s.keys.length (s.keys.map (Value.int .i64))) (h:Sl Z 4 vl s.kids.length us) (k:ElRL Z s.kids us):ElR Z s [.int .u8 s.kind,.int .i64 s.n,vk,vl]:=by
 cases s;simp only [ElR];exact ⟨vk,vl,us,rfl,h0,h,k⟩
theorem ElRL.snoc {Z:Zone} {s:El} {c:List Value} (h:ElR Z s c):∀ {l:List El} {us:List Value},ElRL Z l us→ElRL Z (l++[s]) (us++c)
 | [],us,k=>by simp only [ElRL] at k;subst k;simp only [List.nil_append,ElRL];exact ⟨c,[],by simp,h,rfl⟩
 | x::r,us,k=>by
  simp only [ElRL] at k
  obtain ⟨c0,rest,rfl,k2,k3⟩:=k
  simp only [List.cons_append,ElRL]
  exact ⟨c0,rest++c,by simp,k2,ElRL.snoc h k3⟩
theorem ElRL.get {Z:Zone}:∀ {l:List El} {us:List Value},ElRL Z l us→∀ i (h:i < l.length),∃ k n a1 m1 c1 a2 m2 c2,getCells us (i*4) 4=some [.int .u8 k,.int .i64 n,.slice a1 m1 c1,.slice a2 m2 c2]∧ElR Z l[i] [.int .u8 k,.int .i64 n,.slice a1 m1 c1,.slice a2 m2 c2]
 | [],us,h,i,hi=>by simp at hi
 | s::r,us,h,0,hi=>by
  simp only [ElRL] at h
  obtain ⟨c,rest,rfl,h2,h3⟩:=h
  obtain ⟨a1,c1,a2,c2,us',rfl,_⟩:=h2.form
  exact ⟨_,_,_,_,_,_,_,_,getCells_app,h2⟩
 | s::r,us,h,i+1,hi=>by
  simp only [ElRL] at h
  obtain ⟨c,rest,rfl,h2,h3⟩:=h
  obtain ⟨k,n,a1,m1,c1,a2,m2,c2,g1,g2⟩:=ElRL.get h3 i (by simpa using hi)
  obtain ⟨b1,d1,b2,d2,us',rfl,_⟩:=h2.form
  refine ⟨k,n,a1,m1,c1,a2,m2,c2,?_,g2⟩
  unfold getCells at g1 ⊢
  simp only [List.length_append,List.length_cons,List.length_nil]
  split at g1
  ·rw [if_pos (by omega)]
   have e:(i+1)*4=4+i*4:=by omega
   rw [e,←List.drop_drop]
   exact g1
  ·cases g1
def ElsR (Z:Zone) (v:Value) (l:List El):Prop:=∃ us,Sl Z 4 v l.length us∧ElRL Z l us
theorem ElsR.mono {Z Z':Zone} {v:Value} {l:List El} (e:Ext Z Z') (h:ElsR Z v l):ElsR Z' v l:=let ⟨us,h1,h2⟩:=h;⟨us,h1.mono e,h2.mono e⟩
theorem ElsR.form {Z:Zone} {v:Value} {l:List El} (h:ElsR Z v l):∃ a c,v=.slice a l.length c:=let ⟨_,h1,_⟩:=h;h1.form
mutual
theorem El.eq_iff:∀ (a b:El),a=b↔a.kind=b.kind∧a.n=b.n∧a.keys=b.keys∧a.kids=b.kids
 | .mk _ _ _ _,.mk _ _ _ _=>by simp [El.kind,El.n,El.keys,El.kids]
end
structure El.Fit (d:Nat) (e:El):Prop where
 lv:e.levels≤d
 sm:e.Sm d
theorem El.Fit.kid {d:Nat} {e:El} (h:e.Fit (d+1)) {i:Nat} (hi:i < e.kids.length):(e.kids[i]).Fit d:=⟨El.kid_levels h.lv hi,h.sm.2.2.2.2.2 _ (List.getElem_mem hi)⟩
theorem El.Fit.pos {e:El} (h:e.Fit 0):False:=by have:=h.lv;have:=e.levels_pos;omega
theorem nextQ {p:Nat→Prop} {j:Nat} (h:∀ x,x < j→p x) (k:p j):∀ x,x < j+1→p x:=fun x hx=>by
 rcases Nat.lt_or_ge x j with q|q
 ·exact h x q
 ·have:x=j:=by omega
  subst this;exact k
def El.Bot (e:El):Prop:=e.kind=0∧e.n=0∧e.keys.length=0∧e.kids.length=0
instance (e:El):Decidable e.Bot:=by unfold El.Bot;infer_instance
def NumOk (a:Int):Prop:=-1000000000≤a∧a≤1000000000
instance (a:Int):Decidable (NumOk a):=by unfold NumOk;infer_instance
def KeyAt (l:List Int) (i:Nat):Prop:=∃ a,l[i]?=some a∧NumOk a∧∀ j b,i=j+1→l[j]?=some b→b < a
def KeysOk (l:List Int):Prop:=1≤l.length∧l.length≤40∧∀ i,i < l.length→KeyAt l i
theorem KeyAt.zero {l:List Int} (h:0 < l.length):KeyAt l 0↔NumOk l[0]:=by
 constructor
 ·rintro ⟨a,h1,h2,_⟩
  rw [List.getElem?_eq_getElem h] at h1
  cases h1;exact h2
 ·exact fun k=>⟨_,List.getElem?_eq_getElem h,k,fun j b e=>by omega⟩
theorem KeyAt.succ {l:List Int} {i:Nat} (h:i+1 < l.length):KeyAt l (i+1)↔NumOk l[i+1]∧l[i] < l[i+1]:=by
 constructor
 ·rintro ⟨a,h1,h2,h3⟩
  rw [List.getElem?_eq_getElem h] at h1
  cases h1
  exact ⟨h2,h3 i _ rfl (List.getElem?_eq_getElem (by omega))⟩
 ·rintro ⟨k1,k2⟩
  refine ⟨_,List.getElem?_eq_getElem h,k1,fun j b e hb=>?_⟩
  obtain rfl:i=j:=by omega
  rw [List.getElem?_eq_getElem (by omega)] at hb
  cases hb;exact k2
def Tof (ts:List Tbl) (n:ByteArray) (t:Tbl):Prop:=∃ i,∃ h:i < ts.length,ts[i]=t∧t.name=n∧∀ j (hj:j < i),ts[j].name≠n
theorem Tof.uniq {ts:List Tbl} {n:ByteArray} {t u:Tbl} (h:Tof ts n t) (k:Tof ts n u):t=u:=by
 obtain ⟨i,hi,e1,n1,m1⟩:=h
 obtain ⟨j,hj,e2,n2,m2⟩:=k
 have:i=j:=by
  rcases Nat.lt_trichotomy i j with q|q|q
  ·exact absurd (by rw [e1];exact n1) (m2 i q)
  ·exact q
  ·exact absurd (by rw [e2];exact n2) (m1 j q)
 subst this
 exact e1.symm.trans e2
def El.Bare (e:El):Prop:=e.keys.length=0∧e.kids.length=0
instance (e:El):Decidable e.Bare:=by unfold El.Bare;infer_instance
def IsE (ts:List Tbl):Nat→Shp→El→Prop
 | 0,_,_=>False
 | d+1,s,e=>e.Bot∨(e.kind=1∧s.kind=1∧e.n=0∧e.Bare)∨(e.kind=3∧s.kind=4∧e.n=0∧e.Bare)∨(e.kind=2∧(s.kind=2∨s.kind=4)∧NumOk e.n∧e.Bare) ∨
   (e.kind=4∧s.kind=5∧(∃ t,Tof ts s.name t∧1≤e.n∧e.n < t.elems.length)∧e.Bare) ∨
   (e.kind=5∧s.kind=3∧e.n=0∧e.kids.length=0∧KeysOk e.keys) ∨
   (e.kind=6∧s.kind=6∧e.n=0∧KeysOk e.keys∧e.kids.length=e.keys.length∧∀ i (h:i < e.kids.length),¬ (e.kids[i]).Bot∧∃ h2:0 < s.kids.length,IsE ts d s.kids[0] e.kids[i]) ∨
   (e.kind=7∧s.kind=7∧e.n=0∧e.keys.length=0∧e.kids.length=2∧∃ (h:1 < e.kids.length) (h2:1 < s.kids.length),IsE ts d s.kids[0] e.kids[0]∧IsE ts d s.kids[1] e.kids[1]∧¬ ((e.kids[0]).Bot∧(e.kids[1]).Bot))
def Inc (l:List Int):Prop:=l.Pairwise (· < ·)
theorem Inc.ext:∀ {l m:List Int},Inc l→Inc m→(∀ x,x∈l↔x∈m)→l=m
 | [],[],_,_,_=>rfl
 | [],y::m,_,_,h=>by have:=(h y).2 (List.mem_cons_self ..);cases this
 | x::l,[],_,_,h=>by have:=(h x).1 (List.mem_cons_self ..);cases this
 | x::l,y::m,hl,hm,h=>by
  have hl':=List.pairwise_cons.1 hl
  have hm':=List.pairwise_cons.1 hm
  have e:x=y:=by
   have h1:=(h x).1 (List.mem_cons_self ..)
   have h2:=(h y).2 (List.mem_cons_self ..)
   rcases List.mem_cons.1 h1 with q|q
   ·exact q
   ·rcases List.mem_cons.1 h2 with r|r
    ·exact r.symm
    ·have:=hl'.1 _ r;have:=hm'.1 _ q;omega
  subst e
  rw [Inc.ext hl'.2 hm'.2]
  intro z
  constructor
  ·intro q
   have:=(h z).1 (List.mem_cons_of_mem _ q)
   rcases List.mem_cons.1 this with r|r
   ·subst r;have:=hl'.1 _ q;omega
   ·exact r
  ·intro q
   have:=(h z).2 (List.mem_cons_of_mem _ q)
   rcases List.mem_cons.1 this with r|r
   ·subst r;have:=hm'.1 _ q;omega
   ·exact r
def mrg:List Int→List Int→List Int
 | [],b=>b
 | x::a,[]=>x::a
 | x::a,y::b=>if x < y then x::mrg a (y::b) else if y < x then y::mrg (x::a) b else mrg a (y::b)
termination_by a b=>a.length+b.length
theorem mrg_nil (b:List Int):mrg [] b=b:=by rw [mrg]
theorem mrg_nilr (a:List Int):mrg a []=a:=by cases a<;>rw [mrg]
theorem mem_mrg:∀ (a b:List Int) (z:Int),z∈mrg a b↔z∈a∨z∈b
 | [],b,z=>by rw [mrg];simp
 | x::a,[],z=>by rw [mrg];simp
 | x::a,y::b,z=>by
  rw [mrg]
  split
  ·rw [List.mem_cons,mem_mrg a (y::b) z,List.mem_cons (a:=z) (b:=x)];simp only [or_assoc]
  ·split
   ·rw [List.mem_cons,mem_mrg (x::a) b z,List.mem_cons (a:=z) (b:=y)]
    constructor
    ·rintro (h|h|h)
     ·exact .inr (.inl h)
     ·exact .inl h
     ·exact .inr (.inr h)
    ·rintro (h|h|h)
     ·exact .inr (.inl h)
     ·exact .inl h
     ·exact .inr (.inr h)
   ·have e:x=y:=by omega
    subst e
    rw [mem_mrg a (x::b) z,List.mem_cons (a:=z) (b:=x),List.mem_cons (a:=z) (b:=x)]
    constructor
    ·rintro (h|h|h)
     ·exact .inl (.inr h)
     ·exact .inl (.inl h)
     ·exact .inr (.inr h)
    ·rintro ((h|h)|h|h)
     ·exact .inr (.inl h)
     ·exact .inl h
     ·exact .inr (.inl h)
     ·exact .inr (.inr h)
termination_by a b=>a.length+b.length
theorem inc_mrg:∀ {a b:List Int},Inc a→Inc b→Inc (mrg a b)
 | [],b,_,h=>by rw [mrg];exact h
 | x::a,[],h,_=>by rw [mrg];exact h
 | x::a,y::b,ha,hb=>by
  have ha':=List.pairwise_cons.1 ha
  have hb':=List.pairwise_cons.1 hb
  rw [mrg]
  split
  ·rename_i c
   refine List.pairwise_cons.2 ⟨fun z hz=>?_,inc_mrg ha'.2 hb⟩
   rcases (mem_mrg _ _ _).1 hz with q|q
   ·exact ha'.1 z q
   ·rcases List.mem_cons.1 q with r|r
    ·subst r;exact c
    ·have:=hb'.1 z r;omega
  ·split
   ·rename_i c
    refine List.pairwise_cons.2 ⟨fun z hz=>?_,inc_mrg ha hb'.2⟩
    rcases (mem_mrg _ _ _).1 hz with q|q
    ·rcases List.mem_cons.1 q with r|r
     ·subst r;exact c
     ·have:=ha'.1 z r;omega
    ·exact hb'.1 z q
   ·exact inc_mrg ha'.2 hb
termination_by a b=>a.length+b.length
theorem mrg_comm {a b:List Int} (ha:Inc a) (hb:Inc b):mrg a b=mrg b a :=
 (inc_mrg ha hb).ext (inc_mrg hb ha) fun x=>by rw [mem_mrg,mem_mrg,or_comm]
theorem mrg_assoc {a b c:List Int} (ha:Inc a) (hb:Inc b) (hc:Inc c):mrg (mrg a b) c=mrg a (mrg b c) :=
 (inc_mrg (inc_mrg ha hb) hc).ext (inc_mrg ha (inc_mrg hb hc)) fun x=>by simp only [mem_mrg,or_assoc]
theorem mrg_idem {a:List Int} (ha:Inc a):mrg a a=a:=(inc_mrg ha ha).ext ha fun x=>by rw [mem_mrg,or_self]
theorem Inc.length_le:∀ {a b:List Int},Inc a→Inc b→(∀ x∈a,x∈b)→a.length≤b.length
 | [],_,_,_,_=>by simp
 | x::a,b,ha,hb,h=>by
  have ha':=List.pairwise_cons.1 ha
  have hx:=h x (List.mem_cons_self ..)
  have hb2:Inc (b.erase x):=List.Pairwise.sublist (List.erase_sublist ..) hb
  have:=Inc.length_le ha'.2 hb2 fun z hz=>by
   have:=ha'.1 z hz
   exact (List.mem_erase_of_ne (by omega)).2 (h z (List.mem_cons_of_mem _ hz))
  rw [List.length_erase_of_mem hx] at this
  have:0 < b.length:=List.length_pos_of_mem hx
  simp only [List.length_cons];omega
structure Ks (l:List Int):Prop where
 ne:l≠[]
 num:∀ k∈l,NumOk k
 inc:Inc l
theorem Ks.mrg {a b:List Int} (ha:Ks a) (hb:Ks b):Ks (mrg a b) where
 ne:=by
  intro e
  obtain ⟨x,hx⟩:=List.exists_mem_of_ne_nil a ha.ne
  have:=(mem_mrg a b x).2 (.inl hx)
  rw [e] at this;cases this
 num:=fun k hk=>by
  rcases (mem_mrg _ _ _).1 hk with q|q
  ·exact ha.num k q
  ·exact hb.num k q
 inc:=inc_mrg ha.inc hb.inc
theorem keysOk_iff {l:List Int}:KeysOk l↔Ks l∧l.length≤40:=by
 constructor
 ·rintro ⟨h1,h2,h3⟩
  refine ⟨⟨by intro e;subst e;simp at h1,?_,?_⟩,h2⟩
  ·intro k hk
   obtain ⟨i,hi,rfl⟩:=List.getElem_of_mem hk
   obtain ⟨a,e,n,_⟩:=h3 i hi
   rw [List.getElem?_eq_getElem hi] at e
   cases e;exact n
  ·have step:∀ i (h:i+1 < l.length),l[i] < l[i+1]:=fun i h=>((KeyAt.succ h).1 (h3 _ h)).2
   have far:∀ n i (h:i+n+1 < l.length),l[i] < l[i+n+1]:=by
    intro n
    induction n with
    | zero=>exact fun i h=>step i h
    | succ n ih=>intro i h;have:=ih i (by omega);have:=step (i+n+1) (by omega);simp only [Nat.add_assoc] at *;omega
   refine List.pairwise_iff_getElem.2 fun i j hi hj hij=>?_
   have:=far (j - i - 1) i (by omega)
   simp only [show i+(j - i - 1)+1=j by omega] at this
   exact this
 ·rintro ⟨⟨h1,h2,h3⟩,h4⟩
  refine ⟨by cases l<;>simp_all,h4,fun i hi=>?_⟩
  cases i with
  | zero=>exact (KeyAt.zero hi).2 (h2 _ (List.getElem_mem hi))
  | succ i=>exact (KeyAt.succ hi).2 ⟨h2 _ (List.getElem_mem hi),List.pairwise_iff_getElem.1 h3 _ _ _ _ (by omega)⟩
theorem Tbl.Bl.refl {t:Tbl} (a:Nat):t.Bl a a:=.inl rfl
theorem Tbl.Bl.trans {t:Tbl} {a b c:Nat} (h:t.Bl a b) (k:t.Bl b c):t.Bl a c:=by
 rcases h with rfl|h
 ·exact k
 ·rcases k with rfl|k
  ·exact .inr h
  ·exact .inr (h.trans k)
theorem Tbl.Lat.anti {t:Tbl} (L:t.Lat) {a b:Nat} (ha:a < t.elems.length) (h:t.Bl a b) (k:t.Bl b a):a=b:=by
 rcases h with h|h
 ·exact h
 ·rcases k with k|k
  ·exact k.symm
  ·exact absurd (h.trans k) (L.1 a ha)
theorem Tbl.Jn.comm {t:Tbl} {a b c:Nat} (h:t.Jn a b c):t.Jn b a c:=⟨h.1,h.2.2.1,h.2.1,fun d k1 k2 k3=>h.2.2.2 d k1 k3 k2⟩
theorem Tbl.Jn.uniq {t:Tbl} (L:t.Lat) {a b c d:Nat} (h:t.Jn a b c) (k:t.Jn a b d):c=d :=
 L.anti h.1 (h.2.2.2 d k.1 k.2.1 k.2.2.1) (k.2.2.2 c h.1 h.2.1 h.2.2.1)
theorem Tbl.Lat.ex {t:Tbl} (L:t.Lat) {a b:Nat} (ha:a < t.elems.length) (hb:b < t.elems.length):∃ c,t.Jn a b c:=by
 rcases Nat.lt_trichotomy a b with q|q|q
 ·exact L.2.2.1 a b q hb
 ·subst q;exact ⟨a,ha,.refl a,.refl a,fun d _ k _=>k⟩
 ·obtain ⟨c,h⟩:=L.2.2.1 b a q ha;exact ⟨c,h.comm⟩
open Classical in
noncomputable def Tbl.jn (t:Tbl) (a b:Nat):Nat:=if h:∃ c,t.Jn a b c then Classical.choose h else 0
theorem Tbl.Lat.jn {t:Tbl} (L:t.Lat) {a b:Nat} (ha:a < t.elems.length) (hb:b < t.elems.length):t.Jn a b (t.jn a b):=by
 unfold Tbl.jn
 rw [dif_pos (L.ex ha hb)]
 exact Classical.choose_spec (L.ex ha hb)
theorem Tbl.Jn.eq {t:Tbl} (L:t.Lat) {a b c:Nat} (ha:a < t.elems.length) (hb:b < t.elems.length) (h:t.Jn a b c):t.jn a b=c:=(L.jn ha hb).uniq L h
theorem Tbl.Lat.jn_comm {t:Tbl} (L:t.Lat) {a b:Nat} (ha:a < t.elems.length) (hb:b < t.elems.length):t.jn a b=t.jn b a:=((L.jn hb ha).comm.eq L ha hb)
theorem Tbl.Lat.jn_self {t:Tbl} (L:t.Lat) {a:Nat} (ha:a < t.elems.length):t.jn a a=a:=Tbl.Jn.eq L ha ha ⟨ha,.refl a,.refl a,fun d _ k _=>k⟩
theorem Tbl.Lat.jn_assoc {t:Tbl} (L:t.Lat) {a b c:Nat} (ha:a < t.elems.length) (hb:b < t.elems.length) (hc:c < t.elems.length):t.jn (t.jn a b) c=t.jn a (t.jn b c):=by
 have h1:=L.jn ha hb
 have h2:=L.jn hb hc
 have h3:=L.jn ha h2.1
 refine Tbl.Jn.eq L h1.1 hc ⟨h3.1,?_,?_,fun d hd k1 k2=>?_⟩
 ·exact h1.2.2.2 _ h3.1 h3.2.1 (h2.2.1.trans h3.2.2.1)
 ·exact h2.2.2.1.trans h3.2.2.1
 ·exact h3.2.2.2 d hd (h1.2.1.trans k1) (h2.2.2.2 d hd (h1.2.2.1.trans k1) k2)
theorem Tbl.Lat.jn_pos {t:Tbl} (L:t.Lat) {a b:Nat} (ha:a < t.elems.length) (hb:b < t.elems.length) (h:1≤a):1≤t.jn a b:=by
 have h1:=L.jn ha hb
 refine Nat.pos_of_ne_zero fun e=>?_
 rw [e] at h1
 have:=L.anti (by omega) h1.2.1 (L.2.1 a ha)
 omega
open Classical in
noncomputable def tabOf (ts:List Tbl) (n:ByteArray):Tbl:=if h:∃ t,Tof ts n t then Classical.choose h else ⟨n,[],[],[]⟩
theorem Tof.eq {ts:List Tbl} {n:ByteArray} {t:Tbl} (h:Tof ts n t):tabOf ts n=t:=by
 unfold tabOf
 rw [dif_pos ⟨t,h⟩]
 exact (Classical.choose_spec (⟨t,h⟩:∃ t,Tof ts n t)).uniq h
theorem Tof.mem {ts:List Tbl} {n:ByteArray} {t:Tbl} (h:Tof ts n t):t∈ts:=by
 obtain ⟨i,hi,rfl,_⟩:=h;exact List.getElem_mem hi
def Lats (ts:List Tbl):Prop:=∀ t∈ts,t.Lat
end Go.Proofs.J
namespace Go.Proofs.J
open Go Go.Ev
def El.bot:El:=.mk 0 0 [] []
theorem El.Bot_iff {e:El}:e.Bot↔e=El.bot:=by
 cases e with
 | mk k n ks l=>simp [El.Bot,El.kind,El.n,El.keys,El.kids,El.bot]
open Classical in
noncomputable instance:DecidableEq El:=fun a b=>Classical.propDecidable _
def atK:List Int→List El→Int→El
 | x::ks,y::l,k=>if x=k then y else atK ks l k
 | _,_,_=>El.bot
def El.at (e:El) (k:Int):El:=atK e.keys e.kids k
theorem atK_none:∀ {ks:List Int} {l:List El} {k:Int},k∉ks→atK ks l k=El.bot
 | [],_,_,_=>by simp [atK]
 | x::ks,[],_,_=>by simp [atK]
 | x::ks,y::l,k,h=>by
  simp only [List.mem_cons,not_or] at h
  rw [atK,if_neg (fun e=>h.1 e.symm)]
  exact atK_none h.2
theorem atK_map {f:Int→El}:∀ {ks:List Int} {k:Int},k∈ks→atK ks (ks.map f) k=f k
 | x::ks,k,h=>by
  rw [List.map_cons,atK]
  split
  ·rename_i e;rw [e]
  ·rename_i e
   exact atK_map ((List.mem_cons.1 h).resolve_left fun q=>e q.symm)
theorem atK_mem:∀ {ks:List Int} {l:List El} {k:Int},l.length=ks.length→k∈ks→atK ks l k∈l
 | x::ks,[],_,h,_=>by simp at h
 | x::ks,y::l,k,hl,h=>by
  rw [atK]
  split
  ·exact List.mem_cons_self ..
  ·rename_i e
   exact List.mem_cons_of_mem _ (atK_mem (by simpa using hl) ((List.mem_cons.1 h).resolve_left fun q=>e q.symm))
theorem map_atK:∀ {ks:List Int} {l:List El},l.length=ks.length→ks.Nodup→ks.map (atK ks l)=l
 | [],[],_,_=>rfl
 | x::ks,y::l,hl,hn=>by
  have hn':=List.nodup_cons.1 hn
  have e:ks.map (atK (x::ks) (y::l))=ks.map (atK ks l):=List.map_congr_left fun k hk=>by
   rw [atK,if_neg (fun e=>hn'.1 (by rw [e];exact hk))]
  rw [List.map_cons,e,map_atK (by simpa using hl) hn'.2,atK,if_pos rfl]
theorem Inc.nodup {l:List Int} (h:Inc l):l.Nodup:=List.Pairwise.imp (fun h=>by omega) h
def IsW (ts:List Tbl):Nat→Shp→El→Prop
 | 0,_,_=>False
 | d+1,s,e=>e=El.bot ∨
   (s.kind=1∧e=.mk 1 0 [] []) ∨
   (s.kind=2∧∃ n,NumOk n∧e=.mk 2 n [] []) ∨
   (s.kind=4∧((∃ n,NumOk n∧e=.mk 2 n [] [])∨e=.mk 3 0 [] [])) ∨
   (s.kind=5∧∃ (t:Tbl) (n:Nat),Tof ts s.name t∧1≤n∧n < t.elems.length∧e=.mk 4 n [] []) ∨
   (s.kind=3∧∃ ks,Ks ks∧e=.mk 5 0 ks []) ∨
   (s.kind=6∧∃ k0 ks l,s.kids[0]?=some k0∧Ks ks∧l.length=ks.length∧(∀ x∈l,x≠El.bot∧IsW ts d k0 x)∧e=.mk 6 0 ks l) ∨
   (s.kind=7∧∃ k0 k1 x y,s.kids[0]?=some k0∧s.kids[1]?=some k1∧IsW ts d k0 x∧IsW ts d k1 y∧¬ (x=El.bot∧y=El.bot)∧e=.mk 7 0 [] [x,y])
theorem IsW.bot {ts:List Tbl} {d:Nat} {s:Shp}:IsW ts (d+1) s El.bot:=by rw [IsW];exact .inl rfl
section inv
variable {ts:List Tbl} {d:Nat} {s:Shp} {e:El}
theorem IsW.inv1 (h:IsW ts (d+1) s e) (n:e≠El.bot) (k:s.kind=1):e=.mk 1 0 [] []:=by simpa [IsW,n,k] using h
theorem IsW.inv2 (h:IsW ts (d+1) s e) (n:e≠El.bot) (k:s.kind=2):∃ m,NumOk m∧e=.mk 2 m [] []:=by simpa [IsW,n,k] using h
theorem IsW.inv4 (h:IsW ts (d+1) s e) (n:e≠El.bot) (k:s.kind=4):(∃ m,NumOk m∧e=.mk 2 m [] [])∨e=.mk 3 0 [] []:=by simpa [IsW,n,k] using h
theorem IsW.inv5 (h:IsW ts (d+1) s e) (n:e≠El.bot) (k:s.kind=5):∃ (t:Tbl) (n:Nat),Tof ts s.name t∧1≤n∧n < t.elems.length∧e=.mk 4 n [] []:=by simpa [IsW,n,k] using h
theorem IsW.inv3 (h:IsW ts (d+1) s e) (n:e≠El.bot) (k:s.kind=3):∃ ks,Ks ks∧e=.mk 5 0 ks []:=by simpa [IsW,n,k] using h
theorem IsW.inv6 (h:IsW ts (d+1) s e) (n:e≠El.bot) (k:s.kind=6):∃ k0 ks l,s.kids[0]?=some k0∧Ks ks∧l.length=ks.length∧(∀ x∈l,x≠El.bot∧IsW ts d k0 x)∧e=.mk 6 0 ks l:=by
 rw [IsW] at h
 rcases h with h|⟨q,_⟩|⟨q,_⟩|⟨q,_⟩|⟨q,_⟩|⟨q,_⟩|⟨q,h⟩|⟨q,_⟩
 ·exact absurd h n
 all_goals first|exact h|(rw [k] at q;exact absurd q (by decide))
theorem IsW.inv7 (h:IsW ts (d+1) s e) (n:e≠El.bot) (k:s.kind=7):∃ k0 k1 x y,s.kids[0]?=some k0∧s.kids[1]?=some k1∧IsW ts d k0 x∧IsW ts d k1 y∧¬ (x=El.bot∧y=El.bot)∧e=.mk 7 0 [] [x,y]:=by
 rw [IsW] at h
 rcases h with h|⟨q,_⟩|⟨q,_⟩|⟨q,_⟩|⟨q,_⟩|⟨q,_⟩|⟨q,_⟩|⟨q,h⟩
 ·exact absurd h n
 all_goals first|exact h|(rw [k] at q;exact absurd q (by decide))
theorem IsW.kinds (h:IsW ts (d+1) s e) (n:e≠El.bot):s.kind=1∨s.kind=2∨s.kind=4∨s.kind=5∨s.kind=3∨s.kind=6∨s.kind=7:=by
 rw [IsW] at h
 rcases h with h|⟨q,_⟩|⟨q,_⟩|⟨q,_⟩|⟨q,_⟩|⟨q,_⟩|⟨q,_⟩|⟨q,_⟩<;>simp_all
theorem IsW.of1 (k:s.kind=1):IsW ts (d+1) s (.mk 1 0 [] []):=by rw [IsW];exact .inr (.inl ⟨k,rfl⟩)
theorem IsW.of2 {m:Int} (k:s.kind=2) (h:NumOk m):IsW ts (d+1) s (.mk 2 m [] []):=by rw [IsW];exact .inr (.inr (.inl ⟨k,m,h,rfl⟩))
theorem IsW.of4 {m:Int} (k:s.kind=4) (h:NumOk m):IsW ts (d+1) s (.mk 2 m [] []):=by rw [IsW];exact .inr (.inr (.inr (.inl ⟨k,.inl ⟨m,h,rfl⟩⟩)))
theorem IsW.of4c (k:s.kind=4):IsW ts (d+1) s (.mk 3 0 [] []):=by rw [IsW];exact .inr (.inr (.inr (.inl ⟨k,.inr rfl⟩)))
theorem IsW.of5 {t:Tbl} {m:Nat} (k:s.kind=5) (h:Tof ts s.name t) (h1:1≤m) (h2:m < t.elems.length):IsW ts (d+1) s (.mk 4 m [] []):=by rw [IsW];exact .inr (.inr (.inr (.inr (.inl ⟨k,t,m,h,h1,h2,rfl⟩))))
theorem IsW.of3 {ks:List Int} (k:s.kind=3) (h:Ks ks):IsW ts (d+1) s (.mk 5 0 ks []):=by rw [IsW];exact .inr (.inr (.inr (.inr (.inr (.inl ⟨k,ks,h,rfl⟩)))))
theorem IsW.of6 {k0:Shp} {ks:List Int} {l:List El} (k:s.kind=6) (h0:s.kids[0]?=some k0) (h:Ks ks) (hl:l.length=ks.length) (hx:∀ x∈l,x≠El.bot∧IsW ts d k0 x):IsW ts (d+1) s (.mk 6 0 ks l):=by
 rw [IsW];exact .inr (.inr (.inr (.inr (.inr (.inr (.inl ⟨k,k0,ks,l,h0,h,hl,hx,rfl⟩))))))
theorem IsW.of7 {k0 k1:Shp} {x y:El} (k:s.kind=7) (h0:s.kids[0]?=some k0) (h1:s.kids[1]?=some k1) (hx:IsW ts d k0 x) (hy:IsW ts d k1 y) (hn:¬ (x=El.bot∧y=El.bot)):IsW ts (d+1) s (.mk 7 0 [] [x,y]):=by
 rw [IsW];exact .inr (.inr (.inr (.inr (.inr (.inr (.inr ⟨k,k0,k1,x,y,h0,h1,hx,hy,hn,rfl⟩))))))
end inv
theorem IsW.pos {ts:List Tbl} {d:Nat} {s:Shp} {e:El} (h:IsW ts d s e):∃ d',d=d'+1:=by
 cases d with
 | zero=>exact absurd h (by simp [IsW])
 | succ d=>exact ⟨d,rfl⟩
def Shp.kid (s:Shp) (i:Nat):Shp:=s.kids.getD i s
def El.kd (e:El) (i:Nat):El:=e.kids.getD i El.bot
theorem Shp.kid_eq {s k:Shp} {i:Nat} (h:s.kids[i]?=some k):s.kid i=k:=by simp [Shp.kid,h]
noncomputable def joinE (ts:List Tbl):Nat→Shp→El→El→El
 | 0,_,a,_=>a
 | d+1,s,a,b =>
  if a=El.bot then b else if b=El.bot then a else
  if s.kind=2 then .mk 2 (max a.n b.n) [] []
  else if s.kind=4 then (if a.kind=2∧b.kind=2∧a.n=b.n then a else .mk 3 0 [] [])
  else if s.kind=5 then .mk 4 ((tabOf ts s.name).jn a.n.toNat b.n.toNat:Nat) [] []
  else if s.kind=3 then .mk 5 0 (mrg a.keys b.keys) []
  else if s.kind=6 then .mk 6 0 (mrg a.keys b.keys) ((mrg a.keys b.keys).map fun k=>joinE ts d (s.kid 0) (a.at k) (b.at k))
  else if s.kind=7 then .mk 7 0 [] [joinE ts d (s.kid 0) (a.kd 0) (b.kd 0),joinE ts d (s.kid 1) (a.kd 1) (b.kd 1)]
  else a
section eqs
variable {ts:List Tbl} {d:Nat} {s:Shp} {a b:El}
theorem joinE_botl:joinE ts (d+1) s El.bot b=b:=by rw [joinE,if_pos rfl]
theorem joinE_botr:joinE ts (d+1) s a El.bot=a:=by
 rw [joinE];split
 ·rename_i h;exact h.symm
 ·rw [if_pos rfl]
theorem joinE_1 (ha:a≠El.bot) (hb:b≠El.bot) (k:s.kind=1):joinE ts (d+1) s a b=a:=by simp [joinE,ha,hb,k]
theorem joinE_2 (ha:a≠El.bot) (hb:b≠El.bot) (k:s.kind=2):joinE ts (d+1) s a b=.mk 2 (max a.n b.n) [] []:=by simp [joinE,ha,hb,k]
theorem joinE_4 (ha:a≠El.bot) (hb:b≠El.bot) (k:s.kind=4):joinE ts (d+1) s a b=if a.kind=2∧b.kind=2∧a.n=b.n then a else .mk 3 0 [] []:=by simp [joinE,ha,hb,k]
theorem joinE_5 (ha:a≠El.bot) (hb:b≠El.bot) (k:s.kind=5):joinE ts (d+1) s a b=.mk 4 ((tabOf ts s.name).jn a.n.toNat b.n.toNat:Nat) [] []:=by simp [joinE,ha,hb,k]
theorem joinE_3 (ha:a≠El.bot) (hb:b≠El.bot) (k:s.kind=3):joinE ts (d+1) s a b=.mk 5 0 (mrg a.keys b.keys) []:=by simp [joinE,ha,hb,k]
theorem joinE_6 (ha:a≠El.bot) (hb:b≠El.bot) (k:s.kind=6):joinE ts (d+1) s a b=.mk 6 0 (mrg a.keys b.keys) ((mrg a.keys b.keys).map fun k=>joinE ts d (s.kid 0) (a.at k) (b.at k)):=by simp [joinE,ha,hb,k]
theorem joinE_7 (ha:a≠El.bot) (hb:b≠El.bot) (k:s.kind=7):joinE ts (d+1) s a b=.mk 7 0 [] [joinE ts d (s.kid 0) (a.kd 0) (b.kd 0),joinE ts d (s.kid 1) (a.kd 1) (b.kd 1)]:=by simp [joinE,ha,hb,k]
end eqs
theorem mk_ne {k n:Int} {ks:List Int} {l:List El} (h:k≠0):El.mk k n ks l≠El.bot:=by intro e;cases e;exact h rfl
theorem at_W {ts:List Tbl} {d:Nat} {k0:Shp} {ks:List Int} {l:List El} (hd:∃ d',d=d'+1) (hl:l.length=ks.length) (hx:∀ x∈l,x≠El.bot∧IsW ts d k0 x) (k:Int):IsW ts d k0 (atK ks l k):=by
 by_cases h:k∈ks
 ·exact (hx _ (atK_mem hl h)).2
 ·rw [atK_none h]
  obtain ⟨d',rfl⟩:=hd
  exact IsW.bot
theorem kids_pos {ts:List Tbl} {d:Nat} {k0:Shp} {ks:List Int} {l:List El} (h:Ks ks) (hl:l.length=ks.length) (hx:∀ x∈l,x≠El.bot∧IsW ts d k0 x):∃ d',d=d'+1:=by
 obtain ⟨x,hx0⟩:=List.exists_mem_of_ne_nil ks h.ne
 exact (hx _ (atK_mem hl hx0)).2.pos
theorem joinE_W {ts:List Tbl} (L:Lats ts):∀ {d:Nat} {s:Shp} {a b:El},IsW ts d s a→IsW ts d s b→IsW ts d s (joinE ts d s a b)∧(a≠El.bot∨b≠El.bot→joinE ts d s a b≠El.bot)
 | 0,s,a,b,h,_=>absurd h (by simp [IsW])
 | d+1,s,a,b,ha,hb=>by
  by_cases na:a=El.bot
  ·subst na;rw [joinE_botl];exact ⟨hb,fun h=>h.resolve_left fun q=>q rfl⟩
  by_cases nb:b=El.bot
  ·subst nb;rw [joinE_botr];exact ⟨ha,fun _=>na⟩
  rcases ha.kinds na with k|k|k|k|k|k|k
  ·rw [joinE_1 na nb k];exact ⟨ha,fun _=>na⟩
  ·rw [joinE_2 na nb k]
   obtain ⟨m,hm,rfl⟩:=ha.inv2 na k
   obtain ⟨n,hn,rfl⟩:=hb.inv2 nb k
   refine ⟨IsW.of2 k ?_,fun _=>mk_ne (by decide)⟩
   show NumOk (max m n)
   unfold NumOk at *;omega
  ·rw [joinE_4 na nb k]
   split
   ·exact ⟨ha,fun _=>na⟩
   ·exact ⟨IsW.of4c k,fun _=>mk_ne (by decide)⟩
  ·rw [joinE_5 na nb k]
   obtain ⟨t,m,ht,h1,h2,rfl⟩:=ha.inv5 na k
   obtain ⟨t',n,ht',k1,k2,rfl⟩:=hb.inv5 nb k
   obtain rfl:=ht.uniq ht'
   rw [ht.eq]
   have Lt:=L t ht.mem
   refine ⟨IsW.of5 k ht (Lt.jn_pos h2 k2 h1) (Lt.jn h2 k2).1,fun _=>mk_ne (by decide)⟩
  ·rw [joinE_3 na nb k]
   obtain ⟨ks,h1,rfl⟩:=ha.inv3 na k
   obtain ⟨ks',h2,rfl⟩:=hb.inv3 nb k
   exact ⟨IsW.of3 k (h1.mrg h2),fun _=>mk_ne (by decide)⟩
  ·rw [joinE_6 na nb k]
   obtain ⟨k0,ks,l,hk0,h1,hl,hx,rfl⟩:=ha.inv6 na k
   obtain ⟨k0',ks',l',hk0',h1',hl',hx',rfl⟩:=hb.inv6 nb k
   obtain rfl:k0=k0':=by rw [hk0] at hk0';exact Option.some.inj hk0'
   rw [Shp.kid_eq hk0]
   refine ⟨IsW.of6 k hk0 (h1.mrg h1') (by simp) ?_,fun _=>mk_ne (by decide)⟩
   intro x hx0
   obtain ⟨z,hz,rfl⟩:=List.mem_map.1 hx0
   have ih:=joinE_W L (at_W (kids_pos h1 hl hx) hl hx z) (at_W (kids_pos h1 hl hx) hl' hx' z)
   refine ⟨ih.2 ?_,ih.1⟩
   rcases (mem_mrg _ _ _).1 hz with q|q
   ·exact .inl (hx _ (atK_mem hl q)).1
   ·exact .inr (hx' _ (atK_mem hl' q)).1
  ·rw [joinE_7 na nb k]
   obtain ⟨k0,k1,x,y,hk0,hk1,hx,hy,hn,rfl⟩:=ha.inv7 na k
   obtain ⟨k0',k1',x',y',hk0',hk1',hx',hy',hn',rfl⟩:=hb.inv7 nb k
   obtain rfl:k0=k0':=by rw [hk0] at hk0';exact Option.some.inj hk0'
   obtain rfl:k1=k1':=by rw [hk1] at hk1';exact Option.some.inj hk1'
   rw [Shp.kid_eq hk0,Shp.kid_eq hk1]
   have i0:=joinE_W L hx hx'
   have i1:=joinE_W L hy hy'
   refine ⟨IsW.of7 k hk0 hk1 i0.1 i1.1 ?_,fun _=>mk_ne (by decide)⟩
   rintro ⟨e0,e1⟩
   have e0':=fun h=>i0.2 h e0
   have e1':=fun h=>i1.2 h e1
   exact hn ⟨Classical.byContradiction fun q=>e0' (.inl q),Classical.byContradiction fun q=>e1' (.inl q)⟩
theorem at_join {ts:List Tbl} {d:Nat} {k0:Shp} {ks ks':List Int} {l l':List El} (hd:∃ d',d=d'+1) (z:Int) :
  atK (mrg ks ks') ((mrg ks ks').map fun k=>joinE ts d k0 (atK ks l k) (atK ks' l' k)) z=joinE ts d k0 (atK ks l z) (atK ks' l' z):=by
 by_cases h:z∈mrg ks ks'
 ·exact atK_map h
 ·rw [atK_none h]
  rw [mem_mrg,not_or] at h
  rw [atK_none h.1,atK_none h.2]
  obtain ⟨d',rfl⟩:=hd
  exact joinE_botl.symm
theorem joinE_comm {ts:List Tbl} (L:Lats ts):∀ {d:Nat} {s:Shp} {a b:El},IsW ts d s a→IsW ts d s b→joinE ts d s a b=joinE ts d s b a
 | 0,s,a,b,h,_=>absurd h (by simp [IsW])
 | d+1,s,a,b,ha,hb=>by
  by_cases na:a=El.bot
  ·subst na;rw [joinE_botl,joinE_botr]
  by_cases nb:b=El.bot
  ·subst nb;rw [joinE_botr,joinE_botl]
  rcases ha.kinds na with k|k|k|k|k|k|k
  ·rw [joinE_1 na nb k,joinE_1 nb na k,ha.inv1 na k,hb.inv1 nb k]
  ·rw [joinE_2 na nb k,joinE_2 nb na k,Int.max_comm]
  ·rw [joinE_4 na nb k,joinE_4 nb na k]
   by_cases c:a.kind=2∧b.kind=2∧a.n=b.n
   ·rw [if_pos c,if_pos ⟨c.2.1,c.1,c.2.2.symm⟩]
    rcases ha.inv4 na k with ⟨m,_,rfl⟩|rfl
    ·rcases hb.inv4 nb k with ⟨n,_,rfl⟩|rfl
     ·have:m=n:=c.2.2
      rw [this]
     ·exact absurd c.2.1 (by show ¬ ((3:Int)=2);decide)
    ·exact absurd c.1 (by show ¬ ((3:Int)=2);decide)
   ·rw [if_neg c,if_neg (fun q=>c ⟨q.2.1,q.1,q.2.2.symm⟩)]
  ·rw [joinE_5 na nb k,joinE_5 nb na k]
   obtain ⟨t,m,ht,h1,h2,rfl⟩:=ha.inv5 na k
   obtain ⟨t',n,ht',k1,k2,rfl⟩:=hb.inv5 nb k
   obtain rfl:=ht.uniq ht'
   rw [ht.eq]
   have:=(L t ht.mem).jn_comm h2 k2
   simp only [El.n,Int.toNat_natCast,this]
  ·rw [joinE_3 na nb k,joinE_3 nb na k]
   obtain ⟨ks,h1,rfl⟩:=ha.inv3 na k
   obtain ⟨ks',h2,rfl⟩:=hb.inv3 nb k
   simp only [El.keys,mrg_comm h1.inc h2.inc]
  ·rw [joinE_6 na nb k,joinE_6 nb na k]
   obtain ⟨k0,ks,l,hk0,h1,hl,hx,rfl⟩:=ha.inv6 na k
   obtain ⟨k0',ks',l',hk0',h1',hl',hx',rfl⟩:=hb.inv6 nb k
   obtain rfl:k0=k0':=by rw [hk0] at hk0';exact Option.some.inj hk0'
   rw [Shp.kid_eq hk0]
   simp only [El.keys,mrg_comm h1'.inc h1.inc]
   congr 1
   apply List.map_congr_left
   intro z _
   exact joinE_comm L (at_W (kids_pos h1 hl hx) hl hx z) (at_W (kids_pos h1 hl hx) hl' hx' z)
  ·rw [joinE_7 na nb k,joinE_7 nb na k]
   obtain ⟨k0,k1,x,y,hk0,hk1,hx,hy,hn,rfl⟩:=ha.inv7 na k
   obtain ⟨k0',k1',x',y',hk0',hk1',hx',hy',hn',rfl⟩:=hb.inv7 nb k
   obtain rfl:k0=k0':=by rw [hk0] at hk0';exact Option.some.inj hk0'
   obtain rfl:k1=k1':=by rw [hk1] at hk1';exact Option.some.inj hk1'
   rw [Shp.kid_eq hk0,Shp.kid_eq hk1]
   show El.mk 7 0 [] [joinE ts d k0 x x',joinE ts d k1 y y']=El.mk 7 0 [] [joinE ts d k0 x' x,joinE ts d k1 y' y]
   rw [joinE_comm L hx hx',joinE_comm L hy hy']
theorem joinE_self {ts:List Tbl} (L:Lats ts):∀ {d:Nat} {s:Shp} {a:El},IsW ts d s a→joinE ts d s a a=a
 | 0,s,a,h=>absurd h (by simp [IsW])
 | d+1,s,a,ha=>by
  by_cases na:a=El.bot
  ·subst na;rw [joinE_botl]
  rcases ha.kinds na with k|k|k|k|k|k|k
  ·rw [joinE_1 na na k]
  ·rw [joinE_2 na na k]
   obtain ⟨m,hm,rfl⟩:=ha.inv2 na k
   simp only [El.n,Int.max_self]
  ·rw [joinE_4 na na k]
   rcases ha.inv4 na k with ⟨m,_,rfl⟩|rfl
   ·rw [if_pos ⟨rfl,rfl,rfl⟩]
   ·rw [if_neg (by rintro ⟨h,_⟩;exact absurd h (by show ¬ ((3:Int)=2);decide))]
  ·rw [joinE_5 na na k]
   obtain ⟨t,m,ht,h1,h2,rfl⟩:=ha.inv5 na k
   rw [ht.eq]
   simp only [El.n,Int.toNat_natCast,(L t ht.mem).jn_self h2]
  ·rw [joinE_3 na na k]
   obtain ⟨ks,h1,rfl⟩:=ha.inv3 na k
   simp only [El.keys,mrg_idem h1.inc]
  ·rw [joinE_6 na na k]
   obtain ⟨k0,ks,l,hk0,h1,hl,hx,rfl⟩:=ha.inv6 na k
   rw [Shp.kid_eq hk0]
   simp only [El.keys,mrg_idem h1.inc]
   congr 1
   have:(ks.map fun k=>joinE ts d k0 ((El.mk 6 0 ks l).at k) ((El.mk 6 0 ks l).at k))=ks.map (atK ks l):=by
    apply List.map_congr_left
    intro z _
    exact joinE_self L (at_W (kids_pos h1 hl hx) hl hx z)
   rw [this,map_atK hl h1.inc.nodup]
  ·rw [joinE_7 na na k]
   obtain ⟨k0,k1,x,y,hk0,hk1,hx,hy,hn,rfl⟩:=ha.inv7 na k
   rw [Shp.kid_eq hk0,Shp.kid_eq hk1]
   show El.mk 7 0 [] [joinE ts d k0 x x,joinE ts d k1 y y]=El.mk 7 0 [] [x,y]
   rw [joinE_self L hx,joinE_self L hy]
open Classical in
noncomputable def once (a b:El):El:=if a.kind=2∧b.kind=2∧a.n=b.n then a else .mk 3 0 [] []
theorem once_II (m n:Int):once (.mk 2 m [] []) (.mk 2 n [] [])=if m=n then .mk 2 m [] [] else .mk 3 0 [] []:=by
 unfold once
 by_cases h:m=n
 ·rw [if_pos h,if_pos ⟨rfl,rfl,h⟩]
 ·rw [if_neg h,if_neg fun q=>h q.2.2]
theorem once_C (b:El):once (.mk 3 0 [] []) b=.mk 3 0 [] []:=by
 unfold once
 split<;>rfl
theorem once_Cr (a:El):once a (.mk 3 0 [] [])=.mk 3 0 [] []:=by
 unfold once
 rw [if_neg fun q=>absurd q.2.1 (by show ¬ ((3:Int)=2);decide)]
theorem once_assoc {a b c:El} (ha:(∃ m,a=.mk 2 m [] [])∨a=.mk 3 0 [] []) (hb:(∃ m,b=.mk 2 m [] [])∨b=.mk 3 0 [] []) (hc:(∃ m,c=.mk 2 m [] [])∨c=.mk 3 0 [] []):once (once a b) c=once a (once b c):=by
 rcases ha with ⟨m,rfl⟩|rfl
 ·rcases hb with ⟨n,rfl⟩|rfl
  ·rcases hc with ⟨p,rfl⟩|rfl
   ·rw [once_II,once_II]
    by_cases h:m=n
    ·subst h
     rw [if_pos rfl,once_II]
     by_cases k:m=p
     ·rw [if_pos k,once_II,if_pos rfl]
     ·rw [if_neg k,once_Cr]
    ·rw [if_neg h,once_C]
     by_cases k:n=p
     ·rw [if_pos k,once_II,if_neg h]
     ·rw [if_neg k,once_Cr]
   ·rw [once_Cr,once_Cr,once_Cr]
  ·rw [once_Cr,once_C,once_Cr]
 ·rw [once_C,once_C,once_C]
theorem joinE_assoc {ts:List Tbl} (L:Lats ts):∀ {d:Nat} {s:Shp} {a b c:El},IsW ts d s a→IsW ts d s b→IsW ts d s c→joinE ts d s (joinE ts d s a b) c=joinE ts d s a (joinE ts d s b c)
 | 0,s,a,b,c,h,_,_=>absurd h (by simp [IsW])
 | d+1,s,a,b,c,ha,hb,hc=>by
  by_cases na:a=El.bot
  ·subst na;rw [joinE_botl,joinE_botl]
  by_cases nb:b=El.bot
  ·subst nb;rw [joinE_botr,joinE_botl]
  by_cases nc:c=El.bot
  ·subst nc;rw [joinE_botr,joinE_botr]
  have nab:=(joinE_W L ha hb).2 (.inl na)
  have nbc:=(joinE_W L hb hc).2 (.inl nb)
  rcases ha.kinds na with k|k|k|k|k|k|k
  ·rw [joinE_1 nab nc k,joinE_1 na nb k,joinE_1 na nbc k]
  ·rw [joinE_2 nab nc k,joinE_2 na nbc k,joinE_2 na nb k,joinE_2 nb nc k]
   show El.mk 2 (max (max a.n b.n) c.n) [] []=El.mk 2 (max a.n (max b.n c.n)) [] []
   congr 1;omega
  ·rw [joinE_4 nab nc k,joinE_4 na nbc k,joinE_4 na nb k,joinE_4 nb nc k]
   exact once_assoc ((ha.inv4 na k).imp (fun ⟨m,_,h⟩=>⟨m,h⟩) id) ((hb.inv4 nb k).imp (fun ⟨m,_,h⟩=>⟨m,h⟩) id) ((hc.inv4 nc k).imp (fun ⟨m,_,h⟩=>⟨m,h⟩) id)
  ·obtain ⟨t,m,ht,h1,h2,rfl⟩:=ha.inv5 na k
   obtain ⟨t',n,ht',k1,k2,rfl⟩:=hb.inv5 nb k
   obtain rfl:=ht.uniq ht'
   obtain ⟨t',p,ht',l1,l2,rfl⟩:=hc.inv5 nc k
   obtain rfl:=ht.uniq ht'
   rw [joinE_5 nab nc k,joinE_5 na nbc k,joinE_5 na nb k,joinE_5 nb nc k,ht.eq]
   simp only [El.n,Int.toNat_natCast,(L t ht.mem).jn_assoc h2 k2 l2]
  ·obtain ⟨ks,h1,rfl⟩:=ha.inv3 na k
   obtain ⟨ks',h2,rfl⟩:=hb.inv3 nb k
   obtain ⟨ks2,h3,rfl⟩:=hc.inv3 nc k
   rw [joinE_3 nab nc k,joinE_3 na nbc k,joinE_3 na nb k,joinE_3 nb nc k]
   simp only [El.keys,mrg_assoc h1.inc h2.inc h3.inc]
  ·rw [joinE_6 nab nc k,joinE_6 na nbc k,joinE_6 na nb k,joinE_6 nb nc k]
   obtain ⟨k0,ks,l,hk0,h1,hl,hx,rfl⟩:=ha.inv6 na k
   obtain ⟨k0',ks',l',hk0',h1',hl',hx',rfl⟩:=hb.inv6 nb k
   obtain rfl:k0=k0':=by rw [hk0] at hk0';exact Option.some.inj hk0'
   obtain ⟨k0',ks2,l2,hk0',h2',hl2,hx2,rfl⟩:=hc.inv6 nc k
   obtain rfl:k0=k0':=by rw [hk0] at hk0';exact Option.some.inj hk0'
   rw [Shp.kid_eq hk0]
   have hd:=kids_pos h1 hl hx
   simp only [El.keys,El.at,El.kids,mrg_assoc h1.inc h1'.inc h2'.inc]
   congr 1
   apply List.map_congr_left
   intro z _
   rw [at_join hd,at_join hd]
   exact joinE_assoc L (at_W hd hl hx z) (at_W hd hl' hx' z) (at_W hd hl2 hx2 z)
  ·rw [joinE_7 nab nc k,joinE_7 na nbc k,joinE_7 na nb k,joinE_7 nb nc k]
   obtain ⟨k0,k1,x,y,hk0,hk1,hx,hy,hn,rfl⟩:=ha.inv7 na k
   obtain ⟨k0',k1',x',y',hk0',hk1',hx',hy',hn',rfl⟩:=hb.inv7 nb k
   obtain rfl:k0=k0':=by rw [hk0] at hk0';exact Option.some.inj hk0'
   obtain rfl:k1=k1':=by rw [hk1] at hk1';exact Option.some.inj hk1'
   obtain ⟨k0',k1',x2,y2,hk0',hk1',hx2,hy2,hn2,rfl⟩:=hc.inv7 nc k
   obtain rfl:k0=k0':=by rw [hk0] at hk0';exact Option.some.inj hk0'
   obtain rfl:k1=k1':=by rw [hk1] at hk1';exact Option.some.inj hk1'
   rw [Shp.kid_eq hk0,Shp.kid_eq hk1]
   show El.mk 7 0 [] [joinE ts d k0 (joinE ts d k0 x x') x2,joinE ts d k1 (joinE ts d k1 y y') y2]=El.mk 7 0 [] [joinE ts d k0 x (joinE ts d k0 x' x2),joinE ts d k1 y (joinE ts d k1 y' y2)]
   rw [joinE_assoc L hx hx' hx2,joinE_assoc L hy hy' hy2]
end Go.Proofs.J
namespace Go.Proofs.J
open Go Go.Ev
mutual
def El.sz:El→Int
 | .mk _ _ ks l=>szL (1+(ks.length:Int)) l
def szL:Int→List El→Int
 | n,[]=>n
 | n,x::l=>if n < 2000 then szL (IntKind.i64.wrap (n+x.sz)) l else n
end
theorem El.sz_eq (e:El):e.sz=szL (1+(e.keys.length:Int)) e.kids:=by
 cases e with
 | mk k n ks l=>rw [El.sz];rfl
mutual
def El.Great:El→Prop
 | .mk _ _ ks l=>40 < ks.length∨GreatL l
def GreatL:List El→Prop
 | []=>False
 | e::r=>e.Great∨GreatL r
end
theorem GreatL_iff:∀ {l:List El},GreatL l↔∃ e∈l,e.Great
 | []=>by simp [GreatL]
 | e::r=>by simp [GreatL,GreatL_iff (l:=r)]
theorem El.Great_iff {e:El}:e.Great↔40 < e.keys.length∨∃ x∈e.kids,x.Great:=by
 cases e;simp only [El.Great,GreatL_iff,El.keys,El.kids]
theorem Great_flat {k n:Int} {ks:List Int}:(El.mk k n ks []).Great↔40 < ks.length:=by rw [El.Great_iff];simp [El.keys,El.kids]
theorem bot_not_great:¬ El.bot.Great:=by rw [El.bot,Great_flat];simp
theorem IsE_iff {ts:List Tbl}:∀ {d:Nat} {s:Shp} {e:El},IsE ts d s e↔IsW ts d s e∧¬ e.Great
 | 0,s,e=>by simp [IsE,IsW]
 | d+1,s,e=>by
  cases e with
  | mk k n ks l =>
  constructor
  ·intro h
   rw [IsE] at h
   rcases h with h|⟨h1,h2,h3,h4⟩|⟨h1,h2,h3,h4⟩|⟨h1,h2,h3,h4⟩|⟨h1,h2,⟨t,h3,h5,h6⟩,h4⟩|⟨h1,h2,h3,h4,h5⟩|⟨h1,h2,h3,h4,h5,h6⟩|⟨h1,h2,h3,h4,h5,h6⟩
   ·rw [El.Bot_iff.1 h];exact ⟨IsW.bot,bot_not_great⟩
   all_goals simp only [El.kind,El.n,El.keys,El.kids,El.Bare] at *
   ·obtain ⟨ha,hb⟩:=h4
    obtain rfl:=List.length_eq_zero_iff.1 ha
    obtain rfl:=List.length_eq_zero_iff.1 hb
    subst h1 h3
    exact ⟨IsW.of1 h2,by simp [Great_flat]⟩
   ·obtain ⟨ha,hb⟩:=h4
    obtain rfl:=List.length_eq_zero_iff.1 ha
    obtain rfl:=List.length_eq_zero_iff.1 hb
    subst h1 h3
    exact ⟨IsW.of4c h2,by simp [Great_flat]⟩
   ·obtain ⟨ha,hb⟩:=h4
    obtain rfl:=List.length_eq_zero_iff.1 ha
    obtain rfl:=List.length_eq_zero_iff.1 hb
    subst h1
    refine ⟨?_,by simp [Great_flat]⟩
    rcases h2 with q|q
    ·exact IsW.of2 q h3
    ·exact IsW.of4 q h3
   ·obtain ⟨ha,hb⟩:=h4
    obtain rfl:=List.length_eq_zero_iff.1 ha
    obtain rfl:=List.length_eq_zero_iff.1 hb
    subst h1
    obtain ⟨m,rfl⟩:∃ m:Nat,n=m:=⟨n.toNat,by omega⟩
    exact ⟨IsW.of5 h2 h3 (by omega) (by omega),by simp [Great_flat]⟩
   ·obtain rfl:=List.length_eq_zero_iff.1 h4
    subst h1 h3
    have:=keysOk_iff.1 h5
    exact ⟨IsW.of3 h2 this.1,by simp [Great_flat];omega⟩
   ·subst h1 h3
    have hk:=keysOk_iff.1 h4
    have hpos:0 < l.length:=by have:=h4.1;omega
    obtain ⟨_,h0,_⟩:=h6 0 hpos
    have all:∀ x∈l,(x≠El.bot∧IsW ts d s.kids[0] x)∧¬ x.Great:=by
     intro x hx
     obtain ⟨i,hi,rfl⟩:=List.getElem_of_mem hx
     obtain ⟨q1,_,q2⟩:=h6 i hi
     have:=IsE_iff.1 q2
     exact ⟨⟨fun q=>q1 (El.Bot_iff.2 q),this.1⟩,this.2⟩
    refine ⟨IsW.of6 h2 (List.getElem?_eq_getElem h0) hk.1 h5 fun x hx=>(all x hx).1,?_⟩
    rw [El.Great_iff]
    rintro (q|⟨x,hx,q⟩)
    ·simp only [El.keys] at q;omega
    ·exact (all x hx).2 q
   ·subst h1 h3
    obtain rfl:=List.length_eq_zero_iff.1 h4
    obtain ⟨h,h2',q1,q2,q3⟩:=h6
    match l,h5,h,q1,q2,q3 with
    | [x,y],_,h,q1,q2,q3 =>
     have i1:=IsE_iff.1 q1
     have i2:=IsE_iff.1 q2
     refine ⟨IsW.of7 h2 (List.getElem?_eq_getElem (by omega)) (List.getElem?_eq_getElem h2') i1.1 i2.1 fun q=>q3 ⟨El.Bot_iff.2 q.1,El.Bot_iff.2 q.2⟩,?_⟩
     rw [El.Great_iff]
     rintro (q|⟨z,hz,q⟩)
     ·simp [El.keys] at q
     ·simp only [El.kids,List.mem_cons,List.not_mem_nil,or_false] at hz
      rcases hz with rfl|rfl
      ·exact i1.2 q
      ·exact i2.2 q
  ·rintro ⟨h,g⟩
   by_cases nb:El.mk k n ks l=El.bot
   ·rw [IsE];exact .inl (El.Bot_iff.2 nb)
   rcases h.kinds nb with q|q|q|q|q|q|q
   ·have:=h.inv1 nb q;cases this
    rw [IsE];exact .inr (.inl ⟨rfl,q,rfl,rfl,rfl⟩)
   ·obtain ⟨m,hm,e⟩:=h.inv2 nb q;cases e
    rw [IsE];exact .inr (.inr (.inr (.inl ⟨rfl,.inl q,hm,rfl,rfl⟩)))
   ·rcases h.inv4 nb q with ⟨m,hm,e⟩|e
    ·cases e;rw [IsE];exact .inr (.inr (.inr (.inl ⟨rfl,.inr q,hm,rfl,rfl⟩)))
    ·cases e;rw [IsE];exact .inr (.inr (.inl ⟨rfl,q,rfl,rfl,rfl⟩))
   ·obtain ⟨t,m,h1,h2,h3,e⟩:=h.inv5 nb q;cases e
    rw [IsE];exact .inr (.inr (.inr (.inr (.inl ⟨rfl,q,⟨t,h1,by show (1:Int)≤m;omega,by show (m:Int) < _;omega⟩,rfl,rfl⟩))))
   ·obtain ⟨ks,h1,e⟩:=h.inv3 nb q;cases e
    rw [El.Great_iff,not_or] at g
    rw [IsE];exact .inr (.inr (.inr (.inr (.inr (.inl ⟨rfl,q,rfl,rfl,keysOk_iff.2 ⟨h1,by have:=g.1;simp only [El.keys] at this ⊢;omega⟩⟩)))))
   ·obtain ⟨k0,ks,l,h0,h1,hl,hx,e⟩:=h.inv6 nb q;cases e
    rw [El.Great_iff,not_or] at g
    obtain ⟨hp,e0⟩:=List.getElem?_eq_some_iff.1 h0
    subst e0
    rw [IsE];refine .inr (.inr (.inr (.inr (.inr (.inr (.inl ⟨rfl,q,rfl,keysOk_iff.2 ⟨h1,by have:=g.1;simp only [El.keys] at this ⊢;omega⟩,hl,fun i hi=>?_⟩))))))
    have:=hx _ (List.getElem_mem hi)
    exact ⟨fun r=>this.1 (El.Bot_iff.1 r),hp,IsE_iff.2 ⟨this.2,fun r=>g.2 ⟨_,List.getElem_mem hi,r⟩⟩⟩
   ·obtain ⟨k0,k1,x,y,h0,h1,hx,hy,hn,e⟩:=h.inv7 nb q;cases e
    rw [El.Great_iff,not_or] at g
    obtain ⟨hp0,e0⟩:=List.getElem?_eq_some_iff.1 h0
    obtain ⟨hp1,e1⟩:=List.getElem?_eq_some_iff.1 h1
    subst e0 e1
    rw [IsE]
    refine .inr (.inr (.inr (.inr (.inr (.inr (.inr ⟨rfl,q,rfl,rfl,rfl,by simp [El.kids],hp1,?_,?_,?_⟩))))))
    ·exact IsE_iff.2 ⟨hx,fun r=>g.2 ⟨x,by simp [El.kids],r⟩⟩
    ·exact IsE_iff.2 ⟨hy,fun r=>g.2 ⟨y,by simp [El.kids],r⟩⟩
    ·exact fun r=>hn ⟨El.Bot_iff.1 r.1,El.Bot_iff.1 r.2⟩
theorem joinE_great {ts:List Tbl} (L:Lats ts):∀ {d:Nat} {s:Shp} {a b:El},IsW ts d s a→IsW ts d s b→a.Great→(joinE ts d s a b).Great
 | 0,s,a,b,h,_,_=>absurd h (by simp [IsW])
 | d+1,s,a,b,ha,hb,g=>by
  by_cases na:a=El.bot
  ·subst na;exact absurd g bot_not_great
  by_cases nb:b=El.bot
  ·subst nb;rw [joinE_botr];exact g
  rcases ha.kinds na with k|k|k|k|k|k|k
  ·rw [joinE_1 na nb k];exact g
  ·obtain ⟨m,hm,rfl⟩:=ha.inv2 na k;simp [Great_flat] at g
  ·rcases ha.inv4 na k with ⟨m,_,rfl⟩|rfl<;>simp [Great_flat] at g
  ·obtain ⟨t,m,ht,h1,h2,rfl⟩:=ha.inv5 na k;simp [Great_flat] at g
  ·rw [joinE_3 na nb k]
   obtain ⟨ks,h1,rfl⟩:=ha.inv3 na k
   obtain ⟨ks',h2,rfl⟩:=hb.inv3 nb k
   simp only [Great_flat,El.keys] at g ⊢
   have:=h1.inc.length_le (inc_mrg h1.inc h2.inc) fun x hx=>(mem_mrg _ _ _).2 (.inl hx)
   omega
  ·rw [joinE_6 na nb k]
   obtain ⟨k0,ks,l,hk0,h1,hl,hx,rfl⟩:=ha.inv6 na k
   obtain ⟨k0',ks',l',hk0',h1',hl',hx',rfl⟩:=hb.inv6 nb k
   obtain rfl:k0=k0':=by rw [hk0] at hk0';exact Option.some.inj hk0'
   rw [Shp.kid_eq hk0]
   rw [El.Great_iff] at g ⊢
   rcases g with g|⟨x,hx0,g⟩
   ·left
    have:=h1.inc.length_le (inc_mrg h1.inc h1'.inc) fun x hx=>(mem_mrg _ _ _).2 (.inl hx)
    simp only [El.keys] at g ⊢
    omega
   ·right
    simp only [El.kids] at hx0
    rw [←map_atK hl h1.inc.nodup] at hx0
    obtain ⟨z,hz,rfl⟩:=List.mem_map.1 hx0
    refine ⟨_,List.mem_map.2 ⟨z,(mem_mrg _ _ _).2 (.inl hz),rfl⟩,?_⟩
    exact joinE_great L (at_W (kids_pos h1 hl hx) hl hx z) (at_W (kids_pos h1 hl hx) hl' hx' z) g
  ·rw [joinE_7 na nb k]
   obtain ⟨k0,k1,x,y,hk0,hk1,hx,hy,hn,rfl⟩:=ha.inv7 na k
   obtain ⟨k0',k1',x',y',hk0',hk1',hx',hy',hn',rfl⟩:=hb.inv7 nb k
   obtain rfl:k0=k0':=by rw [hk0] at hk0';exact Option.some.inj hk0'
   obtain rfl:k1=k1':=by rw [hk1] at hk1';exact Option.some.inj hk1'
   rw [Shp.kid_eq hk0,Shp.kid_eq hk1]
   rw [El.Great_iff] at g ⊢
   rcases g with g|⟨z,hz,g⟩
   ·simp [El.keys] at g
   ·right
    simp only [El.kids,List.mem_cons,List.not_mem_nil,or_false] at hz
    rcases hz with rfl|rfl
    ·exact ⟨_,List.mem_cons_self ..,joinE_great L hx hx' g⟩
    ·exact ⟨_,List.mem_cons_of_mem _ (List.mem_cons_self ..),joinE_great L hy hy' g⟩
end Go.Proofs.J
namespace Go.Proofs.J
open Go Go.Ev
def Tbl.Prime (t:Tbl) (p:Nat):Prop:=p≠0∧∀ a b,a < t.elems.length→b < t.elems.length→t.jn a b=p→a=p∨b=p
def Tbl.Part (t:Tbl) (a p:Nat):Prop:=t.Bl p a∧t.Prime p∧∀ q,q < t.elems.length→t.Prime q→t.Bl q a→t.Bl p q→p=q
open Classical in
noncomputable def Tbl.parts (t:Tbl) (a:Nat):List Nat:=(List.range t.elems.length).filter fun p=>decide (t.Part a p)
theorem Tbl.mem_parts {t:Tbl} {a p:Nat}:p∈t.parts a↔p < t.elems.length∧t.Part a p:=by
 unfold Tbl.parts
 rw [List.mem_filter,List.mem_range]
 simp
open Classical in
noncomputable def Tbl.low (t:Tbl) (a:Nat):Nat:=((List.range t.elems.length).filter fun p=>decide (t.Bl p a)).length
open Classical in
theorem filter_lt {α:Type} {p q:α→Bool} {l:List α} (h:∀ x∈l,p x=true→q x=true) {y:α} (hy:y∈l) (h1:p y=false) (h2:q y=true):(l.filter p).length < (l.filter q).length:=by
 induction l with
 | nil=>cases hy
 | cons x l ih =>
  have mono:∀ l':List α,(∀ x∈l',p x=true→q x=true)→(l'.filter p).length≤(l'.filter q).length:=by
   intro l' h'
   induction l' with
   | nil=>simp
   | cons z l' ih' =>
    have:=ih' fun x hx=>h' x (List.mem_cons_of_mem _ hx)
    have hz:=h' z (List.mem_cons_self ..)
    simp only [List.filter_cons]
    cases hp:p z<;>cases hq:q z<;>simp_all<;>omega
  have hx:=h x (List.mem_cons_self ..)
  have hl:=mono l fun x hx=>h x (List.mem_cons_of_mem _ hx)
  simp only [List.filter_cons]
  rcases List.mem_cons.1 hy with rfl|hy
  ·rw [h1,h2];simp only [Bool.false_eq_true,if_false,if_true,List.length_cons];omega
  ·have:=ih (fun x hx=>h x (List.mem_cons_of_mem _ hx)) hy
   cases hp:p x<;>cases hq:q x<;>simp_all<;>omega
theorem Tbl.Lat.low_lt {t:Tbl} (L:t.Lat) {a b:Nat} (ha:a < t.elems.length) (hb:b < t.elems.length) (h:t.Bl a b) (n:a≠b):t.low a < t.low b:=by
 unfold Tbl.low
 refine filter_lt (y:=b) (fun x _ k=>?_) (List.mem_range.2 hb) ?_ (by simp [Tbl.Bl.refl])
 ·simp only [decide_eq_true_eq] at k ⊢;exact k.trans h
 ·simp only [decide_eq_false_iff_not];exact fun k=>n (L.anti ha h k)
theorem Tbl.Lat.prime_ub {t:Tbl} (L:t.Lat) {c:Nat} (hc:c < t.elems.length):∀ (m a:Nat),t.low a≤m→a < t.elems.length→(∀ p,p < t.elems.length→t.Prime p→t.Bl p a→t.Bl p c)→t.Bl a c:=by
 intro m
 induction m with
 | zero =>
  intro a h ha _
  have:0 < t.low a:=by
   unfold Tbl.low
   exact List.length_pos_of_mem (List.mem_filter.2 ⟨List.mem_range.2 ha,by simp [Tbl.Bl.refl]⟩)
  omega
 | succ m ih =>
  intro a h ha hp
  by_cases hP:t.Prime a
  ·exact hp a ha hP (.refl a)
  by_cases h0:a=0
  ·subst h0;exact L.2.1 c hc
  have:∃ x y,x < t.elems.length∧y < t.elems.length∧t.jn x y=a∧x≠a∧y≠a:=by
   refine Classical.byContradiction fun q=>hP ⟨h0,fun x y hx hy e=>Classical.byContradiction fun r=>?_⟩
   rw [not_or] at r
   exact q ⟨x,y,hx,hy,e,r.1,r.2⟩
  obtain ⟨x,y,hx,hy,e,nx,ny⟩:=this
  have J:=L.jn hx hy
  rw [e] at J
  have lx:=L.low_lt hx ha J.2.1 nx
  have ly:=L.low_lt hy ha J.2.2.1 ny
  refine J.2.2.2 c hc ?_ ?_
  ·exact ih x (by omega) hx fun p h1 h2 h3=>hp p h1 h2 (h3.trans J.2.1)
  ·exact ih y (by omega) hy fun p h1 h2 h3=>hp p h1 h2 (h3.trans J.2.2.1)
theorem Tbl.Lat.part_above {t:Tbl} (L:t.Lat) {a:Nat}:∀ (m p:Nat),t.elems.length+1 - t.low p≤m→p < t.elems.length→t.Prime p→t.Bl p a→∃ q,q < t.elems.length∧t.Part a q∧t.Bl p q:=by
 have lowle:∀ p,t.low p≤t.elems.length:=fun p=>by
  unfold Tbl.low
  have:=List.length_filter_le (fun q=>@decide (t.Bl q p) (Classical.propDecidable _)) (List.range t.elems.length)
  rw [List.length_range] at this
  exact this
 intro m
 induction m with
 | zero=>intro p h;have:=lowle p;omega
 | succ m ih =>
  intro p h hp hP hb
  by_cases hm:t.Part a p
  ·exact ⟨p,hp,hm,.refl p⟩
  have:∃ q,q < t.elems.length∧t.Prime q∧t.Bl q a∧t.Bl p q∧p≠q:=by
   refine Classical.byContradiction fun r=>hm ⟨hb,hP,fun q h1 h2 h3 h4=>Classical.byContradiction fun n=>r ⟨q,h1,h2,h3,h4,n⟩⟩
  obtain ⟨q,h1,h2,h3,h4,n⟩:=this
  have:=L.low_lt hp h1 h4 n
  have:=lowle q
  obtain ⟨z,z1,z2,z3⟩:=ih q (by omega) h1 h2 h3
  exact ⟨z,z1,z2,h4.trans z3⟩
theorem Tbl.Lat.parts_ub {t:Tbl} (L:t.Lat) {a c:Nat} (ha:a < t.elems.length) (hc:c < t.elems.length) (h:∀ p∈t.parts a,t.Bl p c):t.Bl a c :=
 L.prime_ub hc _ a (Nat.le_refl _) ha fun p h1 h2 h3 =>
  let ⟨q,q1,q2,q3⟩:=L.part_above _ p (Nat.le_refl _) h1 h2 h3
  q3.trans (h q (Tbl.mem_parts.2 ⟨q1,q2⟩))
theorem Tbl.Lat.parts_prime {t:Tbl} (L:t.Lat) {p:Nat} (hp:p < t.elems.length) (P:t.Prime p):t.parts p=[p]:=by
 have h1:p∈t.parts p:=Tbl.mem_parts.2 ⟨hp,.refl p,P,fun q h1 _ h3 h4=>L.anti hp h4 h3⟩
 have h2:∀ q∈t.parts p,q=p:=fun q hq=>by
  obtain ⟨a1,a2,a3,a4⟩:=Tbl.mem_parts.1 hq
  exact a4 p hp P (.refl p) a2
 have nd:(t.parts p).Nodup:=List.Nodup.sublist List.filter_sublist List.nodup_range
 match h:t.parts p,h1,h2,nd with
 | [],h1,_,_=>cases h1
 | [x],_,h2,_=>rw [h2 x (List.mem_cons_self ..)]
 | x::y::r,_,h2,nd =>
  have e1:=h2 x (List.mem_cons_self ..)
  have e2:=h2 y (List.mem_cons_of_mem _ (List.mem_cons_self ..))
  subst e1 e2
  have nd':(y::y::r).Nodup:=h▸nd
  exact absurd (List.mem_cons_self ..) (List.nodup_cons.1 nd').1
theorem Tbl.Lat.jn_iff {t:Tbl} (L:t.Lat) {a b:Nat} (ha:a < t.elems.length) (hb:b < t.elems.length):t.jn a b=b↔t.Bl a b:=by
 constructor
 ·intro e;have:=(L.jn ha hb).2.1;rwa [e] at this
 ·intro h;exact Tbl.Jn.eq L ha hb ⟨hb,h,.refl b,fun d _ _ k=>k⟩
section le
variable {ts:List Tbl} {d:Nat} {s:Shp} {a b c:El}
def LeE (ts:List Tbl) (d:Nat) (s:Shp) (a b:El):Prop:=joinE ts d s a b=b
theorem LeE.refl (L:Lats ts) (h:IsW ts d s a):LeE ts d s a a:=joinE_self L h
theorem LeE.bot:LeE ts (d+1) s El.bot a:=joinE_botl
theorem LeE.trans (L:Lats ts) (ha:IsW ts d s a) (hb:IsW ts d s b) (hc:IsW ts d s c) (h:LeE ts d s a b) (k:LeE ts d s b c):LeE ts d s a c:=by
 unfold LeE at *
 rw [←k,←joinE_assoc L ha hb hc,h]
theorem LeE.anti (L:Lats ts) (ha:IsW ts d s a) (hb:IsW ts d s b) (h:LeE ts d s a b) (k:LeE ts d s b a):a=b:=by
 unfold LeE at *
 rw [←k,joinE_comm L hb ha,h]
theorem LeE.left (L:Lats ts) (ha:IsW ts d s a) (hb:IsW ts d s b):LeE ts d s a (joinE ts d s a b):=by
 unfold LeE
 rw [←joinE_assoc L ha ha hb,joinE_self L ha]
theorem LeE.right (L:Lats ts) (ha:IsW ts d s a) (hb:IsW ts d s b):LeE ts d s b (joinE ts d s a b):=by
 rw [joinE_comm L ha hb];exact LeE.left L hb ha
theorem LeE.join (L:Lats ts) (ha:IsW ts d s a) (hb:IsW ts d s b) (hc:IsW ts d s c) (h:LeE ts d s a c) (k:LeE ts d s b c):LeE ts d s (joinE ts d s a b) c:=by
 unfold LeE at *
 rw [joinE_assoc L ha hb hc,k,h]
theorem LeE.nbot (L:Lats ts) (ha:IsW ts d s a) (hb:IsW ts d s b) (h:LeE ts d s a b) (n:a≠El.bot):b≠El.bot:=by
 unfold LeE at h
 intro e
 have:=(joinE_W L ha hb).2 (.inl n)
 rw [h] at this
 exact this e
theorem LeE.great (L:Lats ts) (ha:IsW ts d s a) (hb:IsW ts d s b) (h:LeE ts d s a b) (g:a.Great):b.Great:=by
 unfold LeE at h;rw [←h];exact joinE_great L ha hb g
end le
theorem le6 {ts:List Tbl} (L:Lats ts) {d:Nat} {s k0:Shp} {ks ks':List Int} {l l':List El} (k:s.kind=6) (hk0:s.kids[0]?=some k0) (h1:Ks ks) (hl:l.length=ks.length) (hx:∀ x∈l,x≠El.bot∧IsW ts d k0 x)
  (h1':Ks ks') (hl':l'.length=ks'.length) (hx':∀ x∈l',x≠El.bot∧IsW ts d k0 x):LeE ts (d+1) s (.mk 6 0 ks l) (.mk 6 0 ks' l')↔∀ z∈ks,LeE ts d k0 (atK ks l z) (atK ks' l' z):=by
 have hd:=kids_pos h1 hl hx
 unfold LeE
 rw [joinE_6 (mk_ne (by decide)) (mk_ne (by decide)) k,Shp.kid_eq hk0]
 simp only [El.keys,El.at,El.kids]
 constructor
 ·intro e z hz
  injection e with _ _ e1 e2
  have e3:=at_join (ts:=ts) (d:=d) (k0:=k0) (ks:=ks) (ks':=ks') (l:=l) (l':=l') hd z
  rw [←e3,e2,e1]
 ·intro h
  have em:mrg ks ks'=ks':=by
   refine (inc_mrg h1.inc h1'.inc).ext h1'.inc fun z=>?_
   rw [mem_mrg]
   refine ⟨fun q=>q.elim (fun q=>?_) id,.inr⟩
   refine Classical.byContradiction fun n=>?_
   have:=h z q
   rw [atK_none n] at this
   exact LeE.nbot L (at_W hd hl hx z) (by obtain ⟨d',rfl⟩:=hd;exact IsW.bot) this (hx _ (atK_mem hl q)).1 rfl
  rw [em]
  congr 1
  have:(ks'.map fun k=>joinE ts d k0 (atK ks l k) (atK ks' l' k))=ks'.map (atK ks' l'):=by
   apply List.map_congr_left
   intro z hz
   by_cases q:z∈ks
   ·exact h z q
   ·rw [atK_none q];obtain ⟨d',rfl⟩:=hd;exact joinE_botl
  rw [this,map_atK hl' h1'.inc.nodup]
theorem le7 {ts:List Tbl} {d:Nat} {s k0 k1:Shp} {x y x' y':El} (k:s.kind=7) (hk0:s.kids[0]?=some k0) (hk1:s.kids[1]?=some k1) :
  LeE ts (d+1) s (.mk 7 0 [] [x,y]) (.mk 7 0 [] [x',y'])↔LeE ts d k0 x x'∧LeE ts d k1 y y':=by
 unfold LeE
 rw [joinE_7 (mk_ne (by decide)) (mk_ne (by decide)) k,Shp.kid_eq hk0,Shp.kid_eq hk1]
 show El.mk 7 0 [] [joinE ts d k0 x x',joinE ts d k1 y y']=El.mk 7 0 [] [x',y']↔_
 simp
theorem le3 {ts:List Tbl} {d:Nat} {s:Shp} {ks ks':List Int} (k:s.kind=3) (h1:Ks ks) (h2:Ks ks'):LeE ts (d+1) s (.mk 5 0 ks []) (.mk 5 0 ks' [])↔∀ z∈ks,z∈ks':=by
 unfold LeE
 rw [joinE_3 (mk_ne (by decide)) (mk_ne (by decide)) k]
 simp only [El.keys]
 constructor
 ·intro e z hz
  injection e with _ _ e1 e2
  rw [←e1];exact (mem_mrg _ _ _).2 (.inl hz)
 ·intro h
  congr 1
  exact (inc_mrg h1.inc h2.inc).ext h2.inc fun z=>by rw [mem_mrg];exact ⟨fun q=>q.elim (h z) id,.inr⟩
theorem le5 {ts:List Tbl} (L:Lats ts) {d:Nat} {s:Shp} {t:Tbl} {m n:Nat} (k:s.kind=5) (ht:Tof ts s.name t) (h1:m < t.elems.length) (h2:n < t.elems.length):LeE ts (d+1) s (.mk 4 m [] []) (.mk 4 n [] [])↔t.Bl m n:=by
 unfold LeE
 rw [joinE_5 (mk_ne (by decide)) (mk_ne (by decide)) k,ht.eq]
 simp only [El.n,Int.toNat_natCast]
 rw [←(L t ht.mem).jn_iff h1 h2]
 constructor
 ·intro e;injection e with _ e;exact Int.ofNat.inj e
 ·intro e;rw [e]
noncomputable def piecesE (ts:List Tbl):Nat→Shp→El→List El
 | 0,_,_=>[]
 | d+1,s,e =>
  if e.kind=1∨e.kind=2∨e.kind=3 then [e]
  else if e.kind=4 then ((tabOf ts s.name).parts e.n.toNat).map fun p=>.mk 4 (p:Nat) [] []
  else if e.kind=5 then e.keys.map fun k=>.mk 5 0 [k] []
  else if e.kind=6 then e.keys.flatMap fun k=>(piecesE ts d (s.kid 0) (e.at k)).map fun p=>.mk 6 0 [k] [p]
  else if e.kind=7 then ((piecesE ts d (s.kid 0) (e.kd 0)).map fun p=>.mk 7 0 [] [p,El.bot])++(piecesE ts d (s.kid 1) (e.kd 1)).map fun p=>.mk 7 0 [] [El.bot,p]
  else []
section peq
variable {ts:List Tbl} {d:Nat} {s:Shp} {n:Int} {ks:List Int} {l:List El}
theorem pieces_0:piecesE ts (d+1) s El.bot=[]:=by rw [piecesE];simp [El.bot,El.kind]
theorem pieces_1:piecesE ts (d+1) s (.mk 1 n ks l)=[.mk 1 n ks l]:=by rw [piecesE];simp [El.kind]
theorem pieces_2:piecesE ts (d+1) s (.mk 2 n ks l)=[.mk 2 n ks l]:=by rw [piecesE];simp [El.kind]
theorem pieces_3:piecesE ts (d+1) s (.mk 3 n ks l)=[.mk 3 n ks l]:=by rw [piecesE];simp [El.kind]
theorem pieces_4:piecesE ts (d+1) s (.mk 4 n ks l)=((tabOf ts s.name).parts n.toNat).map fun p=>.mk 4 (p:Nat) [] []:=by rw [piecesE];simp [El.kind,El.n]
theorem pieces_5:piecesE ts (d+1) s (.mk 5 n ks l)=ks.map fun k=>.mk 5 0 [k] []:=by rw [piecesE];simp [El.kind,El.keys]
theorem pieces_6:piecesE ts (d+1) s (.mk 6 n ks l)=ks.flatMap fun k=>(piecesE ts d (s.kid 0) (atK ks l k)).map fun p=>.mk 6 0 [k] [p]:=by rw [piecesE];simp [El.kind,El.keys,El.kids,El.at]
theorem pieces_7 {x y:El}:piecesE ts (d+1) s (.mk 7 n ks [x,y])=((piecesE ts d (s.kid 0) x).map fun p=>.mk 7 0 [] [p,El.bot])++(piecesE ts d (s.kid 1) y).map fun p=>.mk 7 0 [] [El.bot,p]:=by rw [piecesE];simp [El.kind,El.kids,El.kd]
end peq
theorem Ks.one {k:Int} (h:NumOk k):Ks [k]:=⟨by simp,by simpa using h,by simp [Inc]⟩
theorem atK_one {k:Int} {x:El}:atK [k] [x] k=x:=by simp [atK]
structure Pc (ts:List Tbl) (d:Nat) (s:Shp) (e p:El):Prop where
 w:IsW ts d s p
 ne:p≠El.bot
 le:LeE ts d s p e
 self:piecesE ts d s p=[p]
theorem pieces_pc {ts:List Tbl} (L:Lats ts):∀ {d:Nat} {s:Shp} {e p:El},IsW ts d s e→p∈piecesE ts d s e→Pc ts d s e p
 | 0,s,e,p,h,_=>absurd h (by simp [IsW])
 | d+1,s,e,p,h,hp=>by
  by_cases n:e=El.bot
  ·subst n;rw [pieces_0] at hp;cases hp
  rcases h.kinds n with k|k|k|k|k|k|k
  ·obtain rfl:=h.inv1 n k
   rw [pieces_1,List.mem_singleton] at hp;subst hp
   exact ⟨h,n,.refl L h,pieces_1⟩
  ·obtain ⟨m,hm,rfl⟩:=h.inv2 n k
   rw [pieces_2,List.mem_singleton] at hp;subst hp
   exact ⟨h,n,.refl L h,pieces_2⟩
  ·rcases h.inv4 n k with ⟨m,hm,rfl⟩|rfl
   ·rw [pieces_2,List.mem_singleton] at hp;subst hp
    exact ⟨h,n,.refl L h,pieces_2⟩
   ·rw [pieces_3,List.mem_singleton] at hp;subst hp
    exact ⟨h,n,.refl L h,pieces_3⟩
  ·obtain ⟨t,m,ht,h1,h2,rfl⟩:=h.inv5 n k
   rw [pieces_4,ht.eq] at hp
   obtain ⟨q,hq,rfl⟩:=List.mem_map.1 hp
   simp only [Int.toNat_natCast] at hq
   obtain ⟨q1,q2,q3,q4⟩:=Tbl.mem_parts.1 hq
   have hw:IsW ts (d+1) s (.mk 4 (q:Nat) [] []):=IsW.of5 k ht (by have:=q3.1;omega) q1
   refine ⟨hw,mk_ne (by decide),(le5 L k ht q1 h2).2 q2,?_⟩
   rw [pieces_4,ht.eq,Int.toNat_natCast,(L t ht.mem).parts_prime q1 q3];rfl
  ·obtain ⟨ks,h1,rfl⟩:=h.inv3 n k
   rw [pieces_5] at hp
   obtain ⟨z,hz,rfl⟩:=List.mem_map.1 hp
   have k1:=Ks.one (h1.num z hz)
   exact ⟨IsW.of3 k k1,mk_ne (by decide),(le3 k k1 h1).2 (by simpa using hz),by rw [pieces_5];rfl⟩
  ·obtain ⟨k0,ks,l,hk0,h1,hl,hx,rfl⟩:=h.inv6 n k
   rw [pieces_6,Shp.kid_eq hk0] at hp
   obtain ⟨z,hz,hp⟩:=List.mem_flatMap.1 hp
   obtain ⟨q,hq,rfl⟩:=List.mem_map.1 hp
   have hd:=kids_pos h1 hl hx
   have ih:=pieces_pc L (at_W hd hl hx z) hq
   have k1:=Ks.one (h1.num z hz)
   have kx:∀ x∈[q],x≠El.bot∧IsW ts d k0 x:=by simpa using ⟨ih.ne,ih.w⟩
   refine ⟨IsW.of6 k hk0 k1 rfl kx,mk_ne (by decide),(le6 L k hk0 k1 rfl kx h1 hl hx).2 ?_,?_⟩
   ·intro z' hz'
    obtain rfl:=List.mem_singleton.1 hz'
    rw [atK_one];exact ih.le
   ·rw [pieces_6,Shp.kid_eq hk0]
    simp only [List.flatMap_cons,List.flatMap_nil,List.append_nil,atK_one,ih.self,List.map_cons,List.map_nil]
  ·obtain ⟨k0,k1,x,y,hk0,hk1,hx,hy,hn,rfl⟩:=h.inv7 n k
   rw [pieces_7,Shp.kid_eq hk0,Shp.kid_eq hk1] at hp
   obtain ⟨d',rfl⟩:=hx.pos
   rcases List.mem_append.1 hp with hp|hp
   ·obtain ⟨q,hq,rfl⟩:=List.mem_map.1 hp
    have ih:=pieces_pc L hx hq
    refine ⟨IsW.of7 k hk0 hk1 ih.w IsW.bot (fun r=>ih.ne r.1),mk_ne (by decide),(le7 k hk0 hk1).2 ⟨ih.le,.bot⟩,?_⟩
    rw [pieces_7,Shp.kid_eq hk0,Shp.kid_eq hk1,ih.self,pieces_0];rfl
   ·obtain ⟨q,hq,rfl⟩:=List.mem_map.1 hp
    have ih:=pieces_pc L hy hq
    refine ⟨IsW.of7 k hk0 hk1 IsW.bot ih.w (fun r=>ih.ne r.2),mk_ne (by decide),(le7 k hk0 hk1).2 ⟨.bot,ih.le⟩,?_⟩
    rw [pieces_7,Shp.kid_eq hk0,Shp.kid_eq hk1,ih.self,pieces_0];rfl
theorem pieces_ub {ts:List Tbl} (L:Lats ts):∀ {d:Nat} {s:Shp} {e c:El},IsW ts d s e→IsW ts d s c→(∀ p∈piecesE ts d s e,LeE ts d s p c)→LeE ts d s e c
 | 0,s,e,c,h,_,_=>absurd h (by simp [IsW])
 | d+1,s,e,c,h,hc,H=>by
  by_cases n:e=El.bot
  ·subst n;exact .bot
  rcases h.kinds n with k|k|k|k|k|k|k
  ·obtain rfl:=h.inv1 n k
   exact H _ (by rw [pieces_1];exact List.mem_cons_self ..)
  ·obtain ⟨m,hm,rfl⟩:=h.inv2 n k
   exact H _ (by rw [pieces_2];exact List.mem_cons_self ..)
  ·rcases h.inv4 n k with ⟨m,hm,rfl⟩|rfl
   ·exact H _ (by rw [pieces_2];exact List.mem_cons_self ..)
   ·exact H _ (by rw [pieces_3];exact List.mem_cons_self ..)
  ·obtain ⟨t,m,ht,h1,h2,rfl⟩:=h.inv5 n k
   have Lt:=L t ht.mem
   rw [pieces_4,ht.eq,Int.toNat_natCast] at H
   by_cases nc:c=El.bot
   ·subst nc
    exfalso
    have:t.Bl m 0:=Lt.parts_ub h2 (by omega) fun p hp=>by
     have hp':=Tbl.mem_parts.1 hp
     exact absurd rfl (LeE.nbot L (IsW.of5 k ht (by have:=hp'.2.2.1.1;omega) hp'.1) hc (H _ (List.mem_map.2 ⟨p,hp,rfl⟩)) (mk_ne (by decide)))
    have:=Lt.anti h2 this (Lt.2.1 m h2)
    omega
   ·obtain ⟨t',n',ht',k1,k2,rfl⟩:=hc.inv5 nc k
    obtain rfl:=ht.uniq ht'
    refine (le5 L k ht h2 k2).2 (Lt.parts_ub h2 k2 fun p hp=>?_)
    exact (le5 L k ht (Tbl.mem_parts.1 hp).1 k2).1 (H _ (List.mem_map.2 ⟨p,hp,rfl⟩))
  ·obtain ⟨ks,h1,rfl⟩:=h.inv3 n k
   rw [pieces_5] at H
   by_cases nc:c=El.bot
   ·subst nc
    obtain ⟨z,hz⟩:=List.exists_mem_of_ne_nil ks h1.ne
    exact absurd rfl (LeE.nbot L (IsW.of3 k (Ks.one (h1.num z hz))) hc (H _ (List.mem_map.2 ⟨z,hz,rfl⟩)) (mk_ne (by decide)))
   ·obtain ⟨ks',h2,rfl⟩:=hc.inv3 nc k
    refine (le3 k h1 h2).2 fun z hz=>?_
    exact (le3 k (Ks.one (h1.num z hz)) h2).1 (H _ (List.mem_map.2 ⟨z,hz,rfl⟩)) z (List.mem_cons_self ..)
  ·obtain ⟨k0,ks,l,hk0,h1,hl,hx,rfl⟩:=h.inv6 n k
   rw [pieces_6,Shp.kid_eq hk0] at H
   have hd:=kids_pos h1 hl hx
   have H':∀ z∈ks,∀ p∈piecesE ts d k0 (atK ks l z),LeE ts (d+1) s (.mk 6 0 [z] [p]) c:=fun z hz p hp=>H _ (List.mem_flatMap.2 ⟨z,hz,List.mem_map.2 ⟨p,hp,rfl⟩⟩)
   have kx:∀ z∈ks,∀ p∈piecesE ts d k0 (atK ks l z),∀ x∈[p],x≠El.bot∧IsW ts d k0 x:=fun z hz p hp=>by
    have:=pieces_pc L (at_W hd hl hx z) hp
    simpa using ⟨this.ne,this.w⟩
   by_cases nc:c=El.bot
   ·subst nc
    obtain ⟨z,hz⟩:=List.exists_mem_of_ne_nil ks h1.ne
    have ne:=(hx _ (atK_mem hl hz)).1
    have hb:IsW ts d k0 El.bot:=by obtain ⟨d',rfl⟩:=hd;exact IsW.bot
    exfalso
    refine LeE.nbot L (at_W hd hl hx z) hb (pieces_ub L (at_W hd hl hx z) hb fun p hp=>?_) ne rfl
    exact absurd rfl (LeE.nbot L (IsW.of6 k hk0 (Ks.one (h1.num z hz)) rfl (kx z hz p hp)) hc (H' z hz p hp) (mk_ne (by decide)))
   ·obtain ⟨k0',ks',l',hk0',h1',hl',hx',rfl⟩:=hc.inv6 nc k
    obtain rfl:k0=k0':=by rw [hk0] at hk0';exact Option.some.inj hk0'
    refine (le6 L k hk0 h1 hl hx h1' hl' hx').2 fun z hz=>?_
    refine pieces_ub L (at_W hd hl hx z) (at_W hd hl' hx' z) fun p hp=>?_
    have:=(le6 L k hk0 (Ks.one (h1.num z hz)) rfl (kx z hz p hp) h1' hl' hx').1 (H' z hz p hp) z (List.mem_cons_self ..)
    rwa [atK_one] at this
  ·obtain ⟨k0,k1,x,y,hk0,hk1,hx,hy,hn,rfl⟩:=h.inv7 n k
   rw [pieces_7,Shp.kid_eq hk0,Shp.kid_eq hk1] at H
   obtain ⟨d',rfl⟩:=hx.pos
   have H0:∀ p∈piecesE ts (d'+1) k0 x,LeE ts (d'+1+1) s (.mk 7 0 [] [p,El.bot]) c:=fun p hp=>H _ (List.mem_append.2 (.inl (List.mem_map.2 ⟨p,hp,rfl⟩)))
   have H1:∀ p∈piecesE ts (d'+1) k1 y,LeE ts (d'+1+1) s (.mk 7 0 [] [El.bot,p]) c:=fun p hp=>H _ (List.mem_append.2 (.inr (List.mem_map.2 ⟨p,hp,rfl⟩)))
   have W0:∀ p∈piecesE ts (d'+1) k0 x,IsW ts (d'+1+1) s (.mk 7 0 [] [p,El.bot]):=fun p hp=>by
    have:=pieces_pc L hx hp;exact IsW.of7 k hk0 hk1 this.w IsW.bot fun r=>this.ne r.1
   have W1:∀ p∈piecesE ts (d'+1) k1 y,IsW ts (d'+1+1) s (.mk 7 0 [] [El.bot,p]):=fun p hp=>by
    have:=pieces_pc L hy hp;exact IsW.of7 k hk0 hk1 IsW.bot this.w fun r=>this.ne r.2
   by_cases nc:c=El.bot
   ·subst nc
    exfalso
    refine hn ⟨?_,?_⟩
    ·have:LeE ts (d'+1) k0 x El.bot:=pieces_ub L hx IsW.bot fun p hp=>absurd rfl (LeE.nbot L (W0 p hp) hc (H0 p hp) (mk_ne (by decide)))
     exact LeE.anti L hx IsW.bot this .bot
    ·have:LeE ts (d'+1) k1 y El.bot:=pieces_ub L hy IsW.bot fun p hp=>absurd rfl (LeE.nbot L (W1 p hp) hc (H1 p hp) (mk_ne (by decide)))
     exact LeE.anti L hy IsW.bot this .bot
   ·obtain ⟨k0',k1',x',y',hk0',hk1',hx',hy',hn',rfl⟩:=hc.inv7 nc k
    obtain rfl:k0=k0':=by rw [hk0] at hk0';exact Option.some.inj hk0'
    obtain rfl:k1=k1':=by rw [hk1] at hk1';exact Option.some.inj hk1'
    refine (le7 k hk0 hk1).2 ⟨?_,?_⟩
    ·exact pieces_ub L hx hx' fun p hp=>((le7 k hk0 hk1).1 (H0 p hp)).1
    ·exact pieces_ub L hy hy' fun p hp=>((le7 k hk0 hk1).1 (H1 p hp)).2
end Go.Proofs.J
namespace Go.Proofs.J
open Go Go.Ev
section
variable {ts:List Tbl} {d:Nat} {s:Shp}
noncomputable def foldFrom (ts:List Tbl) (d:Nat) (s:Shp) (a:El) (l:List El):El:=l.foldl (joinE ts d s) a
noncomputable def foldJ (ts:List Tbl) (d:Nat) (s:Shp) (l:List El):El:=foldFrom ts d s El.bot l
theorem foldFrom_cons {a x:El} {l:List El}:foldFrom ts d s a (x::l)=foldFrom ts d s (joinE ts d s a x) l:=rfl
theorem foldFrom_snoc {a x:El} {l:List El}:foldFrom ts d s a (l++[x])=joinE ts d s (foldFrom ts d s a l) x:=by simp [foldFrom]
theorem foldJ_snoc {x:El} {l:List El}:foldJ ts d s (l++[x])=joinE ts d s (foldJ ts d s l) x:=foldFrom_snoc
theorem foldFrom_W (L:Lats ts):∀ {l:List El} {a:El},IsW ts d s a→(∀ x∈l,IsW ts d s x)→IsW ts d s (foldFrom ts d s a l)∧LeE ts d s a (foldFrom ts d s a l)∧(∀ x∈l,LeE ts d s x (foldFrom ts d s a l))∧∀ c,IsW ts d s c→LeE ts d s a c→(∀ x∈l,LeE ts d s x c)→LeE ts d s (foldFrom ts d s a l) c
 | [],a,ha,_=>⟨ha,.refl L ha,by simp,fun c _ h _=>h⟩
 | x::l,a,ha,h=>by
  have hx:=h x (List.mem_cons_self ..)
  have hj:=(joinE_W L ha hx).1
  obtain ⟨h1,h2,h3,h4⟩:=foldFrom_W L hj fun y hy=>h y (List.mem_cons_of_mem _ hy)
  rw [foldFrom_cons]
  refine ⟨h1,(LeE.left L ha hx).trans L ha hj h1 h2,fun y hy=>?_,fun c hc q1 q2=>?_⟩
  ·rcases List.mem_cons.1 hy with rfl|hy
   ·exact (LeE.right L ha hx).trans L hx hj h1 h2
   ·exact h3 y hy
  ·exact h4 c hc (LeE.join L ha hx hc q1 (q2 x (List.mem_cons_self ..))) fun y hy=>q2 y (List.mem_cons_of_mem _ hy)
theorem foldJ_W (L:Lats ts) {l:List El} (h:∀ x∈l,IsW ts (d+1) s x):IsW ts (d+1) s (foldJ ts (d+1) s l):=(foldFrom_W L IsW.bot h).1
theorem foldJ_le (L:Lats ts) {l:List El} (h:∀ x∈l,IsW ts (d+1) s x) {c:El} (hc:IsW ts (d+1) s c) (k:∀ x∈l,LeE ts (d+1) s x c):LeE ts (d+1) s (foldJ ts (d+1) s l) c:=(foldFrom_W L IsW.bot h).2.2.2 c hc .bot k
theorem pieces_le (L:Lats ts) {e c:El} (h:IsW ts (d+1) s e) (hc:IsW ts (d+1) s c):(∀ p∈piecesE ts (d+1) s e,LeE ts (d+1) s p c)↔LeE ts (d+1) s e c :=
 ⟨pieces_ub L h hc,fun k p hp=>(pieces_pc L h hp).le.trans L (pieces_pc L h hp).w h hc k⟩
open Classical in
noncomputable def deltaL (ts:List Tbl) (d:Nat) (s:Shp) (a b:El):List El:=(piecesE ts d s b).filter fun p=>decide (¬ LeE ts d s p a)
noncomputable def deltaE (ts:List Tbl) (d:Nat) (s:Shp) (a b:El):El:=foldJ ts d s (deltaL ts d s a b)
theorem mem_deltaL {a b p:El}:p∈deltaL ts d s a b↔p∈piecesE ts d s b∧¬ LeE ts d s p a:=by
 unfold deltaL;rw [List.mem_filter];simp
theorem deltaL_W (L:Lats ts) {a b:El} (hb:IsW ts (d+1) s b):∀ x∈deltaL ts (d+1) s a b,IsW ts (d+1) s x:=fun x hx=>(pieces_pc L hb (mem_deltaL.1 hx).1).w
theorem delta_W (L:Lats ts) {a b:El} (hb:IsW ts (d+1) s b):IsW ts (d+1) s (deltaE ts (d+1) s a b):=foldJ_W L (deltaL_W L hb)
theorem delta_le (L:Lats ts) {a b:El} (hb:IsW ts (d+1) s b):LeE ts (d+1) s (deltaE ts (d+1) s a b) b :=
 foldJ_le L (deltaL_W L hb) hb fun x hx=>(pieces_pc L hb (mem_deltaL.1 hx).1).le
end
end Go.Proofs.J
namespace Go.Proofs.J
open Go Go.Ev
def cmpI (a b:Int):Int:=if a < b then -1 else if b < a then 1 else 0
def orI (a b:Int):Int:=if a≠0 then a else b
def cmpL:List Int→List Int→Int
 | [],[]=>0
 | [],_::_=>-1
 | _::_,[]=>1
 | x::r,y::r'=>orI (cmpI x y) (cmpL r r')
mutual
def cmpE:El→El→Int
 | .mk k n ks l,b=>orI (cmpI k b.kind) (orI (cmpI n b.n) (orI (cmpL ks b.keys) (cmpEs l b.kids)))
def cmpEs:List El→List El→Int
 | [],[]=>0
 | [],_::_=>-1
 | _::_,[]=>1
 | x::r,y::r'=>orI (cmpE x y) (cmpEs r r')
end
theorem cmpE_eq (a b:El):cmpE a b=orI (cmpI a.kind b.kind) (orI (cmpI a.n b.n) (orI (cmpL a.keys b.keys) (cmpEs a.kids b.kids))):=by
 cases a;rw [cmpE];rfl
theorem cmpI_three (a b:Int):cmpI a b=-1∨cmpI a b=0∨cmpI a b=1:=by
 unfold cmpI
 repeat' split
 all_goals omega
theorem cmpI_turn (a b:Int):cmpI b a=- cmpI a b:=by
 unfold cmpI
 repeat' split
 all_goals omega
theorem cmpI_zero {a b:Int}:cmpI a b=0↔a=b:=by
 unfold cmpI
 repeat' split
 all_goals omega
theorem orI_three {a b:Int} (h:a=-1∨a=0∨a=1) (k:b=-1∨b=0∨b=1):orI a b=-1∨orI a b=0∨orI a b=1:=by unfold orI;split<;>assumption
theorem orI_neg (a b:Int):orI (-a) (-b)=- orI a b:=by
 unfold orI
 repeat' split
 all_goals omega
theorem orI_zero {a b:Int}:orI a b=0↔a=0∧b=0:=by
 unfold orI
 repeat' split
 all_goals omega
theorem cmpL_three:∀ (a b:List Int),cmpL a b=-1∨cmpL a b=0∨cmpL a b=1
 | [],[]=>by simp [cmpL]
 | [],_::_=>by simp [cmpL]
 | _::_,[]=>by simp [cmpL]
 | x::r,y::r'=>by rw [cmpL];exact orI_three (cmpI_three _ _) (cmpL_three _ _)
theorem cmpL_turn:∀ (a b:List Int),cmpL b a=- cmpL a b
 | [],[]=>by simp [cmpL]
 | [],_::_=>by simp [cmpL]
 | _::_,[]=>by simp [cmpL]
 | x::r,y::r'=>by rw [cmpL,cmpL,←orI_neg,←cmpI_turn,←cmpL_turn r r']
theorem cmpL_zero:∀ {a b:List Int},cmpL a b=0↔a=b
 | [],[]=>by simp [cmpL]
 | [],_::_=>by simp [cmpL]
 | _::_,[]=>by simp [cmpL]
 | x::r,y::r'=>by rw [cmpL,orI_zero,cmpI_zero,cmpL_zero (a:=r) (b:=r')];simp
mutual
theorem cmpE_three:∀ (a b:El),cmpE a b=-1∨cmpE a b=0∨cmpE a b=1
 | .mk k n ks l,b=>by rw [cmpE];exact orI_three (cmpI_three _ _) (orI_three (cmpI_three _ _) (orI_three (cmpL_three _ _) (cmpEs_three l _)))
theorem cmpEs_three:∀ (a b:List El),cmpEs a b=-1∨cmpEs a b=0∨cmpEs a b=1
 | [],[]=>by simp [cmpEs]
 | [],_::_=>by simp [cmpEs]
 | _::_,[]=>by simp [cmpEs]
 | x::r,y::r'=>by rw [cmpEs];exact orI_three (cmpE_three x y) (cmpEs_three r r')
end
mutual
theorem cmpE_turn:∀ (a b:El),cmpE b a=- cmpE a b
 | .mk k n ks l,.mk k' n' ks' l'=>by
  rw [cmpE,cmpE]
  simp only [El.kind,El.n,El.keys,El.kids]
  rw [←orI_neg,←orI_neg,←orI_neg,←cmpI_turn,←cmpI_turn,←cmpL_turn,←cmpEs_turn l l']
theorem cmpEs_turn:∀ (a b:List El),cmpEs b a=- cmpEs a b
 | [],[]=>by simp [cmpEs]
 | [],_::_=>by simp [cmpEs]
 | _::_,[]=>by simp [cmpEs]
 | x::r,y::r'=>by rw [cmpEs,cmpEs,←orI_neg,←cmpE_turn x y,←cmpEs_turn r r']
end
mutual
theorem cmpE_zero:∀ {a b:El},cmpE a b=0↔a=b
 | .mk k n ks l,.mk k' n' ks' l'=>by
  rw [cmpE]
  simp only [El.kind,El.n,El.keys,El.kids]
  rw [orI_zero,orI_zero,orI_zero,cmpI_zero,cmpI_zero,cmpL_zero,cmpEs_zero (a:=l) (b:=l')]
  simp
theorem cmpEs_zero:∀ {a b:List El},cmpEs a b=0↔a=b
 | [],[]=>by simp [cmpEs]
 | [],_::_=>by simp [cmpEs]
 | _::_,[]=>by simp [cmpEs]
 | x::r,y::r'=>by rw [cmpEs,orI_zero,cmpE_zero (a:=x) (b:=y),cmpEs_zero (a:=r) (b:=r')];simp
end
end Go.Proofs.J
namespace Go.Proofs.J
open Go Go.Ev
def countB (n:Nat):List Int:=if n < 128 then [(n:Int)] else ((n % 128+128:Nat):Int)::countB (n / 128)
termination_by n
def zig (n:Int):Nat:=if n < 0 then (-2*n - 1).toNat else (2*n).toNat
def numB (n:Int):List Int:=countB (zig n)
section
variable {n:Int} {ks:List Int} {l:List El}
end
end Go.Proofs.J
namespace Go.Proofs.J
open Go Go.Ev
theorem El.Fit.mk' {k n:Int} {ks:List Int} {l:List El} {d:Nat} (hk:0≤k∧k≤255) (hn:NumOk n) (h1:ks.length≤40) (h2:l.length≤40) (hks:∀ x∈ks,NumOk x) (hl:∀ x∈l,x.Fit d):(El.mk k n ks l).Fit (d+1) where
 lv:=by
  simp only [El.levels]
  have:elLevelsL l≤d:=elLevelsL_le.2 fun s hs=>(hl s hs).lv
  omega
 sm:=by
  simp only [El.Sm,El.keys,El.kids,El.n,El.kind]
  simp only [NumOk] at hn hks
  exact ⟨by omega,by omega,by omega,hk,fun x hx=>by have:=hks x hx;omega,fun x hx=>(hl x hx).sm⟩
theorem IsW.fit {ts:List Tbl} (ok:∀ t∈ts,t.Ok):∀ {d:Nat} {s:Shp} {e:El},IsW ts d s e→¬ e.Great→e.Fit d
 | 0,s,e,h,_=>absurd h (by simp [IsW])
 | d+1,s,e,h,g=>by
  have n0:NumOk 0:=by simp [NumOk]
  by_cases nb:e=El.bot
  ·subst nb
   exact .mk' (by omega) n0 (by simp) (by simp) (by simp) (by simp)
  have hg:e.keys.length≤40∧∀ x∈e.kids,¬ x.Great:=by
   have:=(not_congr El.Great_iff).1 g
   rw [not_or] at this
   exact ⟨by omega,fun x hx h=>this.2 ⟨x,hx,h⟩⟩
  rcases h.kinds nb with k|k|k|k|k|k|k
  ·rw [h.inv1 nb k];exact .mk' (by omega) n0 (by simp) (by simp) (by simp) (by simp)
  ·obtain ⟨m,hm,rfl⟩:=h.inv2 nb k;exact .mk' (by omega) hm (by simp) (by simp) (by simp) (by simp)
  ·rcases h.inv4 nb k with ⟨m,hm,rfl⟩|rfl
   ·exact .mk' (by omega) hm (by simp) (by simp) (by simp) (by simp)
   ·exact .mk' (by omega) n0 (by simp) (by simp) (by simp) (by simp)
  ·obtain ⟨t,m,ht,h1,h2,rfl⟩:=h.inv5 nb k
   have:=(ok t ht.mem).2.2.1
   exact .mk' (by omega) (by simp only [NumOk];omega) (by simp) (by simp) (by simp) (by simp)
  ·obtain ⟨ks,hk,rfl⟩:=h.inv3 nb k;exact .mk' (by omega) n0 hg.1 (by simp) hk.num (by simp)
  ·obtain ⟨k0,ks,l,e0,hk,hl,hx,rfl⟩:=h.inv6 nb k
   have h1:ks.length≤40:=hg.1
   exact .mk' (by omega) n0 h1 (by omega) hk.num fun x hx'=>(hx x hx').2.fit ok (hg.2 x hx')
  ·obtain ⟨k0,k1,x,y,e0,e1,hx,hy,hn,rfl⟩:=h.inv7 nb k
   refine .mk' (by omega) n0 (by simp) (by simp) (by simp) fun z hz=>?_
   have hg2:∀ z∈[x,y],¬ z.Great:=hg.2
   simp only [List.mem_cons,List.not_mem_nil,or_false] at hz
   rcases hz with rfl|rfl
   ·exact hx.fit ok (hg2 _ (by simp))
   ·exact hy.fit ok (hg2 _ (by simp))
theorem at_small {ks:List Int} {l:List El} (h:∀ x∈l,¬ x.Great):∀ k,¬ (atK ks l k).Great:=by
 intro k
 induction ks generalizing l with
 | nil=>cases l<;>simpa [atK] using bot_not_great
 | cons x ks ih =>
  cases l with
  | nil=>simpa [atK] using bot_not_great
  | cons y l =>
   rw [atK]
   split
   ·exact h y (by simp)
   ·exact ih fun z hz=>h z (by simp [hz])
theorem small_iff {e:El}:¬ e.Great↔e.keys.length≤40∧∀ x∈e.kids,¬ x.Great:=by
 rw [El.Great_iff,not_or]
 constructor
 ·intro h;exact ⟨by omega,fun x hx q=>h.2 ⟨x,hx,q⟩⟩
 ·intro h;exact ⟨by omega,fun ⟨x,hx,q⟩=>h.2 x hx q⟩
structure TsOk (ts:List Tbl):Prop where
 lat:Lats ts
 ok:∀ t∈ts,t.Ok
 sm:∀ t∈ts,t.Sm
 len:ts.length≤1000000
def cpt:List Int→List Int
 | []=>[]
 | [x]=>[x]
 | x::y::r=>if x=y then cpt (y::r) else x::cpt (y::r)
theorem mem_cpt:∀ {l:List Int} {z:Int},z∈cpt l↔z∈l
 | [],z=>by simp [cpt]
 | [x],z=>by simp [cpt]
 | x::y::r,z=>by
  rw [cpt]
  split
  ·rename_i e
   subst e
   rw [mem_cpt (l:=x::r)]
   simp
  ·rw [List.mem_cons,mem_cpt (l:=y::r),List.mem_cons (a:=z) (b:=x)]
theorem inc_cpt:∀ {l:List Int},l.Pairwise (·≤·)→Inc (cpt l)
 | [],_=>by simp [cpt,Inc]
 | [x],_=>by simp [cpt,Inc]
 | x::y::r,h=>by
  have h':=List.pairwise_cons.1 h
  rw [cpt]
  split
  ·exact inc_cpt h'.2
  ·rename_i e
   refine List.pairwise_cons.2 ⟨fun z hz=>?_,inc_cpt h'.2⟩
   have hz:=mem_cpt.1 hz
   have h2:=List.pairwise_cons.1 h'.2
   have:=h'.1 y (List.mem_cons_self ..)
   rcases List.mem_cons.1 hz with rfl|q
   ·omega
   ·have:=h2.1 z q;omega
theorem cpt_sorted {a b l:List Int} (ha:Inc a) (hb:Inc b) (hs:l.Pairwise (·≤·)) (hp:∀ z,z∈l↔z∈a++b):cpt l=mrg a b :=
 (inc_cpt hs).ext (inc_mrg ha hb) fun z=>by rw [mem_cpt,hp,mem_mrg,List.mem_append]
def El.Few (N:Nat):Nat→El→Prop
 | 0,_=>True
 | d+1,e=>e.keys.length≤N∧e.kids.length≤N∧∀ k∈e.kids,El.Few N d k
theorem El.Few.bot {N d:Nat}:El.bot.Few N d:=by
 cases d with
 | zero=>trivial
 | succ d=>simp [El.Few,El.bot,El.keys,El.kids]
theorem El.Few.flat {N d:Nat} {k n:Int} {ks:List Int} (h:ks.length≤N):(El.mk k n ks []).Few N d:=by
 cases d with
 | zero=>trivial
 | succ d=>simp [El.Few,El.keys,El.kids,h]
theorem El.Few.mono {N N':Nat} (h:N≤N'):∀ {d:Nat} {e:El},e.Few N d→e.Few N' d
 | 0,e,_=>trivial
 | d+1,e,⟨h1,h2,h3⟩=>⟨by omega,by omega,fun k hk=>(h3 k hk).mono h⟩
theorem IsW.few {ts:List Tbl}:∀ {d:Nat} {s:Shp} {e:El},IsW ts d s e→¬ e.Great→e.Few 40 d
 | 0,s,e,h,_=>trivial
 | d+1,s,e,h,g=>by
  have hg:=small_iff.1 g
  by_cases nb:e=El.bot
  ·subst nb;exact .bot
  rcases h.kinds nb with k|k|k|k|k|k|k
  ·rw [h.inv1 nb k];exact .flat (by simp)
  ·obtain ⟨m,hm,rfl⟩:=h.inv2 nb k;exact .flat (by simp)
  ·rcases h.inv4 nb k with ⟨m,hm,rfl⟩|rfl<;>exact .flat (by simp)
  ·obtain ⟨t,m,ht,h1,h2,rfl⟩:=h.inv5 nb k;exact .flat (by simp)
  ·obtain ⟨ks,hk,rfl⟩:=h.inv3 nb k;exact .flat hg.1
  ·obtain ⟨k0,ks,l,e0,hk,hl,hx,rfl⟩:=h.inv6 nb k
   have h1:ks.length≤40:=hg.1
   exact ⟨h1,show l.length≤40 by omega,fun x hx'=>(hx x hx').2.few (hg.2 x hx')⟩
  ·obtain ⟨k0,k1,x,y,e0,e1,hx,hy,hn,rfl⟩:=h.inv7 nb k
   refine ⟨show 0≤40 by omega,show 2≤40 by omega,fun z hz=>?_⟩
   have hz':z=x∨z=y:=by simpa [El.kids] using hz
   have:=hg.2 z hz
   rcases hz' with rfl|rfl
   ·exact hx.few this
   ·exact hy.few this
theorem mrg_len:∀ (a b:List Int),(mrg a b).length≤a.length+b.length
 | [],b=>by rw [mrg];simp
 | x::a,[]=>by rw [mrg];simp
 | x::a,y::b=>by
  rw [mrg]
  have h1:=mrg_len a (y::b)
  have h2:=mrg_len (x::a) b
  simp only [List.length_cons] at h1 h2 ⊢
  split
  ·simp only [List.length_cons];omega
  ·split
   ·simp only [List.length_cons];omega
   ·omega
 termination_by a b=>a.length+b.length
theorem at_few {N d:Nat} {ks:List Int} {l:List El} (h:∀ x∈l,x.Few N d):∀ k,(atK ks l k).Few N d:=by
 intro k
 induction ks generalizing l with
 | nil=>cases l<;>simpa [atK] using El.Few.bot
 | cons x ks ih =>
  cases l with
  | nil=>simpa [atK] using El.Few.bot
  | cons y l =>
   rw [atK]
   split
   ·exact h y (by simp)
   ·exact ih fun z hz=>h z (by simp [hz])
theorem joinE_few {ts:List Tbl} {N:Nat} (hN:1≤N):∀ {d:Nat} {s:Shp} {a b:El},IsW ts d s a→IsW ts d s b→a.Few N d→b.Few N d→(joinE ts d s a b).Few (2*N) d
 | 0,s,a,b,_,_,_,_=>trivial
 | d+1,s,a,b,wa,wb,ga,gb=>by
  by_cases na:a=El.bot
  ·rw [na,joinE_botl];exact gb.mono (by omega)
  by_cases nb:b=El.bot
  ·rw [nb,joinE_botr];exact ga.mono (by omega)
  rcases wa.kinds na with k|k|k|k|k|k|k
  ·rw [joinE_1 na nb k];exact ga.mono (by omega)
  ·rw [joinE_2 na nb k];exact .flat (by simp)
  ·rw [joinE_4 na nb k]
   split
   ·exact ga.mono (by omega)
   ·exact .flat (by simp)
  ·rw [joinE_5 na nb k];exact .flat (by simp)
  ·rw [joinE_3 na nb k]
   have:=mrg_len a.keys b.keys
   have h1:=ga.1
   have h2:=gb.1
   exact .flat (by omega)
  ·rw [joinE_6 na nb k]
   obtain ⟨k0,ks,l,e0,hk,hl,hx,rfl⟩:=wa.inv6 na k
   obtain ⟨k0',ks',l',e0',hk',hl',hx',rfl⟩:=wb.inv6 nb k
   obtain rfl:k0=k0':=by rw [e0] at e0';exact Option.some.inj e0'
   have:=mrg_len ks ks'
   have h1:ks.length≤N:=ga.1
   have h2:ks'.length≤N:=gb.1
   refine ⟨show (mrg ks ks').length≤2*N by omega,?_,?_⟩
   ·show ((mrg ks ks').map _).length≤2*N
    rw [List.length_map];omega
   ·intro x hx2
    have hx2':x∈(mrg ks ks').map fun k=>joinE ts d (s.kid 0) (atK ks l k) (atK ks' l' k):=hx2
    rw [List.mem_map] at hx2'
    obtain ⟨z,_,rfl⟩:=hx2'
    rw [Shp.kid_eq e0]
    have hd:∃ d',d=d'+1:=kids_pos hk hl hx
    exact joinE_few hN (at_W hd hl hx z) (at_W hd hl' hx' z) (at_few ga.2.2 z) (at_few gb.2.2 z)
  ·rw [joinE_7 na nb k]
   obtain ⟨k0,k1,x,y,e0,e1,hx,hy,hn,rfl⟩:=wa.inv7 na k
   obtain ⟨k0',k1',x',y',e0',e1',hx',hy',hn',rfl⟩:=wb.inv7 nb k
   obtain rfl:k0=k0':=by rw [e0] at e0';exact Option.some.inj e0'
   obtain rfl:k1=k1':=by rw [e1] at e1';exact Option.some.inj e1'
   rw [Shp.kid_eq e0,Shp.kid_eq e1]
   refine ⟨show 0≤2*N by omega,show 2≤2*N by omega,fun z hz=>?_⟩
   have hz':z=joinE ts d k0 x x'∨z=joinE ts d k1 y y':=by simpa [El.kids,El.kd] using hz
   rcases hz' with rfl|rfl
   ·exact joinE_few hN hx hx' (ga.2.2 x (by simp [El.kids])) (gb.2.2 x' (by simp [El.kids]))
   ·exact joinE_few hN hy hy' (ga.2.2 y (by simp [El.kids])) (gb.2.2 y' (by simp [El.kids]))
theorem El.Fit.mk2 {k n:Int} {ks:List Int} {l:List El} {d:Nat} (hk:0≤k∧k≤255) (hn:NumOk n) (h1:ks.length≤1000000) (h2:l.length≤1000000) (hks:∀ x∈ks,NumOk x) (hl:∀ x∈l,x.Fit d):(El.mk k n ks l).Fit (d+1) where
 lv:=by
  simp only [El.levels]
  have:elLevelsL l≤d:=elLevelsL_le.2 fun s hs=>(hl s hs).lv
  omega
 sm:=by
  simp only [El.Sm,El.keys,El.kids,El.n,El.kind]
  simp only [NumOk] at hn hks
  exact ⟨by omega,by omega,by omega,hk,fun x hx=>by have:=hks x hx;omega,fun x hx=>(hl x hx).sm⟩
theorem IsW.fit2 {ts:List Tbl} (ok:∀ t∈ts,t.Ok):∀ {d:Nat} {s:Shp} {e:El},IsW ts d s e→e.Few 1000000 d→e.Fit d
 | 0,s,e,h,_=>absurd h (by simp [IsW])
 | d+1,s,e,h,g=>by
  have n0:NumOk 0:=by simp [NumOk]
  by_cases nb:e=El.bot
  ·subst nb
   exact .mk' (by omega) n0 (by simp) (by simp) (by simp) (by simp)
  rcases h.kinds nb with k|k|k|k|k|k|k
  ·rw [h.inv1 nb k];exact .mk' (by omega) n0 (by simp) (by simp) (by simp) (by simp)
  ·obtain ⟨m,hm,rfl⟩:=h.inv2 nb k;exact .mk' (by omega) hm (by simp) (by simp) (by simp) (by simp)
  ·rcases h.inv4 nb k with ⟨m,hm,rfl⟩|rfl
   ·exact .mk' (by omega) hm (by simp) (by simp) (by simp) (by simp)
   ·exact .mk' (by omega) n0 (by simp) (by simp) (by simp) (by simp)
  ·obtain ⟨t,m,ht,h1,h2,rfl⟩:=h.inv5 nb k
   have:=(ok t ht.mem).2.2.1
   exact .mk' (by omega) (by simp only [NumOk];omega) (by simp) (by simp) (by simp) (by simp)
  ·obtain ⟨ks,hk,rfl⟩:=h.inv3 nb k;exact .mk2 (by omega) n0 g.1 (by simp) hk.num (by simp)
  ·obtain ⟨k0,ks,l,e0,hk,hl,hx,rfl⟩:=h.inv6 nb k
   exact .mk2 (by omega) n0 g.1 g.2.1 hk.num fun x hx'=>(hx x hx').2.fit2 ok (g.2.2 x hx')
  ·obtain ⟨k0,k1,x,y,e0,e1,hx,hy,hn,rfl⟩:=h.inv7 nb k
   refine .mk2 (by omega) n0 (by simp) (by simp) (by simp) fun z hz=>?_
   have hg2:=g.2.2 z hz
   simp only [List.mem_cons,List.not_mem_nil,or_false] at hz
   rcases hz with rfl|rfl
   ·exact hx.fit2 ok hg2
   ·exact hy.fit2 ok hg2
theorem joinE_fit {ts:List Tbl} (T:TsOk ts) {d:Nat} {s:Shp} {a b:El} (wa:IsW ts d s a) (wb:IsW ts d s b) (ga:¬ a.Great) (gb:¬ b.Great):(joinE ts d s a b).Fit d :=
 ((joinE_W T.lat wa wb).1).fit2 T.ok ((joinE_few (by omega) wa wb (wa.few ga) (wb.few gb)).mono (by omega))
theorem LeE.small {ts:List Tbl} (L:Lats ts) {d:Nat} {s:Shp} {a b:El} (ha:IsW ts d s a) (hb:IsW ts d s b) (h:LeE ts d s a b) (g:¬ b.Great):¬ a.Great:=fun q=>g (h.great L ha hb q)
open Go Go.Ev Go.Sort
abbrev ic (d:Array Int):List Value:=d.toList.map (Value.int .i64)
theorem ic_get {d:Array Int} {i:Nat} (h:i < d.size):getCells (ic d) (i*1) 1=some [.int .i64 d[i]!]:=by
 unfold getCells
 rw [if_pos (by simp;omega),Nat.mul_one,List.drop_eq_getElem_cons (by simpa using h)]
 simp [getElem!_pos d i h]
theorem ic_set {d:Array Int} {i:Nat} {x:Int} (h:i < d.size):setCells (ic d) (i*1) [.int .i64 x]=some (ic (d.setIfInBounds i x)):=by
 unfold setCells
 rw [if_pos (by simp;omega),Nat.mul_one]
 congr 1
 simp only [ic,Array.toList_setIfInBounds,List.map_set,List.length_cons,List.length_nil]
 rw [List.set_eq_take_append_cons_drop,if_pos (by simpa using h)]
 simp
theorem ok_ic (d:Array Int):okCells (ic d)=true:=by
 simp only [okCells,ic,List.all_map,List.all_eq_true]
 intro x _;rfl
theorem swp_size {d:Array Int} {i j:Nat}:(swp d i j).size=d.size:=by simp [swp]
theorem set_size {d:Array Int} {i:Nat} {x:Int}:(d.setIfInBounds i x).size=d.size:=by simp
theorem insInner_size {a:Nat}:∀ {j:Nat} {d:Array Int},(insInner ltInt a j d).size=d.size
 | 0,d=>rfl
 | j+1,d=>by
  rw [insInner]
  split
  ·rw [insInner_size,swp_size]
  ·rfl
end Go.Proofs.J
