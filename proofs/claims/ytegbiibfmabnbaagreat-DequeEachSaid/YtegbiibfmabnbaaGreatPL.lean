/- Rows of bytes and of numbers. -/
import Derived.Test.YtegbiibfmabnbaaGreatEvA
import Derived.Test.YtegbiibfmabnbaaGreatEvF
import Derived.Sort.AssemblyPlain
set_option linter.unusedVariables false
set_option linter.unusedSimpArgs false
set_option maxHeartbeats 1000000
namespace Go.Proofs.J
open Go Go.Ev
def by8 (l:List Int):List Value:=l.map (.int .u8)
def lowc (w:UInt8):Prop:=97≤w.toNat∧w.toNat≤122
def digc (w:UInt8):Prop:=48≤w.toNat∧w.toNat≤57
instance (w:UInt8):Decidable (lowc w):=by unfold lowc;infer_instance
instance (w:UInt8):Decidable (digc w):=by unfold digc;infer_instance
def IsName (s:ByteArray):Prop:=1≤s.size∧s.size≤12∧∀ i (h:i < s.size),lowc s[i]∨(digc s[i]∧i≠0)
def wordL:List ByteArray:=[⟨#[102,108,97,103]⟩,⟨#[109,97,120]⟩,⟨#[115,101,116]⟩,⟨#[111,110,99,101]⟩,⟨#[109,97,112]⟩,⟨#[112,97,105,114]⟩]
def IsTableName (s:ByteArray):Prop:=IsName s∧s∉wordL
structure Tbl where
 name:ByteArray
 elems:List ByteArray
 above:List (List Int)
 wrong:List Bool
def RowOk (n:Nat) (l:List Int):Prop:=(∀ i (h:i < l.length),0≤l[i]∧l[i] < n)∧∀ i (h:i+1 < l.length),l[i] < l[i+1]
def Tbl.Ok (t:Tbl):Prop :=
 IsTableName t.name∧1≤t.elems.length∧t.elems.length≤12∧t.above.length=t.elems.length∧t.wrong.length=t.elems.length ∧
 (∀ i (h:i < t.elems.length),IsName t.elems[i])∧(∀ i j (h:i < t.elems.length) (hj:j < i),t.elems[j]≠t.elems[i])∧∀ i (h:i < t.above.length),RowOk t.elems.length t.above[i]
def Tbl.E (t:Tbl) (a b:Nat):Prop:=∃ h:a < t.above.length,(b:Int)∈t.above[a]
inductive Tbl.St (t:Tbl):Nat→Nat→Prop
 | one {a b:Nat} (h:t.E a b):Tbl.St t a b
 | more {a b c:Nat} (h:Tbl.St t a b) (k:t.E b c):Tbl.St t a c
def Tbl.Bl (t:Tbl) (a b:Nat):Prop:=a=b∨t.St a b
inductive Shp where
 | mk (kind:Int) (name:ByteArray) (kids:List Shp)
def Shp.kind:Shp→Int|.mk k _ _=>k
def Shp.name:Shp→ByteArray|.mk _ n _=>n
def Shp.kids:Shp→List Shp|.mk _ _ l=>l
mutual
def Shp.levels:Shp→Nat
 | .mk _ _ l=>levelsL l+1
def levelsL:List Shp→Nat
 | []=>0
 | s::r=>max s.levels (levelsL r)
end
def kidsOf (k:Int):Option Nat:=if k=1∨k=2∨k=3∨k=4∨k=5 then some 0 else if k=6 then some 1 else if k=7 then some 2 else none
mutual
def Shp.Ok:Shp→Prop
 | .mk k n l=>kidsOf k=some l.length∧(k=5→IsTableName n)∧(k≠5→n.size=0)∧ShpOkL l
def ShpOkL:List Shp→Prop
 | []=>True
 | s::r=>s.Ok∧ShpOkL r
end
theorem levelsL_le:∀ {l:List Shp} {n:Nat},levelsL l≤n↔∀ s∈l,s.levels≤n
 | [],n=>by simp [levelsL]
 | s::r,n=>by simp [levelsL,Nat.max_le,levelsL_le (l:=r)]
theorem Tbl.St.ind {t:Tbl} {a:Nat} {P:Nat→Prop} (h1:∀ b,t.E a b→P b) (h2:∀ b c,P b→t.E b c→P c) {b:Nat} (h:t.St a b):P b:=by
 induction h with
 | one h=>exact h1 _ h
 | more _ k ih=>exact h2 _ _ ih k
theorem RowOk.length {n:Nat} {l:List Int} (h:RowOk n l):l.length≤n:=by
 have key:∀ i (hi:i < l.length),(i:Int)≤l[i]:=by
  intro i
  induction i with
  | zero=>intro hi;exact (h.1 0 hi).1
  | succ i ih=>intro hi;have:=ih (by omega);have:=h.2 i hi;omega
 cases e:l.length with
 | zero=>omega
 | succ k =>
  have h1:=key k (by omega)
  have h2:=(h.1 k (by omega)).2
  omega
def Rows (Z:Zone) (v:Value) (xss:List (List Int)):Prop:=∃ us,Sl Z 1 v xss.length us∧∀ i (h:i < xss.length),∃ u,us[i]?=some u∧Sl Z 1 u xss[i].length (xss[i].map (Value.int .i64))
theorem Rows.mono {Z Z':Zone} {v:Value} {xss:List (List Int)} (e:Ext Z Z') (h:Rows Z v xss):Rows Z' v xss :=
 let ⟨us,h1,h2⟩:=h;⟨us,h1.mono e,fun i hi=>let ⟨u,k1,k2⟩:=h2 i hi;⟨u,k1,k2.mono e⟩⟩
structure TbR (Z:Zone) (nm:ByteArray) (ve va vw:Value) (t:Tbl):Prop where
 name:nm=t.name
 elems:Sl Z 1 ve t.elems.length (t.elems.map Value.string)
 above:Rows Z va t.above
 wrong:Sl Z 1 vw t.wrong.length (t.wrong.map Value.bool)
theorem TbR.mono {Z Z':Zone} {nm:ByteArray} {ve va vw:Value} {t:Tbl} (e:Ext Z Z') (h:TbR Z nm ve va vw t):TbR Z' nm ve va vw t :=
 ⟨h.name,h.elems.mono e,h.above.mono e,h.wrong.mono e⟩
structure Tbl.Sm (t:Tbl):Prop where
 name:t.name.size≤1000000
 elems:t.elems.length≤1000000
 each:∀ s∈t.elems,s.size≤1000000
 above:t.above.length≤1000000
 rows:∀ l∈t.above,l.length≤1000000
 wrong:t.wrong.length≤1000000
structure Bfs (t:Tbl) (a:Nat) (been:List Bool) (todo:List Int):Prop where
 len:been.length=t.elems.length
 s1:∀ b,been[b]?=some true→t.St a b
 s2:∀ c∈todo,∃ k:Nat,c=k∧t.St a k
 s3:∀ b,t.E a b→been[b]?=some true∨(b:Int)∈todo
 s4:∀ b c,been[b]?=some true→t.E b c→been[c]?=some true∨(c:Int)∈todo
theorem set_get {been:List Bool} {k b:Nat} (hk:k < been.length):(been.set k true)[b]?=some true↔b=k∨been[b]?=some true:=by
 rw [List.getElem?_set]
 by_cases e:k=b
 ·subst e;simp [hk]
 ·simp [e];intro h;exact absurd h.symm e
theorem Bfs.done {t:Tbl} {a:Nat} {been:List Bool} (h:Bfs t a been []) (b:Nat):been[b]?=some true↔t.St a b:=by
 refine ⟨h.s1 b,fun hs=>?_⟩
 refine hs.ind (P:=fun b=>been[b]?=some true) (fun b hb=>?_) (fun b c hb hc=>?_)
 ·rcases h.s3 b hb with q|q
  ·exact q
  ·cases q
 ·rcases h.s4 b c hb hc with q|q
  ·exact q
  ·cases q
structure TabR (Z:Zone) (b:Nat) (t:Tbl):Prop where
 ok:t.Ok
 sm:t.Sm
 rep:∃ nm ve va vw vs us,Z b=some (.cells [.string nm,ve,va,vw,vs] true 0)∧TbR Z nm ve va vw t∧Sl Z 1 vs t.elems.length us ∧
  ∀ a,a < t.elems.length→∃ (u:Value) (l:List Bool),us[a]?=some u∧Sl Z 1 u t.elems.length (l.map Value.bool)∧l.length=t.elems.length∧∀ c:Nat,l[c]?=some true↔t.St a c
theorem TabR.mono {Z Z':Zone} {b:Nat} {t:Tbl} (e:Ext Z Z') (h:TabR Z b t):TabR Z' b t :=
 ⟨h.ok,h.sm,let ⟨nm,ve,va,vw,vs,us,h1,h2,h3,h4⟩:=h.rep;⟨nm,ve,va,vw,vs,us,e _ _ h1,h2.mono e,h3.mono e,fun a ha=>let ⟨u,l,k1,k2,k3⟩:=h4 a ha;⟨u,l,k1,k2.mono e,k3⟩⟩⟩
structure Whe (n:Nat) (p:Nat→Prop) (l:List Nat):Prop where
 mem:∀ a,a∈l↔a < n∧p a
 asc:l.Pairwise (· < ·)
theorem Whe.len {n:Nat} {p:Nat→Prop} {l:List Nat} (h:Whe n p l):l.length≤n:=by
 have hp:=List.pairwise_iff_getElem.1 h.asc
 have key:∀ i (hi:i < l.length),i≤l[i]:=by
  intro i
  induction i with
  | zero=>intro hi;omega
  | succ i ih=>intro hi;have:=ih (by omega);have:=hp i (i+1) (by omega) hi (by omega);omega
 cases e:l.length with
 | zero=>omega
 | succ k =>
  have h1:=key k (by omega)
  have h2:=((h.mem l[k]).1 (List.getElem_mem (by omega))).1
  omega
theorem Whe.nil {p:Nat→Prop}:Whe 0 p []:=⟨fun a=>by simp,.nil⟩
mutual
def ShR (Z:Zone):Shp→List Value→Prop
 | .mk k n l,cs=>∃ vk us,cs=[.int .u8 k,.string n,vk]∧Sl Z 3 vk l.length us∧ShRL Z l us
def ShRL (Z:Zone):List Shp→List Value→Prop
 | [],us=>us=[]
 | s::r,us=>∃ c rest,us=c++rest∧ShR Z s c∧ShRL Z r rest
end
mutual
theorem ShR.mono {Z Z':Zone} (e:Ext Z Z'):∀ {s:Shp} {cs:List Value},ShR Z s cs→ShR Z' s cs
 | .mk k n l,cs,h=>by
  simp only [ShR] at h ⊢
  obtain ⟨vk,us,h1,h2,h3⟩:=h
  exact ⟨vk,us,h1,h2.mono e,ShRL.mono e h3⟩
theorem ShRL.mono {Z Z':Zone} (e:Ext Z Z'):∀ {l:List Shp} {us:List Value},ShRL Z l us→ShRL Z' l us
 | [],us,h=>by simp only [ShRL] at h ⊢;exact h
 | s::r,us,h=>by
  simp only [ShRL] at h ⊢
  obtain ⟨c,rest,h1,h2,h3⟩:=h
  exact ⟨c,rest,h1,ShR.mono e h2,ShRL.mono e h3⟩
end
theorem ShR.form {Z:Zone} {s:Shp} {cs:List Value} (h:ShR Z s cs):∃ a c us,cs=[.int .u8 s.kind,.string s.name,.slice a s.kids.length c]∧Sl Z 3 (.slice a s.kids.length c) s.kids.length us∧ShRL Z s.kids us:=by
 cases s with
 | mk k n l =>
  simp only [ShR] at h
  obtain ⟨vk,us,h1,h2,h3⟩:=h
  have:=h2
  rcases this with ⟨rfl,h4,rfl⟩|⟨b,off,c,xs,wr,g,rfl,_⟩
  ·exact ⟨none,0,[],by rw [h1];simp only [Shp.kind,Shp.name,Shp.kids,h4],by simp only [Shp.kids,h4];exact Sl.nil,h3⟩
  ·exact ⟨_,_,us,h1,h2,h3⟩
theorem getCells_app {c rest:List Value}:getCells (c++rest) 0 c.length=some c:=by unfold getCells;simp
theorem ShRL.get {Z:Zone}:∀ {l:List Shp} {us:List Value},ShRL Z l us→∀ i (h:i < l.length),∃ k n a m c,getCells us (i*3) 3=some [.int .u8 k,.string n,.slice a m c]∧ShR Z l[i] [.int .u8 k,.string n,.slice a m c]
 | [],us,h,i,hi=>by simp at hi
 | s::r,us,h,0,hi=>by
  simp only [ShRL] at h
  obtain ⟨c,rest,rfl,h2,h3⟩:=h
  obtain ⟨a,cc,us',rfl,_⟩:=h2.form
  exact ⟨_,_,_,_,_,getCells_app,h2⟩
 | s::r,us,h,i+1,hi=>by
  simp only [ShRL] at h
  obtain ⟨c,rest,rfl,h2,h3⟩:=h
  obtain ⟨k,n,a,m,cc,g1,g2⟩:=ShRL.get h3 i (by simpa using hi)
  obtain ⟨a',c',us',rfl,_⟩:=h2.form
  refine ⟨k,n,a,m,cc,?_,g2⟩
  unfold getCells at g1 ⊢
  simp only [List.length_append,List.length_cons,List.length_nil]
  split at g1
  ·rw [if_pos (by omega)]
   have e:(i+1)*3=3+i*3:=by omega
   rw [e,←List.drop_drop]
   exact g1
  ·cases g1
def Shp.Sm:Nat→Shp→Prop
 | 0,_=>True
 | d+1,s=>s.name.size≤1000000∧s.kids.length≤1000000∧∀ k∈s.kids,Shp.Sm d k
def TbsR (Z:Zone) (v:Value) (ts:List Tbl):Prop:=∃ us,Sl Z 4 v ts.length us∧∀ i (h:i < ts.length),∃ nm a1 m1 c1 a2 m2 c2 a3 m3 c3,getCells us (i*4) 4=some [.string nm,.slice a1 m1 c1,.slice a2 m2 c2,.slice a3 m3 c3]∧TbR Z nm (.slice a1 m1 c1) (.slice a2 m2 c2) (.slice a3 m3 c3) ts[i]
theorem TbsR.mono {Z Z':Zone} {v:Value} {ts:List Tbl} (e:Ext Z Z') (h:TbsR Z v ts):TbsR Z' v ts :=
 let ⟨us,h1,h2⟩:=h;⟨us,h1.mono e,fun i hi=>let ⟨nm,a1,m1,c1,a2,m2,c2,a3,m3,c3,k1,k2⟩:=h2 i hi;⟨nm,a1,m1,c1,a2,m2,c2,a3,m3,c3,k1,k2.mono e⟩⟩
theorem TbsR.form {Z:Zone} {v:Value} {ts:List Tbl} (h:TbsR Z v ts):∃ a c,v=.slice a ts.length c:=by
 obtain ⟨us,hs,_⟩:=h
 rcases hs with ⟨rfl,h0,_⟩|⟨b,off,c,xs,wr,g,rfl,_⟩
 ·exact ⟨none,0,by rw [h0]⟩
 ·exact ⟨_,_,rfl⟩
def Clo (t:Tbl) (seen:List Bool) (b:Nat):Prop:=∀ c,t.E b c→seen[c]?=some true
structure Rb (t:Tbl) (a:Nat) (seen:List Bool) (todo:List Int) (x:Option Nat):Prop where
 len:seen.length=t.elems.length
 s1:∀ b:Nat,seen[b]?=some true→t.St a b
 s2:∀ c∈todo,∃ k:Nat,c=k∧(k=a∨t.St a k)
 s3:(a:Int)∈todo∨x=some a∨Clo t seen a
 s4:∀ b:Nat,seen[b]?=some true→(b:Int)∈todo∨x=some b∨Clo t seen b
theorem Clo.mono {t:Tbl} {seen:List Bool} {b k:Nat} (hk:k < seen.length) (h:Clo t seen b):Clo t (seen.set k true) b:=fun c hc=>(set_get hk).2 (.inr (h c hc))
theorem Rb.push {t:Tbl} {a x k:Nat} {seen:List Bool} {todo:List Int} (h:Rb t a seen todo (some x)) (hk:k < seen.length) (hst:t.St a k):Rb t a (seen.set k true) (todo++[(k:Int)]) (some x) where
 len:=by simp [h.len]
 s1:=fun b hb=>by
  rcases (set_get hk).1 hb with rfl|hb
  ·exact hst
  ·exact h.s1 b hb
 s2:=fun c hc=>by
  rcases List.mem_append.1 hc with hc|hc
  ·exact h.s2 c hc
  ·exact ⟨k,by simpa using hc,.inr hst⟩
 s3:=by
  rcases h.s3 with q|q|q
  ·exact .inl (List.mem_append.2 (.inl q))
  ·exact .inr (.inl q)
  ·exact .inr (.inr (q.mono hk))
 s4:=fun b hb=>by
  rcases (set_get hk).1 hb with rfl|hb
  ·exact .inl (List.mem_append.2 (.inr (by simp)))
  ·rcases h.s4 b hb with q|q|q
   ·exact .inl (List.mem_append.2 (.inl q))
   ·exact .inr (.inl q)
   ·exact .inr (.inr (q.mono hk))
theorem Rb.done {t:Tbl} {a:Nat} {seen:List Bool} (h:Rb t a seen [] none) (b:Nat):seen[b]?=some true↔t.St a b:=by
 refine ⟨h.s1 b,fun hs=>?_⟩
 have ca:Clo t seen a:=by
  rcases h.s3 with q|q|q
  ·cases q
  ·cases q
  ·exact q
 refine hs.ind (P:=fun b=>seen[b]?=some true) (fun b hb=>ca b hb) (fun b c hb hc=>?_)
 rcases h.s4 b hb with q|q|q
 ·cases q
 ·cases q
 ·exact q c hc
def RelR (Z:Zone) (v:Value) (t:Tbl):Prop:=∃ us,Sl Z 1 v t.elems.length us∧∀ a,a < t.elems.length→∃ (u:Value) (l:List Bool),us[a]?=some u∧Sl Z 1 u t.elems.length (l.map Value.bool)∧l.length=t.elems.length∧∀ c:Nat,c < t.elems.length→(l[c]?=some true↔t.Bl a c)
theorem RelR.mono {Z Z':Zone} {v:Value} {t:Tbl} (e:Ext Z Z') (h:RelR Z v t):RelR Z' v t :=
 let ⟨us,h1,h2⟩:=h;⟨us,h1.mono e,fun a ha=>let ⟨u,l,k1,k2,k3⟩:=h2 a ha;⟨u,l,k1,k2.mono e,k3⟩⟩
theorem RelR.row {Z:Zone} {t:Tbl} {us:List Value} (h2:∀ a,a < t.elems.length→∃ (u:Value) (l:List Bool),us[a]?=some u∧Sl Z 1 u t.elems.length (l.map Value.bool)∧l.length=t.elems.length∧∀ c:Nat,c < t.elems.length→(l[c]?=some true↔t.Bl a c)) (a:Nat) (ha:a < t.elems.length) :
  ∃ (u:Value) (l:List Bool),getCells us (a*1) 1=some [u]∧Sl Z 1 u t.elems.length (l.map Value.bool)∧l.length=t.elems.length∧∀ c (hc:c < l.length),l[c]=true↔t.Bl a c:=by
 obtain ⟨u,l,k1,k2,k3,k4⟩:=h2 a ha
 exact ⟨u,l,getCells_one (by rw [Nat.mul_one];exact k1),k2,k3,fun c hc=>by rw [←k4 c (by omega),List.getElem?_eq_getElem hc];simp⟩
def Shp.Thin:Nat→Shp→Prop
 | 0,_=>False
 | d+1,s=>s.kids.length≤4∧s.name.size≤30∧∀ k∈s.kids,Shp.Thin d k
theorem Shp.Thin.sm:∀ {d:Nat} {s:Shp},Shp.Thin d s→Shp.Sm d s∧s.levels≤d
 | 0,s,h=>h.elim
 | d+1,s,h=>by
  obtain ⟨h1,h2,h3⟩:=h
  refine ⟨⟨by omega,by omega,fun k hk=>(Shp.Thin.sm (h3 k hk)).1⟩,?_⟩
  cases s with
  | mk k n l =>
   simp only [Shp.levels]
   have:=levelsL_le.2 fun k hk=>(Shp.Thin.sm (h3 k hk)).2
   simp only [Shp.kids] at this
   omega
structure Tbl.Th (t:Tbl):Prop where
 elems:t.elems.length≤20
 above:t.above.length≤20
 wrong:t.wrong.length≤20
 name:t.name.size≤30
 each:∀ i (h:i < t.elems.length),t.elems[i].size≤30
 rows:∀ i (h:i < t.above.length),t.above[i].length≤20
theorem Tbl.Th.sm {t:Tbl} (h:t.Th):t.Sm where
 name:=by have:=h.name;omega
 elems:=by have:=h.elems;omega
 each:=fun s hs=>by obtain ⟨i,hi,rfl⟩:=List.getElem_of_mem hs;have:=h.each i hi;omega
 above:=by have:=h.above;omega
 rows:=fun s hs=>by obtain ⟨i,hi,rfl⟩:=List.getElem_of_mem hs;have:=h.rows i hi;omega
 wrong:=by have:=h.wrong;omega
abbrev Lat:=List Tbl×Shp
structure Lat.Th (l:Lat):Prop where
 few:¬ (4 < l.1.length∧l.1.length≤8)∧l.1.length≤10
 shape:Shp.Thin 6 l.2
 tables:∀ i (h:i < l.1.length),(l.1[i]).Th
def LatR (Z:Zone) (cs:List Value) (l:Lat):Prop:=∃ vt cs',cs=vt::cs'∧TbsR Z vt l.1∧ShR Z l.2 cs'
theorem LatR.mono {Z Z':Zone} {cs:List Value} {l:Lat} (e:Ext Z Z') (h:LatR Z cs l):LatR Z' cs l:=let ⟨vt,cs',h1,h2,h3⟩:=h;⟨vt,cs',h1,h2.mono e,h3.mono e⟩
theorem LatR.form {Z:Zone} {cs:List Value} {l:Lat} (h:LatR Z cs l):∃ a1 c1 a2 c2,cs=[.slice a1 l.1.length c1,.int .u8 l.2.kind,.string l.2.name,.slice a2 l.2.kids.length c2]∧TbsR Z (.slice a1 l.1.length c1) l.1∧ShR Z l.2 [.int .u8 l.2.kind,.string l.2.name,.slice a2 l.2.kids.length c2]:=by
 obtain ⟨vt,cs',rfl,h2,h3⟩:=h
 obtain ⟨a1,c1,rfl⟩:=h2.form
 obtain ⟨a2,c2,us,rfl,_⟩:=h3.form
 exact ⟨a1,c1,a2,c2,rfl,h2,h3⟩
def LatsR (Z:Zone) (v:Value) (ls:List Lat):Prop:=∃ us,Sl Z 4 v ls.length us∧∀ i (h:i < ls.length),∃ cs,getCells us (i*4) 4=some cs∧LatR Z cs ls[i]
theorem LatsR.mono {Z Z':Zone} {v:Value} {ls:List Lat} (e:Ext Z Z') (h:LatsR Z v ls):LatsR Z' v ls:=let ⟨us,h1,h2⟩:=h;⟨us,h1.mono e,fun i hi=>let ⟨cs,k1,k2⟩:=h2 i hi;⟨cs,k1,k2.mono e⟩⟩
theorem LatsR.form {Z:Zone} {v:Value} {ts:List Lat} (h:LatsR Z v ts):∃ a c,v=.slice a ts.length c:=by
 obtain ⟨us,hs,_⟩:=h
 rcases hs with ⟨rfl,h0,_⟩|⟨b,off,c,xs,wr,g,rfl,_⟩
 ·exact ⟨none,0,by rw [h0]⟩
 ·exact ⟨_,_,rfl⟩
inductive El where
 | mk (kind n:Int) (keys:List Int) (kids:List El)
def El.kind:El→Int|.mk k _ _ _=>k
def El.n:El→Int|.mk _ n _ _=>n
def El.keys:El→List Int|.mk _ _ l _=>l
def El.kids:El→List El|.mk _ _ _ l=>l
mutual
def El.levels:El→Nat
 | .mk _ _ _ l=>elLevelsL l+1
def elLevelsL:List El→Nat
 | []=>0
 | s::r=>max s.levels (elLevelsL r)
end
def El.Sm:Nat→El→Prop
 | 0,_=>True
 | d+1,s=>s.keys.length≤17592186044416∧s.kids.length≤2199023255552∧(-9223372036854775808≤s.n∧s.n≤9223372036854775807)∧(0≤s.kind∧s.kind≤255)∧(∀ k∈s.keys,-9223372036854775808≤k∧k≤9223372036854775807)∧∀ k∈s.kids,El.Sm d k
mutual
def ElR (Z:Zone):El→List Value→Prop
 | .mk k n ks l,cs=>∃ vk vl us,cs=[.int .u8 k,.int .i64 n,vk,vl]∧Sl Z 1 vk ks.length (ks.map (Value.int .i64))∧Sl Z 4 vl l.length us∧ElRL Z l us
def ElRL (Z:Zone):List El→List Value→Prop
 | [],us=>us=[]
 | s::r,us=>∃ c rest,us=c++rest∧ElR Z s c∧ElRL Z r rest
end
mutual
theorem ElR.mono {Z Z':Zone} (e:Ext Z Z'):∀ {s:El} {cs:List Value},ElR Z s cs→ElR Z' s cs
 | .mk k n ks l,cs,h=>by
  simp only [ElR] at h ⊢
  obtain ⟨vk,vl,us,h1,h0,h2,h3⟩:=h
  exact ⟨vk,vl,us,h1,h0.mono e,h2.mono e,ElRL.mono e h3⟩
theorem ElRL.mono {Z Z':Zone} (e:Ext Z Z'):∀ {l:List El} {us:List Value},ElRL Z l us→ElRL Z' l us
 | [],us,h=>by simp only [ElRL] at h ⊢;exact h
 | s::r,us,h=>by
  simp only [ElRL] at h ⊢
  obtain ⟨c,rest,h1,h2,h3⟩:=h
  exact ⟨c,rest,h1,ElR.mono e h2,ElRL.mono e h3⟩
end
theorem ElR.form {Z:Zone} {s:El} {cs:List Value} (h:ElR Z s cs):∃ a1 c1 a2 c2 us,cs=[.int .u8 s.kind,.int .i64 s.n,.slice a1 s.keys.length c1,.slice a2 s.kids.length c2] ∧
  Sl Z 1 (.slice a1 s.keys.length c1) s.keys.length (s.keys.map (Value.int .i64))∧Sl Z 4 (.slice a2 s.kids.length c2) s.kids.length us∧ElRL Z s.kids us:=by
 cases s with
 | mk k n ks l =>
  simp only [ElR] at h
  obtain ⟨vk,vl,us,rfl,h0,h2,h3⟩:=h
  obtain ⟨a1,c1,rfl⟩:=h0.form
  obtain ⟨a2,c2,rfl⟩:=h2.form
  exact ⟨a1,c1,a2,c2,us,rfl,h0,h2,h3⟩
theorem ElRL.get {Z:Zone}:∀ {l:List El} {us:List Value},ElRL Z l us→∀ i (h:i < l.length),∃ k n a1 m1 c1 a2 m2 c2,getCells us (i*4) 4=some [.int .u8 k,.int .i64 n,.slice a1 m1 c1,.slice a2 m2 c2]∧ElR Z l[i] [.int .u8 k,.int .i64 n,.slice a1 m1 c1,.slice a2 m2 c2]
 | [],us,h,i,hi=>by simp at hi
 | s::r,us,h,0,hi=>by
  simp only [ElRL] at h
  obtain ⟨c,rest,rfl,h2,h3⟩:=h
  obtain ⟨a1,c1,a2,c2,us',rfl,_⟩:=h2.form
  exact ⟨_,_,_,_,_,_,_,_,getCells_app,h2⟩
 | s::r,us,h,i+1,hi=>by
  simp only [ElRL] at h
  obtain ⟨c,rest,rfl,h2,h3⟩:=h
  obtain ⟨k,n,a1,m1,c1,a2,m2,c2,g1,g2⟩:=ElRL.get h3 i (by simpa using hi)
  obtain ⟨b1,d1,b2,d2,us',rfl,_⟩:=h2.form
  refine ⟨k,n,a1,m1,c1,a2,m2,c2,?_,g2⟩
  unfold getCells at g1 ⊢
  simp only [List.length_append,List.length_cons,List.length_nil]
  split at g1
  ·rw [if_pos (by omega)]
   have e:(i+1)*4=4+i*4:=by omega
   rw [e,←List.drop_drop]
   exact g1
  ·cases g1
def ElsR (Z:Zone) (v:Value) (l:List El):Prop:=∃ us,Sl Z 4 v l.length us∧ElRL Z l us
theorem ElsR.mono {Z Z':Zone} {v:Value} {l:List El} (e:Ext Z Z') (h:ElsR Z v l):ElsR Z' v l:=let ⟨us,h1,h2⟩:=h;⟨us,h1.mono e,h2.mono e⟩
theorem ElsR.form {Z:Zone} {v:Value} {l:List El} (h:ElsR Z v l):∃ a c,v=.slice a l.length c:=let ⟨_,h1,_⟩:=h;h1.form
def El.Bot (e:El):Prop:=e.kind=0∧e.n=0∧e.keys.length=0∧e.kids.length=0
instance (e:El):Decidable e.Bot:=by unfold El.Bot;infer_instance
def NumOk (a:Int):Prop:=-1000000000≤a∧a≤1000000000
instance (a:Int):Decidable (NumOk a):=by unfold NumOk;infer_instance
def Tof (ts:List Tbl) (n:ByteArray) (t:Tbl):Prop:=∃ i,∃ h:i < ts.length,ts[i]=t∧t.name=n∧∀ j (hj:j < i),ts[j].name≠n
def El.Bare (e:El):Prop:=e.keys.length=0∧e.kids.length=0
instance (e:El):Decidable e.Bare:=by unfold El.Bare;infer_instance
theorem Tof.mem {ts:List Tbl} {n:ByteArray} {t:Tbl} (h:Tof ts n t):t∈ts:=by
 obtain ⟨i,hi,rfl,_⟩:=h;exact List.getElem_mem hi
end Go.Proofs.J
namespace Go.Proofs.J
open Go Go.Ev
open Classical in
noncomputable instance:DecidableEq El:=fun a b=>Classical.propDecidable _
section inv
variable {ts:List Tbl} {d:Nat} {s:Shp} {e:El}
end inv
section eqs
variable {ts:List Tbl} {d:Nat} {s:Shp} {a b:El}
end eqs
end Go.Proofs.J
namespace Go.Proofs.J
open Go Go.Ev
def cpt:List Int→List Int
 | []=>[]
 | [x]=>[x]
 | x::y::r=>if x=y then cpt (y::r) else x::cpt (y::r)
open Go Go.Ev Go.Sort
abbrev ic (d:Array Int):List Value:=d.toList.map (Value.int .i64)
theorem ic_get {d:Array Int} {i:Nat} (h:i < d.size):getCells (ic d) (i*1) 1=some [.int .i64 d[i]!]:=by
 unfold getCells
 rw [if_pos (by simp;omega),Nat.mul_one,List.drop_eq_getElem_cons (by simpa using h)]
 simp [getElem!_pos d i h]
theorem ic_set {d:Array Int} {i:Nat} {x:Int} (h:i < d.size):setCells (ic d) (i*1) [.int .i64 x]=some (ic (d.setIfInBounds i x)):=by
 unfold setCells
 rw [if_pos (by simp;omega),Nat.mul_one]
 congr 1
 simp only [ic,Array.toList_setIfInBounds,List.map_set,List.length_cons,List.length_nil]
 rw [List.set_eq_take_append_cons_drop,if_pos (by simpa using h)]
 simp
theorem ok_ic (d:Array Int):okCells (ic d)=true:=by
 simp only [okCells,ic,List.all_map,List.all_eq_true]
 intro x _;rfl
theorem swp_size {d:Array Int} {i j:Nat}:(swp d i j).size=d.size:=by simp [swp]
theorem set_size {d:Array Int} {i:Nat} {x:Int}:(d.setIfInBounds i x).size=d.size:=by simp
theorem insInner_size {a:Nat}:∀ {j:Nat} {d:Array Int},(insInner ltInt a j d).size=d.size
 | 0,d=>rfl
 | j+1,d=>by
  rw [insInner]
  split
  ·rw [insInner_size,swp_size]
  ·rfl
theorem fm_len {α:Type} {f:α→List Value} {k:Nat} (hk:∀ x,(f x).length=k):∀ (l:List α),(l.flatMap f).length=l.length*k
 | []=>by simp
 | x::l=>by rw [List.flatMap_cons,List.length_append,hk,fm_len hk l,List.length_cons,Nat.add_mul];omega
theorem fm_drop {α:Type} {f:α→List Value} {k:Nat} (hk:∀ x,(f x).length=k):∀ (l:List α) (j:Nat),(l.flatMap f).drop (j*k)=(l.drop j).flatMap f
 | l,0=>by simp
 | [],j+1=>by simp
 | x::l,j+1=>by
  rw [List.flatMap_cons,List.drop_succ_cons,←fm_drop hk l j,Nat.add_mul,Nat.one_mul,Nat.add_comm,←List.drop_drop]
  congr 1
  rw [List.drop_append_of_le_length (by rw [hk];exact Nat.le_refl _),←hk x,List.drop_length,List.nil_append]
theorem fm_get {α:Type} {f:α→List Value} {k:Nat} (hk:∀ x,(f x).length=k) {l:List α} {j:Nat} (h:j < l.length):getCells (l.flatMap f) (j*k) k=some (f l[j]):=by
 have h1:=fm_len hk l
 have h2:(j+1)*k≤l.length*k:=Nat.mul_le_mul_right _ h
 rw [Nat.add_mul,Nat.one_mul] at h2
 unfold getCells
 rw [if_pos (by omega),fm_drop hk,List.drop_eq_getElem_cons h,List.flatMap_cons,List.take_append_of_le_length (by rw [hk];exact Nat.le_refl _),←hk l[j],List.take_length]
theorem fm_ok {α:Type} {f:α→List Value} (hf:∀ x,okCells (f x)=true) (l:List α):okCells (l.flatMap f)=true:=by
 unfold okCells at *
 rw [List.all_eq_true]
 intro v hv
 obtain ⟨x,_,hx⟩:=List.mem_flatMap.1 hv
 exact List.all_eq_true.1 (hf x) v hx
structure Act where
 push:Bool
 n:Int
structure Dq where
 size:Int
 room:Int
 fence:Bool
 owner:List Act
 thieves:List Int
abbrev actC (a:Act):List Value:=[.bool a.push,.int .i64 a.n]
def Item (n:Int):Prop:=1≤n∧n≤1000
def pushedOf:List Act→List Int
 | []=>[]
 | a::l=>if a.push=true then a.n::pushedOf l else pushedOf l
theorem pushedOf_append:∀ (l m:List Act),pushedOf (l++m)=pushedOf l++pushedOf m
 | [],m=>rfl
 | a::l,m=>by
  rw [List.cons_append,pushedOf,pushedOf,pushedOf_append l m]
  split<;>rfl
theorem pushedOf_take {l:List Act} {j:Nat} (h:j < l.length):pushedOf (l.take (j+1))=if l[j].push=true then pushedOf (l.take j)++[l[j].n] else pushedOf (l.take j):=by
 rw [List.take_succ_eq_append_getElem h,pushedOf_append]
 simp only [pushedOf]
 split<;>simp
theorem pushedOf_len:∀ (l:List Act),(pushedOf l).length≤l.length
 | []=>Nat.le_refl _
 | a::l=>by have:=pushedOf_len l;rw [pushedOf];split<;>simp<;>omega
theorem mem_pushed:∀ {l:List Act} {x:Int},x∈pushedOf l↔∃ a∈l,a.push=true∧a.n=x
 | [],x=>by simp [pushedOf]
 | a::l,x=>by
  rw [pushedOf]
  split
  ·rename_i h
   rw [List.mem_cons,mem_pushed (l:=l)]
   constructor
   ·rintro (rfl|⟨b,hb,h1,h2⟩)
    ·exact ⟨a,by simp,h,rfl⟩
    ·exact ⟨b,by simp [hb],h1,h2⟩
   ·rintro ⟨b,hb,h1,h2⟩
    rcases List.mem_cons.1 hb with rfl|hb
    ·exact .inl h2.symm
    ·exact .inr ⟨b,hb,h1,h2⟩
  ·rename_i h
   rw [mem_pushed (l:=l)]
   constructor
   ·rintro ⟨b,hb,h1,h2⟩
    exact ⟨b,by simp [hb],h1,h2⟩
   ·rintro ⟨b,hb,h1,h2⟩
    rcases List.mem_cons.1 hb with rfl|hb
    ·exact absurd h1 h
    ·exact ⟨b,hb,h1,h2⟩
def Dq.Lim (d:Dq):Prop:=d.owner.length≤8∧d.thieves.length≤3∧∀ n∈d.thieves,n≤4
def Dq.Rng (d:Dq):Prop:=(1≤d.size∧d.size≤4)∧(1≤d.room∧d.room≤8)∧(∀ n∈pushedOf d.owner,Item n)∧∀ n∈d.thieves,0≤n
def Dq.Frm (d:Dq):Prop:=∀ a∈d.owner,a.push=true∨a.n=0
def Dq.Onc (d:Dq):Prop:=(pushedOf d.owner).Nodup
structure Dq.Ok (d:Dq):Prop where
 lim:d.Lim
 rng:d.Rng
 frm:d.Frm
 onc:d.Onc
open Classical in
noncomputable def DqE (d:Dq):Int:=if ¬ d.Lim then 5 else if ¬ d.Rng then 3 else if ¬ d.Frm then 4 else if ¬ d.Onc then 6 else 0
theorem DqE_lim {d:Dq} (h:¬ d.Lim):DqE d=5:=by unfold DqE;rw [if_pos h]
theorem DqE_rng {d:Dq} (h:d.Lim) (k:¬ d.Rng):DqE d=3:=by unfold DqE;rw [if_neg (fun x=>x h),if_pos k]
theorem DqE_frm {d:Dq} (h:d.Lim) (k:d.Rng) (l:¬ d.Frm):DqE d=4:=by unfold DqE;rw [if_neg (fun x=>x h),if_neg (fun x=>x k),if_pos l]
theorem DqE_onc {d:Dq} (h:d.Lim) (k:d.Rng) (l:d.Frm) (m:¬ d.Onc):DqE d=6:=by unfold DqE;rw [if_neg (fun x=>x h),if_neg (fun x=>x k),if_neg (fun x=>x l),if_pos m]
theorem DqE_ok {d:Dq} (h:d.Ok):DqE d=0:=by unfold DqE;rw [if_neg (fun x=>x h.lim),if_neg (fun x=>x h.rng),if_neg (fun x=>x h.frm),if_neg (fun x=>x h.onc)]
theorem DqE_zero {d:Dq} (h:DqE d=0):d.Ok:=by
 unfold DqE at h
 split at h
 ·cases h
 split at h
 ·cases h
 split at h
 ·cases h
 split at h
 ·cases h
 rename_i a b c e
 exact ⟨Classical.not_not.1 a,Classical.not_not.1 b,Classical.not_not.1 c,Classical.not_not.1 e⟩
theorem cpt_le:∀ (l:List Int),(cpt l).length≤l.length
 | []=>Nat.le_refl _
 | [x]=>Nat.le_refl _
 | x::y::r=>by
  have:=cpt_le (y::r)
  rw [cpt]
  split
  ·exact Nat.le_succ_of_le this
  ·exact Nat.succ_le_succ this
theorem cpt_lt:∀ {l:List Int},l.Pairwise (·≤·)→((cpt l).length < l.length↔¬ l.Nodup)
 | [],_=>by simp [cpt]
 | [x],_=>by simp [cpt]
 | x::y::r,h=>by
  have h':=List.pairwise_cons.1 h
  have ih:=cpt_lt h'.2
  have hle:=cpt_le (y::r)
  rw [cpt]
  split
  ·rename_i e
   subst e
   constructor
   ·intro _ hn
    exact (List.nodup_cons.1 hn).1 (List.mem_cons_self ..)
   ·intro _
    exact Nat.lt_succ_of_le hle
  ·rename_i e
   have hx:x∉y::r:=fun hm=>by
    have h2:=List.pairwise_cons.1 h'.2
    have:=h'.1 y (List.mem_cons_self ..)
    rcases List.mem_cons.1 hm with rfl|q
    ·exact e rfl
    ·have:=h2.1 x q;omega
   rw [List.nodup_cons]
   simp only [List.length_cons] at ih ⊢
   constructor
   ·intro h1 hn
    exact ih.1 (by omega) hn.2
   ·intro hn
    have:=ih.2 fun k=>hn ⟨hx,k⟩
    omega
structure Ins where
 op:Int
 a:Int
 b:Int
 c:Int
 d:Int
 n:Int
abbrev insC (i:Ins):List Value:=[.int .u8 i.op,.int .i64 i.a,.int .i64 i.b,.int .i64 i.c,.int .i64 i.d,.int .i64 i.n]
abbrev insL (l:List Ins):List Value:=l.flatMap insC
theorem actL_get {l:List Act} {j:Nat} (h:j < l.length):getCells (l.flatMap actC) (j*2) 2=some (actC l[j]):=fm_get (f:=actC) (k:=2) (fun _=>rfl) h
theorem actL_ok (l:List Act):okCells (l.flatMap actC)=true:=fm_ok (fun _=>rfl) l
def pushI (at_ item : Int) : List Ins :=
  [⟨8, 1, 0, 0, 0, 1⟩, ⟨8, 2, 0, 0, 0, 0⟩, ⟨3, 3, 1, 2, 0, 0⟩, ⟨6, 5, 8, 3, 0, 0⟩, ⟨14, 5, 0, 0, 0, at_ + 12⟩, ⟨4, 6, 1, 8, 0, 0⟩, ⟨1, 7, 0, 0, 0, item⟩, ⟨9, 7, 6, 0, 0, 2⟩,
   ⟨2, 1, 1, 9, 0, 0⟩, ⟨9, 1, 0, 0, 0, 1⟩, ⟨15, 7, 0, 0, 0, 0⟩, ⟨13, 0, 0, 0, 0, at_ + 14⟩, ⟨1, 7, 0, 0, 0, -2⟩, ⟨15, 7, 0, 0, 0, 0⟩]
def popT (f : Int) : List Ins :=
  [⟨8, 2, 0, 0, 0, 0⟩, ⟨6, 5, 2, 1, 0, 0⟩, ⟨14, 5, 0, 0, 0, f + 10⟩, ⟨9, 2, 0, 0, 0, 1⟩, ⟨15, 0, 0, 0, 0, 0⟩, ⟨13, 0, 0, 0, 0, f + 21⟩, ⟨4, 6, 1, 8, 0, 0⟩, ⟨8, 7, 6, 0, 0, 2⟩,
   ⟨7, 5, 1, 2, 0, 0⟩, ⟨14, 5, 0, 0, 0, f + 18⟩, ⟨2, 3, 2, 9, 0, 0⟩, ⟨10, 5, 0, 2, 3, 0⟩, ⟨9, 3, 0, 0, 0, 1⟩, ⟨14, 5, 0, 0, 0, f + 20⟩, ⟨15, 7, 0, 0, 0, 0⟩, ⟨13, 0, 0, 0, 0, f + 21⟩, ⟨15, 0, 0, 0, 0, 0⟩]
def popH:List Ins:=[⟨8,1,0,0,0,1⟩,⟨3,1,1,9,0,0⟩,⟨9,1,0,0,0,1⟩]
def popI (at_:Int) (fence:Bool):List Ins:=if fence=true then popH++[⟨11,0,0,0,0,0⟩]++popT at_ else popH++popT (at_ - 1)
def stealI (at_ : Int) : List Ins :=
  [⟨8, 2, 0, 0, 0, 0⟩, ⟨8, 1, 0, 0, 0, 1⟩, ⟨6, 5, 1, 2, 0, 0⟩, ⟨14, 5, 0, 0, 0, at_ + 11⟩, ⟨4, 6, 2, 8, 0, 0⟩, ⟨8, 7, 6, 0, 0, 2⟩, ⟨2, 3, 2, 9, 0, 0⟩, ⟨10, 5, 0, 2, 3, 0⟩,
   ⟨14, 5, 0, 0, 0, at_ + 13⟩, ⟨15, 7, 0, 0, 0, 0⟩, ⟨13, 0, 0, 0, 0, at_ + 15⟩, ⟨15, 0, 0, 0, 0, 0⟩, ⟨13, 0, 0, 0, 0, at_ + 15⟩, ⟨1, 4, 0, 0, 0, -1⟩, ⟨15, 4, 0, 0, 0, 0⟩]
def thrI (size:Int) (f:Int→Nat→List Ins):Nat→List Ins
 | 0=>[⟨1,8,0,0,0,size⟩,⟨1,9,0,0,0,1⟩]
 | m+1=>thrI size f m++f (thrI size f m).length m
def actI (fence:Bool) (l:List Act) (at_:Int) (i:Nat):List Ins :=
 match l[i]? with
 | none=>[]
 | some a=>if a.push=true then pushI at_ a.n else popI at_ fence
def ownI (d:Dq):List Ins:=thrI d.size (actI d.fence d.owner) d.owner.length
def thiefI (d:Dq) (m:Int):List Ins:=thrI d.size (fun a _=>stealI a) m.toNat
def progI (d:Dq):List (List Ins):=ownI d::d.thieves.map (thiefI d)
structure De where
 ow:List Int
 th:List (List Int)
 lf:List Int
def De.z:De:=⟨[],[],[]⟩
structure De.Sm (e:De):Prop where
 ow:e.ow.length≤1000000
 th:e.th.length≤1000000∧∀ l∈e.th,l.length≤1000000
 lf:e.lf.length≤1000000
structure Ln where
 inn:List Int
 done:List Int
 own:List Int
 th:List (List Int)
def Dq.many (d:Dq) (t:Nat):Int:=if t=0 then d.owner.length else d.thieves.getD (t - 1) 0
def Ln.tk (d:Dq) (x:Ln) (a:Act):Int×List Int :=
 if a.push=true then (if (x.inn.length:Int)=d.size then (-2,x.inn) else (a.n,x.inn++[a.n]))
 else if h:x.inn=[] then (0,[]) else (x.inn.getLast h,x.inn.dropLast)
def Ln.st (x:Ln):Int×List Int:=match x.inn with|[]=>(0,[])|n::r=>(n,r)
def Dq.act (d:Dq) (x:Ln):Act:=d.owner.getD (x.done.getD 0 0).toNat ⟨false,0⟩
def Ln.step (d:Dq) (x:Ln) (t:Nat):Ln :=
 if t=0 then { inn:=(x.tk d (d.act x)).2,done:=x.done.set 0 (x.done.getD 0 0+1),own:=x.own++[(x.tk d (d.act x)).1],th:=x.th }
 else { inn:=x.st.2,done:=x.done.set t (x.done.getD t 0+1),own:=x.own,th:=x.th.set (t - 1) (x.th.getD (t - 1) []++[x.st.1]) }
structure Ln.Ok (d:Dq) (x:Ln):Prop where
 dn:x.done.length=d.thieves.length+1
 tl:x.th.length=d.thieves.length
 le:∀ t (h:t < x.done.length),0≤x.done[t]∧x.done[t]≤d.many t
 sz:(x.inn.length:Int)≤d.size
 ow:(x.own.length:Int)=x.done.getD 0 0
 rw:∀ i (h:i < x.th.length),(x.th[i].length:Int)=x.done.getD (i+1) 0
theorem getD_set {l:List Int} {i j:Nat} {v:Int} (hi:i < l.length):(l.set i v).getD j 0=if i=j then v else l.getD j 0:=by
 by_cases h:i=j
 ·subst h;simp [hi]
 ·rw [if_neg h];simp [h]
theorem Ln.tk_len {d:Dq} {x:Ln} {a:Act} (h:(x.inn.length:Int)≤d.size):((x.tk d a).2.length:Int)≤d.size:=by
 unfold Ln.tk
 split
 ·split
  ·exact h
  ·simp only [List.length_append,List.length_cons,List.length_nil];omega
 ·split
  ·simp;omega
  ·simp only [List.length_dropLast];omega
theorem Ln.st_len {d:Dq} {x:Ln} (h:(x.inn.length:Int)≤d.size):(x.st.2.length:Int)≤d.size:=by
 unfold Ln.st
 split
 ·simp;omega
 ·rename_i n r e;rw [e] at h;simp at h ⊢;omega
theorem Ln.Ok.step {d:Dq} {x:Ln} {t:Nat} (ok:x.Ok d) (ht:t < x.done.length) (hl:x.done[t] < d.many t):(x.step d t).Ok d:=by
 have hdn:=ok.dn
 have hle:∀ u (h:u < (x.done.set t (x.done.getD t 0+1)).length),0≤(x.done.set t (x.done.getD t 0+1))[u]∧(x.done.set t (x.done.getD t 0+1))[u]≤d.many u:=by
  intro u hu
  rw [List.length_set] at hu
  rw [List.getElem_set]
  have:=ok.le t ht
  have e:x.done.getD t 0=x.done[t]:=by simp [ht]
  split
  ·rename_i h;subst h;rw [e];omega
  ·exact ok.le u hu
 unfold Ln.step
 split
 ·rename_i h0
  subst h0
  refine ⟨by simpa using hdn,ok.tl,by simpa using hle,Ln.tk_len ok.sz,?_,fun i hi=>?_⟩
  ·have:=ok.ow
   show ((x.own++[_]).length:Int)=(x.done.set 0 _).getD 0 0
   rw [getD_set ht,if_pos rfl,List.length_append]
   simp only [List.length_cons,List.length_nil];omega
  ·show _=(x.done.set 0 _).getD (i+1) 0
   rw [getD_set ht,if_neg (by omega)]
   exact ok.rw i hi
 ·rename_i h0
  refine ⟨by simpa using hdn,by simpa using ok.tl,by simpa using hle,Ln.st_len ok.sz,?_,fun i hi=>?_⟩
  ·show _=(x.done.set t _).getD 0 0
   rw [getD_set ht,if_neg h0]
   exact ok.ow
  ·have htl:=ok.tl
   have hi':i < x.th.length:=by simpa using hi
   have hr:=ok.rw i hi'
   show (((x.th.set (t - 1) _)[i]'hi).length:Int)=(x.done.set t _).getD (i+1) 0
   rw [getD_set ht,List.getElem_set]
   by_cases e:t - 1=i
   ·subst e
    have e2:t - 1+1=t:=by omega
    rw [if_pos rfl,if_pos e2.symm,List.length_append]
    rw [e2] at hr
    have e3:x.th.getD (t - 1) []=x.th[t - 1]:=by simp [hi']
    rw [e3]
    simp only [List.length_cons,List.length_nil];omega
   ·rw [if_neg e,if_neg (by omega)]
    exact hr
def Ln.z (d:Dq):Ln:=⟨[],List.replicate (d.thieves.length+1) 0,[],List.replicate d.thieves.length []⟩
def serF (d:Dq):List Int→Ln→Option Ln
 | [],x=>some x
 | t::r,x=>if 0≤t∧t≤d.thieves.length∧x.done.getD t.toNat 0 < d.many t.toNat then serF d r (x.step d t.toNat) else none
def Ln.runN (d:Dq) (t:Nat):Nat→Ln→Ln
 | 0,x=>x
 | n+1,x=>runN d t n (x.step d t)
def Ln.fin (d:Dq) (x:Ln) (t:Nat):Ln:=Ln.runN d t (d.many t - x.done.getD t 0).toNat x
def Ln.finT (d:Dq):Nat→Ln→Ln
 | 0,x=>x
 | t+1,x=>(finT d t x).fin d t
theorem Ln.step_done {d:Dq} {x:Ln} {t:Nat} (h:t < x.done.length):(x.step d t).done=x.done.set t (x.done.getD t 0+1):=by
 unfold Ln.step
 split
 ·rename_i h0;subst h0;rfl
 ·rfl
theorem Ln.fin_step {d:Dq} {x:Ln} {t:Nat} (h:t < x.done.length) (hl:x.done.getD t 0 < d.many t):x.fin d t=(x.step d t).fin d t:=by
 unfold Ln.fin
 rw [step_done h,getD_set h,if_pos rfl]
 have e:(d.many t - x.done.getD t 0).toNat=(d.many t - (x.done.getD t 0+1)).toNat+1:=by omega
 rw [e,Ln.runN]
theorem Ln.fin_end {d:Dq} {x:Ln} {t:Nat} (hl:¬ x.done.getD t 0 < d.many t):x.fin d t=x:=by
 unfold Ln.fin
 have e:(d.many t - x.done.getD t 0).toNat=0:=by omega
 rw [e,Ln.runN]
theorem Ln.Ok.z {d:Dq} (hs:0≤d.size) (h0:∀ n∈d.thieves,0≤n):(Ln.z d).Ok d:=by
 refine ⟨by simp [Ln.z],by simp [Ln.z],fun t ht=>?_,by simpa [Ln.z] using hs,by simp [Ln.z],fun i hi=>?_⟩
 ·have e:(Ln.z d).done[t]=0:=by simp [Ln.z]
  rw [e]
  refine ⟨Int.le_refl _,?_⟩
  unfold Dq.many
  split
  ·omega
  ·have ht':t - 1 < d.thieves.length:=by simp [Ln.z] at ht;omega
   have:=h0 _ (List.getElem_mem ht')
   simp [ht'];omega
 ·have hi':i < d.thieves.length:=by simpa [Ln.z] using hi
  simp [Ln.z,hi']
theorem Ln.Ok.runN {d:Dq} {t:Nat}:∀ (n:Nat) {x:Ln},x.Ok d→t < x.done.length→x.done.getD t 0+n≤d.many t→(Ln.runN d t n x).Ok d
 | 0,x,ok,_,_=>ok
 | n+1,x,ok,ht,hl=>by
  have e:x.done.getD t 0=x.done[t]:=by simp [ht]
  rw [Ln.runN]
  refine Ln.Ok.runN n (ok.step ht (by omega)) (by rw [Ln.step_done ht,List.length_set];exact ht) ?_
  rw [Ln.step_done ht,getD_set ht,if_pos rfl]
  omega
theorem Ln.Ok.fin {d:Dq} {x:Ln} {t:Nat} (ok:x.Ok d) (ht:t < x.done.length):(x.fin d t).Ok d:=by
 have e:x.done.getD t 0=x.done[t]:=by simp [ht]
 have:=ok.le t ht
 unfold Ln.fin
 exact Ln.Ok.runN _ ok ht (by omega)
theorem Ln.Ok.finT {d:Dq} {x:Ln} (ok:x.Ok d):∀ (t:Nat),t≤d.thieves.length+1→(Ln.finT d t x).Ok d
 | 0,_=>ok
 | t+1,h=>by
  have k:=Ln.Ok.finT ok t (by omega)
  rw [Ln.finT]
  exact k.fin (by have:=k.dn;omega)
theorem serF_ok {d:Dq}:∀ (order:List Int) {x y:Ln},x.Ok d→serF d order x=some y→y.Ok d
 | [],x,y,ok,h=>by
  cases h;exact ok
 | t::r,x,y,ok,h=>by
  rw [serF] at h
  split at h
  ·rename_i k
   have hd:=ok.dn
   have ht:t.toNat < x.done.length:=by omega
   have e:x.done.getD t.toNat 0=x.done[t.toNat]:=by simp [ht]
   exact serF_ok r (ok.step ht (by omega)) h
  ·cases h
def psh:List Act→List Int→List Int
 | a::r,n::s=>if a.push=true∧n≠-2 then a.n::psh r s else psh r s
 | _,_=>[]
def tko:List Act→List Int→List Int
 | a::r,n::s=>if a.push=true∨n=0 then tko r s else n::tko r s
 | _,_=>[]
def tkt (th:List (List Int)):List Int:=th.flatMap fun l=>l.filter fun n=>decide (n≠0)
theorem psh_nil (l:List Act):psh l []=[]:=by cases l<;>rfl
theorem tko_nil (l:List Act):tko l []=[]:=by cases l<;>rfl
theorem psh_snoc:∀ {l:List Act} {s:List Int} {n:Int} (h:s.length < l.length),psh l (s++[n])=psh l s++(if l[s.length].push=true∧n≠-2 then [l[s.length].n] else [])
 | a::r,[],n,h=>by
  simp only [List.nil_append,psh,psh_nil,List.length_nil,List.getElem_cons_zero]
 | a::r,m::s,n,h=>by
  have ih:=psh_snoc (l:=r) (s:=s) (n:=n) (by simpa using h)
  simp only [List.cons_append,psh,List.length_cons,List.getElem_cons_succ,ih]
  split<;>simp
theorem tko_snoc:∀ {l:List Act} {s:List Int} {n:Int} (h:s.length < l.length),tko l (s++[n])=tko l s++(if l[s.length].push=true∨n=0 then [] else [n])
 | a::r,[],n,h=>by
  simp only [List.nil_append,tko,tko_nil,List.length_nil,List.getElem_cons_zero]
 | a::r,m::s,n,h=>by
  have ih:=tko_snoc (l:=r) (s:=s) (n:=n) (by simpa using h)
  simp only [List.cons_append,tko,List.length_cons,List.getElem_cons_succ,ih]
  split<;>simp
theorem psh_sub:∀ (l:List Act) (s:List Int),(psh l s).Sublist (pushedOf l)
 | [],s=>by simp [psh]
 | a::r,[]=>by simp [psh]
 | a::r,n::s=>by
  have ih:=psh_sub r s
  rw [psh,pushedOf]
  by_cases h:a.push=true
  ·rw [if_pos h]
   split
   ·exact ih.cons_cons _
   ·exact ih.cons _
  ·rw [if_neg h,if_neg fun k=>h k.1]
   exact ih
def Ln.P (d:Dq) (x:Ln):List Int:=psh d.owner x.own
def Ln.T (d:Dq) (x:Ln):List Int:=tko d.owner x.own++tkt x.th
structure Ln.Inv (d:Dq) (x:Ln):Prop where
 ok:x.Ok d
 inn:x.inn=(x.P d).filter fun n=>decide (n∉x.T d)
 nd:(x.T d).Nodup
 sub:∀ n∈x.T d,n∈x.P d
theorem Ln.P_nd {d:Dq} (h:d.Ok) (x:Ln):(x.P d).Nodup:=(psh_sub d.owner x.own).nodup h.onc
theorem Ln.P_item {d:Dq} (h:d.Ok) {x:Ln} {n:Int} (k:n∈x.P d):Item n:=h.rng.2.2.1 n ((psh_sub d.owner x.own).subset k)
theorem tkt_set {th:List (List Int)} {k:Nat} (h:k < th.length) (n:Int):(tkt (th.set k (th.getD k []++[n]))).Perm (if n=0 then tkt th else n::tkt th):=by
 induction th generalizing k with
 | nil=>simp at h
 | cons l th ih =>
  cases k with
  | zero =>
   simp only [List.set_cons_zero,tkt,List.flatMap_cons,List.getD_cons_zero,List.filter_append]
   by_cases e:n=0
   ·subst e;simp
   ·rw [if_neg e]
    have:[n].filter (fun n=>decide (n≠0))=[n]:=by simp [e]
    rw [this,List.append_assoc]
    exact List.perm_middle
  | succ k =>
   have:=ih (k:=k) (by simpa using h)
   simp only [List.set_cons_succ,List.getD_cons_succ]
   unfold tkt at this ⊢
   simp only [List.flatMap_cons]
   split
   ·rename_i e;rw [if_pos e] at this;exact this.append_left _
   ·rename_i e
    rw [if_neg e] at this
    exact (this.append_left _).trans List.perm_middle
theorem filter_mem_cons {P T T':List Int} {n:Int} (h:∀ m,m∈T'↔m∈T∨m=n):(P.filter fun m=>decide (m∉T'))=(P.filter fun m=>decide (m∉T)).filter fun m=>decide (m≠n):=by
 rw [List.filter_filter]
 apply List.filter_congr
 intro m _
 have:=h m
 by_cases a:m∈T<;>by_cases b:m=n<;>simp_all
theorem filter_ne_last {l:List Int} (h:l≠[]) (nd:l.Nodup):(l.filter fun m=>decide (m≠l.getLast h))=l.dropLast:=by
 have e:=List.dropLast_concat_getLast h
 have nd':=nd
 rw [←e] at nd'
 have hn:l.getLast h∉l.dropLast:=fun k=>by
  have:=List.nodup_append.1 nd'
  exact this.2.2 _ k _ (by simp) rfl
 conv=>lhs;arg 2;rw [←e]
 rw [List.filter_append]
 have h1:(l.dropLast.filter fun m=>decide (m≠l.getLast h))=l.dropLast:=List.filter_eq_self.2 fun m hm=>by
  simp only [ne_eq,decide_eq_true_eq];rintro rfl;exact hn hm
 rw [h1];simp
theorem filter_ne_first {n:Int} {r:List Int} (nd:(n::r).Nodup):((n::r).filter fun m=>decide (m≠n))=r:=by
 rw [List.nodup_cons] at nd
 rw [List.filter_cons_of_neg (by simp)]
 exact List.filter_eq_self.2 fun m hm=>by simp only [ne_eq,decide_eq_true_eq];rintro rfl;exact nd.1 hm
theorem Ln.Inv.z {d:Dq} (h:d.Ok):(Ln.z d).Inv d:=by
 have e:tkt (List.replicate d.thieves.length [])=[]:=by
  generalize d.thieves.length=m
  induction m with
  | zero=>rfl
  | succ m ih=>rw [List.replicate_succ];simp only [tkt,List.flatMap_cons] at ih ⊢;simp
 have e1:(Ln.z d).T d=[]:=by unfold Ln.T Ln.z;rw [tko_nil,e];rfl
 have e2:(Ln.z d).P d=[]:=by unfold Ln.P Ln.z;rw [psh_nil]
 have:=h.rng.1
 exact ⟨Ln.Ok.z (by omega) h.rng.2.2.2,by rw [e2];rfl,by rw [e1];exact List.nodup_nil,by rw [e1];simp⟩
theorem act_at {d:Dq} {x:Ln} (ok:x.Ok d) (ht:0 < x.done.length) (hl:x.done[0] < d.many 0):∃ h:x.own.length < d.owner.length,d.act x=d.owner[x.own.length]:=by
 have ho:=ok.ow
 have hm:d.many 0=d.owner.length:=by simp [Dq.many]
 have e:x.done.getD 0 0=x.done[0]:=by simp [ht]
 have h:x.own.length < d.owner.length:=by omega
 refine ⟨h,?_⟩
 unfold Dq.act
 rw [←ho]
 simp [h]
theorem Ln.Inv.step {d:Dq} (hd:d.Ok) {x:Ln} {t:Nat} (i:x.Inv d) (ht:t < x.done.length) (hl:x.done[t] < d.many t):(x.step d t).Inv d:=by
 have ok':=i.ok.step ht hl
 have ndI:x.inn.Nodup:=by rw [i.inn];exact (P_nd hd x).filter _
 have inP:∀ n∈x.inn,n∈x.P d∧n∉x.T d:=fun n hn=>by rw [i.inn] at hn;simpa using List.mem_filter.1 hn
 by_cases h0:t=0
 ·subst h0
  obtain ⟨hw,ea⟩:=act_at i.ok ht hl
  have hP:∀ v,psh d.owner (x.own++[v])=x.P d++(if (d.act x).push=true∧v≠-2 then [(d.act x).n] else []):=fun v=>by rw [psh_snoc hw,ea];rfl
  have hT:∀ v,tko d.owner (x.own++[v])=tko d.owner x.own++(if (d.act x).push=true∨v=0 then [] else [v]):=fun v=>by rw [tko_snoc hw,ea]
  have es:x.step d 0={ inn:=(x.tk d (d.act x)).2,done:=x.done.set 0 (x.done.getD 0 0+1),own:=x.own++[(x.tk d (d.act x)).1],th:=x.th }:=by unfold Ln.step;rw [if_pos rfl]
  have eP:(x.step d 0).P d=x.P d++(if (d.act x).push=true∧(x.tk d (d.act x)).1≠-2 then [(d.act x).n] else []):=by rw [es];exact hP _
  have eT:(x.step d 0).T d=tko d.owner x.own++(if (d.act x).push=true∨(x.tk d (d.act x)).1=0 then [] else [(x.tk d (d.act x)).1])++tkt x.th:=by rw [es];unfold Ln.T;rw [←hT]
  have eI:(x.step d 0).inn=(x.tk d (d.act x)).2:=by rw [es]
  have pnd:=P_nd hd (x.step d 0)
  by_cases hp:(d.act x).push=true
  ·by_cases hf:(x.inn.length:Int)=d.size
   ·have tk:x.tk d (d.act x)=(-2,x.inn):=by unfold Ln.tk;rw [if_pos hp,if_pos hf]
    rw [tk] at eP eT eI
    rw [if_neg (by simp),List.append_nil] at eP
    rw [if_pos (.inl hp),List.append_nil] at eT
    have eT':(x.step d 0).T d=x.T d:=eT
    exact ⟨ok',by rw [eI,eP,eT'];exact i.inn,by rw [eT'];exact i.nd,by rw [eP,eT'];exact i.sub⟩
   ·have tk:x.tk d (d.act x)=((d.act x).n,x.inn++[(d.act x).n]):=by unfold Ln.tk;rw [if_pos hp,if_neg hf]
    rw [tk] at eP eT eI
    have hin:Item (d.act x).n:=hd.rng.2.2.1 _ (mem_pushed.2 ⟨d.act x,by rw [ea];exact List.getElem_mem hw,hp,rfl⟩)
    have hn2:(d.act x).n≠-2:=by unfold Item at hin;omega
    rw [if_pos ⟨hp,hn2⟩] at eP
    rw [if_pos (.inl hp),List.append_nil] at eT
    have eT':(x.step d 0).T d=x.T d:=eT
    rw [eP] at pnd
    have hnP:(d.act x).n∉x.P d:=fun k=>(List.nodup_append.1 pnd).2.2 _ k _ (by simp) rfl
    refine ⟨ok',?_,by rw [eT'];exact i.nd,fun n hn=>by rw [eT'] at hn;rw [eP];exact List.mem_append_left _ (i.sub n hn)⟩
    rw [eI,eP,eT',List.filter_append,←i.inn]
    have:[(d.act x).n].filter (fun n=>decide (n∉x.T d))=[(d.act x).n]:=by
     simp only [List.filter_cons,List.filter_nil]
     rw [if_pos (by simpa using fun k=>hnP (i.sub _ k))]
    rw [this]
  ·by_cases hE:x.inn=[]
   ·have tk:x.tk d (d.act x)=(0,[]):=by unfold Ln.tk;rw [if_neg hp,dif_pos hE]
    rw [tk] at eP eT eI
    rw [if_neg (fun k=>hp k.1),List.append_nil] at eP
    rw [if_pos (.inr rfl),List.append_nil] at eT
    have eT':(x.step d 0).T d=x.T d:=eT
    exact ⟨ok',by rw [eI,eP,eT',←i.inn,hE],by rw [eT'];exact i.nd,by rw [eP,eT'];exact i.sub⟩
   ·have tk:x.tk d (d.act x)=(x.inn.getLast hE,x.inn.dropLast):=by unfold Ln.tk;rw [if_neg hp,dif_neg hE]
    rw [tk] at eP eT eI
    obtain ⟨hl1,hl2⟩:=inP _ (List.getLast_mem hE)
    have hit:=P_item hd hl1
    have h00:x.inn.getLast hE≠0:=by unfold Item at hit;omega
    rw [if_neg (fun k=>hp k.1),List.append_nil] at eP
    rw [if_neg (fun k=>k.elim hp h00),List.append_assoc] at eT
    have perm:((x.step d 0).T d).Perm (x.inn.getLast hE::x.T d):=by rw [eT];exact List.perm_middle
    have hm:∀ m,m∈(x.step d 0).T d↔m∈x.T d∨m=x.inn.getLast hE:=fun m=>by rw [perm.mem_iff,List.mem_cons];exact Or.comm
    refine ⟨ok',?_,perm.nodup_iff.2 (List.nodup_cons.2 ⟨hl2,i.nd⟩),fun n hn=>?_⟩
    ·rw [eI,eP,filter_mem_cons hm,←i.inn,filter_ne_last hE ndI]
    ·rw [eP]
     rcases (hm n).1 hn with k|rfl
     ·exact i.sub n k
     ·exact hl1
 ·have es:x.step d t={ inn:=x.st.2,done:=x.done.set t (x.done.getD t 0+1),own:=x.own,th:=x.th.set (t - 1) (x.th.getD (t - 1) []++[x.st.1]) }:=by unfold Ln.step;rw [if_neg h0]
  have hk:t - 1 < x.th.length:=by have:=i.ok.dn;have:=i.ok.tl;omega
  have eP:(x.step d t).P d=x.P d:=by rw [es];rfl
  have perm0:=tkt_set hk x.st.1
  have eT:(x.step d t).T d=tko d.owner x.own++tkt (x.th.set (t - 1) (x.th.getD (t - 1) []++[x.st.1])):=by rw [es];rfl
  have eI:(x.step d t).inn=x.st.2:=by rw [es]
  cases hE:x.inn with
  | nil =>
   have tk:x.st=(0,[]):=by unfold Ln.st;rw [hE]
   rw [tk] at perm0 eT eI
   rw [if_pos rfl] at perm0
   have perm:((x.step d t).T d).Perm (x.T d):=by rw [eT];exact perm0.append_left _
   have hm:∀ m,m∈(x.step d t).T d↔m∈x.T d:=fun m=>perm.mem_iff
   refine ⟨ok',?_,perm.nodup_iff.2 i.nd,fun n hn=>by rw [eP];exact i.sub n ((hm n).1 hn)⟩
   rw [eI,eP]
   have:((x.P d).filter fun n=>decide (n∉(x.step d t).T d))=(x.P d).filter fun n=>decide (n∉x.T d):=List.filter_congr fun m _=>by rw [decide_eq_decide,hm m]
   rw [this,←i.inn,hE]
  | cons n r =>
   have tk:x.st=(n,r):=by unfold Ln.st;rw [hE]
   rw [tk] at perm0 eT eI
   obtain ⟨hl1,hl2⟩:=inP n (by rw [hE];simp)
   have hit:=P_item hd hl1
   have h00:n≠0:=by unfold Item at hit;omega
   rw [if_neg h00] at perm0
   have perm:((x.step d t).T d).Perm (n::x.T d):=by rw [eT];exact (perm0.append_left _).trans List.perm_middle
   have hm:∀ m,m∈(x.step d t).T d↔m∈x.T d∨m=n:=fun m=>by rw [perm.mem_iff,List.mem_cons];exact Or.comm
   refine ⟨ok',?_,perm.nodup_iff.2 (List.nodup_cons.2 ⟨hl2,i.nd⟩),fun m hmm=>?_⟩
   ·rw [eI,eP,filter_mem_cons hm,←i.inn,hE]
    rw [hE] at ndI
    rw [filter_ne_first ndI]
   ·rw [eP]
    rcases (hm m).1 hmm with k|rfl
    ·exact i.sub m k
    ·exact hl1
theorem Ln.Inv.same {d:Dq} {x y:Ln} (i:x.Inv d) (j:y.Inv d) (h1:x.own=y.own) (h2:x.th=y.th):x=y:=by
 have e1:x.inn=y.inn:=by rw [i.inn,j.inn];unfold Ln.P Ln.T;rw [h1,h2]
 have e2:x.done=y.done:=by
  apply List.ext_getElem
  ·rw [i.ok.dn,j.ok.dn]
  ·intro t a b
   cases t with
   | zero =>
    have p:=i.ok.ow;have q:=j.ok.ow
    rw [h1] at p
    have e:x.done.getD 0 0=x.done[0]:=by simp [a]
    have e':y.done.getD 0 0=y.done[0]:=by simp [b]
    omega
   | succ t =>
    have ta:t < x.th.length:=by have:=i.ok.dn;have:=i.ok.tl;omega
    have tb:t < y.th.length:=by rw [←h2];exact ta
    have p:=i.ok.rw t ta;have q:=j.ok.rw t tb
    have e:x.done.getD (t+1) 0=x.done[t+1]:=by simp [a]
    have e':y.done.getD (t+1) 0=y.done[t+1]:=by simp [b]
    have e3:x.th[t]=y.th[t]:=by simp only [h2]
    rw [e3] at p
    omega
 cases x;cases y;simp_all
inductive Ln.Reach (d:Dq):Ln→Ln→Prop
 | refl (x:Ln):Reach d x x
 | step {x y:Ln} {t:Nat} (ht:t < x.done.length) (hl:x.done[t] < d.many t) (h:Reach d (x.step d t) y):Reach d x y
def Ln.End (d:Dq) (x:Ln):Prop:=∀ t (h:t < x.done.length),¬ x.done[t] < d.many t
def Ln.Ex (d:Dq) (e:De) (x:Ln):Prop:=∃ y,Ln.Reach d x y∧y.End d∧y.own=e.ow∧y.th=e.th∧y.inn=e.lf
def Ln.Ag (e:De) (x:Ln):Prop:=x.own <+: e.ow∧∀ k,x.th.getD k [] <+: e.th.getD k []
theorem Ln.Reach.inv {d:Dq} (hd:d.Ok) {x y:Ln} (h:Ln.Reach d x y) (i:x.Inv d):y.Inv d:=by
 induction h with
 | refl=>exact i
 | step ht hl _ ih=>exact ih (i.step hd ht hl)
theorem Ln.step_pre {d:Dq} {x:Ln} {t:Nat}:x.own <+: (x.step d t).own∧∀ k,x.th.getD k [] <+: (x.step d t).th.getD k []:=by
 unfold Ln.step
 split
 ·exact ⟨List.prefix_append _ _,fun k=>List.prefix_refl _⟩
 ·refine ⟨List.prefix_refl _,fun k=>?_⟩
  show x.th.getD k [] <+: (x.th.set (t - 1) _).getD k []
  simp only [List.getD_eq_getElem?_getD,List.getElem?_set]
  split
  ·rename_i h1
   subst h1
   split
   ·rename_i h2;simp [h2]
   ·rename_i h2;simp [h2]
  ·exact List.prefix_refl _
theorem Ln.Reach.pre {d:Dq} {x y:Ln} (h:Ln.Reach d x y):x.own <+: y.own∧∀ k,x.th.getD k [] <+: y.th.getD k []:=by
 induction h with
 | refl=>exact ⟨List.prefix_refl _,fun k=>List.prefix_refl _⟩
 | step ht hl _ ih=>exact ⟨Ln.step_pre.1.trans ih.1,fun k=>(Ln.step_pre.2 k).trans (ih.2 k)⟩
theorem Ln.Ex.ag {d:Dq} {e:De} {x:Ln} (h:x.Ex d e):x.Ag e:=by
 obtain ⟨y,r,_,h1,h2,_⟩:=h
 have p:=r.pre
 rw [h1,h2] at p
 exact p
theorem Ln.Ag.same {d:Dq} {e:De} {x y:Ln} (i:x.Inv d) (j:y.Inv d) (a:x.Ag e) (b:y.Ag e) (h:x.done=y.done):x=y:=by
 refine i.same j ?_ ?_
 ·have p:=i.ok.ow;have q:=j.ok.ow
  rw [h] at p
  exact (List.prefix_of_prefix_length_le a.1 b.1 (by omega)).eq_of_length (by omega)
 ·apply List.ext_getElem
  ·rw [i.ok.tl,j.ok.tl]
  ·intro k hk hk'
   have p:=i.ok.rw k hk;have q:=j.ok.rw k hk'
   rw [h] at p
   have a':=a.2 k;have b':=b.2 k
   have ea:x.th.getD k []=x.th[k]:=by simp [hk]
   have eb:y.th.getD k []=y.th[k]:=by simp [hk']
   rw [ea] at a';rw [eb] at b'
   exact (List.prefix_of_prefix_length_le a' b' (by omega)).eq_of_length (by omega)
theorem Ln.Ex.of_step {d:Dq} {e:De} {x:Ln} {t:Nat} (ht:t < x.done.length) (hl:x.done[t] < d.many t) (h:(x.step d t).Ex d e):x.Ex d e :=
 let ⟨y,r,k⟩:=h;⟨y,.step ht hl r,k⟩
theorem Ln.Ex.cases {d:Dq} {e:De} {x:Ln} (h:x.Ex d e):(x.End d∧x.own=e.ow∧x.th=e.th∧x.inn=e.lf)∨∃ t,∃ ht:t < x.done.length,x.done[t] < d.many t∧(x.step d t).Ex d e:=by
 obtain ⟨y,r,k⟩:=h
 cases r with
 | refl=>exact .inl k
 | step ht hl r=>exact .inr ⟨_,ht,hl,y,r,k⟩
theorem Ln.Ag.full {d:Dq} {e:De} {x:Ln} (i:x.Inv d) (a:x.Ag e) (h:x.End d) (h1:(e.ow.length:Int)=d.many 0) (h2:e.th.length=d.thieves.length) (h3:∀ k (hk:k < e.th.length),(e.th[k].length:Int)=d.many (k+1)):x.own=e.ow∧x.th=e.th:=by
 have dn:=i.ok.dn
 have full:∀ t (ht:t < x.done.length),x.done[t]=d.many t:=fun t ht=>by have:=i.ok.le t ht;have:=h t ht;omega
 constructor
 ·have p:=i.ok.ow
  have e0:x.done.getD 0 0=x.done[0]:=by simp [show 0 < x.done.length by omega]
  have:=full 0 (by omega)
  exact a.1.eq_of_length (by omega)
 ·apply List.ext_getElem
  ·rw [i.ok.tl,h2]
  ·intro k hk hk'
   have p:=i.ok.rw k hk
   have hkd:k+1 < x.done.length:=by omega
   have e0:x.done.getD (k+1) 0=x.done[k+1]:=by simp [hkd]
   have:=full (k+1) hkd
   have:=h3 k hk'
   have a':=a.2 k
   have ea:x.th.getD k []=x.th[k]:=by simp [hk]
   have eb:e.th.getD k []=e.th[k]:=by simp [hk']
   rw [ea,eb] at a'
   exact a'.eq_of_length (by omega)
def sumL:List Int→Int
 | []=>0
 | a::l=>a+sumL l
theorem sumL_set:∀ {l:List Int} {t:Nat} {v:Int} (h:t < l.length),sumL (l.set t v)=sumL l - l[t]+v
 | a::l,0,v,h=>by simp only [List.set_cons_zero,sumL,List.getElem_cons_zero];omega
 | a::l,t+1,v,h=>by
  have:=sumL_set (l:=l) (t:=t) (v:=v) (by simpa using h)
  simp only [List.set_cons_succ,sumL,List.getElem_cons_succ];omega
theorem Ln.sum_step {d:Dq} {x:Ln} {t:Nat} (ht:t < x.done.length):sumL (x.step d t).done=sumL x.done+1:=by
 rw [Ln.step_done ht,sumL_set ht]
 have e0:x.done.getD t 0=x.done[t]:=by simp [ht]
 omega
def Mt (d:Dq) (e:De) (K:List (List Int)) (n:Int):Prop:=∀ k∈K,n≤sumL k→∀ y:Ln,y.Inv d→y.done=k→¬ y.Ex d e
theorem Mt.cons {d:Dq} {e:De} {K:List (List Int)} {x:Ln} (h:Mt d e K (sumL x.done)):Mt d e (K++[x.done]) (sumL x.done+1):=fun k hk hs=>by
 rcases List.mem_append.1 hk with q|q
 ·exact h k q (by omega)
 ·rw [List.mem_singleton.1 q] at hs;omega
theorem Mt.over {d:Dq} {e:De} {K N:List (List Int)} {x:Ln} (i:x.Inv d) (a:x.Ag e) (h0:Mt d e K (sumL x.done)) (h:Mt d e (K++[x.done]++N) (sumL x.done+1)) (hn:∀ k∈N,sumL x.done+1≤sumL k) (hx:¬ x.Ex d e):Mt d e (K++[x.done]++N) (sumL x.done):=fun k hk hs y hy hd hex=>by
 rcases Int.lt_or_eq_of_le hs with q|q
 ·exact h k hk (by omega) y hy hd hex
 ·rcases List.mem_append.1 hk with r|r
  ·rcases List.mem_append.1 r with r|r
   ·exact h0 k r hs y hy hd hex
   ·rw [List.mem_singleton.1 r] at hd
    have:=Ln.Ag.same hy i hex.ag a hd
    subst this
    exact hx hex
  ·have:=hn k r;omega
instance (n:Int):Decidable (Item n):=by unfold Item;infer_instance
def its (l:List Int):List Int:=l.filter fun n=>decide (Item n)
theorem its_snoc (l:List Int) (x:Int):its (l++[x])=its l++(if Item x then [x] else []):=by
 unfold its
 rw [List.filter_append]
 by_cases h:Item x<;>simp [h]
theorem its_mem {l:List Int} {x:Int}:x∈its l↔x∈l∧Item x:=by simp [its]
def Ans (a:Act) (n:Int):Prop:=if a.push=true then n=a.n∨n=-2 else Item n∨n=0
structure TR (d:Dq) (e:De):Prop where
 l1:e.ow.length=d.owner.length
 l2:e.th.length=d.thieves.length
 an:∀ i (h:i < d.owner.length) (k:i < e.ow.length),Ans d.owner[i] e.ow[i]
 st:∀ i (h:i < d.thieves.length) (k:i < e.th.length),(e.th[i].length:Int)=d.thieves[i]∧∀ x∈e.th[i],Item x∨x=0∨x=-1
def Dq.ac (d:Dq) (j:Nat):Act:=d.owner.getD j ⟨false,0⟩
def plcs (d:Dq) (e:De):Nat→List (Int×Nat)
 | 0=>[]
 | j+1=>plcs d e j++(if (d.ac j).push=true∧e.ow.getD j 0=(d.ac j).n then [((d.ac j).n,j)] else [])
def pops (d:Dq) (e:De):Nat→List Int
 | 0=>[]
 | j+1=>pops d e j++(if (d.ac j).push=false∧Item (e.ow.getD j 0) then [e.ow.getD j 0] else [])
def Pq (d:Dq) (e:De):List Int:=(plcs d e d.owner.length).map (·.1)
def gAt (es:List (Int×Nat)) (x:Int):Nat:=((es.find? fun p=>decide (p.1=x)).map (·.2)).getD 0
def AscQ (P l:List Int):Prop:=l.Pairwise fun a b=>P.idxOf a < P.idxOf b
def allQ (d:Dq) (e:De):List Int:=pops d e d.owner.length++(e.th++[e.lf]).flatMap its
structure SoundP (d:Dq) (e:De):Prop where
 tr:TR d e
 lf:∀ x∈e.lf,Item x
 nd:(allQ d e).Nodup
 sb:∀ x∈allQ d e,x∈Pq d e
 ln:(allQ d e).length=(Pq d e).length
 as:∀ l∈e.th++[e.lf],AscQ (Pq d e) (its l)
theorem plcs_lt {d:Dq} {e:De}:∀ (j:Nat),∀ p∈plcs d e j,p.2 < j
 | 0,p,h=>by simp [plcs] at h
 | j+1,p,h=>by
  rw [plcs] at h
  rcases List.mem_append.1 h with q|q
  ·have:=plcs_lt j p q;omega
  ·split at q
   ·rw [List.mem_singleton.1 q];exact Nat.lt_succ_self _
   ·simp at q
theorem plcs_inc {d:Dq} {e:De}:∀ (j:Nat),(plcs d e j).Pairwise fun p q=>p.2 < q.2
 | 0=>by simp [plcs]
 | j+1=>by
  rw [plcs,List.pairwise_append]
  refine ⟨plcs_inc j,by split<;>simp,fun p hp q hq=>?_⟩
  have:=plcs_lt j p hp
  split at hq
  ·rw [List.mem_singleton.1 hq];exact this
  ·simp at hq
theorem plcs_sub {d:Dq} {e:De}:∀ (j:Nat),j≤d.owner.length→((plcs d e j).map (·.1)).Sublist (pushedOf (d.owner.take j))
 | 0,_=>by simp [plcs]
 | j+1,h=>by
  have ih:=plcs_sub (d:=d) (e:=e) j (by omega)
  have ha:d.ac j=d.owner[j]:=by unfold Dq.ac;simp [show j < d.owner.length from h]
  rw [plcs,pushedOf_take (l:=d.owner) (j:=j) (by omega),List.map_append,←ha]
  by_cases hp:(d.ac j).push=true
  ·rw [if_pos hp]
   split
   ·exact ih.append (List.Sublist.refl _)
   ·simpa using ih.trans (List.sublist_append_left _ _)
  ·rw [if_neg hp,if_neg fun k=>hp k.1]
   simpa using ih
theorem plcs_nd {d:Dq} {e:De} (h:d.Ok) {j:Nat} (hj:j≤d.owner.length):((plcs d e j).map (·.1)).Nodup:=by
 have hs:=plcs_sub (d:=d) (e:=e) j hj
 have:(pushedOf (d.owner.take j)).Sublist (pushedOf d.owner):=by
  have e:=pushedOf_append (d.owner.take j) (d.owner.drop j)
  rw [List.take_append_drop] at e
  rw [e];exact List.sublist_append_left _ _
 exact (hs.trans this).nodup h.onc
theorem Pq_item {d:Dq} {e:De} (h:d.Ok):∀ x∈Pq d e,Item x:=fun x hx=>by
 have hs:=plcs_sub (d:=d) (e:=e) d.owner.length (Nat.le_refl _)
 rw [List.take_length] at hs
 exact h.rng.2.2.1 x (hs.subset hx)
theorem gAt_get {es:List (Int×Nat)} (nd:(es.map (·.1)).Nodup) {i:Nat} (h:i < es.length):gAt es es[i].1=es[i].2:=by
 unfold gAt
 induction es generalizing i with
 | nil=>simp at h
 | cons p es ih =>
  rw [List.map_cons,List.nodup_cons] at nd
  cases i with
  | zero=>simp
  | succ i =>
   have hi:i < es.length:=by simpa using h
   have ne:¬ p.1=es[i].1:=fun q=>nd.1 (by rw [q];exact List.mem_map.2 ⟨es[i],List.getElem_mem hi,rfl⟩)
   simp only [List.getElem_cons_succ,List.find?_cons,ne,decide_false]
   exact ih nd.2 hi
theorem idx_get {es:List (Int×Nat)} (nd:(es.map (·.1)).Nodup) {i:Nat} (h:i < es.length):(es.map (·.1)).idxOf es[i].1=i:=by
 have hi:i < (es.map (·.1)).length:=by simpa using h
 have:=nd.idxOf_getElem i hi
 simpa using this
theorem mem_es {es:List (Int×Nat)} {x:Int} (h:x∈es.map (·.1)):∃ i,∃ hi:i < es.length,es[i].1=x:=by
 obtain ⟨p,hp,rfl⟩:=List.mem_map.1 h
 obtain ⟨i,hi,rfl⟩:=List.getElem_of_mem hp
 exact ⟨i,hi,rfl⟩
theorem g_lt {es:List (Int×Nat)} (nd:(es.map (·.1)).Nodup) (inc:es.Pairwise fun p q=>p.2 < q.2) {x y:Int} (hx:x∈es.map (·.1)) (hy:y∈es.map (·.1)):(es.map (·.1)).idxOf x < (es.map (·.1)).idxOf y↔gAt es x < gAt es y:=by
 obtain ⟨i,hi,rfl⟩:=mem_es hx
 obtain ⟨j,hj,rfl⟩:=mem_es hy
 rw [idx_get nd hi,idx_get nd hj,gAt_get nd hi,gAt_get nd hj]
 have k:=List.pairwise_iff_getElem.1 inc
 constructor
 ·exact fun h=>k i j hi hj h
 ·intro h
  rcases Nat.lt_trichotomy i j with q|q|q
  ·exact q
  ·subst q;omega
  ·have:=k j i hj hi q;omega
def SrtG (es:List (Int×Nat)) (l:List Int):Prop:=∀ i (h:i+1 < l.length),gAt es l[i]≤gAt es l[i+1]
theorem srt_asc {es:List (Int×Nat)} (nd:(es.map (·.1)).Nodup) (inc:es.Pairwise fun p q=>p.2 < q.2) {l:List Int} (hl:l.Nodup) (hs:∀ x∈l,x∈es.map (·.1)):SrtG es l↔AscQ (es.map (·.1)) l:=by
 unfold AscQ
 have adj:∀ i (h:i+1 < l.length),gAt es l[i]≤gAt es l[i+1]→gAt es l[i] < gAt es l[i+1]:=fun i h q=>by
  rcases Nat.lt_or_eq_of_le q with q|q
  ·exact q
  ·exfalso
   have h1:=g_lt nd inc (hs _ (List.getElem_mem (by omega:i < l.length))) (hs _ (List.getElem_mem h))
   have h2:=g_lt nd inc (hs _ (List.getElem_mem h)) (hs _ (List.getElem_mem (by omega:i < l.length)))
   have e:(es.map (·.1)).idxOf l[i]=(es.map (·.1)).idxOf l[i+1]:=by omega
   have e2:l[i]=l[i+1]:=by
    obtain ⟨a,ha,ea⟩:=mem_es (hs _ (List.getElem_mem (by omega:i < l.length)))
    obtain ⟨b,hb,eb⟩:=mem_es (hs _ (List.getElem_mem h))
    rw [←ea,←eb,idx_get nd ha,idx_get nd hb] at e
    subst e
    rw [←ea,←eb]
   exact (List.pairwise_iff_getElem.1 hl) i (i+1) (by omega) h (by omega) e2
 constructor
 ·intro h
  rw [List.pairwise_iff_getElem]
  have key:∀ k i (h1:i+k+1 < l.length),gAt es l[i] < gAt es l[i+k+1]:=by
   intro k
   induction k with
   | zero=>exact fun i h1=>adj i h1 (h i h1)
   | succ k ih=>exact fun i h1=>Nat.lt_trans (ih i (by omega)) (adj (i+k+1) h1 (h (i+k+1) h1))
  intro i j hi hj hij
  rw [g_lt nd inc (hs _ (List.getElem_mem hi)) (hs _ (List.getElem_mem hj))]
  obtain ⟨k,rfl⟩:∃ k,j=i+k+1:=⟨j - i - 1,by omega⟩
  exact key k i hj
 ·intro h i hi
  rw [List.pairwise_iff_getElem] at h
  exact Nat.le_of_lt ((g_lt nd inc (hs _ (List.getElem_mem (by omega))) (hs _ (List.getElem_mem hi))).1 (h i (i+1) (by omega) hi (by omega)))
theorem its_sub_all {d:Dq} {e:De} {l:List Int} (h:l∈e.th++[e.lf]):(its l).Sublist (allQ d e):=by
 unfold allQ
 refine List.Sublist.trans ?_ (List.sublist_append_right _ _)
 exact List.sublist_flatten_of_mem (List.mem_map.2 ⟨l,h,rfl⟩)
theorem sound_iff {d:Dq} {e:De} (ok:d.Ok):SoundP d e↔TR d e∧(∀ l∈e.th++[e.lf],(its l).length≤(Pq d e).length∧SrtG (plcs d e d.owner.length) (its l))∧(∀ x∈e.lf,Item x)∧(allQ d e).Nodup∧(∀ x∈allQ d e,x∈Pq d e)∧(allQ d e).length=(Pq d e).length:=by
 have nd:=plcs_nd (e:=e) ok (Nat.le_refl _)
 have inc:=plcs_inc (d:=d) (e:=e) d.owner.length
 constructor
 ·rintro ⟨h1,h2,h3,h4,h5,h6⟩
  refine ⟨h1,fun l hl=>⟨?_,?_⟩,h2,h3,h4,h5⟩
  ·rw [←h5];exact (its_sub_all hl).length_le
  ·exact (srt_asc nd inc ((its_sub_all hl).nodup h3) fun x hx=>h4 x ((its_sub_all hl).subset hx)).2 (h6 l hl)
 ·rintro ⟨h1,h6,h2,h3,h4,h5⟩
  exact ⟨h1,h2,h3,h4,h5,fun l hl=>(srt_asc nd inc ((its_sub_all hl).nodup h3) fun x hx=>h4 x ((its_sub_all hl).subset hx)).1 (h6 l hl).2⟩
def Ln.tl (d:Dq) (x:Ln) (t:Nat):Int×List Int:=if t=0 then x.tk d (d.act x) else x.st
theorem Ln.step_tl {d:Dq} {x:Ln} {t:Nat} (ht:t < x.done.length):x.step d t={ inn:=(x.tl d t).2,done:=x.done.set t (x.done[t]+1),own:=if t=0 then x.own++[(x.tl d t).1] else x.own,th:=if t=0 then x.th else x.th.set (t - 1) (x.th.getD (t - 1) []++[(x.tl d t).1]) }:=by
 have e:x.done.getD t 0=x.done[t]:=by simp [ht]
 unfold Ln.step Ln.tl
 split
 ·rename_i h;subst h;rw [e]
 ·rw [e]
theorem nodup_lt:∀ (N:Nat) {l:List Nat},l.Nodup→(∀ x∈l,x < N)→l.length≤N
 | 0,l,_,h=>by
  cases l with
  | nil=>simp
  | cons a l=>have:=h a (List.mem_cons_self ..);omega
 | N+1,l,nd,h=>by
  have h1:=nodup_lt N (l:=l.filter fun x=>decide (x≠N)) (nd.filter _) fun x hx=>by
   have:=List.mem_filter.1 hx
   have h2:=h x this.1
   have h3:x≠N:=by simpa using this.2
   omega
  have key:∀ (l:List Nat),l.Nodup→l.length≤(l.filter fun x=>decide (x≠N)).length+1:=by
   intro l
   induction l with
   | nil=>simp
   | cons a l ih =>
    intro nd
    rw [List.nodup_cons] at nd
    by_cases e:a=N
    ·subst e
     have:(l.filter fun x=>decide (x≠a))=l:=List.filter_eq_self.2 fun x hx=>by simp only [ne_eq,decide_eq_true_eq];rintro rfl;exact nd.1 hx
     rw [List.filter_cons_of_neg (by simp),this,List.length_cons]
     exact Nat.le_refl _
    ·rw [List.filter_cons_of_pos (by simp [e]),List.length_cons,List.length_cons]
     have:=ih nd.2;omega
  have:=key l nd
  omega
def enc:List Int→Nat
 | []=>0
 | a::l=>a.toNat+9*enc l
theorem enc_lt:∀ {l:List Int} {n:Nat},l.length≤n→(∀ y∈l,0≤y∧y≤8)→enc l < 9 ^ n
 | [],n,_,_=>by rw [enc];exact Nat.pow_pos (by decide)
 | a::l,0,h,_=>by simp at h
 | a::l,n+1,h,hb=>by
  have h1:=hb a (List.mem_cons_self ..)
  have h2:=enc_lt (l:=l) (n:=n) (by simpa using h) fun y hy=>hb y (List.mem_cons_of_mem a hy)
  rw [enc,Nat.pow_succ];omega
theorem enc_inj:∀ {l m:List Int},l.length=m.length→(∀ y∈l,0≤y∧y≤8)→(∀ y∈m,0≤y∧y≤8)→enc l=enc m→l=m
 | [],[],_,_,_,_=>rfl
 | a::l,b::m,h,ha,hb,e=>by
  have h1:=ha a (List.mem_cons_self ..)
  have h2:=hb b (List.mem_cons_self ..)
  rw [enc,enc] at e
  have e1:enc l=enc m:=by omega
  have e2:a=b:=by omega
  rw [e2,enc_inj (by simpa using h) (fun y hy=>ha y (List.mem_cons_of_mem a hy)) (fun y hy=>hb y (List.mem_cons_of_mem b hy)) e1]
structure KOk (d:Dq) (K:List (List Int)):Prop where
 nd:K.Nodup
 bx:∀ k∈K,k.length=d.thieves.length+1∧∀ y∈k,0≤y∧y≤8
theorem KOk.len {d:Dq} (hd:d.Ok) {K:List (List Int)} (h:KOk d K):K.length≤6561:=by
 have h1:(K.map enc).Nodup:=by
  have:=h.nd
  rw [List.Nodup,List.pairwise_map]
  refine List.Pairwise.imp_of_mem (fun {a b} ha hb ne e=>ne ?_) this
  exact enc_inj (by rw [(h.bx a ha).1,(h.bx b hb).1]) (h.bx a ha).2 (h.bx b hb).2 e
 have:=nodup_lt (9 ^ 4) h1 fun x hx=>by
  obtain ⟨k,hk,rfl⟩:=List.mem_map.1 hx
  exact enc_lt (by have:=(h.bx k hk).1;have:=hd.lim.2.1;omega) (h.bx k hk).2
 simpa using this
theorem Ln.Ok.bx {d:Dq} (hd:d.Ok) {x:Ln} (ok:x.Ok d):∀ y∈x.done,0≤y∧y≤8:=fun y hy=>by
 obtain ⟨t,ht,rfl⟩:=List.getElem_of_mem hy
 have h:=ok.le t ht
 refine ⟨h.1,?_⟩
 by_cases h0:t=0
 ·subst h0
  have:d.many 0=d.owner.length:=by simp [Dq.many]
  have:=hd.lim.1
  omega
 ·have dn:=ok.dn
  have h1:d.many t=d.thieves[t - 1]'(by omega):=by unfold Dq.many;rw [if_neg h0];simp [show t - 1 < d.thieves.length by omega]
  have h4:=hd.lim.2.2 _ (List.getElem_mem (l:=d.thieves) (n:=t - 1) (by omega))
  omega
structure ToldP (d:Dq) (x:Ln):Prop where
 ow:∀ i (h:i < x.own.length) (k:i < d.owner.length),Ans d.owner[i] x.own[i]
 th:∀ l∈x.th,∀ n∈l,Item n∨n=0
theorem ToldP.z (d:Dq):ToldP d (Ln.z d):=⟨fun i h=>by simp [Ln.z] at h,fun l hl=>by
 have:l=[]:=by simpa [Ln.z] using (List.mem_replicate.1 hl).2
 subst this;simp⟩
theorem ToldP.step {d:Dq} (hd:d.Ok) {x:Ln} {t:Nat} (i:x.Inv d) (p:ToldP d x) (ht:t < x.done.length) (hl:x.done[t] < d.many t):ToldP d (x.step d t):=by
 have hitem:∀ n∈x.inn,Item n:=fun n hn=>Ln.P_item hd (by rw [i.inn] at hn;exact (List.mem_filter.1 hn).1)
 rw [Ln.step_tl ht]
 by_cases h0:t=0
 ·subst h0
  obtain ⟨hw,ea⟩:=act_at i.ok ht hl
  refine ⟨fun j h k=>?_,fun l hl=>p.th l (by simpa using hl)⟩
  simp only [if_true] at h ⊢
  rw [List.getElem_append]
  split
  ·rename_i q;exact p.ow j q k
  ·rename_i q
   have hj:j=x.own.length:=by simp at h;omega
   subst hj
   simp only [Nat.sub_self,List.getElem_cons_zero]
   unfold Ln.tl
   rw [if_pos rfl,ea]
   generalize hA:d.owner[x.own.length]=a
   obtain ⟨b,n⟩:=a
   cases b with
   | true =>
    unfold Ln.tk
    rw [if_pos rfl]
    split
    ·simp [Ans]
    ·simp [Ans]
   | false =>
    unfold Ln.tk
    rw [if_neg (by simp)]
    split
    ·simp [Ans]
    ·rename_i hf
     have:=hitem _ (List.getLast_mem hf)
     simp [Ans,this]
 ·refine ⟨fun j h k=>?_,fun l hl=>?_⟩
  ·simp only [if_neg h0] at h ⊢
   exact p.ow j h k
  ·simp only [if_neg h0] at hl
   rcases List.mem_or_eq_of_mem_set hl with q|q
   ·exact p.th l q
   ·subst q
    intro n hn
    rcases List.mem_append.1 hn with r|r
    ·by_cases hk:t - 1 < x.th.length
     ·rw [show x.th.getD (t - 1) []=x.th[t - 1] by simp [hk]] at r
      exact p.th _ (List.getElem_mem hk) n r
     ·rw [show x.th.getD (t - 1) []=[] by simp [Nat.not_lt.1 hk]] at r
      simp at r
    ·rw [List.mem_singleton.1 r]
     unfold Ln.tl
     rw [if_neg h0]
     unfold Ln.st
     split
     ·exact .inr rfl
     ·rename_i m s e;exact .inl (hitem m (by rw [e];simp))
theorem ToldP.reach {d:Dq} (hd:d.Ok) {x y:Ln} (h:Ln.Reach d x y) (i:x.Inv d) (p:ToldP d x):ToldP d y:=by
 induction h with
 | refl=>exact p
 | step ht hl _ ih=>exact ih (i.step hd ht hl) (p.step hd i ht hl)
def nz (l:List Int):List Int:=l.filter fun n=>decide (n≠0)
structure Ln.As (d:Dq) (x:Ln):Prop where
 row:∀ l∈x.th,AscQ (x.P d) (nz l)
 lt:∀ a∈tkt x.th,∀ b∈x.inn,(x.P d).idxOf a < (x.P d).idxOf b
theorem idx_pre {P Q:List Int} (h:P <+: Q) {a:Int} (ha:a∈P):Q.idxOf a=P.idxOf a:=by
 obtain ⟨s,rfl⟩:=h
 rw [List.idxOf_append,if_pos ha]
theorem idx_new {P Q:List Int} (h:P <+: Q) {a:Int} (ha:a∉P):P.length≤Q.idxOf a:=by
 obtain ⟨s,rfl⟩:=h
 rw [List.idxOf_append,if_neg ha];omega
theorem sub_asc {P l:List Int} (nd:P.Nodup) (h:l.Sublist P):AscQ P l:=by
 have key:P.Pairwise fun a b=>P.idxOf a < P.idxOf b:=by
  rw [List.pairwise_iff_getElem]
  intro i j hi hj hij
  rw [nd.idxOf_getElem,nd.idxOf_getElem];exact hij
 exact key.sublist h
theorem Ln.P_pre {d:Dq} {x:Ln} {t:Nat} (ok:x.Ok d) (ht:t < x.done.length) (hl:x.done[t] < d.many t):x.P d <+: (x.step d t).P d:=by
 by_cases h0:t=0
 ·subst h0
  obtain ⟨hw,_⟩:=act_at ok ht hl
  unfold Ln.P Ln.step
  rw [if_pos rfl]
  show psh d.owner x.own <+: psh d.owner (x.own++[_])
  rw [psh_snoc hw]
  exact List.prefix_append _ _
 ·unfold Ln.P Ln.step
  rw [if_neg h0]
  exact List.prefix_refl _
theorem Ln.T_sub {d:Dq} {x:Ln} (ok:x.Ok d) (ht:0 < x.done.length) (hl:x.done[0] < d.many 0):∀ n∈x.T d,n∈(x.step d 0).T d:=fun n hn=>by
 obtain ⟨hw,_⟩:=act_at ok ht hl
 unfold Ln.T Ln.step
 rw [if_pos rfl]
 show n∈tko d.owner (x.own++[_])++tkt x.th
 rw [tko_snoc hw]
 rcases List.mem_append.1 hn with q|q
 ·exact List.mem_append_left _ (List.mem_append_left _ q)
 ·exact List.mem_append_right _ q
theorem tkt_mem {th:List (List Int)} {a:Int}:a∈tkt th↔∃ l∈th,a∈nz l:=by
 unfold tkt nz;rw [List.mem_flatMap]
theorem Ln.As.z {d:Dq}:(Ln.z d).As d:=by
 refine ⟨fun l hl=>?_,fun a ha b hb=>?_⟩
 ·have:l=[]:=by simpa [Ln.z] using (List.mem_replicate.1 hl).2
  subst this;exact List.Pairwise.nil
 ·simp [Ln.z] at hb
theorem Ln.As.step {d:Dq} (hd:d.Ok) {x:Ln} {t:Nat} (i:x.Inv d) (s:x.As d) (ht:t < x.done.length) (hl:x.done[t] < d.many t):(x.step d t).As d:=by
 have pre:=Ln.P_pre i.ok ht hl
 have iv':=i.step hd ht hl
 have mP:∀ l∈x.th,∀ a∈nz l,a∈x.P d:=fun l h a ha=>i.sub a (List.mem_append_right _ (tkt_mem.2 ⟨l,h,ha⟩))
 have ndI:x.inn.Nodup:=by rw [i.inn];exact (P_nd hd x).filter _
 by_cases h0:t=0
 ·subst h0
  have eth:(x.step d 0).th=x.th:=by unfold Ln.step;rw [if_pos rfl]
  refine ⟨fun l hl'=>?_,fun a ha b hb=>?_⟩
  ·rw [eth] at hl'
   refine (s.row l hl').imp_of_mem fun {a b} ha hb h=>?_
   rw [idx_pre pre (mP l hl' a ha),idx_pre pre (mP l hl' b hb)];exact h
  ·rw [eth] at ha
   have haP:=i.sub a (List.mem_append_right _ ha)
   rw [idx_pre pre haP]
   have hb':=hb
   rw [iv'.inn] at hb'
   obtain ⟨b1,b2⟩:=List.mem_filter.1 hb'
   by_cases hbP:b∈x.P d
   ·have hbi:b∈x.inn:=by
     rw [i.inn]
     refine List.mem_filter.2 ⟨hbP,?_⟩
     simp only [decide_eq_true_eq] at b2 ⊢
     exact fun q=>b2 (Ln.T_sub i.ok ht hl b q)
    rw [idx_pre pre hbP]
    exact s.lt a ha b hbi
   ·have:=idx_new pre hbP
    have:=List.idxOf_lt_length_of_mem haP
    omega
 ·have eP:(x.step d t).P d=x.P d:=by unfold Ln.P Ln.step;rw [if_neg h0]
  have eI:(x.step d t).inn=x.st.2:=by unfold Ln.step;rw [if_neg h0]
  have eT:(x.step d t).th=x.th.set (t - 1) (x.th.getD (t - 1) []++[x.st.1]):=by unfold Ln.step;rw [if_neg h0]
  have hk:t - 1 < x.th.length:=by have:=i.ok.dn;have:=i.ok.tl;omega
  have hg:x.th.getD (t - 1) []=x.th[t - 1]:=by simp [hk]
  have hgm:x.th[t - 1]∈x.th:=List.getElem_mem hk
  have perm:=tkt_set hk x.st.1
  refine ⟨fun l hl'=>?_,fun a ha b hb=>?_⟩
  ·rw [eP]
   rw [eT] at hl'
   rcases List.mem_or_eq_of_mem_set hl' with q|q
   ·exact s.row l q
   ·subst q
    rw [hg]
    unfold nz
    rw [List.filter_append]
    refine List.pairwise_append.2 ⟨s.row _ hgm,by simp only [List.filter_cons,List.filter_nil];split<;>simp,fun a ha b hb=>?_⟩
    have ha':a∈tkt x.th:=tkt_mem.2 ⟨_,hgm,ha⟩
    obtain ⟨b1,b2⟩:=List.mem_filter.1 hb
    rw [List.mem_singleton.1 b1] at b2 ⊢
    refine s.lt a ha' _ ?_
    unfold Ln.st at b2 ⊢
    split
    ·rename_i e;rw [e] at b2;simp at b2
    ·rename_i m r e;rw [e];simp
  ·rw [eP]
   rw [eI] at hb
   rw [eT] at ha
   have ha':=(perm.mem_iff (a:=a)).1 ha
   unfold Ln.st at ha' hb
   split at hb
   ·simp at hb
   ·rename_i m r e
    rw [e] at ha'
    have hbi:b∈x.inn:=by rw [e];exact List.mem_cons_of_mem _ hb
    have hcase:a∈tkt x.th∨a=m:=by
     simp only at ha'
     split at ha'
     ·exact .inl ha'
     ·rcases List.mem_cons.1 ha' with q|q
      ·exact .inr q
      ·exact .inl q
    rcases hcase with q|q
    ·exact s.lt a q b hbi
    ·subst q
     have hs:(a::r).Sublist (x.P d):=by rw [←e,i.inn];exact List.filter_sublist
     have:=sub_asc (P_nd hd x) hs
     exact (List.pairwise_cons.1 this).1 b hb
theorem Ln.As.reach {d:Dq} (hd:d.Ok) {x y:Ln} (h:Ln.Reach d x y) (i:x.Inv d) (p:x.As d):y.As d:=by
 induction h with
 | refl=>exact p
 | step ht hl _ ih=>exact ih (i.step hd ht hl) (p.step hd i ht hl)
def Ln.e (x:Ln):De:=⟨x.own,x.th,x.inn⟩
theorem psh_snoc' {l:List Act} {s:List Int} {n:Int} {j:Nat} (e:s.length=j) (h:j < l.length):psh l (s++[n])=psh l s++(if l[j].push=true∧n≠-2 then [l[j].n] else []):=by
 subst e;exact psh_snoc h
theorem tko_snoc' {l:List Act} {s:List Int} {n:Int} {j:Nat} (e:s.length=j) (h:j < l.length):tko l (s++[n])=tko l s++(if l[j].push=true∨n=0 then [] else [n]):=by
 subst e;exact tko_snoc h
theorem plcs_psh {d:Dq} (hd:d.Ok) {x:Ln} (p:ToldP d x) (hl:x.own.length≤d.owner.length):∀ j,j≤x.own.length→(plcs d x.e j).map (·.1)=psh d.owner (x.own.take j)
 | 0,_=>by rw [List.take_zero,psh_nil];rfl
 | j+1,h=>by
  have ih:=plcs_psh hd p hl j (by omega)
  have hj:j < d.owner.length:=by omega
  have hw:j < x.own.length:=h
  have ha:d.ac j=d.owner[j]:=by unfold Dq.ac;simp [hj]
  have hg:x.e.ow.getD j 0=x.own[j]:=by simp [Ln.e,hw]
  rw [plcs,List.map_append,ih,List.take_succ_eq_append_getElem hw,psh_snoc' (by rw [List.length_take];omega) hj,ha,hg]
  have an:=p.ow j hw hj
  congr 1
  unfold Ans at an
  by_cases q:d.owner[j].push=true
  ·rw [if_pos q] at an
   have hin:Item d.owner[j].n:=hd.rng.2.2.1 _ (mem_pushed.2 ⟨d.owner[j],List.getElem_mem hj,q,rfl⟩)
   have h1:d.owner[j].n≠-2:=by unfold Item at hin;omega
   rcases an with r|r
   ·rw [if_pos ⟨q,r⟩,if_pos ⟨q,by rw [r];exact h1⟩];rfl
   ·rw [if_neg (fun k=>h1 (by rw [←k.2,r])),if_neg (fun k=>k.2 r)];rfl
  ·rw [if_neg (fun k=>q k.1),if_neg (fun k=>q k.1)];rfl
theorem pops_tko {d:Dq} {x:Ln} (p:ToldP d x) (hl:x.own.length≤d.owner.length):∀ j,j≤x.own.length→pops d x.e j=tko d.owner (x.own.take j)
 | 0,_=>by rw [List.take_zero,tko_nil];rfl
 | j+1,h=>by
  have ih:=pops_tko p hl j (by omega)
  have hj:j < d.owner.length:=by omega
  have hw:j < x.own.length:=h
  have ha:d.ac j=d.owner[j]:=by unfold Dq.ac;simp [hj]
  have hg:x.e.ow.getD j 0=x.own[j]:=by simp [Ln.e,hw]
  rw [pops,ih,List.take_succ_eq_append_getElem hw,tko_snoc' (by rw [List.length_take];omega) hj,ha,hg]
  have an:=p.ow j hw hj
  congr 1
  unfold Ans at an
  by_cases q:d.owner[j].push=true
  ·rw [if_neg (fun k=>by rw [q] at k;exact absurd k.1 (by decide)),if_pos (.inl q)]
  ·rw [if_neg q] at an
   have q':d.owner[j].push=false:=by simpa using q
   rcases an with r|r
   ·have h0:x.own[j]≠0:=by unfold Item at r;omega
    rw [if_pos ⟨q',r⟩,if_neg (fun k=>k.elim q h0)]
   ·have hn:¬ Item x.own[j]:=by unfold Item;omega
    rw [if_neg (fun k=>hn k.2),if_pos (.inr r)]
theorem its_nz {l:List Int} (h:∀ n∈l,Item n∨n=0):its l=nz l:=by
 unfold its nz
 refine List.filter_congr fun n hn=>?_
 rcases h n hn with q|q
 ·have:n≠0:=by unfold Item at q;omega
  simp [q,this]
 ·have:¬ Item n:=by unfold Item;omega
  simp [q];rw [q] at this;exact this
theorem its_tkt {th:List (List Int)} (h:∀ l∈th,∀ n∈l,Item n∨n=0):th.flatMap its=tkt th:=by
 induction th with
 | nil=>rfl
 | cons l th ih =>
  rw [List.flatMap_cons,ih fun m hm=>h m (List.mem_cons_of_mem _ hm),its_nz (h l (List.mem_cons_self ..))]
  rfl
theorem flt_add (p:Int→Bool):∀ l:List Int,(l.filter p).length+(l.filter fun n=>!p n).length=l.length
 | []=>rfl
 | a::l=>by
  have ih:=flt_add p l
  cases e:p a<;>simp [List.filter_cons,e]<;>omega
theorem len_split {P T:List Int} (nT:T.Nodup) (nP:P.Nodup) (sb:∀ n∈T,n∈P):T.length+(P.filter fun n=>decide (n∉T)).length=P.length:=by
 have h1:(P.filter fun n=>decide (n∈T)).Perm T:=by
  refine (List.perm_ext_iff_of_nodup (nP.filter _) nT).2 fun a=>?_
  rw [List.mem_filter]
  simp only [decide_eq_true_eq]
  exact ⟨fun h=>h.2,fun h=>⟨sb a h,h⟩⟩
 have h2:=flt_add (fun n=>decide (n∈T)) P
 rw [h1.length_eq] at h2
 have h3:(P.filter fun n=>!decide (n∈T))=P.filter fun n=>decide (n∉T):=List.filter_congr fun n _=>by simp
 rw [h3] at h2
 omega
theorem run_sound {d : Dq} (hd : d.Ok) {x : Ln} (i : x.Inv d) (s : x.As d) (p : ToldP d x) (h : x.End d) : SoundP d x.e := by
  have ok := i.ok
  have dn := ok.dn
  have tl := ok.tl
  have m0 : d.many 0 = d.owner.length := by simp [Dq.many]
  have d0 := h 0 (by omega)
  have w0 := ok.le 0 (by omega)
  have ow := ok.ow
  have g0 : x.done.getD 0 0 = x.done[0] := by simp [show 0 < x.done.length by omega]
  have l1 : x.own.length = d.owner.length := by omega
  have eP : Pq d x.e = x.P d := by
    unfold Pq Ln.P
    rw [plcs_psh hd p (by omega) d.owner.length (by omega), ← l1, List.take_length]
  have eO : pops d x.e d.owner.length = tko d.owner x.own := by
    rw [pops_tko p (by omega) d.owner.length (by omega), ← l1, List.take_length]
  have inP : ∀ n ∈ x.inn, n ∈ x.P d ∧ n ∉ x.T d := fun n hn => by rw [i.inn] at hn; simpa using List.mem_filter.1 hn
  have inI : ∀ n ∈ x.inn, Item n := fun n hn => Ln.P_item hd (inP n hn).1
  have eL : its x.inn = x.inn := List.filter_eq_self.2 fun n hn => by simpa using inI n hn
  have eA : allQ d x.e = x.T d ++ x.inn := by
    unfold allQ Ln.T
    rw [eO, List.flatMap_append]
    show _ ++ (x.th.flatMap its ++ [x.inn].flatMap its) = _
    rw [its_tkt p.th]
    simp [eL]
  have ndP := Ln.P_nd hd x
  have ndI : x.inn.Nodup := by rw [i.inn]; exact ndP.filter _
  refine ⟨⟨l1, tl, fun j h k => p.ow j k h, fun j hj k => ⟨?_, fun n hn => ?_⟩⟩, inI, ?_, ?_, ?_, fun l hl => ?_⟩
  · have hk : j < x.th.length := k
    have r := ok.rw j hk
    have hd1 : j + 1 < x.done.length := by omega
    have e1 : x.done.getD (j + 1) 0 = x.done[j + 1] := by simp [hd1]
    have a := h (j + 1) hd1
    have b := ok.le (j + 1) hd1
    have hm : d.many (j + 1) = d.thieves[j] := by unfold Dq.many; simp [hj]
    show ((x.th[j]'hk).length : Int) = _
    omega
  · rcases p.th _ (List.getElem_mem (l := x.th) (n := j) k) n hn with q | q
    · exact .inl q
    · exact .inr (.inl q)
  · rw [eA]
    exact List.nodup_append.2 ⟨i.nd, ndI, fun a ha b hb e => by subst e; exact (inP a hb).2 ha⟩
  · rw [eA, eP]
    intro n hn
    rcases List.mem_append.1 hn with q | q
    · exact i.sub n q
    · exact (inP n q).1
  · rw [eA, eP, List.length_append]
    conv => lhs; rw [i.inn]
    exact len_split i.nd ndP i.sub
  · rw [eP]
    rcases List.mem_append.1 hl with q | q
    · rw [its_nz (p.th l q)]
      exact s.row l q
    · rw [List.mem_singleton.1 q]
      show AscQ _ (its x.inn)
      rw [eL]
      exact sub_asc ndP (by conv => lhs; rw [i.inn]
                            exact List.filter_sublist)
theorem Ln.Reach.trans {d:Dq} {x y z:Ln} (h:Ln.Reach d x y) (k:Ln.Reach d y z):Ln.Reach d x z:=by
 induction h with
 | refl=>exact k
 | step ht hl _ ih=>exact .step ht hl (ih k)
theorem serF_reach {d:Dq}:∀ (order:List Int) {x y:Ln},x.Ok d→serF d order x=some y→Ln.Reach d x y
 | [],x,y,ok,h=>by cases h;exact .refl _
 | t::r,x,y,ok,h=>by
  rw [serF] at h
  split at h
  ·rename_i k
   have hd:=ok.dn
   have ht:t.toNat < x.done.length:=by omega
   have e:x.done.getD t.toNat 0=x.done[t.toNat]:=by simp [ht]
   exact .step ht (by omega) (serF_reach r (ok.step ht (by omega)) h)
  ·cases h
theorem runN_reach {d:Dq} {t:Nat}:∀ (n:Nat) {x:Ln},t < x.done.length→x.done.getD t 0+n≤d.many t→Ln.Reach d x (Ln.runN d t n x)
 | 0,x,_,_=>.refl _
 | n+1,x,ht,hl=>by
  have e:x.done.getD t 0=x.done[t]:=by simp [ht]
  rw [Ln.runN]
  refine .step ht (by omega) (runN_reach n (by rw [Ln.step_done ht,List.length_set];exact ht) ?_)
  rw [Ln.step_done ht,getD_set ht,if_pos rfl]
  omega
theorem runN_done {d:Dq} {t:Nat}:∀ (n:Nat) {x:Ln},t < x.done.length→(Ln.runN d t n x).done.length=x.done.length∧∀ u,(Ln.runN d t n x).done.getD u 0=if t=u then x.done.getD t 0+n else x.done.getD u 0
 | 0,x,ht=>⟨rfl,fun u=>by
  rw [Ln.runN]
  by_cases q:t=u
  ·subst q;rw [if_pos rfl];simp
  ·rw [if_neg q]⟩
 | n+1,x,ht=>by
  have ht':t < (x.step d t).done.length:=by rw [Ln.step_done ht,List.length_set];exact ht
  obtain ⟨h1,h2⟩:=runN_done (d:=d) n ht'
  rw [Ln.runN]
  refine ⟨by rw [h1,Ln.step_done ht,List.length_set],fun u=>?_⟩
  rw [h2 u,Ln.step_done ht,getD_set ht,getD_set ht,if_pos rfl]
  by_cases q:t=u
  ·rw [if_pos q,if_pos q];omega
  ·rw [if_neg q,if_neg q,if_neg q]
theorem fin_reach {d:Dq} {x:Ln} {t:Nat} (ok:x.Ok d) (ht:t < x.done.length):Ln.Reach d x (x.fin d t):=by
 have e:x.done.getD t 0=x.done[t]:=by simp [ht]
 have:=ok.le t ht
 unfold Ln.fin
 exact runN_reach _ ht (by omega)
theorem finT_reach {d:Dq} {x:Ln} (ok:x.Ok d):∀ (t:Nat),t≤d.thieves.length+1→Ln.Reach d x (Ln.finT d t x)
 | 0,_=>.refl _
 | t+1,h=>by
  have k:=Ln.Ok.finT ok t (by omega)
  rw [Ln.finT]
  exact (finT_reach ok t (by omega)).trans (fin_reach k (by have:=k.dn;omega))
theorem finT_done {d:Dq} {x:Ln} (ok:x.Ok d):∀ (t:Nat),t≤d.thieves.length+1→∀ u,u < t→(Ln.finT d t x).done.getD u 0=d.many u
 | 0,_,u,h=>by omega
 | t+1,h,u,hu=>by
  have k:=Ln.Ok.finT ok t (by omega)
  have ht:t < (Ln.finT d t x).done.length:=by have:=k.dn;omega
  have e:(Ln.finT d t x).done.getD t 0=(Ln.finT d t x).done[t]:=by simp [ht]
  have:=k.le t ht
  rw [Ln.finT]
  unfold Ln.fin
  rw [(runN_done _ ht).2 u]
  by_cases q:t=u
  ·subst q;rw [if_pos rfl];omega
  ·rw [if_neg q];exact finT_done ok t (by omega) u (by omega)
theorem finT_end {d:Dq} {x:Ln} (ok:x.Ok d):(Ln.finT d (d.thieves.length+1) x).End d:=fun t ht=>by
 have k:=Ln.Ok.finT ok (d.thieves.length+1) (Nat.le_refl _)
 have dn:=k.dn
 have e:(Ln.finT d (d.thieves.length+1) x).done.getD t 0=(Ln.finT d (d.thieves.length+1) x).done[t]:=by simp [ht]
 have:=finT_done ok (d.thieves.length+1) (Nat.le_refl _) t (by omega)
 omega
theorem ser_all {d:Dq} (hd:d.Ok) {order:List Int} {y:Ln} (h:serF d order (Ln.z d)=some y) :
  SoundP d (Ln.finT d (d.thieves.length+1) y).e∧(Ln.z d).Ex d (Ln.finT d (d.thieves.length+1) y).e∧∀ l∈(Ln.finT d (d.thieves.length+1) y).th,∀ n∈l,Item n∨n=0:=by
 have i0:=Ln.Inv.z hd
 have ok:=serF_ok order i0.ok h
 have r:=(serF_reach order i0.ok h).trans (finT_reach ok (d.thieves.length+1) (Nat.le_refl _))
 have en:=finT_end ok
 have p:=ToldP.reach hd r i0 (ToldP.z d)
 exact ⟨run_sound hd (r.inv hd i0) (Ln.As.reach hd r i0 Ln.As.z) p en,⟨_,r,en,rfl,rfl,rfl⟩,p.th⟩
def ordF:List Nat→List Int→List Int
 | [],_=>[]
 | b::r,left=>if 0 < left.getD (b % left.length) 0 then ((b % left.length:Nat):Int)::ordF r (left.set (b % left.length) (left.getD (b % left.length) 0 - 1)) else ordF r left
theorem ordF_ser {d:Dq}:∀ (bs:List Nat) {left:List Int} {x:Ln},x.Ok d→left.length=d.thieves.length+1→(∀ t,t < left.length→left.getD t 0=d.many t - x.done.getD t 0)→serF d (ordF bs left) x≠none
 | [],left,x,ok,hl,h=>by rw [ordF,serF];simp
 | b::r,left,x,ok,hl,h=>by
  rw [ordF]
  have hb:b % left.length < left.length:=Nat.mod_lt _ (by omega)
  generalize b % left.length=t at hb ⊢
  have dn:=ok.dn
  have ht:t < x.done.length:=by omega
  have e:x.done.getD t 0=x.done[t]:=by simp [ht]
  split
  ·rename_i q
   have hq:=h t hb
   rw [serF,Int.toNat_natCast,if_pos ⟨by omega,by omega,by omega⟩]
   refine ordF_ser r (ok.step ht (by omega)) (by rw [List.length_set];exact hl) fun u hu=>?_
   rw [List.length_set] at hu
   rw [Ln.step_done ht,getD_set ht,getD_set hb]
   by_cases k:t=u
   ·subst k;rw [if_pos rfl,if_pos rfl];omega
   ·rw [if_neg k,if_neg k];exact h u hu
  ·exact ordF_ser r ok hl h
def ordD (d:Dq) (bs:List Nat):List Int:=ordF bs ((d.owner.length:Int)::d.thieves)
theorem ordD_ser {d:Dq} (hd:d.Ok) (bs:List Nat):∃ y,serF d (ordD d bs) (Ln.z d)=some y:=by
 have:=ordF_ser (d:=d) bs (left:=(d.owner.length:Int)::d.thieves) (x:=Ln.z d) (Ln.Inv.z hd).ok (by simp) fun t ht=>by
  have hz:(Ln.z d).done.getD t 0=0:=by
   have ht':t < d.thieves.length+1:=by simpa using ht
   show (List.replicate (d.thieves.length+1) 0).getD t 0=0
   rw [List.getD_eq_getElem?_getD,List.getElem?_replicate,if_pos ht'];rfl
  rw [hz]
  cases t with
  | zero=>simp [Dq.many]
  | succ t=>simp [Dq.many]
 exact Option.ne_none_iff_exists'.1 this
def sW:List Int→Int
 | []=>0
 | x::l=>(1000000+x)+sW l
theorem sW_app:∀ (a b:List Int),sW (a++b)=sW a+sW b
 | [],b=>by simp [sW]
 | x::a,b=>by rw [List.cons_append,sW,sW,sW_app a b];omega
theorem sW_perm {a b:List Int} (h:a.Perm b):sW a=sW b:=by
 induction h with
 | nil=>rfl
 | cons x _ ih=>rw [sW,sW,ih]
 | swap x y l=>simp only [sW];omega
 | trans _ _ h1 h2=>exact h1.trans h2
theorem sW_bd {n:Nat}:∀ {l:List Int},(∀ x∈l,Item x)→l.length≤n→0≤sW l∧sW l≤n*1001000
 | l,h,hl=>by
  have key:0≤sW l∧sW l≤l.length*1001000:=by
   clear hl
   induction l with
   | nil=>simp [sW]
   | cons x l ih =>
    have i:=ih fun y hy=>h y (List.mem_cons_of_mem _ hy)
    have hx:=h x (List.mem_cons_self ..)
    unfold Item at hx
    rw [sW,List.length_cons]
    omega
  omega
theorem pops_item {d:Dq} {e:De}:∀ j,∀ x∈pops d e j,Item x
 | 0,x,h=>by simp [pops] at h
 | j+1,x,h=>by
  rw [pops] at h
  rcases List.mem_append.1 h with q|q
  ·exact pops_item j x q
  ·split at q
   ·rename_i r;rw [List.mem_singleton.1 q];exact r.2
   ·simp at q
theorem pops_le {d:Dq} {e:De}:∀ j,(pops d e j).length≤j
 | 0=>by simp [pops]
 | j+1=>by
  have:=pops_le (d:=d) (e:=e) j
  rw [pops,List.length_append]
  split<;>simp<;>omega
theorem plcs_item {d:Dq} (hd:d.Ok) {e:De}:∀ j,∀ x∈(plcs d e j).map (·.1),Item x
 | 0,x,h=>by simp [plcs] at h
 | j+1,x,h=>by
  rw [plcs,List.map_append] at h
  rcases List.mem_append.1 h with q|q
  ·exact plcs_item hd j x q
  ·split at q
   ·rename_i r
    have e1:x=(d.ac j).n:=by simpa using q
    subst e1
    refine hd.rng.2.2.1 _ (mem_pushed.2 ⟨d.ac j,?_,r.1,rfl⟩)
    unfold Dq.ac at r ⊢
    by_cases hj:j < d.owner.length
    ·simp [hj]
    ·have e2:d.owner.getD j ⟨false,0⟩=⟨false,0⟩:=by simp [hj]
     rw [e2] at r
     exact absurd r.1 (by decide)
   ·simp at q
theorem plcs_le {d:Dq} {e:De}:∀ j,((plcs d e j).map (·.1)).length≤j
 | 0=>by simp [plcs]
 | j+1=>by
  have:=plcs_le (d:=d) (e:=e) j
  rw [plcs,List.map_append,List.length_append]
  split<;>simp at this ⊢<;>omega
theorem its_item {l:List Int}:∀ x∈its l,Item x:=fun x h=>(its_mem.1 h).2
theorem its_le (l:List Int):(its l).length≤l.length:=List.length_filter_le ..
theorem fl_le {th:List (List Int)} (h:∀ l∈th,l.length≤4):(th.flatMap its).length≤th.length*4:=by
 induction th with
 | nil=>simp
 | cons l th ih =>
  have i:=ih fun m hm=>h m (List.mem_cons_of_mem _ hm)
  have a:=h l (List.mem_cons_self ..)
  have b:=its_le l
  rw [List.flatMap_cons,List.length_append,List.length_cons]
  omega
theorem fl_item {th:List (List Int)}:∀ x∈th.flatMap its,Item x:=fun x h=>by
 obtain ⟨l,_,q⟩:=List.mem_flatMap.1 h
 exact its_item x q
theorem sound_sum {d:Dq} (hd:d.Ok) {e:De} (h:SoundP d e):sW ((plcs d e d.owner.length).map (·.1)) - sW (pops d e d.owner.length) - sW (e.th.flatMap its) - sW e.lf=0:=by
 have el:its e.lf=e.lf:=List.filter_eq_self.2 fun n hn=>by simpa using h.lf n hn
 have nP:(Pq d e).Nodup:=by
  have:=(plcs_sub (d:=d) (e:=e) d.owner.length (Nat.le_refl _)).nodup (by rw [List.take_length];exact hd.onc)
  exact this
 have perm:(allQ d e).Perm (Pq d e):=by
  have ls:=len_split h.nd nP h.sb
  have hz:((Pq d e).filter fun n=>decide (n∉allQ d e))=[]:=by
   rw [←List.length_eq_zero_iff];have:=h.ln;omega
  refine (List.perm_ext_iff_of_nodup h.nd nP).2 fun a=>⟨h.sb a,fun ha=>?_⟩
  have:=(List.filter_eq_nil_iff.1 hz) a ha
  simpa using this
 have:=sW_perm perm
 unfold allQ at this
 rw [sW_app,List.flatMap_append,sW_app] at this
 have e2:[e.lf].flatMap its=e.lf:=by simp [el]
 rw [e2] at this
 unfold Pq at this
 omega
end Go.Proofs.J
