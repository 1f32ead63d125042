/- Rows of bytes and of numbers. -/
import Derived.Test.YtegbiibfmabnbaaGreatEvA
import Derived.Test.YtegbiibfmabnbaaGreatEvF
import Derived.Sort.AssemblyPlain
set_option linter.unusedVariables false
set_option linter.unusedSimpArgs false
namespace Go.Proofs.J
open Go Go.Ev
def by8 (l:List Int):List Value:=l.map (.int .u8)
def i64s (l:List Int):List Value:=l.map (Value.int .i64)
def lowc (w:UInt8):Prop:=97≤w.toNat∧w.toNat≤122
def digc (w:UInt8):Prop:=48≤w.toNat∧w.toNat≤57
instance (w:UInt8):Decidable (lowc w):=by unfold lowc;infer_instance
instance (w:UInt8):Decidable (digc w):=by unfold digc;infer_instance
def IsName (s:ByteArray):Prop:=1≤s.size∧s.size≤12∧∀ i (h:i < s.size),lowc s[i]∨(digc s[i]∧i≠0)
def wordL:List ByteArray:=[⟨#[102,108,97,103]⟩,⟨#[109,97,120]⟩,⟨#[115,101,116]⟩,⟨#[111,110,99,101]⟩,⟨#[109,97,112]⟩,⟨#[112,97,105,114]⟩]
def IsTableName (s:ByteArray):Prop:=IsName s∧s∉wordL
structure Tbl where
 name:ByteArray
 elems:List ByteArray
 above:List (List Int)
 wrong:List Bool
def RowOk (n:Nat) (l:List Int):Prop:=(∀ i (h:i < l.length),0≤l[i]∧l[i] < n)∧∀ i (h:i+1 < l.length),l[i] < l[i+1]
def Tbl.Ok (t:Tbl):Prop :=
 IsTableName t.name∧1≤t.elems.length∧t.elems.length≤12∧t.above.length=t.elems.length∧t.wrong.length=t.elems.length ∧
 (∀ i (h:i < t.elems.length),IsName t.elems[i])∧(∀ i j (h:i < t.elems.length) (hj:j < i),t.elems[j]≠t.elems[i])∧∀ i (h:i < t.above.length),RowOk t.elems.length t.above[i]
def Tbl.E (t:Tbl) (a b:Nat):Prop:=∃ h:a < t.above.length,(b:Int)∈t.above[a]
inductive Tbl.St (t:Tbl):Nat→Nat→Prop
 | one {a b:Nat} (h:t.E a b):Tbl.St t a b
 | more {a b c:Nat} (h:Tbl.St t a b) (k:t.E b c):Tbl.St t a c
def Tbl.Bl (t:Tbl) (a b:Nat):Prop:=a=b∨t.St a b
inductive Shp where
 | mk (kind:Int) (name:ByteArray) (kids:List Shp)
def Shp.kind:Shp→Int|.mk k _ _=>k
def Shp.name:Shp→ByteArray|.mk _ n _=>n
def Shp.kids:Shp→List Shp|.mk _ _ l=>l
mutual
def Shp.levels:Shp→Nat
 | .mk _ _ l=>levelsL l+1
def levelsL:List Shp→Nat
 | []=>0
 | s::r=>max s.levels (levelsL r)
end
def kidsOf (k:Int):Option Nat:=if k=1∨k=2∨k=3∨k=4∨k=5 then some 0 else if k=6 then some 1 else if k=7 then some 2 else none
mutual
def Shp.Ok:Shp→Prop
 | .mk k n l=>kidsOf k=some l.length∧(k=5→IsTableName n)∧(k≠5→n.size=0)∧ShpOkL l
def ShpOkL:List Shp→Prop
 | []=>True
 | s::r=>s.Ok∧ShpOkL r
end
theorem levelsL_le:∀ {l:List Shp} {n:Nat},levelsL l≤n↔∀ s∈l,s.levels≤n
 | [],n=>by simp [levelsL]
 | s::r,n=>by simp [levelsL,Nat.max_le,levelsL_le (l:=r)]
theorem RowOk.length {n:Nat} {l:List Int} (h:RowOk n l):l.length≤n:=by
 have key:∀ i (hi:i < l.length),(i:Int)≤l[i]:=by
  intro i
  induction i with
  | zero=>intro hi;exact (h.1 0 hi).1
  | succ i ih=>intro hi;have:=ih (by omega);have:=h.2 i hi;omega
 cases e:l.length with
 | zero=>omega
 | succ k =>
  have h1:=key k (by omega)
  have h2:=(h.1 k (by omega)).2
  omega
def Rows (Z:Zone) (v:Value) (xss:List (List Int)):Prop:=∃ us,Sl Z 1 v xss.length us∧∀ i (h:i < xss.length),∃ u,us[i]?=some u∧Sl Z 1 u xss[i].length (xss[i].map (Value.int .i64))
theorem Rows.mono {Z Z':Zone} {v:Value} {xss:List (List Int)} (e:Ext Z Z') (h:Rows Z v xss):Rows Z' v xss :=
 let ⟨us,h1,h2⟩:=h;⟨us,h1.mono e,fun i hi=>let ⟨u,k1,k2⟩:=h2 i hi;⟨u,k1,k2.mono e⟩⟩
structure TbR (Z:Zone) (nm:ByteArray) (ve va vw:Value) (t:Tbl):Prop where
 name:nm=t.name
 elems:Sl Z 1 ve t.elems.length (t.elems.map Value.string)
 above:Rows Z va t.above
 wrong:Sl Z 1 vw t.wrong.length (t.wrong.map Value.bool)
theorem TbR.mono {Z Z':Zone} {nm:ByteArray} {ve va vw:Value} {t:Tbl} (e:Ext Z Z') (h:TbR Z nm ve va vw t):TbR Z' nm ve va vw t :=
 ⟨h.name,h.elems.mono e,h.above.mono e,h.wrong.mono e⟩
structure Tbl.Sm (t:Tbl):Prop where
 name:t.name.size≤1000000
 elems:t.elems.length≤1000000
 each:∀ s∈t.elems,s.size≤1000000
 above:t.above.length≤1000000
 rows:∀ l∈t.above,l.length≤1000000
 wrong:t.wrong.length≤1000000
theorem set_get {been:List Bool} {k b:Nat} (hk:k < been.length):(been.set k true)[b]?=some true↔b=k∨been[b]?=some true:=by
 rw [List.getElem?_set]
 by_cases e:k=b
 ·subst e;simp [hk]
 ·simp [e];intro h;exact absurd h.symm e
structure TabR (Z:Zone) (b:Nat) (t:Tbl):Prop where
 ok:t.Ok
 sm:t.Sm
 rep:∃ nm ve va vw vs us,Z b=some (.cells [.string nm,ve,va,vw,vs] true 0)∧TbR Z nm ve va vw t∧Sl Z 1 vs t.elems.length us ∧
  ∀ a,a < t.elems.length→∃ (u:Value) (l:List Bool),us[a]?=some u∧Sl Z 1 u t.elems.length (l.map Value.bool)∧l.length=t.elems.length∧∀ c:Nat,l[c]?=some true↔t.St a c
theorem TabR.mono {Z Z':Zone} {b:Nat} {t:Tbl} (e:Ext Z Z') (h:TabR Z b t):TabR Z' b t :=
 ⟨h.ok,h.sm,let ⟨nm,ve,va,vw,vs,us,h1,h2,h3,h4⟩:=h.rep;⟨nm,ve,va,vw,vs,us,e _ _ h1,h2.mono e,h3.mono e,fun a ha=>let ⟨u,l,k1,k2,k3⟩:=h4 a ha;⟨u,l,k1,k2.mono e,k3⟩⟩⟩
structure Whe (n:Nat) (p:Nat→Prop) (l:List Nat):Prop where
 mem:∀ a,a∈l↔a < n∧p a
 asc:l.Pairwise (· < ·)
theorem Whe.len {n:Nat} {p:Nat→Prop} {l:List Nat} (h:Whe n p l):l.length≤n:=by
 have hp:=List.pairwise_iff_getElem.1 h.asc
 have key:∀ i (hi:i < l.length),i≤l[i]:=by
  intro i
  induction i with
  | zero=>intro hi;omega
  | succ i ih=>intro hi;have:=ih (by omega);have:=hp i (i+1) (by omega) hi (by omega);omega
 cases e:l.length with
 | zero=>omega
 | succ k =>
  have h1:=key k (by omega)
  have h2:=((h.mem l[k]).1 (List.getElem_mem (by omega))).1
  omega
theorem Whe.nil {p:Nat→Prop}:Whe 0 p []:=⟨fun a=>by simp,.nil⟩
mutual
def ShR (Z:Zone):Shp→List Value→Prop
 | .mk k n l,cs=>∃ vk us,cs=[.int .u8 k,.string n,vk]∧Sl Z 3 vk l.length us∧ShRL Z l us
def ShRL (Z:Zone):List Shp→List Value→Prop
 | [],us=>us=[]
 | s::r,us=>∃ c rest,us=c++rest∧ShR Z s c∧ShRL Z r rest
end
mutual
theorem ShR.mono {Z Z':Zone} (e:Ext Z Z'):∀ {s:Shp} {cs:List Value},ShR Z s cs→ShR Z' s cs
 | .mk k n l,cs,h=>by
  simp only [ShR] at h ⊢
  obtain ⟨vk,us,h1,h2,h3⟩:=h
  exact ⟨vk,us,h1,h2.mono e,ShRL.mono e h3⟩
theorem ShRL.mono {Z Z':Zone} (e:Ext Z Z'):∀ {l:List Shp} {us:List Value},ShRL Z l us→ShRL Z' l us
 | [],us,h=>by simp only [ShRL] at h ⊢;exact h
 | s::r,us,h=>by
  simp only [ShRL] at h ⊢
  obtain ⟨c,rest,h1,h2,h3⟩:=h
  exact ⟨c,rest,h1,ShR.mono e h2,ShRL.mono e h3⟩
end
theorem ShR.form {Z:Zone} {s:Shp} {cs:List Value} (h:ShR Z s cs):∃ a c us,cs=[.int .u8 s.kind,.string s.name,.slice a s.kids.length c]∧Sl Z 3 (.slice a s.kids.length c) s.kids.length us∧ShRL Z s.kids us:=by
 cases s with
 | mk k n l =>
  simp only [ShR] at h
  obtain ⟨vk,us,h1,h2,h3⟩:=h
  have:=h2
  rcases this with ⟨rfl,h4,rfl⟩|⟨b,off,c,xs,wr,g,rfl,_⟩
  ·exact ⟨none,0,[],by rw [h1];simp only [Shp.kind,Shp.name,Shp.kids,h4],by simp only [Shp.kids,h4];exact Sl.nil,h3⟩
  ·exact ⟨_,_,us,h1,h2,h3⟩
def Shp.Sm:Nat→Shp→Prop
 | 0,_=>True
 | d+1,s=>s.name.size≤1000000∧s.kids.length≤1000000∧∀ k∈s.kids,Shp.Sm d k
def TbsR (Z:Zone) (v:Value) (ts:List Tbl):Prop:=∃ us,Sl Z 4 v ts.length us∧∀ i (h:i < ts.length),∃ nm a1 m1 c1 a2 m2 c2 a3 m3 c3,getCells us (i*4) 4=some [.string nm,.slice a1 m1 c1,.slice a2 m2 c2,.slice a3 m3 c3]∧TbR Z nm (.slice a1 m1 c1) (.slice a2 m2 c2) (.slice a3 m3 c3) ts[i]
theorem TbsR.mono {Z Z':Zone} {v:Value} {ts:List Tbl} (e:Ext Z Z') (h:TbsR Z v ts):TbsR Z' v ts :=
 let ⟨us,h1,h2⟩:=h;⟨us,h1.mono e,fun i hi=>let ⟨nm,a1,m1,c1,a2,m2,c2,a3,m3,c3,k1,k2⟩:=h2 i hi;⟨nm,a1,m1,c1,a2,m2,c2,a3,m3,c3,k1,k2.mono e⟩⟩
theorem TbsR.form {Z:Zone} {v:Value} {ts:List Tbl} (h:TbsR Z v ts):∃ a c,v=.slice a ts.length c:=by
 obtain ⟨us,hs,_⟩:=h
 rcases hs with ⟨rfl,h0,_⟩|⟨b,off,c,xs,wr,g,rfl,_⟩
 ·exact ⟨none,0,by rw [h0]⟩
 ·exact ⟨_,_,rfl⟩
def Clo (t:Tbl) (seen:List Bool) (b:Nat):Prop:=∀ c,t.E b c→seen[c]?=some true
structure Rb (t:Tbl) (a:Nat) (seen:List Bool) (todo:List Int) (x:Option Nat):Prop where
 len:seen.length=t.elems.length
 s1:∀ b:Nat,seen[b]?=some true→t.St a b
 s2:∀ c∈todo,∃ k:Nat,c=k∧(k=a∨t.St a k)
 s3:(a:Int)∈todo∨x=some a∨Clo t seen a
 s4:∀ b:Nat,seen[b]?=some true→(b:Int)∈todo∨x=some b∨Clo t seen b
theorem Clo.mono {t:Tbl} {seen:List Bool} {b k:Nat} (hk:k < seen.length) (h:Clo t seen b):Clo t (seen.set k true) b:=fun c hc=>(set_get hk).2 (.inr (h c hc))
theorem Rb.push {t:Tbl} {a x k:Nat} {seen:List Bool} {todo:List Int} (h:Rb t a seen todo (some x)) (hk:k < seen.length) (hst:t.St a k):Rb t a (seen.set k true) (todo++[(k:Int)]) (some x) where
 len:=by simp [h.len]
 s1:=fun b hb=>by
  rcases (set_get hk).1 hb with rfl|hb
  ·exact hst
  ·exact h.s1 b hb
 s2:=fun c hc=>by
  rcases List.mem_append.1 hc with hc|hc
  ·exact h.s2 c hc
  ·exact ⟨k,by simpa using hc,.inr hst⟩
 s3:=by
  rcases h.s3 with q|q|q
  ·exact .inl (List.mem_append.2 (.inl q))
  ·exact .inr (.inl q)
  ·exact .inr (.inr (q.mono hk))
 s4:=fun b hb=>by
  rcases (set_get hk).1 hb with rfl|hb
  ·exact .inl (List.mem_append.2 (.inr (by simp)))
  ·rcases h.s4 b hb with q|q|q
   ·exact .inl (List.mem_append.2 (.inl q))
   ·exact .inr (.inl q)
   ·exact .inr (.inr (q.mono hk))
def RelR (Z:Zone) (v:Value) (t:Tbl):Prop:=∃ us,Sl Z 1 v t.elems.length us∧∀ a,a < t.elems.length→∃ (u:Value) (l:List Bool),us[a]?=some u∧Sl Z 1 u t.elems.length (l.map Value.bool)∧l.length=t.elems.length∧∀ c:Nat,c < t.elems.length→(l[c]?=some true↔t.Bl a c)
theorem RelR.mono {Z Z':Zone} {v:Value} {t:Tbl} (e:Ext Z Z') (h:RelR Z v t):RelR Z' v t :=
 let ⟨us,h1,h2⟩:=h;⟨us,h1.mono e,fun a ha=>let ⟨u,l,k1,k2,k3⟩:=h2 a ha;⟨u,l,k1,k2.mono e,k3⟩⟩
def Shp.Thin:Nat→Shp→Prop
 | 0,_=>False
 | d+1,s=>s.kids.length≤4∧s.name.size≤30∧∀ k∈s.kids,Shp.Thin d k
theorem Shp.Thin.sm:∀ {d:Nat} {s:Shp},Shp.Thin d s→Shp.Sm d s∧s.levels≤d
 | 0,s,h=>h.elim
 | d+1,s,h=>by
  obtain ⟨h1,h2,h3⟩:=h
  refine ⟨⟨by omega,by omega,fun k hk=>(Shp.Thin.sm (h3 k hk)).1⟩,?_⟩
  cases s with
  | mk k n l =>
   simp only [Shp.levels]
   have:=levelsL_le.2 fun k hk=>(Shp.Thin.sm (h3 k hk)).2
   simp only [Shp.kids] at this
   omega
structure Tbl.Th (t:Tbl):Prop where
 elems:t.elems.length≤20
 above:t.above.length≤20
 wrong:t.wrong.length≤20
 name:t.name.size≤30
 each:∀ i (h:i < t.elems.length),t.elems[i].size≤30
 rows:∀ i (h:i < t.above.length),t.above[i].length≤20
theorem Tbl.Th.sm {t:Tbl} (h:t.Th):t.Sm where
 name:=by have:=h.name;omega
 elems:=by have:=h.elems;omega
 each:=fun s hs=>by obtain ⟨i,hi,rfl⟩:=List.getElem_of_mem hs;have:=h.each i hi;omega
 above:=by have:=h.above;omega
 rows:=fun s hs=>by obtain ⟨i,hi,rfl⟩:=List.getElem_of_mem hs;have:=h.rows i hi;omega
 wrong:=by have:=h.wrong;omega
abbrev Lat:=List Tbl×Shp
structure Lat.Th (l:Lat):Prop where
 few:¬ (4 < l.1.length∧l.1.length≤8)∧l.1.length≤10
 shape:Shp.Thin 6 l.2
 tables:∀ i (h:i < l.1.length),(l.1[i]).Th
def LatR (Z:Zone) (cs:List Value) (l:Lat):Prop:=∃ vt cs',cs=vt::cs'∧TbsR Z vt l.1∧ShR Z l.2 cs'
theorem LatR.mono {Z Z':Zone} {cs:List Value} {l:Lat} (e:Ext Z Z') (h:LatR Z cs l):LatR Z' cs l:=let ⟨vt,cs',h1,h2,h3⟩:=h;⟨vt,cs',h1,h2.mono e,h3.mono e⟩
theorem LatR.form {Z:Zone} {cs:List Value} {l:Lat} (h:LatR Z cs l):∃ a1 c1 a2 c2,cs=[.slice a1 l.1.length c1,.int .u8 l.2.kind,.string l.2.name,.slice a2 l.2.kids.length c2]∧TbsR Z (.slice a1 l.1.length c1) l.1∧ShR Z l.2 [.int .u8 l.2.kind,.string l.2.name,.slice a2 l.2.kids.length c2]:=by
 obtain ⟨vt,cs',rfl,h2,h3⟩:=h
 obtain ⟨a1,c1,rfl⟩:=h2.form
 obtain ⟨a2,c2,us,rfl,_⟩:=h3.form
 exact ⟨a1,c1,a2,c2,rfl,h2,h3⟩
def LatsR (Z:Zone) (v:Value) (ls:List Lat):Prop:=∃ us,Sl Z 4 v ls.length us∧∀ i (h:i < ls.length),∃ cs,getCells us (i*4) 4=some cs∧LatR Z cs ls[i]
theorem LatsR.mono {Z Z':Zone} {v:Value} {ls:List Lat} (e:Ext Z Z') (h:LatsR Z v ls):LatsR Z' v ls:=let ⟨us,h1,h2⟩:=h;⟨us,h1.mono e,fun i hi=>let ⟨cs,k1,k2⟩:=h2 i hi;⟨cs,k1,k2.mono e⟩⟩
theorem LatsR.form {Z:Zone} {v:Value} {ts:List Lat} (h:LatsR Z v ts):∃ a c,v=.slice a ts.length c:=by
 obtain ⟨us,hs,_⟩:=h
 rcases hs with ⟨rfl,h0,_⟩|⟨b,off,c,xs,wr,g,rfl,_⟩
 ·exact ⟨none,0,by rw [h0]⟩
 ·exact ⟨_,_,rfl⟩
inductive El where
 | mk (kind n:Int) (keys:List Int) (kids:List El)
def El.kind:El→Int|.mk k _ _ _=>k
def El.n:El→Int|.mk _ n _ _=>n
def El.keys:El→List Int|.mk _ _ l _=>l
def El.kids:El→List El|.mk _ _ _ l=>l
mutual
def El.levels:El→Nat
 | .mk _ _ _ l=>elLevelsL l+1
def elLevelsL:List El→Nat
 | []=>0
 | s::r=>max s.levels (elLevelsL r)
end
def El.Sm:Nat→El→Prop
 | 0,_=>True
 | d+1,s=>s.keys.length≤17592186044416∧s.kids.length≤2199023255552∧(-9223372036854775808≤s.n∧s.n≤9223372036854775807)∧(0≤s.kind∧s.kind≤255)∧(∀ k∈s.keys,-9223372036854775808≤k∧k≤9223372036854775807)∧∀ k∈s.kids,El.Sm d k
mutual
def ElR (Z:Zone):El→List Value→Prop
 | .mk k n ks l,cs=>∃ vk vl us,cs=[.int .u8 k,.int .i64 n,vk,vl]∧Sl Z 1 vk ks.length (ks.map (Value.int .i64))∧Sl Z 4 vl l.length us∧ElRL Z l us
def ElRL (Z:Zone):List El→List Value→Prop
 | [],us=>us=[]
 | s::r,us=>∃ c rest,us=c++rest∧ElR Z s c∧ElRL Z r rest
end
mutual
theorem ElR.mono {Z Z':Zone} (e:Ext Z Z'):∀ {s:El} {cs:List Value},ElR Z s cs→ElR Z' s cs
 | .mk k n ks l,cs,h=>by
  simp only [ElR] at h ⊢
  obtain ⟨vk,vl,us,h1,h0,h2,h3⟩:=h
  exact ⟨vk,vl,us,h1,h0.mono e,h2.mono e,ElRL.mono e h3⟩
theorem ElRL.mono {Z Z':Zone} (e:Ext Z Z'):∀ {l:List El} {us:List Value},ElRL Z l us→ElRL Z' l us
 | [],us,h=>by simp only [ElRL] at h ⊢;exact h
 | s::r,us,h=>by
  simp only [ElRL] at h ⊢
  obtain ⟨c,rest,h1,h2,h3⟩:=h
  exact ⟨c,rest,h1,ElR.mono e h2,ElRL.mono e h3⟩
end
theorem ElR.form {Z:Zone} {s:El} {cs:List Value} (h:ElR Z s cs):∃ a1 c1 a2 c2 us,cs=[.int .u8 s.kind,.int .i64 s.n,.slice a1 s.keys.length c1,.slice a2 s.kids.length c2] ∧
  Sl Z 1 (.slice a1 s.keys.length c1) s.keys.length (s.keys.map (Value.int .i64))∧Sl Z 4 (.slice a2 s.kids.length c2) s.kids.length us∧ElRL Z s.kids us:=by
 cases s with
 | mk k n ks l =>
  simp only [ElR] at h
  obtain ⟨vk,vl,us,rfl,h0,h2,h3⟩:=h
  obtain ⟨a1,c1,rfl⟩:=h0.form
  obtain ⟨a2,c2,rfl⟩:=h2.form
  exact ⟨a1,c1,a2,c2,us,rfl,h0,h2,h3⟩
def ElsR (Z:Zone) (v:Value) (l:List El):Prop:=∃ us,Sl Z 4 v l.length us∧ElRL Z l us
theorem ElsR.mono {Z Z':Zone} {v:Value} {l:List El} (e:Ext Z Z') (h:ElsR Z v l):ElsR Z' v l:=let ⟨us,h1,h2⟩:=h;⟨us,h1.mono e,h2.mono e⟩
theorem ElsR.form {Z:Zone} {v:Value} {l:List El} (h:ElsR Z v l):∃ a c,v=.slice a l.length c:=let ⟨_,h1,_⟩:=h;h1.form
def El.Bot (e:El):Prop:=e.kind=0∧e.n=0∧e.keys.length=0∧e.kids.length=0
instance (e:El):Decidable e.Bot:=by unfold El.Bot;infer_instance
def NumOk (a:Int):Prop:=-1000000000≤a∧a≤1000000000
instance (a:Int):Decidable (NumOk a):=by unfold NumOk;infer_instance
def Tof (ts:List Tbl) (n:ByteArray) (t:Tbl):Prop:=∃ i,∃ h:i < ts.length,ts[i]=t∧t.name=n∧∀ j (hj:j < i),ts[j].name≠n
def El.Bare (e:El):Prop:=e.keys.length=0∧e.kids.length=0
instance (e:El):Decidable e.Bare:=by unfold El.Bare;infer_instance
theorem Tof.mem {ts:List Tbl} {n:ByteArray} {t:Tbl} (h:Tof ts n t):t∈ts:=by
 obtain ⟨i,hi,rfl,_⟩:=h;exact List.getElem_mem hi
end Go.Proofs.J
namespace Go.Proofs.J
open Go Go.Ev
open Classical in
noncomputable instance:DecidableEq El:=fun a b=>Classical.propDecidable _
section inv
variable {ts:List Tbl} {d:Nat} {s:Shp} {e:El}
end inv
section eqs
variable {ts:List Tbl} {d:Nat} {s:Shp} {a b:El}
end eqs
end Go.Proofs.J
namespace Go.Proofs.J
open Go Go.Ev
def cpt:List Int→List Int
 | []=>[]
 | [x]=>[x]
 | x::y::r=>if x=y then cpt (y::r) else x::cpt (y::r)
open Go Go.Ev Go.Sort
abbrev ic (d:Array Int):List Value:=d.toList.map (Value.int .i64)
theorem ic_get {d:Array Int} {i:Nat} (h:i < d.size):getCells (ic d) (i*1) 1=some [.int .i64 d[i]!]:=by
 unfold getCells
 rw [if_pos (by simp;omega),Nat.mul_one,List.drop_eq_getElem_cons (by simpa using h)]
 simp [getElem!_pos d i h]
theorem ic_set {d:Array Int} {i:Nat} {x:Int} (h:i < d.size):setCells (ic d) (i*1) [.int .i64 x]=some (ic (d.setIfInBounds i x)):=by
 unfold setCells
 rw [if_pos (by simp;omega),Nat.mul_one]
 congr 1
 simp only [ic,Array.toList_setIfInBounds,List.map_set,List.length_cons,List.length_nil]
 rw [List.set_eq_take_append_cons_drop,if_pos (by simpa using h)]
 simp
theorem ok_ic (d:Array Int):okCells (ic d)=true:=by
 simp only [okCells,ic,List.all_map,List.all_eq_true]
 intro x _;rfl
theorem swp_size {d:Array Int} {i j:Nat}:(swp d i j).size=d.size:=by simp [swp]
theorem set_size {d:Array Int} {i:Nat} {x:Int}:(d.setIfInBounds i x).size=d.size:=by simp
theorem insInner_size {a:Nat}:∀ {j:Nat} {d:Array Int},(insInner ltInt a j d).size=d.size
 | 0,d=>rfl
 | j+1,d=>by
  rw [insInner]
  split
  ·rw [insInner_size,swp_size]
  ·rfl
theorem fm_len {α:Type} {f:α→List Value} {k:Nat} (hk:∀ x,(f x).length=k):∀ (l:List α),(l.flatMap f).length=l.length*k
 | []=>by simp
 | x::l=>by rw [List.flatMap_cons,List.length_append,hk,fm_len hk l,List.length_cons,Nat.add_mul];omega
theorem fm_drop {α:Type} {f:α→List Value} {k:Nat} (hk:∀ x,(f x).length=k):∀ (l:List α) (j:Nat),(l.flatMap f).drop (j*k)=(l.drop j).flatMap f
 | l,0=>by simp
 | [],j+1=>by simp
 | x::l,j+1=>by
  rw [List.flatMap_cons,List.drop_succ_cons,←fm_drop hk l j,Nat.add_mul,Nat.one_mul,Nat.add_comm,←List.drop_drop]
  congr 1
  rw [List.drop_append_of_le_length (by rw [hk];exact Nat.le_refl _),←hk x,List.drop_length,List.nil_append]
theorem fm_get {α:Type} {f:α→List Value} {k:Nat} (hk:∀ x,(f x).length=k) {l:List α} {j:Nat} (h:j < l.length):getCells (l.flatMap f) (j*k) k=some (f l[j]):=by
 have h1:=fm_len hk l
 have h2:(j+1)*k≤l.length*k:=Nat.mul_le_mul_right _ h
 rw [Nat.add_mul,Nat.one_mul] at h2
 unfold getCells
 rw [if_pos (by omega),fm_drop hk,List.drop_eq_getElem_cons h,List.flatMap_cons,List.take_append_of_le_length (by rw [hk];exact Nat.le_refl _),←hk l[j],List.take_length]
theorem fm_ok {α:Type} {f:α→List Value} (hf:∀ x,okCells (f x)=true) (l:List α):okCells (l.flatMap f)=true:=by
 unfold okCells at *
 rw [List.all_eq_true]
 intro v hv
 obtain ⟨x,_,hx⟩:=List.mem_flatMap.1 hv
 exact List.all_eq_true.1 (hf x) v hx
structure Act where
 push:Bool
 n:Int
structure Dq where
 size:Int
 room:Int
 fence:Bool
 owner:List Act
 thieves:List Int
abbrev actC (a:Act):List Value:=[.bool a.push,.int .i64 a.n]
def Item (n:Int):Prop:=1≤n∧n≤1000
def pushedOf:List Act→List Int
 | []=>[]
 | a::l=>if a.push=true then a.n::pushedOf l else pushedOf l
theorem pushedOf_append:∀ (l m:List Act),pushedOf (l++m)=pushedOf l++pushedOf m
 | [],m=>rfl
 | a::l,m=>by
  rw [List.cons_append,pushedOf,pushedOf,pushedOf_append l m]
  split<;>rfl
theorem pushedOf_take {l:List Act} {j:Nat} (h:j < l.length):pushedOf (l.take (j+1))=if l[j].push=true then pushedOf (l.take j)++[l[j].n] else pushedOf (l.take j):=by
 rw [List.take_succ_eq_append_getElem h,pushedOf_append]
 simp only [pushedOf]
 split<;>simp
theorem pushedOf_len:∀ (l:List Act),(pushedOf l).length≤l.length
 | []=>Nat.le_refl _
 | a::l=>by have:=pushedOf_len l;rw [pushedOf];split<;>simp<;>omega
theorem mem_pushed:∀ {l:List Act} {x:Int},x∈pushedOf l↔∃ a∈l,a.push=true∧a.n=x
 | [],x=>by simp [pushedOf]
 | a::l,x=>by
  rw [pushedOf]
  split
  ·rename_i h
   rw [List.mem_cons,mem_pushed (l:=l)]
   constructor
   ·rintro (rfl|⟨b,hb,h1,h2⟩)
    ·exact ⟨a,by simp,h,rfl⟩
    ·exact ⟨b,by simp [hb],h1,h2⟩
   ·rintro ⟨b,hb,h1,h2⟩
    rcases List.mem_cons.1 hb with rfl|hb
    ·exact .inl h2.symm
    ·exact .inr ⟨b,hb,h1,h2⟩
  ·rename_i h
   rw [mem_pushed (l:=l)]
   constructor
   ·rintro ⟨b,hb,h1,h2⟩
    exact ⟨b,by simp [hb],h1,h2⟩
   ·rintro ⟨b,hb,h1,h2⟩
    rcases List.mem_cons.1 hb with rfl|hb
    ·exact absurd h1 h
    ·exact ⟨b,hb,h1,h2⟩
def Dq.Lim (d:Dq):Prop:=d.owner.length≤8∧d.thieves.length≤3∧∀ n∈d.thieves,n≤4
def Dq.Rng (d:Dq):Prop:=(1≤d.size∧d.size≤4)∧(1≤d.room∧d.room≤8)∧(∀ n∈pushedOf d.owner,Item n)∧∀ n∈d.thieves,0≤n
def Dq.Frm (d:Dq):Prop:=∀ a∈d.owner,a.push=true∨a.n=0
def Dq.Onc (d:Dq):Prop:=(pushedOf d.owner).Nodup
structure Dq.Ok (d:Dq):Prop where
 lim:d.Lim
 rng:d.Rng
 frm:d.Frm
 onc:d.Onc
open Classical in
noncomputable def DqE (d:Dq):Int:=if ¬ d.Lim then 5 else if ¬ d.Rng then 3 else if ¬ d.Frm then 4 else if ¬ d.Onc then 6 else 0
theorem DqE_lim {d:Dq} (h:¬ d.Lim):DqE d=5:=by unfold DqE;rw [if_pos h]
theorem DqE_rng {d:Dq} (h:d.Lim) (k:¬ d.Rng):DqE d=3:=by unfold DqE;rw [if_neg (fun x=>x h),if_pos k]
theorem DqE_frm {d:Dq} (h:d.Lim) (k:d.Rng) (l:¬ d.Frm):DqE d=4:=by unfold DqE;rw [if_neg (fun x=>x h),if_neg (fun x=>x k),if_pos l]
theorem DqE_onc {d:Dq} (h:d.Lim) (k:d.Rng) (l:d.Frm) (m:¬ d.Onc):DqE d=6:=by unfold DqE;rw [if_neg (fun x=>x h),if_neg (fun x=>x k),if_neg (fun x=>x l),if_pos m]
theorem DqE_ok {d:Dq} (h:d.Ok):DqE d=0:=by unfold DqE;rw [if_neg (fun x=>x h.lim),if_neg (fun x=>x h.rng),if_neg (fun x=>x h.frm),if_neg (fun x=>x h.onc)]
theorem DqE_zero {d:Dq} (h:DqE d=0):d.Ok:=by
 unfold DqE at h
 split at h
 ·cases h
 split at h
 ·cases h
 split at h
 ·cases h
 split at h
 ·cases h
 rename_i a b c e
 exact ⟨Classical.not_not.1 a,Classical.not_not.1 b,Classical.not_not.1 c,Classical.not_not.1 e⟩
theorem cpt_le:∀ (l:List Int),(cpt l).length≤l.length
 | []=>Nat.le_refl _
 | [x]=>Nat.le_refl _
 | x::y::r=>by
  have:=cpt_le (y::r)
  rw [cpt]
  split
  ·exact Nat.le_succ_of_le this
  ·exact Nat.succ_le_succ this
theorem cpt_lt:∀ {l:List Int},l.Pairwise (·≤·)→((cpt l).length < l.length↔¬ l.Nodup)
 | [],_=>by simp [cpt]
 | [x],_=>by simp [cpt]
 | x::y::r,h=>by
  have h':=List.pairwise_cons.1 h
  have ih:=cpt_lt h'.2
  have hle:=cpt_le (y::r)
  rw [cpt]
  split
  ·rename_i e
   subst e
   constructor
   ·intro _ hn
    exact (List.nodup_cons.1 hn).1 (List.mem_cons_self ..)
   ·intro _
    exact Nat.lt_succ_of_le hle
  ·rename_i e
   have hx:x∉y::r:=fun hm=>by
    have h2:=List.pairwise_cons.1 h'.2
    have:=h'.1 y (List.mem_cons_self ..)
    rcases List.mem_cons.1 hm with rfl|q
    ·exact e rfl
    ·have:=h2.1 x q;omega
   rw [List.nodup_cons]
   simp only [List.length_cons] at ih ⊢
   constructor
   ·intro h1 hn
    exact ih.1 (by omega) hn.2
   ·intro hn
    have:=ih.2 fun k=>hn ⟨hx,k⟩
    omega
structure Ins where
 op:Int
 a:Int
 b:Int
 c:Int
 d:Int
 n:Int
abbrev insC (i:Ins):List Value:=[.int .u8 i.op,.int .i64 i.a,.int .i64 i.b,.int .i64 i.c,.int .i64 i.d,.int .i64 i.n]
abbrev insL (l:List Ins):List Value:=l.flatMap insC
theorem actL_get {l:List Act} {j:Nat} (h:j < l.length):getCells (l.flatMap actC) (j*2) 2=some (actC l[j]):=fm_get (f:=actC) (k:=2) (fun _=>rfl) h
theorem actL_ok (l:List Act):okCells (l.flatMap actC)=true:=fm_ok (fun _=>rfl) l
def pushI (at_ item : Int) : List Ins :=
  [⟨8, 1, 0, 0, 0, 1⟩, ⟨8, 2, 0, 0, 0, 0⟩, ⟨3, 3, 1, 2, 0, 0⟩, ⟨6, 5, 8, 3, 0, 0⟩, ⟨14, 5, 0, 0, 0, at_ + 12⟩, ⟨4, 6, 1, 8, 0, 0⟩, ⟨1, 7, 0, 0, 0, item⟩, ⟨9, 7, 6, 0, 0, 2⟩,
   ⟨2, 1, 1, 9, 0, 0⟩, ⟨9, 1, 0, 0, 0, 1⟩, ⟨15, 7, 0, 0, 0, 0⟩, ⟨13, 0, 0, 0, 0, at_ + 14⟩, ⟨1, 7, 0, 0, 0, -2⟩, ⟨15, 7, 0, 0, 0, 0⟩]
def popT (f : Int) : List Ins :=
  [⟨8, 2, 0, 0, 0, 0⟩, ⟨6, 5, 2, 1, 0, 0⟩, ⟨14, 5, 0, 0, 0, f + 10⟩, ⟨9, 2, 0, 0, 0, 1⟩, ⟨15, 0, 0, 0, 0, 0⟩, ⟨13, 0, 0, 0, 0, f + 21⟩, ⟨4, 6, 1, 8, 0, 0⟩, ⟨8, 7, 6, 0, 0, 2⟩,
   ⟨7, 5, 1, 2, 0, 0⟩, ⟨14, 5, 0, 0, 0, f + 18⟩, ⟨2, 3, 2, 9, 0, 0⟩, ⟨10, 5, 0, 2, 3, 0⟩, ⟨9, 3, 0, 0, 0, 1⟩, ⟨14, 5, 0, 0, 0, f + 20⟩, ⟨15, 7, 0, 0, 0, 0⟩, ⟨13, 0, 0, 0, 0, f + 21⟩, ⟨15, 0, 0, 0, 0, 0⟩]
def popH:List Ins:=[⟨8,1,0,0,0,1⟩,⟨3,1,1,9,0,0⟩,⟨9,1,0,0,0,1⟩]
def popI (at_:Int) (fence:Bool):List Ins:=if fence=true then popH++[⟨11,0,0,0,0,0⟩]++popT at_ else popH++popT (at_ - 1)
def stealI (at_ : Int) : List Ins :=
  [⟨8, 2, 0, 0, 0, 0⟩, ⟨8, 1, 0, 0, 0, 1⟩, ⟨6, 5, 1, 2, 0, 0⟩, ⟨14, 5, 0, 0, 0, at_ + 11⟩, ⟨4, 6, 2, 8, 0, 0⟩, ⟨8, 7, 6, 0, 0, 2⟩, ⟨2, 3, 2, 9, 0, 0⟩, ⟨10, 5, 0, 2, 3, 0⟩,
   ⟨14, 5, 0, 0, 0, at_ + 13⟩, ⟨15, 7, 0, 0, 0, 0⟩, ⟨13, 0, 0, 0, 0, at_ + 15⟩, ⟨15, 0, 0, 0, 0, 0⟩, ⟨13, 0, 0, 0, 0, at_ + 15⟩, ⟨1, 4, 0, 0, 0, -1⟩, ⟨15, 4, 0, 0, 0, 0⟩]
def thrI (size:Int) (f:Int→Nat→List Ins):Nat→List Ins
 | 0=>[⟨1,8,0,0,0,size⟩,⟨1,9,0,0,0,1⟩]
 | m+1=>thrI size f m++f (thrI size f m).length m
def actI (fence:Bool) (l:List Act) (at_:Int) (i:Nat):List Ins :=
 match l[i]? with
 | none=>[]
 | some a=>if a.push=true then pushI at_ a.n else popI at_ fence
def ownI (d:Dq):List Ins:=thrI d.size (actI d.fence d.owner) d.owner.length
def thiefI (d:Dq) (m:Int):List Ins:=thrI d.size (fun a _=>stealI a) m.toNat
def progI (d:Dq):List (List Ins):=ownI d::d.thieves.map (thiefI d)
structure De where
 ow:List Int
 th:List (List Int)
 lf:List Int
def De.z:De:=⟨[],[],[]⟩
structure De.Sm (e:De):Prop where
 ow:e.ow.length≤1000000
 th:e.th.length≤1000000∧∀ l∈e.th,l.length≤1000000
 lf:e.lf.length≤1000000
structure Ln where
 inn:List Int
 done:List Int
 own:List Int
 th:List (List Int)
def Dq.many (d:Dq) (t:Nat):Int:=if t=0 then d.owner.length else d.thieves.getD (t - 1) 0
def Ln.tk (d:Dq) (x:Ln) (a:Act):Int×List Int :=
 if a.push=true then (if (x.inn.length:Int)=d.size then (-2,x.inn) else (a.n,x.inn++[a.n]))
 else if h:x.inn=[] then (0,[]) else (x.inn.getLast h,x.inn.dropLast)
def Ln.st (x:Ln):Int×List Int:=match x.inn with|[]=>(0,[])|n::r=>(n,r)
def Dq.act (d:Dq) (x:Ln):Act:=d.owner.getD (x.done.getD 0 0).toNat ⟨false,0⟩
def Ln.step (d:Dq) (x:Ln) (t:Nat):Ln :=
 if t=0 then { inn:=(x.tk d (d.act x)).2,done:=x.done.set 0 (x.done.getD 0 0+1),own:=x.own++[(x.tk d (d.act x)).1],th:=x.th }
 else { inn:=x.st.2,done:=x.done.set t (x.done.getD t 0+1),own:=x.own,th:=x.th.set (t - 1) (x.th.getD (t - 1) []++[x.st.1]) }
structure Ln.Ok (d:Dq) (x:Ln):Prop where
 dn:x.done.length=d.thieves.length+1
 tl:x.th.length=d.thieves.length
 le:∀ t (h:t < x.done.length),0≤x.done[t]∧x.done[t]≤d.many t
 sz:(x.inn.length:Int)≤d.size
 ow:(x.own.length:Int)=x.done.getD 0 0
 rw:∀ i (h:i < x.th.length),(x.th[i].length:Int)=x.done.getD (i+1) 0
theorem getD_set {l:List Int} {i j:Nat} {v:Int} (hi:i < l.length):(l.set i v).getD j 0=if i=j then v else l.getD j 0:=by
 by_cases h:i=j
 ·subst h;simp [hi]
 ·rw [if_neg h];simp [h]
theorem Ln.tk_len {d:Dq} {x:Ln} {a:Act} (h:(x.inn.length:Int)≤d.size):((x.tk d a).2.length:Int)≤d.size:=by
 unfold Ln.tk
 split
 ·split
  ·exact h
  ·simp only [List.length_append,List.length_cons,List.length_nil];omega
 ·split
  ·simp;omega
  ·simp only [List.length_dropLast];omega
theorem Ln.st_len {d:Dq} {x:Ln} (h:(x.inn.length:Int)≤d.size):(x.st.2.length:Int)≤d.size:=by
 unfold Ln.st
 split
 ·simp;omega
 ·rename_i n r e;rw [e] at h;simp at h ⊢;omega
theorem Ln.Ok.step {d:Dq} {x:Ln} {t:Nat} (ok:x.Ok d) (ht:t < x.done.length) (hl:x.done[t] < d.many t):(x.step d t).Ok d:=by
 have hdn:=ok.dn
 have hle:∀ u (h:u < (x.done.set t (x.done.getD t 0+1)).length),0≤(x.done.set t (x.done.getD t 0+1))[u]∧(x.done.set t (x.done.getD t 0+1))[u]≤d.many u:=by
  intro u hu
  rw [List.length_set] at hu
  rw [List.getElem_set]
  have:=ok.le t ht
  have e:x.done.getD t 0=x.done[t]:=by simp [ht]
  split
  ·rename_i h;subst h;rw [e];omega
  ·exact ok.le u hu
 unfold Ln.step
 split
 ·rename_i h0
  subst h0
  refine ⟨by simpa using hdn,ok.tl,by simpa using hle,Ln.tk_len ok.sz,?_,fun i hi=>?_⟩
  ·have:=ok.ow
   show ((x.own++[_]).length:Int)=(x.done.set 0 _).getD 0 0
   rw [getD_set ht,if_pos rfl,List.length_append]
   simp only [List.length_cons,List.length_nil];omega
  ·show _=(x.done.set 0 _).getD (i+1) 0
   rw [getD_set ht,if_neg (by omega)]
   exact ok.rw i hi
 ·rename_i h0
  refine ⟨by simpa using hdn,by simpa using ok.tl,by simpa using hle,Ln.st_len ok.sz,?_,fun i hi=>?_⟩
  ·show _=(x.done.set t _).getD 0 0
   rw [getD_set ht,if_neg h0]
   exact ok.ow
  ·have htl:=ok.tl
   have hi':i < x.th.length:=by simpa using hi
   have hr:=ok.rw i hi'
   show (((x.th.set (t - 1) _)[i]'hi).length:Int)=(x.done.set t _).getD (i+1) 0
   rw [getD_set ht,List.getElem_set]
   by_cases e:t - 1=i
   ·subst e
    have e2:t - 1+1=t:=by omega
    rw [if_pos rfl,if_pos e2.symm,List.length_append]
    rw [e2] at hr
    have e3:x.th.getD (t - 1) []=x.th[t - 1]:=by simp [hi']
    rw [e3]
    simp only [List.length_cons,List.length_nil];omega
   ·rw [if_neg e,if_neg (by omega)]
    exact hr
def Ln.z (d:Dq):Ln:=⟨[],List.replicate (d.thieves.length+1) 0,[],List.replicate d.thieves.length []⟩
def serF (d:Dq):List Int→Ln→Option Ln
 | [],x=>some x
 | t::r,x=>if 0≤t∧t≤d.thieves.length∧x.done.getD t.toNat 0 < d.many t.toNat then serF d r (x.step d t.toNat) else none
def Ln.runN (d:Dq) (t:Nat):Nat→Ln→Ln
 | 0,x=>x
 | n+1,x=>runN d t n (x.step d t)
def Ln.fin (d:Dq) (x:Ln) (t:Nat):Ln:=Ln.runN d t (d.many t - x.done.getD t 0).toNat x
def Ln.finT (d:Dq):Nat→Ln→Ln
 | 0,x=>x
 | t+1,x=>(finT d t x).fin d t
theorem Ln.step_done {d:Dq} {x:Ln} {t:Nat} (h:t < x.done.length):(x.step d t).done=x.done.set t (x.done.getD t 0+1):=by
 unfold Ln.step
 split
 ·rename_i h0;subst h0;rfl
 ·rfl
theorem Ln.fin_step {d:Dq} {x:Ln} {t:Nat} (h:t < x.done.length) (hl:x.done.getD t 0 < d.many t):x.fin d t=(x.step d t).fin d t:=by
 unfold Ln.fin
 rw [step_done h,getD_set h,if_pos rfl]
 have e:(d.many t - x.done.getD t 0).toNat=(d.many t - (x.done.getD t 0+1)).toNat+1:=by omega
 rw [e,Ln.runN]
theorem Ln.fin_end {d:Dq} {x:Ln} {t:Nat} (hl:¬ x.done.getD t 0 < d.many t):x.fin d t=x:=by
 unfold Ln.fin
 have e:(d.many t - x.done.getD t 0).toNat=0:=by omega
 rw [e,Ln.runN]
theorem Ln.Ok.z {d:Dq} (hs:0≤d.size) (h0:∀ n∈d.thieves,0≤n):(Ln.z d).Ok d:=by
 refine ⟨by simp [Ln.z],by simp [Ln.z],fun t ht=>?_,by simpa [Ln.z] using hs,by simp [Ln.z],fun i hi=>?_⟩
 ·have e:(Ln.z d).done[t]=0:=by simp [Ln.z]
  rw [e]
  refine ⟨Int.le_refl _,?_⟩
  unfold Dq.many
  split
  ·omega
  ·have ht':t - 1 < d.thieves.length:=by simp [Ln.z] at ht;omega
   have:=h0 _ (List.getElem_mem ht')
   simp [ht'];omega
 ·have hi':i < d.thieves.length:=by simpa [Ln.z] using hi
  simp [Ln.z,hi']
theorem Ln.Ok.runN {d:Dq} {t:Nat}:∀ (n:Nat) {x:Ln},x.Ok d→t < x.done.length→x.done.getD t 0+n≤d.many t→(Ln.runN d t n x).Ok d
 | 0,x,ok,_,_=>ok
 | n+1,x,ok,ht,hl=>by
  have e:x.done.getD t 0=x.done[t]:=by simp [ht]
  rw [Ln.runN]
  refine Ln.Ok.runN n (ok.step ht (by omega)) (by rw [Ln.step_done ht,List.length_set];exact ht) ?_
  rw [Ln.step_done ht,getD_set ht,if_pos rfl]
  omega
theorem Ln.Ok.fin {d:Dq} {x:Ln} {t:Nat} (ok:x.Ok d) (ht:t < x.done.length):(x.fin d t).Ok d:=by
 have e:x.done.getD t 0=x.done[t]:=by simp [ht]
 have:=ok.le t ht
 unfold Ln.fin
 exact Ln.Ok.runN _ ok ht (by omega)
theorem Ln.Ok.finT {d:Dq} {x:Ln} (ok:x.Ok d):∀ (t:Nat),t≤d.thieves.length+1→(Ln.finT d t x).Ok d
 | 0,_=>ok
 | t+1,h=>by
  have k:=Ln.Ok.finT ok t (by omega)
  rw [Ln.finT]
  exact k.fin (by have:=k.dn;omega)
theorem serF_ok {d:Dq}:∀ (order:List Int) {x y:Ln},x.Ok d→serF d order x=some y→y.Ok d
 | [],x,y,ok,h=>by
  cases h;exact ok
 | t::r,x,y,ok,h=>by
  rw [serF] at h
  split at h
  ·rename_i k
   have hd:=ok.dn
   have ht:t.toNat < x.done.length:=by omega
   have e:x.done.getD t.toNat 0=x.done[t.toNat]:=by simp [ht]
   exact serF_ok r (ok.step ht (by omega)) h
  ·cases h
end Go.Proofs.J
