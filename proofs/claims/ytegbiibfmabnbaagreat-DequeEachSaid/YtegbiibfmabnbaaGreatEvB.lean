/- How the relation of worlds moves: a block written, a block made, a block that dies. -/
import Derived.Test.YtegbiibfmabnbaaGreatEvA
import Derived.Laws.Append
import Derived.IntWalk
set_option linter.unusedSimpArgs false
set_option linter.unusedVariables false
set_option linter.unusedSectionVars false
namespace Go.Ev
theorem Rel.update {ρ:Ren} {H:Heap} {w w':World} (R:Rel ρ H w) {b:Nat} {l:Loc} {o o':AObj} (hl:ρ b=some l) (hg:H.get b=some o) (hw:o.writable=true) (hw':o'.writable=true)
  (hh:∀ i,i≠l.cb→w'.heap[i]?=w.heap[i]?) (hs:w'.heap.size=w.heap.size) (ho:ORel ρ l o' w'.heap[l.cb]?) (h1:w'.os=w.os) (h2:w'.tape=w.tape) (h3:w'.output=w.output) :
  Rel ρ (H.put b (some o')) w'∧Stp ρ H w ρ (H.put b (some o')) w':=by
 refine ⟨⟨fun c hc=>by have:=R.dom b l hl;rw [Heap.get_put,if_neg (by simp at hc;omega)];exact R.wf c hc,fun c m h=>by simpa using R.dom c m h,fun c m h=>by rw [hs];exact R.cdom c m h,fun c m x h1 h2=>?_,fun c c' m m' x x' hne h1 h2 h3 h4 h5=>?_⟩,?_⟩
 ·rw [Heap.get_put] at h2
  split at h2
  ·rename_i e;subst e;cases h2
   rw [hl] at h1;cases h1
   exact ho
  ·rename_i e
   have:=R.sep b c l m o x (Ne.symm e) hl h1 hg h2 hw
   rw [hh _ (Ne.symm this)]
   exact R.live c m x h1 h2
 ·rw [Heap.get_put] at h3 h4
  have old:∃ y,H.get c=some y∧y.writable=true:=by
   split at h3
   ·rename_i e;subst e;exact ⟨o,hg,hw⟩
   ·exact ⟨x,h3,h5⟩
  have old':∃ y,H.get c'=some y:=by
   split at h4
   ·rename_i e;subst e;exact ⟨o,hg⟩
   ·exact ⟨x',h4⟩
  obtain ⟨y,e1,e2⟩:=old
  obtain ⟨y',e3⟩:=old'
  exact R.sep c c' m m' y y' hne h1 h2 e1 e3 e2
 ·refine ⟨Ren.le_refl _,fun _ _ h=>.inl h,Nat.le_refl _,fun c h _=>?_,by rw [hs];exact Nat.le_refl _,fun i h=>.inl ?_,fun i hi hno=>hh i ?_,h1,h2,h3⟩
  ·rw [Heap.get_put,if_neg]
   intro e;subst e;rw [hl] at h;cases h
  ·obtain ⟨c,m,x,e1,e2,e3,e4⟩:=h
   rw [Heap.get_put] at e2
   split at e2
   ·rename_i e;subst e;exact ⟨c,m,o,e1,hg,hw,e4⟩
   ·exact ⟨c,m,x,e1,e2,e3,e4⟩
  ·intro e
   exact hno ⟨b,l,o,hl,hg,hw,e.symm⟩
theorem Rel.kill {ρ:Ren} {H:Heap} {w:World} (R:Rel ρ H w) {b:Nat} {l:Loc} (hl:ρ b=some l):Rel ρ (H.put b none) w∧Stp ρ H w ρ (H.put b none) w:=by
 have old:∀ c x,(H.put b none).get c=some x→H.get c=some x:=fun c x h=>by
  rw [Heap.get_put] at h
  split at h
  ·cases h
  ·exact h
 refine ⟨⟨fun c hc=>by have:=R.dom b l hl;rw [Heap.get_put,if_neg (by simp at hc;omega)];exact R.wf c hc,fun c m h=>by simpa using R.dom c m h,R.cdom,fun c m x h1 h2=>R.live c m x h1 (old c x h2),fun c c' m m' x x' hne h1 h2 h3 h4 h5=>R.sep c c' m m' x x' hne h1 h2 (old _ _ h3) (old _ _ h4) h5⟩,?_⟩
 refine ⟨Ren.le_refl _,fun _ _ h=>.inl h,Nat.le_refl _,fun c h _=>?_,Nat.le_refl _,fun i h=>.inl ?_,fun i hi hno=>rfl,rfl,rfl,rfl⟩
 ·rw [Heap.get_put,if_neg]
  intro e;subst e;rw [hl] at h;cases h
 ·obtain ⟨c,m,x,e1,e2,e3,e4⟩:=h
  exact ⟨c,m,x,e1,old c x e2,e3,e4⟩
def Ren.add (ρ:Ren) (b:Nat) (l:Loc):Ren:=fun c=>if c=b then some l else ρ c
theorem Ren.le_add {ρ:Ren} {b:Nat} (l:Loc) (h:ρ b=none):ρ.le (ρ.add b l):=fun c m e=>by
 unfold Ren.add
 rw [if_neg]
 ·exact e
 ·intro q;subst q;rw [h] at e;cases e
theorem Ren.add_eq (ρ:Ren) (b:Nat) (l:Loc):(ρ.add b l) b=some l:=by simp [Ren.add]
theorem Rel.fresh {ρ:Ren} {H:Heap} {w:World} (R:Rel ρ H w) {b:Nat} (hb:H.next≤b):ρ b=none:=by
 cases h:ρ b with
 | none=>rfl
 | some l=>have:=R.dom b l h;omega
theorem Rel.add {ρ:Ren} {H:Heap} {w w':World} (R:Rel ρ H w) {ob:AObj} {loc:Loc} (hs:w.heap.size≤w'.heap.size)
  (hh:∀ i,i < w.heap.size→i≠loc.cb→w'.heap[i]?=w.heap[i]?) (hc:loc.cb < w'.heap.size) (hsep:∀ c m x,ρ c=some m→H.get c=some x→m.cb≠loc.cb)
  (ho:ORel (ρ.add H.next loc) loc ob w'.heap[loc.cb]?):Rel (ρ.add H.next loc) (H.push ob) w':=by
 have hfr:=R.fresh (Nat.le_refl H.next)
 have hle:=Ren.le_add loc hfr
 refine ⟨fun c hc=>by simp only [Heap.next_push] at hc;rw [Heap.get_push,if_neg (by omega)];exact R.wf c (by omega),fun c m h=>?_,fun c m h=>?_,fun c m x h1 h2=>?_,fun c c' m m' x x' hne h1 h2 h3 h4 h5=>?_⟩
 ·unfold Ren.add at h
  simp only [Heap.next_push]
  split at h
  ·omega
  ·have:=R.dom c m h;omega
 ·unfold Ren.add at h
  split at h
  ·cases h;exact hc
  ·exact Nat.lt_of_lt_of_le (R.cdom c m h) hs
 ·unfold Ren.add at h1
  rw [Heap.get_push] at h2
  split at h1
  ·rename_i e
   cases h1
   rw [if_pos e] at h2;cases h2
   exact ho
  ·rename_i e
   rw [if_neg e] at h2
   rw [hh _ (R.cdom c m h1) (hsep c m x h1 h2)]
   exact (R.live c m x h1 h2).mono hle
 ·unfold Ren.add at h1 h2
  rw [Heap.get_push] at h3 h4
  by_cases e:c=H.next
  ·rw [if_pos e] at h1 h3
   cases h1
   have e':c'≠H.next:=fun q=>hne (e.trans q.symm)
   rw [if_neg e'] at h2 h4
   exact (hsep c' m' x' h2 h4).symm
  ·rw [if_neg e] at h1 h3
   by_cases e':c'=H.next
   ·rw [if_pos e'] at h2 h4
    cases h2
    exact hsep c m x h1 h3
   ·rw [if_neg e'] at h2 h4
    exact R.sep c c' m m' x x' hne h1 h2 h3 h4 h5
theorem Stp.add {ρ:Ren} {H:Heap} {w w':World} (R:Rel ρ H w) {ob:AObj} {loc:Loc} (hs:w.heap.size≤w'.heap.size)
  (hh:∀ i,i < w.heap.size→i≠loc.cb→w'.heap[i]?=w.heap[i]?) (hown:Own ρ H loc.cb∨w.heap.size≤loc.cb) (h1:w'.os=w.os) (h2:w'.tape=w.tape) (h3:w'.output=w.output) :
  Stp ρ H w (ρ.add H.next loc) (H.push ob) w':=by
 have hfr:=R.fresh (Nat.le_refl H.next)
 refine ⟨Ren.le_add loc hfr,fun c m h=>?_,by simp,fun c h hc=>?_,hs,fun i h=>?_,fun i hi hno=>hh i hi ?_,h1,h2,h3⟩
 ·unfold Ren.add at h
  split at h
  ·exact .inr (by omega)
  ·exact .inl h
 ·rw [Heap.get_push,if_neg (by omega)]
 ·obtain ⟨c,m,x,e1,e2,e3,e4⟩:=h
  unfold Ren.add at e1
  rw [Heap.get_push] at e2
  split at e1
  ·cases e1;rw [←e4];exact hown
  ·rename_i e
   rw [if_neg e] at e2
   exact .inl ⟨c,m,x,e1,e2,e3,e4⟩
 ·intro e
  subst e
  rcases hown with h|h
  ·exact hno h
  ·omega
theorem heap_push_get {α:Type} (a:Array α) (x:α) (i:Nat) (h:i < a.size):(a.push x)[i]?=a[i]?:=by
 rw [Array.getElem?_push,if_neg (by omega)]
theorem Makes.step {P:Program} {ρ:Ren} {H:Heap} {w:World} (R:Rel ρ H w) {cev:Operand→Value} {o:Oper} {ob:AObj} {f:Nat→Value} (h:Makes P ρ cev o w ob f) :
  ∃ ρ' w' cv,(execOp cev o).run P w=.ok (.value cv) w'∧VRel ρ' (f H.next) cv∧Stp ρ H w ρ' (H.push ob) w'∧Rel ρ' (H.push ob) w':=by
 obtain ⟨cv,w',cob,loc,h1,h2,h3,h4,h5,h6,h7⟩:=h
 have hfr:=R.fresh (Nat.le_refl H.next)
 obtain ⟨v1,v2⟩:=h7 (ρ.add H.next loc) H.next (Ren.le_add loc hfr) (Ren.add_eq _ _ _)
 have hs:w.heap.size≤w'.heap.size:=by rw [h2];simp
 have hh:∀ i,i < w.heap.size→i≠loc.cb→w'.heap[i]?=w.heap[i]?:=fun i hi _=>by rw [h2];exact heap_push_get _ _ _ hi
 refine ⟨ρ.add H.next loc,w',cv,h1,v1,Stp.add R hs hh (.inr (by omega)) h3 h4 h5,Rel.add R hs hh (by rw [h2,h6];simp) (fun c m x e1 e2=>?_) ?_⟩
 ·have:=R.cdom c m e1;omega
 ·rw [h2,h6];simpa using v2
def cellsSet (C:Array Value) (p:Nat):List Value→Array Value
 | []=>C
 | v::r=>cellsSet (C.setIfInBounds p v) (p+1) r
theorem cellsSet_size (xs:List Value):∀ (C:Array Value) (p:Nat),(cellsSet C p xs).size=C.size:=by
 induction xs with
 | nil=>intro C p;rfl
 | cons v r ih=>intro C p;rw [cellsSet,ih];simp
theorem cellsSet_get (xs:List Value):∀ (C:Array Value) (p k:Nat),p+xs.length≤C.size→(cellsSet C p xs)[k]?=if p≤k∧k < p+xs.length then xs[k - p]? else C[k]?:=by
 induction xs with
 | nil=>intro C p k _;simp [cellsSet];omega
 | cons v r ih =>
  intro C p k hle
  simp only [List.length_cons] at hle ⊢
  rw [cellsSet,ih _ _ _ (by simp;omega)]
  by_cases h1:p+1≤k∧k < p+1+r.length
  ·rw [if_pos h1,if_pos (by omega)]
   rw [show k - p=(k - (p+1))+1 by omega]
   simp
  ·rw [if_neg h1,Array.getElem?_setIfInBounds]
   by_cases h2:p=k
   ·subst h2
    rw [if_pos rfl,if_pos (by omega),if_pos (by omega)]
    simp
   ·rw [if_neg h2,if_neg (by omega)]
theorem setCell_heap (w:World) (g off:Nat) (v:Value) (C:Array Value) (et:TypeId) (fz:Nat×Nat) (h:w.heap[g]?=some (.cells C et fz)) :
  w.setCell ⟨g,off,none⟩ v={ w with heap:=w.heap.setIfInBounds g (.cells (C.setIfInBounds off v) et fz) }:=by
 simp only [World.setCell]
 congr 1
 apply Array.ext_getElem?
 intro i
 rw [Array.getElem?_modify,Array.getElem?_setIfInBounds]
 have hg:g < w.heap.size:=by
  rcases Nat.lt_or_ge g w.heap.size with h'|h'
  ·exact h'
  ·rw [Array.getElem?_eq_none h'] at h;cases h
 by_cases e:g=i
 ·subst e
  rw [if_pos rfl,if_pos rfl,if_pos hg,h]
  rfl
 ·rw [if_neg e,if_neg e]
theorem storeCells_run {P:Program} (g p:Nat) (et:TypeId) (fz:Nat×Nat):∀ (xs:List Value) (i:Nat) (C:Array Value) (w:World),w.heap[g]?=some (.cells C et fz)→p+i+xs.length≤C.size →
  (∀ k,p+i≤k→k < p+i+xs.length→¬ (fz.1≤k∧k < fz.2))→xs.all Value.oneCell'=true →
  (storeCells ⟨g,p,none⟩ xs i).run P w=.ok () (if xs=[] then w else { w with heap:=w.heap.setIfInBounds g (.cells (cellsSet C (p+i) xs) et fz) })
 | [],i,C,w,_,_,_,_=>by simp [storeCells]
 | v::r,i,C,w,h,hle,hfz,hone=>by
  simp only [List.length_cons] at hle hfz
  simp only [List.all_cons,Bool.and_eq_true] at hone
  have ha:(Addr.add ⟨g,p,none⟩ i)=⟨g,p+i,none⟩:=by unfold Addr.add;split<;>simp_all
  have hc:w.cell? ⟨g,p+i,none⟩=some (C[p+i]'(by omega)):=by simp [World.cell?,h,Array.getElem?_eq_getElem (show p+i < C.size by omega)]
  have hf:w.frozen? ⟨g,p+i,none⟩=false:=by
   have:=hfz (p+i) (by omega) (by omega)
   simp only [World.frozen?,h]
   simp only [Bool.and_eq_false_iff,decide_eq_false_iff_not]
   omega
  have hst:(store ⟨g,p+i,none⟩ v).run P w=.ok () (w.setCell ⟨g,p+i,none⟩ v):=by
   rw [run_store _ _ _ _ _ hone.1]
   simp [hc,hf]
  have hsc:=setCell_heap w g (p+i) v C et fz h
  have hg:g < w.heap.size:=by
   rcases Nat.lt_or_ge g w.heap.size with h'|h'
   ·exact h'
   ·rw [Array.getElem?_eq_none h'] at h;cases h
  have ih:=storeCells_run (P:=P) g p et fz r (i+1) (C.setIfInBounds (p+i) v) (w.setCell ⟨g,p+i,none⟩ v) (by rw [hsc];simp [hg]) (by simp;omega)
   (fun k k1 k2=>hfz k (by omega) (by omega)) hone.2
  simp only [storeCells,Sem.run_bind,ha,hst,Result.andThen_ok]
  rw [ih,hsc]
  simp only [List.cons_ne_nil,if_false,cellsSet]
  split
  ·rename_i e;subst e;rfl
  ·congr 2
   apply Array.ext_getElem?
   intro j
   simp only [Array.getElem?_setIfInBounds,Array.size_setIfInBounds]
   split<;>simp_all
   rfl
theorem okCells_rel {ρ:Ren} {xs cxs:List Value} (h:LRel ρ xs cxs) (hok:okCells xs=true):cxs.all Value.oneCell'=true:=by
 induction h with
 | nil=>rfl
 | cons r _ ih =>
  simp only [okCells,List.all_cons,Bool.and_eq_true] at hok ih ⊢
  exact ⟨by cases r<;>simp_all [Value.oneCell'],ih hok.2⟩
theorem ORel.set {ρ:Ren} {l:Loc} {vs vs':List Value} {g:Nat} {C:Array Value} {et:TypeId} {fz:Nat×Nat} {off:Nat} {xs cxs:List Value} (ho:ORel ρ l (.cells vs true g) (some (.cells C et fz)))
  (hv:setCells vs off xs=some vs') (hx:LRel ρ xs cxs):ORel ρ l (.cells vs' true g) (some (.cells (cellsSet C (l.base+off) cxs) et fz))∧off+cxs.length≤l.ext∧l.base+off+cxs.length≤C.size:=by
 obtain ⟨e1,e2,e3,C',et',fz',e4,e5,e6,e7⟩:=ho
 cases e4
 unfold setCells at hv
 split at hv
 ·rename_i hle
  cases hv
  have hxl:=hx.length
  have hb:l.base+off+cxs.length≤C.size:=by omega
  refine ⟨⟨by simp;omega,e2,e3,_,et,fz,rfl,by rw [cellsSet_size];exact e5,fun i v hi=>?_,fun _ i hi=>e7 rfl i hi⟩,by omega,hb⟩
  rw [cellsSet_get _ _ _ _ hb]
  rw [List.getElem?_append] at hi
  simp only [List.length_take] at hi
  split at hi
  ·rename_i h1
   rw [List.getElem?_take] at hi
   split at hi
   ·obtain ⟨cv,q1,q2⟩:=e6 i v hi
    refine ⟨cv,?_,q2⟩
    rw [if_neg (by omega)]
    exact q1
   ·cases hi
  ·rename_i h1
   rw [List.getElem?_append] at hi
   have hmin:min off vs.length=off:=by omega
   rw [hmin] at hi h1
   split at hi
   ·rename_i h2
    obtain ⟨cv,q1,q2⟩:=hx.get _ v hi
    refine ⟨cv,?_,q2⟩
    rw [if_pos (by omega),show l.base+i - (l.base+off)=i - off by omega]
    exact q1
   ·rename_i h2
    rw [List.getElem?_drop] at hi
    obtain ⟨cv,q1,q2⟩:=e6 _ v hi
    refine ⟨cv,?_,q2⟩
    rw [if_neg (by omega)]
    rw [show l.base+i=l.base+(off+xs.length+(i - off - xs.length)) by omega]
    exact q1
 ·cases hv
theorem write_sim {P:Program} {ρ:Ren} {H H':Heap} {w:World} (R:Rel ρ H w) {b off:Nat} {l:Loc} {xs cxs:List Value} (hl:ρ b=some l) (h:H.write b off xs=some H') (hx:LRel ρ xs cxs) (hok:okCells xs=true) :
  ∃ w',(storeCells ⟨l.cb,l.base+off,none⟩ cxs).run P w=.ok () w'∧Stp ρ H w ρ H' w'∧Rel ρ H' w':=by
 unfold Heap.write at h
 split at h
 ·rename_i vs g hg
  simp only [Option.map_eq_some_iff] at h
  obtain ⟨vs',hv,rfl⟩:=h
  have hor:=R.live b l _ hl hg
  have hor':=hor
  obtain ⟨e1,e2,e3,C,et,fz,e4,e5,e6,e7⟩:=hor
  rw [e4] at hor'
  obtain ⟨o1,o2,o3⟩:=ORel.set hor' hv hx
  have hrun:=storeCells_run (P:=P) l.cb (l.base+off) et fz cxs 0 C w e4 (by simpa using o3) (fun k k1 k2=>by
   have:=e7 rfl (k - l.base) (by omega)
   rw [show l.base+(k - l.base)=k by omega] at this
   exact this) (okCells_rel hx hok)
  have hcb:=R.cdom b l hl
  refine ⟨_,hrun,?_⟩
  have up:=Rel.update (w':=if cxs=[] then w else { w with heap:=w.heap.setIfInBounds l.cb (.cells (cellsSet C (l.base+off+0) cxs) et fz) }) R hl hg rfl (o':=.cells vs' true g) rfl ?_ ?_ ?_ ?_ ?_ ?_
  ·exact ⟨up.2,up.1⟩
  ·intro i hi
   split
   ·rfl
   ·simp [Array.getElem?_setIfInBounds,Ne.symm hi]
  ·split<;>simp
  ·split
   ·rename_i e
    subst e
    simpa [e4,cellsSet] using o1
   ·simpa [hcb] using o1
  ·split<;>rfl
  ·split<;>rfl
  ·split<;>rfl
 ·cases h
end Go.Ev
namespace Go.Ev
theorem loads_heap {P:Program} {w w2:World} (hh:w2.heap=w.heap) {a:Addr} {cs:List Value} (h:∀ j v,cs[j]?=some v→w.cell? (a.add j)=some v):(loadCells a cs.length).run P w2=.ok cs.toArray w2 :=
 run_loadCells_list (P:=P) w2 a cs (fun j v hj=>by have:=h j v hj;simp only [World.cell?,hh] at this ⊢;exact this)
theorem src_sim {P:Program} {ρ:Ren} {H:Heap} {w:World} (R:Rel ρ H w) {size:Nat} {x cx:Value} {k:Nat} {new:List Value} (h:srcCells H size x=some (k,new)) (hx:VRel ρ x cx) :
  ∃ cnew,LRel ρ new cnew∧new.length=k*size∧(∀ w2:World,(Builtin.lenOf cx).run P w2=.ok k w2) ∧
   ∀ (w2:World) (m:Nat),w2.heap=w.heap→m≤k→(Builtin.firstCells size m cx).run P w2=.ok (cnew.take (m*size)).toArray w2:=by
 unfold srcCells at h
 split at h
 ·rename_i n c
  split at h
  ·rename_i h0
   cases h
   cases hx
   exact ⟨[],.nil,by simp,fun w2=>by simp [Builtin.lenOf],fun w2 m _ hm=>by simp [Builtin.firstCells]⟩
  ·cases h
 ·rename_i b off n c
  simp only [Option.bind_eq_bind,Option.bind_eq_some_iff,Option.some.injEq,Prod.mk.injEq] at h
  obtain ⟨cs,hcs,rfl,rfl⟩:=h
  cases hx with
  | slice _ _ _ _ c' l hl hn hc =>
   obtain ⟨ccs,q1,q2,q3⟩:=R.cells hl hcs
   refine ⟨ccs,q1,q2,fun w2=>by simp [Builtin.lenOf],fun w2 m hh hm=>?_⟩
   simp only [Builtin.firstCells]
   have hlen:(ccs.take (m*size)).length=m*size:=by
    rw [List.length_take,←q1.length,q2]
    exact Nat.min_eq_left (Nat.mul_le_mul_right _ hm)
   have:=loads_heap (P:=P) hh (a:=⟨l.cb,l.base+off,none⟩) (cs:=ccs.take (m*size)) (fun j v hj=>q3 j v (by
    rw [List.getElem?_take] at hj
    split at hj
    ·exact hj
    ·cases hj))
   rwa [hlen] at this
  | empty _ _ a l0 hl0 =>
   have h0:cs=[]:=by
    unfold Heap.read at hcs
    split at hcs
    ·have:=(getCells_some hcs).2.2
     simpa using this
    ·cases hcs
   subst h0
   exact ⟨[],.nil,by simp,fun w2=>by simp [Builtin.lenOf],fun w2 m _ hm=>by
    have:m=0:=by omega
    subst this
    simp [Builtin.firstCells,loadCells,loadCellsFrom]⟩
 ·rename_i s
  split at h
  ·rename_i h1
   cases h
   cases hx
   subst h1
   refine ⟨s.data.toList.map fun b=>.int .u8 b.toNat,?_,by simp,fun w2=>by simp [Builtin.lenOf],fun w2 m _ hm=>?_⟩
   ·generalize s.data.toList=l
    induction l with
    | nil=>exact .nil
    | cons a l ih=>exact .cons (.int _ _) ih
   ·simp only [Builtin.firstCells,Sem.run_pure]
    congr 1
    apply Array.ext'
    simp [ByteArray.data_extract,List.map_take]
  ·cases h
 ·cases h
section
variable {P:Program} {T:Tab} (tok:TabOK P T)
include tok
theorem append_room {t u e:TypeId} {i i' j:TI} (hi:T t=some i) (hd:i.d=.slice e) (hi':T u=some i') (hni:∀ q,i'.d≠.int q) (hj:T e=some j) (ty:TypeId) {base:Option Addr} {n c k:Nat} {cx:Value} {cnew:List Value} {w:World}
  (hlen:(Builtin.lenOf cx).run P w=.ok k w) (hcells:(Builtin.firstCells j.size k cx).run P w=.ok cnew.toArray w) (hr:n+k≤c) :
  (Builtin.append_ #[t,u] ty #[.slice base n c,cx]).run P w=(((match base with
   | some a=>storeCells (a.add (n*j.size)) cnew
   | none=>pure ():Sem Unit)).run P w).andThen fun _ w'=>.ok (.slice base (n+k) c) w':=by
 have hz:(match i'.d with|.int _=>true|_=>false)=false:=by cases hq:i'.d<;>simp;exact absurd hq (hni _)
 simp only [Builtin.append_,Sem.run_bind,Sem.run_pure]
 simp [tok.r_und hi,hd,tok.r_size hj,tok.r_und hi']
 (try rw [show (match i'.d with|.int _=>true|_=>false)=false from hz])
 simp [hlen,hr,hcells]
 cases base<;>simp
theorem append_grow {t u e:TypeId} {i i' j:TI} (hi:T t=some i) (hd:i.d=.slice e) (hi':T u=some i') (hni:∀ q,i'.d≠.int q) (hj:T e=some j) (ty:TypeId) {base:Option Addr} {n c k:Nat} {cx:Value} {cold cnew:List Value} {w:World}
  (hlen:(Builtin.lenOf cx).run P w=.ok k w) (hcells:(Builtin.firstCells j.size k cx).run P w.drew=.ok cnew.toArray w.drew) (hold:(Builtin.firstCells j.size n (.slice base n c)).run P w.drew=.ok cold.toArray w.drew)
  (hr:c < n+k) (hb:j.bytes*(n+k)≤140737488355328) (hbs:n+k≤9223372036854775807) :
  ∃ z:Array Value,z.toList=j.zero∧(Builtin.append_ #[t,u] ty #[.slice base n c,cx]).run P w =
   .ok (.slice (some ⟨w.heap.size,0,none⟩) (n+k) (grownCap w (n+k) c e)) (w.drew.alloc (.cells ((cold++cnew).toArray++Builtin.zeroCells z (grownCap w (n+k) c e - (n+k))) e)):=by
 have hz:(match i'.d with|.int _=>true|_=>false)=false:=by cases hq:i'.d<;>simp;exact absurd hq (hni _)
 obtain ⟨fi,zv,q1,q2,q3,q4,q5⟩:=tok.info e j hj
 refine ⟨zv.cells,ofCells_cells q5 (tok.zok e j hj).1,?_⟩
 have h48:¬ (281474976710656 < Builtin.nextslicecap (n+k) c*fi.bytes):=by
  have:=growslice_fits (bytes:=fi.bytes) hr (by rw [q3,Nat.mul_comm];exact hb)
  omega
 have h63:¬ ((9223372036854775807:Int) < ((n:Int)+(k:Int))):=by omega
 simp only [Builtin.append_,Sem.run_bind,Sem.run_pure]
 simp [tok.r_und hi,hd,tok.r_size hj,tok.r_und hi']
 (try rw [show (match i'.d with|.int _=>true|_=>false)=false from hz])
 have hnr:¬ (n+k≤c):=by omega
 simp [hlen,hnr,h63,typeInfo,q1,h48,Question.forced,hold,hcells,zeroValue,q4,newRow,grownCap]
 congr 2
 apply Array.ext'
 simp
end
theorem grown_new {ρ:Ren} {H:Heap} {w:World} (R:Rel ρ H w) {size k cap:Nat} {x cx:List Value} (hx:LRel ρ x cx) (hl:x.length=k*size) (hs:0 < size) (hk:k≤cap) (z:Array Value) (hz:z.size=size) (e:TypeId) :
  ∃ ρ',VRel ρ' (.slice (some ⟨H.next,0,none⟩) k k) (.slice (some ⟨w.heap.size,0,none⟩) k cap) ∧
   Stp ρ H w ρ' (H.push (.cells x true size)) (w.drew.alloc (.cells (cx.toArray++Builtin.zeroCells z (cap - k)) e)) ∧
   Rel ρ' (H.push (.cells x true size)) (w.drew.alloc (.cells (cx.toArray++Builtin.zeroCells z (cap - k)) e)):=by
 let cob:Obj:=.cells (cx.toArray++Builtin.zeroCells z (cap - k)) e
 let loc:Loc:=⟨w.heap.size,0,x.length,x.length+(Builtin.zeroCells z (cap - k)).size,size⟩
 have hzs:(Builtin.zeroCells z (cap - k)).size=(cap - k)*size:=by simp [Builtin.zeroCells,hz]
 have hfr:=R.fresh (Nat.le_refl H.next)
 have hheap:(w.drew.alloc cob).heap=w.heap.push cob:=rfl
 have hh:∀ i,i < w.heap.size→i≠loc.cb→(w.drew.alloc cob).heap[i]?=w.heap[i]?:=fun i hi _=>heap_push_get _ _ _ hi
 refine ⟨ρ.add H.next loc,?_,Stp.add R (by rw [hheap];simp) hh (.inr (Nat.le_refl _)) rfl rfl rfl,Rel.add R (by rw [hheap];simp) hh (by rw [hheap];simp [loc]) (fun c m y e1 e2=>?_) ?_⟩
 ·have:=VRel.slice (ρ:=ρ.add H.next loc) H.next 0 k k cap loc (Ren.add_eq _ _ _) (Nat.le_refl _) (.inr ⟨hs,by simp [loc,hl],hk,by
   show 0+cap*size≤x.length+(Builtin.zeroCells z (cap - k)).size
   rw [hzs,hl,←Nat.add_mul]
   have:k+(cap - k)=cap:=by omega
   rw [this];omega⟩)
  simpa [loc] using this
 ·have:=R.cdom c m e1
  simp only [loc];omega
 ·have h1:LRel (ρ.add H.next loc) x cx.toArray.toList:=by simpa using hx.mono (Ren.le_add loc hfr)
  have:=ORel.new h1 w.heap.size e size (x.length+(Builtin.zeroCells z (cap - k)).size) (Builtin.zeroCells z (cap - k)) rfl (0,0) (fun i _=>by simp)
  rw [hheap]
  simpa [loc,cob] using this
theorem readd {ρ:Ren} {H:Heap} {w w':World} (R:Rel ρ H w) {b:Nat} {l loc:Loc} {o ob:AObj} (hl:ρ b=some l) (hg:H.get b=some o) (hw:o.writable=true) (hcb:loc.cb=l.cb) (hs:w'.heap.size=w.heap.size)
  (hh:∀ i,i≠l.cb→w'.heap[i]?=w.heap[i]?) (ho:∀ ρ':Ren,ρ.le ρ'→ORel ρ' loc ob w'.heap[l.cb]?) (h1:w'.os=w.os) (h2:w'.tape=w.tape) (h3:w'.output=w.output) :
  Stp ρ H w (ρ.add H.next loc) ((H.put b none).push ob) w'∧Rel (ρ.add H.next loc) ((H.put b none).push ob) w':=by
 have hfr:=R.fresh (Nat.le_refl H.next)
 have hle:=Ren.le_add loc hfr
 obtain ⟨k1,k2⟩:=R.kill hl
 have old:∀ c x,(H.put b none).get c=some x→H.get c=some x∧c≠b:=fun c x h=>by
  rw [Heap.get_put] at h
  split at h
  ·cases h
  ·exact ⟨h,by assumption⟩
 have hown:Own ρ H l.cb:=⟨b,l,o,hl,hg,hw,rfl⟩
 refine ⟨⟨hle,fun c m h=>?_,by simp,fun c h hc=>?_,by rw [hs];exact Nat.le_refl _,fun i h=>.inl ?_,fun i hi hno=>hh i ?_,h1,h2,h3⟩,?_⟩
 ·unfold Ren.add at h
  split at h
  ·exact .inr (by omega)
  ·exact .inl h
 ·rw [Heap.get_push,if_neg (by simp;omega),Heap.get_put,if_neg]
  intro e;subst e;rw [hl] at h;cases h
 ·obtain ⟨c,m,x,e1,e2,e3,e4⟩:=h
  unfold Ren.add at e1
  rw [Heap.get_push] at e2
  split at e1
  ·cases e1;rw [←e4,hcb];exact hown
  ·rename_i e
   rw [if_neg (by simpa using e)] at e2
   exact ⟨c,m,x,e1,(old c x e2).1,e3,e4⟩
 ·intro e;subst e;exact hno hown
 ·have:=Rel.add (w':=w') (ob:=ob) (loc:=loc) k1 (by rw [hs];exact Nat.le_refl _) (fun i _ hi=>hh i (by rw [←hcb];exact hi)) (by rw [hcb,hs];exact R.cdom b l hl)
   (fun c m x e1 e2=>by rw [hcb];exact (R.sep b c l m o x (Ne.symm (old c x e2).2) hl e1 hg (old c x e2).1 hw).symm) (by rw [hcb];exact ho _ (by simpa using hle))
  simpa using this
theorem le_grownCap (w:World) (need old:Nat) (e:TypeId) (h:need≤9223372036854775807):need≤grownCap w need old e:=by
 simp only [grownCap,Question.cut];omega
set_option maxHeartbeats 1000000 in
theorem append_simK {P:Program} {T:Tab} (tok:TabOK P T) {ρ:Ren} {H H':Heap} {w:World} (R:Rel ρ H w) {t u e:TypeId} {j:TI} (hj:T e=some j)
  {ty:TypeId} {s cs cx v:Value} {k:Nat} {new cnew:List Value} (h:aappendK j H s k new=some (v,H')) (rs:VRel ρ s cs) (n1:LRel ρ new cnew) (n2:new.length=k*j.size)
  (room:∀ {base:Option Addr} {n c:Nat},n+k≤c→(Builtin.append_ #[t,u] ty #[.slice base n c,cx]).run P w=(((match base with
   | some a=>storeCells (a.add (n*j.size)) cnew
   | none=>pure ():Sem Unit)).run P w).andThen fun _ w'=>.ok (.slice base (n+k) c) w')
  (grow0:∀ {base:Option Addr} {n c:Nat} {cold:List Value},(Builtin.firstCells j.size n (.slice base n c)).run P w.drew=.ok cold.toArray w.drew→c < n+k→j.bytes*(n+k)≤140737488355328→n+k≤9223372036854775807 →
   ∃ z:Array Value,z.toList=j.zero∧(Builtin.append_ #[t,u] ty #[.slice base n c,cx]).run P w =
    .ok (.slice (some ⟨w.heap.size,0,none⟩) (n+k) (grownCap w (n+k) c e)) (w.drew.alloc (.cells ((cold++cnew).toArray++Builtin.zeroCells z (grownCap w (n+k) c e - (n+k))) e))) :
  ∃ ρ' w' cv,(Builtin.append_ #[t,u] ty #[cs,cx]).run P w=.ok cv w'∧VRel ρ' v cv∧Stp ρ H w ρ' H' w'∧Rel ρ' H' w':=by
 unfold aappendK at h
 have hcl:cnew.length=k*j.size:=by rw [←n1.length];exact n2
 have hzs:=(tok.zok e j hj).2
 -- growing in a new block, from any abstract heap H1 in step
 have grow:∀ {H1:Heap} {cs':Value} {base:Option Addr} {n c:Nat} {old cold:List Value},Rel ρ H1 w→cs'=.slice base n c→LRel ρ old cold→old.length=n*j.size →
   (Builtin.firstCells j.size n (.slice base n c)).run P w.drew=.ok cold.toArray w.drew→c < n+k→0 < j.size→j.bytes*(n+k)≤140737488355328→n+k≤9223372036854775807 →
   ∃ ρ' w' cv,(Builtin.append_ #[t,u] ty #[cs',cx]).run P w=.ok cv w'∧VRel ρ' (.slice (some ⟨H1.next,0,none⟩) (n+k) (n+k)) cv∧Stp ρ H1 w ρ' (H1.push (.cells (old++new) true j.size)) w'∧Rel ρ' (H1.push (.cells (old++new) true j.size)) w':=by
  intro H1 cs' base n c old cold R1 hcs hold hol hf hc hs hb hb2
  subst hcs
  obtain ⟨z,z1,z2⟩:=grow0 hf hc hb hb2
  obtain ⟨ρ',g1,g2,g3⟩:=grown_new R1 (hold.append n1) (by rw [List.length_append,hol,n2,Nat.add_mul]) hs (le_grownCap w (n+k) c e hb2) z (by rw [←hzs,←z1];simp) e
  exact ⟨ρ',_,_,z2,g1,g2,g3⟩
 have bnd:∀ m,0 < j.size→j.bytes*m≤140737488355328→okCells new=true→m≤9223372036854775807∨True:=fun _ _ _ _=>.inr trivial
 split at h
 ·cases rs
  split at h
  ·rename_i hk0
   cases h
   subst hk0
   have hr:=room (base:=none) (n:=0) (c:=0) (Nat.le_refl _)
   exact ⟨ρ,w,.slice none 0 0,by rw [hr];simp,.nilslice,Stp.refl _ _ _,R⟩
  ·split at h
   ·rename_i hk0 hb
    cases h
    obtain ⟨b1,b2,b4,b3⟩:=hb
    have:=grow (H1:=H) (cs':=.slice none 0 0) (base:=none) (n:=0) (c:=0) (old:=[]) (cold:=[]) R rfl .nil (by simp) (by simp [Builtin.firstCells]) (by omega) b1 (by simpa using b2) (by omega)
    simpa using this
   ·cases h
 ·rename_i b off n c
  split at h
  ·rename_i hroom
   split at h
   ·rename_i hk0
    cases h
    subst hk0
    have hcn:cnew=[]:=List.eq_nil_of_length_eq_zero (by simpa using hcl)
    subst hcn
    cases rs with
    | slice _ _ _ _ c' l hl hn hc =>
     have hr:=room (base:=some ⟨l.cb,l.base+off,none⟩) (n:=n) (c:=c') (by have:=hc.le;omega)
     exact ⟨ρ,w,.slice (some ⟨l.cb,l.base+off,none⟩) n c',by rw [hr];simp [storeCells],.slice _ _ _ _ _ l hl hn hc,Stp.refl _ _ _,R⟩
    | empty _ _ a l0 hl0 =>
     have hr:=room (base:=some a) (n:=0) (c:=0) (Nat.le_refl _)
     exact ⟨ρ,w,.slice (some a) 0 0,by rw [hr];simp [storeCells],VRel.empty _ _ a l0 hl0,Stp.refl _ _ _,R⟩
   ·rename_i hk0
    split at h
    ·rename_i hok
     simp only [Option.bind_eq_bind,Option.bind_eq_some_iff,Option.some.injEq,Prod.mk.injEq] at h
     obtain ⟨H1,hw,rfl,rfl⟩:=h
     cases rs with
     | slice _ _ _ _ c' l hl hn hc =>
      have hr:=room (base:=some ⟨l.cb,l.base+off,none⟩) (n:=n) (c:=c') (by have:=hc.le;omega)
      obtain ⟨w',s1,s2,s3⟩:=write_sim (P:=P) R hl hw n1 hok
      have ha:(Addr.add ⟨l.cb,l.base+off,none⟩ (n*j.size))=⟨l.cb,l.base+(off+n*j.size),none⟩:=by unfold Addr.add;split<;>simp_all;omega
      refine ⟨ρ,w',.slice (some ⟨l.cb,l.base+off,none⟩) (n+k) c',?_,.slice _ _ _ _ _ l hl hroom hc,s2,s3⟩
      rw [hr]
      simp only [ha,s1,Result.andThen_ok]
     | empty _ _ a l0 hl0=>omega
    ·cases h
  ·rename_i hroom
   split at h
   ·rename_i hb
    obtain ⟨b1,b2,b4,b3⟩:=hb
    split at h
    ·rename_i vs wr g hg
     simp only [Option.bind_eq_bind,Option.bind_eq_some_iff] at h
     obtain ⟨old,hold,h⟩:=h
     have hread:H.read b off (n*j.size)=some old:=by simp [Heap.read,hg,hold]
     split at h
     ·rename_i hoko
      obtain ⟨g1,g2,g3⟩:=getCells_some hold
      have bigok:n+k≤9223372036854775807:=by omega
      have oldcells:∀ l,ρ b=some l→∃ cold:List Value,LRel ρ old cold∧(Builtin.firstCells j.size n (.slice (some ⟨l.cb,l.base+off,none⟩) n n)).run P w.drew=.ok cold.toArray w.drew:=by
       intro l hl
       obtain ⟨ccs,q1,q2,q3⟩:=R.cells hl hread
       refine ⟨ccs,q1,?_⟩
       have:=loads_heap (P:=P) (w:=w) (w2:=w.drew) rfl q3
       rw [←q1.length,q2] at this
       simpa [Builtin.firstCells] using this
      have fc:∀ a n c c',(Builtin.firstCells j.size n (.slice (some a) n c))=(Builtin.firstCells j.size n (.slice (some a) n c')):=fun _ _ _ _=>rfl
      split at h
      ·rename_i hexact
       cases h
       cases rs with
       | slice _ _ _ _ c' l hl hn hc =>
        have hor:=R.live b l _ hl hg
        obtain ⟨o1,o2,o3,_⟩:=hor
        have hcc:c'=c:=by
         rcases hc with hc|hc
         ·exact hc
         ·rcases hexact with hx|hx
          ·omega
          ·rw [o1,o2] at hx;exact absurd hc.2.1 hx
        subst hcc
        obtain ⟨cold,q1,q2⟩:=oldcells l hl
        exact grow R rfl q1 g3 (by rw [fc _ _ c' n];exact q2) (by omega) b1 b2 bigok
       | empty _ _ a l0 hl0 =>
        have h0:old=[]:=List.eq_nil_of_length_eq_zero (by simpa using g3)
        subst h0
        exact grow R rfl .nil (by simp) (by simp [Builtin.firstCells,loadCells,loadCellsFrom]) (by omega) b1 b2 bigok
      ·split at h
       ·rename_i hexact hgs
        cases h
        obtain ⟨rfl,rfl⟩:=hgs
        cases rs with
        | slice _ _ _ _ c' l hl hn hc =>
         obtain ⟨k1,k2⟩:=R.kill hl
         by_cases hin:n+k≤c'
         ·have hor:=R.live b l _ hl hg
          obtain ⟨o1,o2,o3,C,et,fz,o4,o5,o6,o7⟩:=hor
          have hc2:0 < l.sz∧off+c*l.sz=l.ext∧c≤c'∧off+c'*l.sz≤l.full:=by
           rcases hc with hc|hc
           ·omega
           ·exact hc
          rw [←o2] at hc2
          have hk0:0 < k:=by omega
          have hne:cnew≠[]:=by
           intro q
           rw [q] at hcl
           have:=Nat.mul_pos hk0 b1
           simp at hcl;omega
          have hmul:(n+k)*j.size≤c'*j.size:=Nat.mul_le_mul_right _ hin
          have hmul2:(n+k)*j.size=n*j.size+k*j.size:=Nat.add_mul _ _ _
          have hr:=room (base:=some ⟨l.cb,l.base+off,none⟩) (n:=n) (c:=c') hin
          have ha:(Addr.add ⟨l.cb,l.base+off,none⟩ (n*j.size))=⟨l.cb,l.base+(off+n*j.size),none⟩:=by unfold Addr.add;split<;>simp_all;omega
          have hst:=storeCells_run (P:=P) l.cb (l.base+(off+n*j.size)) et fz cnew 0 C w o4 (by omega) (fun q q1 q2=>by
           have:=o7 rfl (q - l.base) (by omega)
           rw [show l.base+(q - l.base)=q by omega] at this
           exact this) (okCells_rel n1 b3)
          rw [if_neg hne] at hst
          have hcb:=R.cdom b l hl
          have hb2:l.base+(off+n*j.size)+0+cnew.length≤C.size:=by omega
          obtain ⟨s1,s2⟩:=readd (w':={ w with heap:=w.heap.setIfInBounds l.cb (.cells (cellsSet C (l.base+(off+n*j.size)+0) cnew) et fz) }) R hl hg rfl (loc:=⟨l.cb,l.base+off,(n+k)*j.size,l.full - off,j.size⟩) (ob:=.cells (old++new) true j.size) rfl (by simp)
           (fun i hi=>by simp [Array.getElem?_setIfInBounds,Ne.symm hi]) (fun ρ' hle=>by
            simp only [Array.getElem?_setIfInBounds_self,hcb,if_true]
            refine ⟨by simp only [List.length_append,g3,n2];omega,rfl,by show (n+k)*j.size≤l.full - off;omega,_,et,fz,rfl,by rw [cellsSet_size];show l.base+off+(l.full - off)≤C.size;omega,fun q v hq=>?_,fun _ q hq=>by
             have:=o7 rfl (off+q) (by have:q < l.full - off:=hq;omega)
             rw [←Nat.add_assoc] at this
             exact this⟩
            rw [cellsSet_get _ _ _ _ hb2]
            rw [List.getElem?_append,g3] at hq
            split at hq
            ·rename_i h1
             rw [g2,List.getElem?_take,if_pos h1,List.getElem?_drop] at hq
             obtain ⟨cv,p1,p2⟩:=o6 _ v hq
             refine ⟨cv,?_,p2.mono hle⟩
             rw [if_neg (by show ¬ (l.base+(off+n*j.size)+0≤l.base+off+q∧_);omega)]
             show C[l.base+off+q]?=some cv
             rw [Nat.add_assoc];exact p1
            ·rename_i h1
             obtain ⟨cv,p1,p2⟩:=n1.get _ v hq
             refine ⟨cv,?_,p2.mono hle⟩
             have hlt:q - n*j.size < cnew.length:=by
              rcases Nat.lt_or_ge (q - n*j.size) cnew.length with h|h
              ·exact h
              ·rw [List.getElem?_eq_none h] at p1;cases p1
             rw [if_pos (by show l.base+(off+n*j.size)+0≤l.base+off+q∧l.base+off+q < _;omega)]
             rw [show l.base+off+q - (l.base+(off+n*j.size)+0)=q - n*j.size by omega]
             exact p1) rfl rfl rfl
          refine ⟨_,_,.slice (some ⟨l.cb,l.base+off,none⟩) (n+k) c',?_,?_,s1,s2⟩
          ·rw [hr]
           simp only [ha,hst,Result.andThen_ok]
          ·have:=VRel.slice (ρ:=ρ.add H.next ⟨l.cb,l.base+off,(n+k)*j.size,l.full - off,j.size⟩) H.next 0 (n+k) (n+k) c' _ (Ren.add_eq _ _ _) (Nat.le_refl _) (.inr ⟨b1,by simp,hin,by show 0+c'*j.size≤l.full - off;omega⟩)
           simpa using this
         ·obtain ⟨cold,q1,q2⟩:=oldcells l hl
          obtain ⟨ρ',w',cv,m1,m2,m3,m4⟩:=grow k1 rfl q1 g3 (by rw [fc _ _ c' n];exact q2) (by omega) b1 b2 bigok
          exact ⟨ρ',w',cv,m1,by simpa using m2,k2.trans m3,m4⟩
        | empty _ _ a l0 hl0 =>
         obtain ⟨k1,k2⟩:=R.kill hl0
         have h0:old=[]:=List.eq_nil_of_length_eq_zero (by simpa using g3)
         subst h0
         obtain ⟨ρ',w',cv,m1,m2,m3,m4⟩:=grow (cs':=.slice (some a) 0 0) (base:=some a) (n:=0) (c:=0) (old:=[]) (cold:=[]) k1 rfl .nil (by simp) (by simp [Builtin.firstCells,loadCells,loadCellsFrom]) (by omega) b1 b2 bigok
         exact ⟨ρ',w',cv,m1,by simpa using m2,k2.trans m3,m4⟩
       ·cases h
     ·cases h
    ·cases h
   ·cases h
 ·cases h
theorem append_sim {P:Program} {T:Tab} (tok:TabOK P T) {ρ:Ren} {H H':Heap} {w:World} (R:Rel ρ H w) {t u e:TypeId} {i i' j:TI} (hi:T t=some i) (hd:i.d=.slice e) (hi':T u=some i') (hni:∀ q,i'.d≠.int q) (hj:T e=some j)
  (ty:TypeId) {s x cs cx v:Value} (h:aappend j H s x=some (v,H')) (rs:VRel ρ s cs) (rx:VRel ρ x cx) :
  ∃ ρ' w' cv,(Builtin.append_ #[t,u] ty #[cs,cx]).run P w=.ok cv w'∧VRel ρ' v cv∧Stp ρ H w ρ' H' w'∧Rel ρ' H' w':=by
 simp only [aappend,Option.bind_eq_bind,Option.bind_eq_some_iff] at h
 obtain ⟨⟨k,new⟩,hsrc,h⟩:=h
 dsimp only at h
 obtain ⟨cnew,n1,n2,n3,n4⟩:=src_sim (P:=P) R hsrc rx
 have hcl:cnew.length=k*j.size:=by rw [←n1.length];exact n2
 have hnt:cnew.take (k*j.size)=cnew:=List.take_of_length_le (by omega)
 have c0:=n4 w k rfl (Nat.le_refl _)
 have c1:=n4 w.drew k rfl (Nat.le_refl _)
 rw [hnt] at c0 c1
 exact append_simK tok R hj h rs n1 n2 (fun hr=>append_room tok hi hd hi' hni hj ty (n3 w) c0 hr) (fun hf hc hb hb2=>append_grow tok hi hd hi' hni hj ty (n3 w) c1 hf hc hb hb2)
end Go.Ev
namespace Go.Ev
def InStep (P:Program) (ρ:Ren) (H:Heap) (w:World) (cev:Operand→Value) (o:Oper) (v:Value) (H':Heap):Prop :=
 ∃ ρ' w' n,(execOp cev o).run P w=.ok n w'∧((∃ cv,n=.value cv∧VRel ρ' v cv)∨(n=.skip∧v=undef))∧Stp ρ H w ρ' H' w'∧Rel ρ' H' w'
theorem storeVar_run {P:Program} {T:Tab} (tok:TabOK P T) {t:TypeId} {i:TI} (hi:T t=some i) {v:Value} (hs:v.cells.size=i.size) (a:Addr) (w:World):(storeVar t a v).run P w=(storeCells a v.cells.toList).run P w:=by
 simp [storeVar,tok.r_size hi,hs]
theorem eset {ρ:Ren} {es:List (Value×Value)} {ces:List MapEntry} (h:ERel ρ es ces) (n:Nat) {k v:Value} {f:MapEntry→MapEntry} (hf:∀ c,VRel ρ k (f c).key∧VRel ρ v (f c).val):ERel ρ (es.set n (k,v)) (ces.modify n f):=by
 induction h generalizing n with
 | nil=>cases n<;>simpa using All2.nil
 | cons hx _ ih =>
  cases n with
  | zero=>simp only [List.set_cons_zero,List.modify_zero_cons];exact .cons (hf _) ‹_›
  | succ n=>simp only [List.set_cons_succ,List.modify_succ_cons];exact .cons hx (ih n)
theorem sameI_bits {ρ:Ren} {a k ca ck:Value} (h:sameI a k=true) (ha:VRel ρ a ca) (hk:VRel ρ k ck) (n:Nat):Instr.sameBits n ca ck=true:=by
 unfold sameI at h
 split at h
 ·cases ha;cases hk;cases n<;>simpa [Instr.sameBits] using h
 ·cases ha;cases hk;cases n<;>simpa [Instr.sameBits] using h
 ·cases ha;cases hk;cases n<;>simpa [Instr.sameBits] using h
 ·cases h
theorem sameL_bits {ρ:Ren} (n:Nat):∀ {x cx y cy:List Value},LRel ρ x cx→LRel ρ y cy→(x.zip y).all (fun p=>sameI p.1 p.2)=true→(cx.zip cy).all (fun (a,b)=>Instr.sameBits n a b)=true
 | [],_,_,_,h,_,_=>by cases h;simp
 | _::_,_,[],_,h,k,_=>by cases k;simp
 | a::x,_,b::y,_,h,k,e=>by
  cases h with
  | cons r t=>cases k with
   | cons r' t' =>
    simp only [List.zip_cons_cons,List.all_cons,Bool.and_eq_true] at e ⊢
    exact ⟨sameI_bits e.1 r r' n,sameL_bits n t t' e.2⟩
theorem sameK_bits {ρ:Ren} {a k ca ck:Value} (h:sameK a k=true) (ha:VRel ρ a ca) (hk:VRel ρ k ck) (n:Nat):Instr.sameBits (n+1) ca ck=true:=by
 unfold sameK at h
 split at h
 ·cases ha with
  | agg _ x hx h1=>cases hk with
   | agg _ y hy h2 =>
    simp only [Bool.and_eq_true,beq_iff_eq] at h
    simp only [Instr.sameBits,Bool.and_eq_true,beq_iff_eq]
    exact ⟨by rw [←hx,←hy];exact h.1,sameL_bits n (ARel.toList ⟨hx,h1⟩) (ARel.toList ⟨hy,h2⟩) h.2⟩
 ·exact sameI_bits h ha hk _
theorem map_write {P:Program} {T:Tab} (tok:TabOK P T) {ρ:Ren} {H H':Heap} {w:World} (R:Rel ρ H w) {t:TypeId} {i:TI} {kt et:TypeId} (hi:T t=some i) (hd:i.d=.map kt et) {b:Nat} {l:Loc} (hl:ρ b=some l) {k ck v cv:Value} (hk:VRel ρ k ck) (hv:VRel ρ v cv)
  {es:List (Value×Value)} (hg:H.get b=some (.map es)) (hfit:keyFits T kt k=true) {r:Option (Nat×Value)} (hr:keyFind T kt k es 0=some r)
  (h:(match (generalizing:=false) r with
   | some (n,_)=>if (es[n]?).any (fun e=>sameK e.1 k) then some (undef,H.put b (some (.map (es.set n (k,v))))) else none
   | none=>some (undef,H.put b (some (.map (es++[(k,v)])))):Option (Value×Heap))=some (undef,H')) :
  ∃ w',(Instr.mapUpdate t (.map (some l.cb)) ck cv).run P w=.ok () w'∧Stp ρ H w ρ H' w'∧Rel ρ H' w':=by
 obtain ⟨ces,clock,q1,q2⟩:=R.live b l _ hl hg
 obtain ⟨c3,cr,c4,c5⟩:=key_sim tok hk hfit w false q2 hr
 have hgo:(getObj l.cb).run P w=.ok (.map ces clock) w:=by simp [getObj,Sem.run,q1]
 have hset:∀ o,(setObj l.cb o).run P w=.ok () { w with heap:=w.heap.setIfInBounds l.cb o }:=fun o=>by simp [setObj,Sem.run,q1]
 have hcb:=R.cdom b l hl
 have up:∀ (es':List (Value×Value)) (ces':Array MapEntry) (ck':Nat),ERel ρ es' ces'.toList→H'=H.put b (some (.map es')) →
   Stp ρ H w ρ H' { w with heap:=w.heap.setIfInBounds l.cb (.map ces' ck') }∧Rel ρ H' { w with heap:=w.heap.setIfInBounds l.cb (.map ces' ck') }:=by
  intro es' ces' ck' he hH
  subst hH
  have:=Rel.update (w':={ w with heap:=w.heap.setIfInBounds l.cb (.map ces' ck') }) R hl hg rfl (o':=.map es') rfl (fun i hi=>by simp [Array.getElem?_setIfInBounds,Ne.symm hi]) (by simp) (by simp only [Array.getElem?_setIfInBounds_self,hcb,if_true];exact ⟨ces',ck',rfl,he⟩) rfl rfl rfl
  exact ⟨this.2,this.1⟩
 cases r with
 | none =>
  cases cr with
  | some _=>exact c5.elim
  | none =>
   simp only [Option.some.injEq,Prod.mk.injEq,true_and] at h
   obtain ⟨u1,u2⟩:=up (es++[(k,v)]) (ces.push { key:=ck,val:=cv,born:=clock }) (clock+1) (by simpa using q2.append (.cons ⟨hk,hv⟩ .nil)) h.symm
   refine ⟨_,?_,u1,u2⟩
   simp only [Instr.mapUpdate,Sem.run_bind,tok.r_und hi,Result.andThen_ok,hd,hgo,c3,c4,hset]
 | some q =>
  cases cr with
  | none=>exact c5.elim
  | some q' =>
   obtain ⟨n,qv⟩:=q
   obtain ⟨n',qv'⟩:=q'
   obtain ⟨rfl,_,_⟩:=c5
   dsimp only at h
   split at h
   ·rename_i hs
    simp only [Option.some.injEq,Prod.mk.injEq,true_and] at h
    obtain ⟨e,he,hse⟩:∃ e,es[n]?=some e∧sameK e.1 k=true:=by
     cases hq:es[n]? with
     | none=>simp [hq] at hs
     | some e=>simp [hq] at hs;exact ⟨e,rfl,hs⟩
    obtain ⟨c,hc,hrc⟩:=q2.get n e he
    have hcn:ces[n]?=some c:=by simpa using hc
    have hbits:=sameK_bits hse hrc.1 hk 9999
    obtain ⟨u1,u2⟩:=up (es.set n (k,v)) (ces.modify n fun e=>{ e with key:=ck,val:=cv }) clock (by
     rw [Array.toList_modify]
     exact eset q2 n (fun c=>⟨hk,hv⟩)) h.symm
    refine ⟨_,?_,u1,u2⟩
    have hst:(Instr.keyThatStays c.key ck).run P w=.ok ck w:=by
     unfold Instr.keyThatStays
     rw [if_pos hbits]
     simp
    simp only [Instr.mapUpdate,Sem.run_bind,tok.r_und hi,Result.andThen_ok,hd,hgo,c3,c4,hcn,Option.map_some,Option.getD_some,hst,hset]
   ·cases h
theorem zeros_rel (T:Tab) {P:Program} (tok:TabOK P T) {e:TypeId} {j:TI} (hj:T e=some j) (ρ:Ren) (n:Nat):LRel ρ (repCells j.zero n) (repCells j.zero n):=by
 refine LRel.const ρ ?_
 have h1:=(tok.zok e j hj).1
 induction n with
 | zero=>rfl
 | succ n ih=>simp only [repCells,List.all_append,h1,Bool.true_and];exact ih
theorem okCells_rep {z:List Value} (h:okCells z=true) (n:Nat):okCells (repCells z n)=true:=by
 induction n with
 | zero=>rfl
 | succ n ih=>simp only [okCells,repCells,List.all_append,Bool.and_eq_true] at h ih ⊢;exact ⟨h,ih⟩
theorem append0_sim {P:Program} {T:Tab} (tok:TabOK P T) {ρ:Ren} {H H':Heap} {w:World} (R:Rel ρ H w) {t u e:TypeId} {i i' j:TI} {q:IntKind} (hi:T t=some i) (hd:i.d=.slice e) (hi':T u=some i') (hd':i'.d=.int q) (hj:T e=some j)
  (ty:TypeId) {s x cs cx v:Value} (h:aappend0 j H s x=some (v,H')) (rs:VRel ρ s cs) (rx:VRel ρ x cx) :
  ∃ ρ' w' cv,(Builtin.append_ #[t,u] ty #[cs,cx]).run P w=.ok cv w'∧VRel ρ' v cv∧Stp ρ H w ρ' H' w'∧Rel ρ' H' w':=by
 simp only [aappend0,Option.bind_eq_bind,Option.bind_eq_some_iff] at h
 obtain ⟨m,hm,h⟩:=h
 cases x<;>simp [asI] at hm
 subst hm
 rename_i q' m
 cases rx
 split at h
 case isFalse=>cases h
 rename_i hb
 obtain ⟨b1,b2,b3⟩:=hb
 obtain ⟨k,rfl⟩:=Int.eq_ofNat_of_zero_le b1
 obtain ⟨fi,zv,q1,q2,q3,q4,q5⟩:=tok.info e j hj
 have hzc:zv.cells.toList=j.zero:=ofCells_cells q5 (tok.zok e j hj).1
 have hzs:zv.cells.size=j.size:=by rw [←(tok.zok e j hj).2,←hzc];simp
 have hwrap:IntKind.i64.wrap ((k:Int))=(k:Int):=by
  rw [IntKind.wrap_i64];omega
 have hbm:¬ (281474976710656 < (k:Int)*(fi.bytes:Int)):=by rw [q3];omega
 have hk0:k*j.size=0→repCells j.zero k=[]:=fun h0=>List.eq_nil_of_length_eq_zero (by rw [repCells_length,(tok.zok e j hj).2];exact h0)
 have hk1:k*j.size≠0→Builtin.zeroCells zv.cells k=(repCells j.zero k).toArray:=fun h0=>by
  apply Array.ext'
  have:=zeros_eq zv.cells k (fun hz0=>absurd (by rw [←hzs,hz0];simp) h0)
  simpa [Builtin.zeroCells,hzc] using this
 have hneg:¬ ((k:Int) < 0):=by omega
 refine append_simK tok R hj (cnew:=repCells j.zero k) h rs (by simpa using zeros_rel T tok hj ρ k) (by simp [repCells_length,(tok.zok e j hj).2]) (fun {base n c} hr=>?_) (fun {base n c cold} hf hc hb hb2=>?_)
 ·have hr':n+k≤c:=by simpa using hr
  simp only [Builtin.append_,Sem.run_bind,Sem.run_pure]
  simp [tok.r_und hi,hd,tok.r_size hj,tok.r_und hi',hd',asInt,asIntOf,hwrap,hneg,typeInfo,q1,hbm,hr']
  by_cases h0:k*j.size=0
  ·cases base<;>simp [h0,hk0 h0]
  ·cases base<;>simp [h0,zeroValue,typeInfo,q1,q4,hk1 h0]
 ·refine ⟨zv.cells,hzc,?_⟩
  have hc':c < n+k:=by simpa using hc
  have hb':j.bytes*(n+k)≤140737488355328:=by simpa using hb
  have hb2':n+k≤9223372036854775807:=by simpa using hb2
  have h48:¬ (281474976710656 < Builtin.nextslicecap (n+k) c*fi.bytes):=by
   have:=growslice_fits (bytes:=fi.bytes) hc' (by rw [q3,Nat.mul_comm];exact hb')
   omega
  have h63:¬ ((9223372036854775807:Int) < ((n:Int)+(k:Int))):=by omega
  have hnr:¬ (n+k≤c):=by omega
  simp only [Builtin.append_,Sem.run_bind,Sem.run_pure]
  simp [tok.r_und hi,hd,tok.r_size hj,tok.r_und hi',hd',asInt,asIntOf,hwrap,hneg,typeInfo,q1,hbm,hnr,h63,h48,Question.forced,hf,newRow,grownCap]
  by_cases h0:k*j.size=0
  ·simp [h0,hk0 h0,zeroValue,typeInfo,q1,q4]
  ·simp [h0,zeroValue,typeInfo,q1,q4,hk1 h0]
   have ea:cold.toArray++((repCells j.zero k).toArray++Builtin.zeroCells zv.cells ((Question.appendCap (n+k) c e).cut (w.tape w.drawn (Question.appendCap (n+k) c e)) - (n+k))) =
     (cold++repCells j.zero k).toArray++Builtin.zeroCells zv.cells ((Question.appendCap (n+k) c e).cut (w.tape w.drawn (Question.appendCap (n+k) c e)) - (n+k)):=by
    apply Array.ext';simp
   rw [ea]
set_option maxHeartbeats 1000000 in
theorem eff_sim {P:Program} {T:Tab} (tok:TabOK P T) {ρ:Ren} {H H':Heap} {w:World} (R:Rel ρ H w) {ev:Operand→Option Value} {cev:Operand→Value} (he:EvRel ρ ev cev) (o:Oper) {v:Value} (h:aeff T ev H o.op=some (v,H')) :
  InStep P ρ H w cev o v H':=by
 obtain ⟨dst,op,type,pos,after,guard⟩:=o
 simp only at h
 cases op
 case store t a x =>
  simp only [aeff,Option.bind_eq_bind,Option.bind_eq_some_iff] at h
  obtain ⟨i,hi,xv,hxv,av,hav,h⟩:=h
  have rx:=he x xv hxv
  have ra:=he a av hav
  generalize hca:cev a=ca at ra
  split at h
  ·rename_i b off
   split at h
   ·rename_i hok
    simp only [Option.bind_eq_some_iff,Option.some.injEq,Prod.mk.injEq] at h
    obtain ⟨H1,hw,rfl,rfl⟩:=h
    cases ra with
    | ptr _ _ l hl =>
     obtain ⟨w',s1,s2,s3⟩:=write_sim (P:=P) R hl hw rx.cells hok.2
     refine ⟨ρ,w',.skip,?_,.inr ⟨rfl,rfl⟩,s2,s3⟩
     have hcs:(cev x).cells.size=i.size:=by rw [←hok.1];exact (ARel.cells rx).1.symm
     simp only [execOp,Instr.storeAt,hca,Instr.sureAddr,Sem.run_bind,Sem.run_pure,Result.andThen_ok,storeVar_run tok hi hcs,s1]
   ·cases h
  ·cases h
 case mapUpdate t m k x =>
  simp only [aeff,Option.bind_eq_bind,Option.bind_eq_some_iff] at h
  obtain ⟨i,hi,mv,hmv,h⟩:=h
  have rm:=he m mv hmv
  generalize hcm:cev m=cm at rm
  split at h
  ·rename_i kt et b hd
   simp only [Option.bind_eq_some_iff] at h
   obtain ⟨kv,hkv,xv,hxv,h⟩:=h
   split at h
   ·rename_i es hg
    split at h
    ·rename_i hfit
     simp only [Option.bind_eq_some_iff] at h
     obtain ⟨r,hr,h⟩:=h
     cases rm with
     | map _ l hl =>
      have hv:v=undef:=by
       cases r with
       | none=>simp at h;exact h.1.symm
       | some q=>obtain ⟨n,q⟩:=q;dsimp only at h;split at h<;>simp at h;exact h.1.symm
      subst hv
      obtain ⟨w',s1,s2,s3⟩:=map_write tok R hi hd hl (he k kv hkv) (he x xv hxv) hg hfit hr h
      refine ⟨ρ,w',.skip,?_,.inr ⟨rfl,rfl⟩,s2,s3⟩
      simp only [execOp,hcm,Sem.run_bind,s1,Result.andThen_ok,Sem.run_pure]
    ·cases h
   ·cases h
  ·cases h
 case insert t m k x =>
  simp only [aeff,Option.bind_eq_bind,Option.bind_eq_some_iff] at h
  obtain ⟨i,hi,mv,hmv,h⟩:=h
  have rm:=he m mv hmv
  generalize hcm:cev m=cm at rm
  split at h
  ·rename_i kt et b hd
   simp only [Option.bind_eq_some_iff] at h
   obtain ⟨kv,hkv,xv,hxv,h⟩:=h
   split at h
   ·rename_i es hg
    split at h
    ·rename_i hfit
     simp only [Option.bind_eq_some_iff] at h
     obtain ⟨r,hr,h⟩:=h
     cases rm with
     | map _ l hl =>
      have hv:v=undef:=by
       cases r with
       | none=>simp at h;exact h.1.symm
       | some q=>obtain ⟨n,q⟩:=q;dsimp only at h;split at h<;>simp at h;exact h.1.symm
      subst hv
      obtain ⟨w',s1,s2,s3⟩:=map_write tok R hi hd hl (he k kv hkv) (he x xv hxv) hg hfit hr h
      refine ⟨ρ,w',.skip,?_,.inr ⟨rfl,rfl⟩,s2,s3⟩
      simp only [execOp,hcm,Sem.run_bind,s1,Result.andThen_ok,Sem.run_pure]
    ·cases h
   ·cases h
  ·cases h
 case call c =>
  obtain ⟨callee,args,argTypes⟩:=c
  cases callee<;>simp only [aeff] at h<;>first|(cases h;done)|skip
  rename_i b
  unfold effBuiltin at h
  generalize hargs:args.toList=la at h
  generalize htys:argTypes.toList=lt at h
  split at h
  ·obtain rfl:args=#[_,_]:=Array.ext' hargs
   obtain rfl:argTypes=#[_,_]:=Array.ext' htys
   simp only [Option.bind_eq_bind,Option.bind_eq_some_iff] at h
   rename_i s x t u
   obtain ⟨i,hi,j',hj',h⟩:=h
   split at h
   ·rename_i e q hd hd'
    simp only [Option.bind_eq_some_iff] at h
    obtain ⟨j,hj,sv,hsv,xv,hxv,h⟩:=h
    obtain ⟨ρ',w',cv,e1,e2,e3,e4⟩:=append0_sim tok R hi hd hj' hd' hj type h (he s sv hsv) (he x xv hxv)
    refine ⟨ρ',w',.value cv,?_,.inl ⟨cv,rfl,e2⟩,e3,e4⟩
    simp [execOp,resolve,invoke,builtin,e1]
   ·rename_i e hd hni
    simp only [Option.bind_eq_some_iff] at h
    obtain ⟨j,hj,sv,hsv,xv,hxv,h⟩:=h
    obtain ⟨ρ',w',cv,e1,e2,e3,e4⟩:=append_sim tok R hi hd hj' hni hj type h (he s sv hsv) (he x xv hxv)
    refine ⟨ρ',w',.value cv,?_,.inl ⟨cv,rfl,e2⟩,e3,e4⟩
    simp [execOp,resolve,invoke,builtin,e1]
   ·cases h
  ·obtain rfl:args=#[_,_]:=Array.ext' hargs
   obtain rfl:argTypes=#[_,_]:=Array.ext' htys
   simp only [Option.bind_eq_bind,Option.bind_eq_some_iff] at h
   rename_i s x t u
   obtain ⟨i,hi,h⟩:=h
   split at h
   ·rename_i e hd
    simp only [Option.bind_eq_some_iff] at h
    obtain ⟨j,hj,xv,hxv,⟨k,cs⟩,hsrc,h⟩:=h
    simp only [Option.bind_eq_some_iff] at h
    obtain ⟨sv,hsv,h⟩:=h
    have rx:=he x xv hxv
    have rs:=he s sv hsv
    obtain ⟨cnew,n1,n2,n3,n4⟩:=src_sim (P:=P) R hsrc rx
    generalize hcs:cev s=ccs at rs
    split at h
    ·split at h
     ·rename_i h0
      cases h
      cases rs
      have c0:=n4 w 0 rfl (Nat.zero_le _)
      refine ⟨ρ,w,.value (goInt 0),?_,.inl ⟨_,rfl,.int _ _⟩,Stp.refl _ _ _,R⟩
      simp [execOp,resolve,invoke,builtin,Builtin.copy_,tok.r_und hi,hd,tok.r_size hj,hcs,n3,c0]
     ·cases h
    ·rename_i b off n c
     split at h
     ·rename_i hok
      split at h
      ·rename_i hm0
       cases h
       have c0:=n4 w 0 rfl (Nat.zero_le _)
       refine ⟨ρ,w,.value (goInt 0),?_,.inl ⟨_,rfl,.int _ _⟩,Stp.refl _ _ _,R⟩
       have c0':(Builtin.firstCells j.size 0 (cev x)).run P w=.ok #[] w:=by simpa using c0
       cases rs with
       | slice _ _ _ _ c' l hl hn hc =>
        simp only [execOp,resolve,invoke,builtin,Builtin.copy_,Sem.run_bind,Sem.run_pure,Result.andThen_ok]
        simp [tok.r_und hi,hd,tok.r_size hj,hcs,n3,hm0,c0',storeCells]
       | empty _ _ a l0 hl0 =>
        simp only [execOp,resolve,invoke,builtin,Builtin.copy_,Sem.run_bind,Sem.run_pure,Result.andThen_ok]
        simp [tok.r_und hi,hd,tok.r_size hj,hcs,n3,hm0,c0',storeCells]
      ·rename_i hm0
       simp only [Option.bind_eq_some_iff,Option.some.injEq,Prod.mk.injEq] at h
       obtain ⟨H1,hw,rfl,rfl⟩:=h
       have c0:=n4 w (Nat.min k n) rfl (Nat.min_le_left _ _)
       cases rs with
       | slice _ _ _ _ c' l hl hn hc =>
        obtain ⟨w',s1,s2,s3⟩:=write_sim (P:=P) R hl hw (n1.take (Nat.min k n*j.size)) hok
        refine ⟨ρ,w',.value (goInt (Nat.min k n)),?_,.inl ⟨_,rfl,.int _ _⟩,s2,s3⟩
        simp only [execOp,resolve,invoke,builtin,Builtin.copy_,Sem.run_bind,Sem.run_pure,Result.andThen_ok]
        simp [tok.r_und hi,hd,tok.r_size hj,hcs,n3,c0,s1]
       | empty _ _ a l0 hl0=>exact absurd (Nat.min_eq_right (Nat.zero_le k)) hm0
     ·cases h
    ·cases h
   ·cases h
  ·obtain rfl:args=#[_]:=Array.ext' hargs
   obtain rfl:argTypes=#[_]:=Array.ext' htys
   simp only [Option.bind_eq_bind,Option.bind_eq_some_iff] at h
   rename_i x t
   obtain ⟨i,hi,xv,hxv,h⟩:=h
   have rx:=he x xv hxv
   generalize hcs:cev x=cx at rx
   split at h
   ·cases h
    cases rx
    rename_i hd
    refine ⟨ρ,w,.value (.tuple #[]),?_,.inl ⟨_,rfl,.unit⟩,Stp.refl _ _ _,R⟩
    simp [execOp,resolve,invoke,builtin,Builtin.clear_,tok.r_und hi,hd,hcs]
   ·rename_i e b off n c hd
    split at h
    ·rename_i h0
     cases h
     subst h0
     refine ⟨ρ,w,.value (.tuple #[]),?_,.inl ⟨_,rfl,.unit⟩,Stp.refl _ _ _,R⟩
     cases rx<;>simp [execOp,resolve,invoke,builtin,Builtin.clear_,tok.r_und hi,hd,hcs]
    ·rename_i h0
     simp only [Option.bind_eq_some_iff] at h
     obtain ⟨j,hj,h⟩:=h
     split at h
     ·rename_i hok
      simp only [Option.bind_eq_some_iff,Option.some.injEq,Prod.mk.injEq] at h
      obtain ⟨H1,hw,rfl,rfl⟩:=h
      cases rx with
      | slice _ _ _ _ c' l hl hn hc =>
       obtain ⟨w',s1,s2,s3⟩:=write_sim (P:=P) R hl hw (zeros_rel T tok hj ρ n) (okCells_rep hok n)
       refine ⟨ρ,w',.value (.tuple #[]),?_,.inl ⟨_,rfl,.unit⟩,s2,s3⟩
       obtain ⟨fi,zv,q1,q2,q3,q4,q5⟩:=tok.info e j hj
       have hz:(Builtin.zeroCells zv.cells n).toList=repCells j.zero n:=by
        have:=ofCells_cells q5 (tok.zok e j hj).1
        rw [←this]
        exact zeros_eq zv.cells n (fun h=>.inr (by rw [h];simp))
       obtain ⟨n,rfl⟩:∃ m,n=m+1:=⟨n - 1,by omega⟩
       simp [execOp,resolve,invoke,builtin,Builtin.clear_,tok.r_und hi,hd,hcs,zeroValue,typeInfo,q1,q4,hz,s1]
      | empty _ _ a l0 hl0=>exact absurd rfl h0
     ·cases h
   ·cases h
  ·cases h
 all_goals (simp only [aeff] at h;cases h)
end Go.Ev
namespace Go.Ev
def fat (b:Frame) (ct:Array Value) (ds:List Deferred) (todo:List Item):Frame :=
 {fn:=b.fn,tmps:=ct,todo:=todo,defers:=ds,mode:=.run,kind:=b.kind,roundOf:=b.roundOf }
def cevOf (ct:Array Value):Operand→Value
 | .tmp t=>ct.getD t undef
 | .const v=>v
 | .global g=>.pointer (some ⟨g,0,none⟩)
 | .func f=>.func (.func f) #[] #[]
theorem fat_eval (b:Frame) (ct:Array Value) (ds:List Deferred) (todo:List Item):(fat b ct ds todo).eval=cevOf ct:=by
 funext x;cases x<;>rfl
def cput (ct:Array Value) (dst:Option Tmp) (v:Value):Array Value :=
 match dst with
 | some d=>ct.setIfInBounds d v
 | none=>ct
section
variable {P:Program} {b:Frame} {ct:Array Value} {ds:List Deferred} {k:List Item} {cs:List Frame} {w w':World}
theorem st_skip:step P (lone (fat b ct ds (.code .skip::k)) cs w)=.next (lone (fat b ct ds k) cs w):=step_lone_go (by simp [stepG,stepG.exec,fat])
theorem st_inBlock {id:Nat}:step P (lone (fat b ct ds (.inBlock id::k)) cs w)=.next (lone (fat b ct ds k) cs w):=step_lone_go (by simp [stepG,stepG.exec,fat])
theorem st_seq {x y:Code}:step P (lone (fat b ct ds (.code (.seq x y)::k)) cs w)=.next (lone (fat b ct ds (.code x::.code y::k)) cs w):=step_lone_go (by simp [stepG,stepG.exec,fat])
theorem st_cond {c:Operand} {x y:Code} {t:Bool} (h:cevOf ct c=.bool t):step P (lone (fat b ct ds (.code (.cond c x y)::k)) cs w)=.next (lone (fat b ct ds (.code (if t then x else y)::k)) cs w) :=
 step_lone_go (by
  have h1:=congrFun (fat_eval b ct ds (.code (.cond c x y)::k)) c
  simp only [fat] at h1
  simp [stepG,stepG.exec,fat,h1,h])
theorem st_block {id:Nat} {c:Code}:step P (lone (fat b ct ds (.code (.block id c)::k)) cs w)=.next (lone (fat b ct ds (.code c::.inBlock id::k)) cs w):=step_lone_go (by simp [stepG,stepG.exec,fat])
theorem st_loop {c:Code}:step P (lone (fat b ct ds (.code (.loop c)::k)) cs w)=.next (lone (fat b ct ds (.code c::.inLoop c::k)) cs w):=step_lone_go (by simp [stepG,stepG.exec,fat])
theorem st_inLoop {c:Code}:step P (lone (fat b ct ds (.inLoop c::k)) cs w)=.next (lone (fat b ct ds (.code c::.inLoop c::k)) cs w):=step_lone_go (by simp [stepG,stepG.exec,fat])
theorem st_exit {id:Nat} {k':List Item} (h:exitTo id k=some k'):step P (lone (fat b ct ds (.code (.exit id)::k)) cs w)=.next (lone (fat b ct ds k') cs w):=step_lone_go (by simp [stepG,stepG.exec,fat,h])
theorem st_ret (hr:b.roundOf=none):step P (lone (fat b ct ds (.code .ret::k)) cs w)=.next (lone { fat b ct ds (.code .ret::k) with mode:=.returning } cs w):=step_lone_go (by simp [stepG,stepG.exec,fat,hr])
theorem st_end (hr:b.roundOf=none):step P (lone (fat b ct ds []) cs w)=.next (lone { fat b ct ds [] with mode:=.returning } cs w):=step_lone_go (by simp [stepG,stepG.exec,fat,hr])
theorem st_region {id:Nat} {ops:Array Oper}:step P (lone (fat b ct ds (.code (.region id ops false)::k)) cs w)=.next (lone (fat b ct ds (.inRegion ops (List.range ops.size)::k)) cs w):=step_lone_go (by simp [stepG,stepG.exec,fat])
theorem st_draw {id:Nat} {ops:Array Oper}:step P (lone (fat b ct ds (.code (.region id ops true)::k)) cs w) =
  .next (lone (fat b ct ds (.inRegion ops (Region.schedule (P.follows .mixedOrders) ops (w.tape w.drawn (.order b.fn id)))::k)) cs { w with drawn:=w.drawn+1 }) :=
 step_lone_go (by simp [stepG,stepG.exec,fat,choose,Sem.run,Question.forced,Question.cut])
theorem st_regionEnd {ops:Array Oper}:step P (lone (fat b ct ds (.inRegion ops []::k)) cs w)=.next (lone (fat b ct ds k) cs w):=step_lone_go (by simp [stepG,stepG.exec,fat])
theorem fat_finish {ops:Array Oper} {i:Nat} {rest:List Nat} {o:Oper} (ho:ops[i]?=some o) (v:Value):(fat b ct ds (.inRegion ops (i::rest)::k)).finish v=fat b (cput ct o.dst v) ds (.inRegion ops rest::k):=by
 cases hd:o.dst<;>simp [Frame.finish,fat,ho,hd,cput]
theorem st_opSkip {ops:Array Oper} {i:Nat} {rest:List Nat} {o:Oper} (ho:ops[i]?=some o) (hw:Region.wanted o (yielded ops ct)=false) :
  step P (lone (fat b ct ds (.inRegion ops (i::rest)::k)) cs w)=.next (lone (fat b (cput ct o.dst undef) ds (.inRegion ops rest::k)) cs w):=by
 rw [←fat_finish ho]
 exact step_lone_go (by
  simp only [fat]
  simp [stepG,stepG.exec,ho,hw])
def noDefer:Op→Bool
 | .defer _=>false
 | _=>true
theorem stG_op {ops:Array Oper} {i:Nat} {rest:List Nat} {o:Oper} (ho:ops[i]?=some o) (hw:Region.wanted o (yielded ops ct)=true) (hd:noDefer o.op=true) :
  stepG P true { frame:=fat b ct ds (.inRegion ops (i::rest)::k),callers:=cs,status:=.running,dying:=none } w =
   stepG.apply P true (fat b ct ds (.inRegion ops (i::rest)::k)) cs none (execOp (cevOf ct) o) w:=by
 have he:=fat_eval b ct ds (.inRegion ops (i::rest)::k)
 simp only [fat] at he
 simp only [fat]
 simp only [stepG,stepG.exec,ho,Option.map_some,Option.getD_some,hw,if_true,stepG.oper,Frame.oper?]
 rw [he]
 split<;>first|rfl|skip
 all_goals (rename_i hx;rw [hx] at hd;simp [noDefer] at hd)
theorem st_opValue {ops:Array Oper} {i:Nat} {rest:List Nat} {o:Oper} (ho:ops[i]?=some o) (hw:Region.wanted o (yielded ops ct)=true) (hd:noDefer o.op=true) {v:Value} (hr:(execOp (cevOf ct) o).run P w=.ok (.value v) w') :
  step P (lone (fat b ct ds (.inRegion ops (i::rest)::k)) cs w)=.next (lone (fat b (cput ct o.dst v) ds (.inRegion ops rest::k)) cs w'):=by
 rw [←fat_finish ho]
 exact step_lone_go (by rw [stG_op ho hw hd];simp [stepG.apply,hr])
theorem st_opUnit {ops:Array Oper} {i:Nat} {rest:List Nat} {o:Oper} (ho:ops[i]?=some o) (hw:Region.wanted o (yielded ops ct)=true) (hd:noDefer o.op=true) (hr:(execOp (cevOf ct) o).run P w=.ok .skip w') :
  step P (lone (fat b ct ds (.inRegion ops (i::rest)::k)) cs w)=.next (lone (fat b (cput ct o.dst undef) ds (.inRegion ops rest::k)) cs w'):=by
 rw [←fat_finish ho]
 exact step_lone_go (by rw [stG_op ho hw hd];simp [stepG.apply,hr])
theorem st_opEnter {ops:Array Oper} {i:Nat} {rest:List Nat} {o:Oper} (ho:ops[i]?=some o) (hw:Region.wanted o (yielded ops ct)=true) (hd:noDefer o.op=true) {f:FuncId} {args:Array Value} (hr:(execOp (cevOf ct) o).run P w=.ok (.enter f args) w') :
  step P (lone (fat b ct ds (.inRegion ops (i::rest)::k)) cs w)=.next (lone (Frame.enter P f args .normal) (fat b ct ds (.inRegion ops (i::rest)::k)::cs) w') :=
 step_lone_go (by rw [stG_op ho hw hd];simp [stepG.apply,hr,fat])
theorem st_opRound {ops:Array Oper} {i:Nat} {rest:List Nat} {o:Oper} (ho:ops[i]?=some o) (hw:Region.wanted o (yielded ops ct)=true) (hd:noDefer o.op=true) {l:Nat} {f:FuncId} {ts:Array Value} {as bd:Code} (hr:(execOp (cevOf ct) o).run P w=.ok (.round l f ts as bd) w') :
  step P (lone (fat b ct ds (.inRegion ops (i::rest)::k)) cs w)=.next (lone (Frame.round l f ts as bd .normal) (fat b ct ds (.inRegion ops (i::rest)::k)::cs) w') :=
 step_lone_go (by rw [stG_op ho hw hd];simp [stepG.apply,hr,fat])
theorem st_rangeFunc {g:Operand} {ps:Array Tmp} {as bd:Code} {l:Nat} {mark:List Deferred} {w1 w2:World} {f:FuncId} {args:Array Value} {d:Deferred}
  (h1:(Instr.enterLoop b.fn ct ps as bd b.roundOf).run P w=.ok (l,mark) w1)
  (h2:(do let d ←resolve (cevOf ct) { callee:=.value g,args:=#[.const (.func (.yield l) #[] #[])],argTypes:=#[] } 0;invoke d.target d.args:Sem Next).run P w1=.ok (.enter f args) w2) :
  step P (lone (fat b ct ds (.code (.rangeFunc g ps as bd)::k)) cs w)=.next (lone (Frame.enter P f args .normal) (fat b ct (mark++ds) (.inRangeFunc l::k)::cs) w2):=by
 refine step_lone_go ?_
 have he:=fat_eval b ct (mark++ds) (.inRangeFunc l::k)
 simp only [fat] at he
 simp only [fat,stepG,stepG.exec,Sem.runT_eq,h1,GStep.bare_after]
 rw [he]
 simp only [stepG.apply,Sem.runT_eq,h2,if_true,GStep.bare_after]
 rfl
theorem st_rangeRound {g:Operand} {ps:Array Tmp} {as bd:Code} {l:Nat} {mark:List Deferred} {w1 w2:World} {l':Nat} {f:FuncId} {ts:Array Value} {as' bd':Code}
  (h1:(Instr.enterLoop b.fn ct ps as bd b.roundOf).run P w=.ok (l,mark) w1)
  (h2:(do let d ←resolve (cevOf ct) { callee:=.value g,args:=#[.const (.func (.yield l) #[] #[])],argTypes:=#[] } 0;invoke d.target d.args:Sem Next).run P w1=.ok (.round l' f ts as' bd') w2) :
  step P (lone (fat b ct ds (.code (.rangeFunc g ps as bd)::k)) cs w)=.next (lone (Frame.round l' f ts as' bd' .normal) (fat b ct (mark++ds) (.inRangeFunc l::k)::cs) w2):=by
 refine step_lone_go ?_
 have he:=fat_eval b ct (mark++ds) (.inRangeFunc l::k)
 simp only [fat] at he
 simp only [fat,stepG,stepG.exec,Sem.runT_eq,h1,GStep.bare_after]
 rw [he]
 simp only [stepG.apply,Sem.runT_eq,h2,if_true,GStep.bare_after]
 rfl
theorem fat_finishRange {l:Nat} (v:Value):(fat b ct ds (.inRangeFunc l::k)).finish v=fat b ct ds (.endRangeFunc l::k):=rfl
theorem st_endRange {l:Nat} {jump:Option Code} (h:(Instr.endLoop l).run P w=.ok jump w') :
  step P (lone (fat b ct ds (.endRangeFunc l::k)) cs w)=.next (lone (fat b ct ds ((jump.map Item.code).toList++k)) cs w') :=
 step_lone_go (by simp [stepG,stepG.exec,fat,h])
theorem st_beginRound {l:Nat} (hr:b.roundOf=some l) (h:(Instr.beginRound l).run P w=.ok () w') :
  step P (lone (fat b ct ds (.beginRound::k)) cs w)=.next (lone (fat b ct ds k) cs w'):=by
 refine step_lone_go ?_
 simp only [fat,stepG,stepG.exec,hr,Option.elim_some,stepG.apply,Sem.runT_eq,Sem.run_bind,h,Result.andThen_ok,Sem.run_pure,if_true,GStep.bare_after]
 rfl
theorem st_roundEnd {l:Nat} {jump:Option Code} {c:Frame} {v:Value} (hr:b.roundOf=some l) (hk:b.kind=.normal) (h:(Instr.endRound l jump).run P w=.ok v w') :
  (jump=none→step P (lone (fat b ct ds []) (c::cs) w)=.next (lone (c.finish v) cs w')) ∧
  (jump=some .ret→∀ k,step P (lone (fat b ct ds (.code .ret::k)) (c::cs) w)=.next (lone (c.finish v) cs w')) ∧
  (∀ id,jump=some (.exit id)→∀ k,exitTo id k=none→step P (lone (fat b ct ds (.code (.exit id)::k)) (c::cs) w)=.next (lone (c.finish v) cs w')):=by
 refine ⟨fun hj=>step_lone_go ?_,fun hj k=>step_lone_go ?_,fun id hj k hx=>step_lone_go ?_⟩
 ·subst hj
  simp [fat,stepG,stepG.exec,hr,h,doReturn,hk]
 ·subst hj
  simp [fat,stepG,stepG.exec,hr,h,doReturn,hk]
 ·subst hj
  simp [fat,stepG,stepG.exec,hr,h,doReturn,hk,hx]
theorem st_take {r:Nat} {k':List Item} (h:(Instr.takeDeferred r).run P w=.ok [] w') :
  step P (lone { fat b ct ({ target:=.collected r,args:=#[] }::ds) k with mode:=.returning } cs w)=.next (lone { fat b ct ds k with mode:=.returning } cs w') :=
 step_lone_go (by simp [stepG,unwind,fat,h])
end
end Go.Ev
namespace Go.Ev
abbrev Env:=Array Value
def evOp (env:Env):Operand→Option Value
 | .tmp t=>some (env.getD t undef)
 | .const v=>if constOK v then some v else none
 | .global _=>none
 | .func f=>some (.func (.func f) #[] #[])
abbrev CallSem:=Value→List Value→Heap→Option (Value×Heap)
def aval (T:Tab) (ev:Operand→Option Value) (H:Heap) (op:Op):Option Value :=
 match apure T ev op with
 | some v=>some v
 | none=>aread T ev H op
def acall (C:CallSem) (ev:Operand→Option Value) (H:Heap) (c:Call):Option (Value×Heap) :=
 match c.callee with
 | .value f=>do C (←ev f) (←evs ev c.args.toList) H
 | _=>none
inductive Kd where
 | V|A|E
 deriving DecidableEq
def okind (T:Tab):Op→Kd
 | .alloc _|.box ..|.buildSlice ..|.makeSlice ..|.makeMap ..=>.A
 | .convert s d _=>match T s,T d with
  | some ⟨.string,_,_,_,_⟩,some ⟨.slice _,_,_,_,_⟩=>.A
  | _,_=>.V
 | .store ..|.mapUpdate ..|.insert ..=>.E
 | .call c=>match c.callee with
  | .value _=>.E
  | .builtin .append|.builtin .copy|.builtin .clear=>.E
  | _=>.V
 | _=>.V
def isRead:Op→Bool
 | .load ..|.lookup ..|.slice ..|.convert ..|.call ..=>true
 | _=>false
def aE (T:Tab) (C:CallSem) (ev:Operand→Option Value) (H:Heap) (op:Op):Option (Value×Heap) :=
 match op with
 | .call c=>match c.callee with
  | .value _=>acall C ev H c
  | _=>aeff T ev H op
 | _=>aeff T ev H op
def astep (T:Tab) (C:CallSem) (ev:Operand→Option Value) (H:Heap) (op:Op):Option (Value×Heap) :=
 match okind T op with
 | .V=>(aval T ev H op).map fun v=>(v,H)
 | .A=>(aalloc T ev op).map fun p=>(p.2 H.next,H.push p.1)
 | .E=>aE T C ev H op
def evalSeq (T:Tab) (C:CallSem) (ops:Array Oper):List Nat→Env→Heap→Option (Env×Heap)
 | [],env,H=>some (env,H)
 | i::rest,env,H =>
  match ops[i]? with
  | none=>none
  | some o =>
   if Region.wanted o (yielded ops env) then
    match astep T C (evOp env) H o.op with
    | some (v,H')=>evalSeq T C ops rest (cput env o.dst v) H'
    | none=>none
   else evalSeq T C ops rest (cput env o.dst undef) H
def edgeMask (acc:List Nat) (n:Nat):List Edge→Nat
 | []=>0
 | e::r=>(if Region.binds .any e then 2 ^ e.on ||| (if e.on < n then acc.getD (n - 1 - e.on) 0 else 0) else 0) ||| edgeMask acc n r
def masksGo:List Oper→List Nat→Nat→List Nat
 | [],acc,_=>acc
 | o::r,acc,n=>masksGo r (edgeMask acc n o.after.toList::acc) (n+1)
def masks (ops:Array Oper):List Nat:=(masksGo ops.toList [] 0).reverse
def planGo (ms:List Nat) (es:List Nat) (todo:List Nat):List Nat :=
 match es with
 | []=>todo
 | e::r=>(todo.filter fun i=>i != e&&!(ms.getD i 0).testBit e)++(e::planGo ms r (todo.filter fun i=>i != e&&(ms.getD i 0).testBit e))
def plan (T:Tab) (ops:Array Oper) (ms:List Nat):List Nat :=
 let n:=List.range ops.size
 planGo ms (n.filter fun i=>match ops[i]? with|some o=>okind T o.op==.E|none=>false) n
def tmpsOf (o:Oper):List Tmp:=o.op.operands.toList.filterMap fun|.tmp t=>some t|_=>none
def looks (ops:Array Oper) (o:Oper):List Tmp :=
 tmpsOf o++(match o.guard with
  | some (g,_)=>((ops[g]?).bind (·.dst)).toList
  | none=>[])
def planOK (T:Tab) (ops:Array Oper) (ms:List Nat):List Nat→Nat→Bool
 | [],seen=>seen==2 ^ ops.size - 1
 | i::r,seen =>
  match ops[i]? with
  | none=>false
  | some o =>
   !seen.testBit i&&((ms.getD i 0) &&& seen)==ms.getD i 0
    && (okind T o.op != .E || r.all fun j=>(ms.getD j 0).testBit i)
    && planOK T ops ms r (seen ||| 2 ^ i)
def dstsOK (size:Nat):List Oper→Bool
 | []=>true
 | o::r=>(match o.dst with
  | none=>true
  | some d=>d < size&&r.all fun p=>p.dst != some d)&&dstsOK size r
def namesOK (ops:Array Oper) (ms:List Nat):Bool :=
 (List.range ops.size).all fun i=>match ops[i]? with
  | none=>true
  | some o=>(looks ops o).all fun t=>(List.range ops.size).all fun j=>match ops[j]? with
   | none=>true
   | some p=>p.dst != some t || i==j || (ms.getD i 0).testBit j || (ms.getD j 0).testBit i
def plainOp:Op→Bool
 | .defer _|.select ..=>false
 | _=>true
def veq1:Value→Value→Bool
 | .bool a,.bool b=>a==b
 | .int j a,.int k b=>j==k&&a==b
 | .string a,.string b=>a==b
 | .pointer a,.pointer b=>a==b
 | .slice a n c,.slice b m d=>a==b&&n==m&&c==d
 | .map a,.map b=>a==b
 | .nilFunc,.nilFunc=>true
 | .nilIface,.nilIface=>true
 | .func f x y,.func g u v=>f==g&&x.size==0&&u.size==0&&y.size==0&&v.size==0
 | _,_=>false
def veqL:List Value→List Value→Bool
 | [],[]=>true
 | a::x,b::y=>veq1 a b&&veqL x y
 | _,_=>false
def veq:Value→Value→Bool
 | .agg x,.agg y=>veqL x.toList y.toList
 | .tuple x,.tuple y=>veqL x.toList y.toList
 | .func f x y,.func g u v=>f==g&&veqL x.toList u.toList&&veqL y.toList v.toList
 | a,b=>veq1 a b
structure Pend where
 i:Nat
 env:Env
 v:Value
def again (T:Tab) (ops:Array Oper) (H:Heap) (p:Pend):Bool :=
 match ops[p.i]? with
 | none=>false
 | some o=>match aval T (evOp p.env) H o.op with
  | some v=>veq v p.v
  | none=>false
def evalDraw (T:Tab) (C:CallSem) (ops:Array Oper) (ms:List Nat):List Nat→Env→Heap→List Pend→Option (Env×Heap)
 | [],env,H,_=>some (env,H)
 | i::rest,env,H,ps =>
  match ops[i]? with
  | none=>none
  | some o =>
   if Region.wanted o (yielded ops env) then
    match okind T o.op with
    | .V=>match aval T (evOp env) H o.op with
     | some v=>evalDraw T C ops ms rest (cput env o.dst v) H (if isRead o.op then ⟨i,env,v⟩::ps else ps)
     | none=>none
    | .A=>match aalloc T (evOp env) o.op with
     | some (ob,f)=>evalDraw T C ops ms rest (cput env o.dst (f H.next)) (H.push ob) ps
     | none=>none
    | .E=>match aE T C (evOp env) H o.op with
     | some (v,H') =>
      let qs:=ps.filter fun p=>!(ms.getD i 0).testBit p.i
      if qs.all (again T ops H') then evalDraw T C ops ms rest (cput env o.dst v) H' qs else none
     | none=>none
   else evalDraw T C ops ms rest (cput env o.dst undef) H ps
structure Swp where
 pre:List Nat
 x:Nat
 y:Nat
 a:Tmp
 b:Tmp
def storeAt (ops:Array Oper) (x:Nat):Option Tmp :=
 match ops[x]? with
 | some o=>match o.dst,o.op with
  | none,.store _ (.tmp a) _=>some a
  | _,_=>none
 | none=>none
def bindIn (ms:List Nat) (y x:Nat):List Nat:=ms.set y (ms.getD y 0 ||| 2 ^ x)
def swapOf (T:Tab) (ops:Array Oper) (ms:List Nat):Option Swp :=
 let y:=ops.size - 1
 let x:=ops.size - 2
 let l:=plan T ops (bindIn ms y x)
 let p:=l.take x
 match storeAt ops x,storeAt ops y with
 | some a,some b=>if x != y&&planOK T ops (bindIn ms y x) (p++[x,y]) 0&&planOK T ops (bindIn ms x y) (p++[y,x]) 0 then some ⟨p,x,y,a,b⟩ else none
 | _,_=>none
def apartV:Value→Value→Bool
 | .pointer (some ⟨b,_,none⟩),.pointer (some ⟨c,_,none⟩)=>b != c
 | _,_=>false
def evalSwap (T:Tab) (C:CallSem) (ops:Array Oper) (ms:List Nat) (env:Env) (H:Heap):Option (Env×Heap) :=
 match swapOf T ops ms with
 | some s =>
  if dstsOK env.size ops.toList&&namesOK ops ms&&ops.all (fun o=>plainOp o.op) then
   (evalDraw T C ops ms (s.pre++[s.x,s.y]) env H []).bind fun r=>(evalDraw T C ops ms (s.pre++[s.y,s.x]) env H []).bind fun _=>if apartV (r.1.getD s.a undef) (r.1.getD s.b undef) then some r else none
  else none
 | none=>none
def evalRegion (T:Tab) (C:CallSem) (ops:Array Oper) (draw:Bool) (env:Env) (H:Heap):Option (Env×Heap) :=
 if draw then
  let ms:=masks ops
  let l:=plan T ops ms
  if planOK T ops ms l 0&&dstsOK env.size ops.toList&&namesOK ops ms&&ops.all (fun o=>plainOp o.op) then evalDraw T C ops ms l env H [] else evalSwap T C ops ms env H
 else if ops.all (fun o=>plainOp o.op) then evalSeq T C ops (List.range ops.size) env H else none
inductive AExit where
 | normal
 | exit (id:Nat)
 | ret
abbrev Res:=Option (AExit×Env×Heap)
def loopN (step:Env→Heap→Res):Nat→Env→Heap→Res
 | 0,_,_=>none
 | n+1,env,H =>
  match step env H with
  | some (.normal,env',H')=>loopN step n env' H'
  | r=>r
def isLoop (H:Heap):Option Nat→Bool
 | none=>true
 | some l=>match H.get l with
  | some (.loop ..)=>true
  | _=>false
def evalCode (T:Tab) (C:CallSem) (n:Nat) (fn:FuncId) (rd:Option Nat):Code→Env→Heap→Res
 | .skip,env,H=>some (.normal,env,H)
 | .region _ ops draw,env,H=>(evalRegion T C ops draw env H).map fun p=>(.normal,p.1,p.2)
 | .seq a b,env,H =>
  match evalCode T C n fn rd a env H with
  | some (.normal,env',H')=>evalCode T C n fn rd b env' H'
  | r=>r
 | .cond c x y,env,H =>
  match evOp env c with
  | some (.bool true)=>evalCode T C n fn rd x env H
  | some (.bool false)=>evalCode T C n fn rd y env H
  | _=>none
 | .block id body,env,H =>
  match evalCode T C n fn rd body env H with
  | some (.exit id',env',H')=>if id'=id then some (.normal,env',H') else some (.exit id',env',H')
  | r=>r
 | .loop body,env,H=>loopN (evalCode T C n fn rd body) n env H
 | .exit id,env,H=>some (.exit id,env,H)
 | .ret,env,H=>some (.ret,env,H)
 | .rangeFunc f params assign body,env,H =>
  match evOp env f with
  | none=>none
  | some fv =>
   if isLoop H rd then
   match C fv [.func (.yield H.next) #[] #[]] (H.push (.loop .ready none fn env params assign body)) with
   | none=>none
   | some (_,H2) =>
    match H2.get H.next with
    | some (.loop st pend fn' env' params' assign' body') =>
     if st=.busy then none else
     let H3:=H2.put H.next (some (.loop .exhausted pend fn' env' params' assign' body'))
     match pend with
     | none=>some (.normal,env,H3)
     | some .ret=>some (.ret,env,H3)
     | some (.exit id)=>some (.exit id,env,H3)
     | _=>none
    | _=>none
   else none
 | _,_,_=>none
structure FI where
 code:Code
 results:List ResultVar
 ntmps:Nat
abbrev FTab:=FuncId→Nat→Option FI
def aresult (T:Tab) (env:Env) (H:Heap):ResultVar→Option Value
 | .tmp t=>some (env.getD t undef)
 | .cell a t=>do
  let i ←T t
  match env.getD a undef with
  | .pointer (some ⟨b,off,none⟩)=>do ofCells i (←H.read b off (if isAggD i.d then i.size else 1))
  | _=>none
def aresults (T:Tab) (env:Env) (H:Heap):List ResultVar→Option (List Value)
 | []=>some []
 | r::rs=>do some ((←aresult T env H r)::(←aresults T env H rs))
def outOf:List Value→Value
 | [v]=>v
 | vs=>.tuple vs.toArray
def yieldRound (T:Tab) (C:CallSem) (n:Nat) (l:Nat) (args:List Value) (H:Heap):Option (Value×Heap) :=
 match H.get l with
 | some (.loop .ready pend fn env params assign body) =>
  if args.length=params.size then
   match evalCode T C n fn (some l) assign ((params.zip args.toArray).foldl (fun ts p=>ts.setIfInBounds p.1 p.2) env) H with
   | some (.normal,env1,H1) =>
    match H1.get l with
    | some (.loop .ready pend1 fn1 env0 params1 assign1 body1) =>
     match evalCode T C n fn (some l) body env1 (H1.put l (some (.loop .busy pend1 fn1 env0 params1 assign1 body1))) with
     | some (e,_,H3) =>
      match H3.get l with
      | some (.loop _ _ fn3 env3 params3 assign3 body3) =>
       match e with
       | .normal=>some (.bool true,H3.put l (some (.loop .ready none fn3 env3 params3 assign3 body3)))
       | .ret=>some (.bool false,H3.put l (some (.loop .done (some .ret) fn3 env3 params3 assign3 body3)))
       | .exit id=>some (.bool false,H3.put l (some (.loop .done (some (.exit id)) fn3 env3 params3 assign3 body3)))
      | _=>none
     | none=>none
    | _=>none
   | _=>none
  else none
 | _=>none
def callFn (T:Tab) (F:FTab) (C:CallSem) (n:Nat) (g:FuncId) (args:List Value) (H:Heap):Option (Value×Heap) :=
 match F g args.length with
 | none=>none
 | some fi =>
  match evalCode T C n g none fi.code (args.toArray++Array.replicate (fi.ntmps - args.length) undef) H with
  | some (.normal,env,H')=>(aresults T env H' fi.results).map fun vs=>(outOf vs,H')
  | some (.ret,env,H')=>(aresults T env H' fi.results).map fun vs=>(outOf vs,H')
  | _=>none
def evalCall (T:Tab) (F:FTab):Nat→CallSem
 | 0,_,_,_=>none
 | n+1,fv,args,H =>
  match fv with
  | .func (.func g) x y=>callFn T F (evalCall T F n) n g ((x.toList++args)++y.toList) H
  | .func (.yield l) x _=>yieldRound T (evalCall T F n) n l (x.toList++args) H
  | _=>none
end Go.Ev
namespace Go.Ev
theorem evs_congr {ev ev':Operand→Option Value}:∀ {l:List Operand},(∀ x∈l,ev x=ev' x)→evs ev l=evs ev' l
 | [],_=>rfl
 | x::l,h=>by
  have ih:=evs_congr (l:=l) fun y hy=>h y (List.mem_cons_of_mem _ hy)
  simp only [evs,h x (by simp),ih]
theorem evps_congr {ev ev':Operand→Option Value}:∀ {l:List (Nat×Operand)},(∀ p∈l,ev p.2=ev' p.2)→evps ev l=evps ev' l
 | [],_=>rfl
 | (i,x)::l,h=>by
  have h1:=h (i,x) (by simp)
  simp only at h1
  have ih:=evps_congr (l:=l) fun y hy=>h y (List.mem_cons_of_mem _ hy)
  simp only [evps,h1,ih]
theorem evo_congr {ev ev':Operand→Option Value} {x:Option Operand} (h:∀ y,x=some y→ev y=ev' y):evo ev x=evo ev' x:=by
 cases x with
 | none=>rfl
 | some x=>simp only [evo,h x rfl]
section
variable {T:Tab} {ev ev':Operand→Option Value}
theorem builtin_congr {H:Heap} {b:Builtin} {l:List Operand} {ts:List TypeId} (h:∀ x∈l,ev x=ev' x) :
  pureBuiltin T ev b l ts=pureBuiltin T ev' b l ts∧readBuiltin T ev H b l ts=readBuiltin T ev' H b l ts∧effBuiltin T ev H b l ts=effBuiltin T ev' H b l ts:=by
 refine ⟨?_,?_,?_⟩
 ·unfold pureBuiltin
  split<;>first|rfl|simp [h]
 ·unfold readBuiltin
  split<;>first|rfl|simp [h]
 ·unfold effBuiltin
  split<;>first|rfl|simp [h]
theorem op_congr {H:Heap} {op:Op} (h:∀ x∈op.operands,ev x=ev' x) :
  apure T ev op=apure T ev' op∧aread T ev H op=aread T ev' H op∧aalloc T ev op=aalloc T ev' op∧aeff T ev H op=aeff T ev' H op:=by
 cases op<;>simp only [Op.operands] at h
 case build t ps =>
  have:evps ev ps.toList=evps ev' ps.toList:=evps_congr fun p hp=>h p.2 (by simp;exact ⟨p.1,by simpa using hp⟩)
  simp [apure,aread,aalloc,aeff,this]
 case buildSlice t n ps =>
  have:evps ev ps.toList=evps ev' ps.toList:=evps_congr fun p hp=>h p.2 (by simp;exact ⟨p.1,by simpa using hp⟩)
  simp [apure,aread,aalloc,aeff,this]
 case makeFunc fn x y =>
  have h1:evs ev x.toList=evs ev' x.toList:=evs_congr fun z hz=>h z (by simp at hz;simp [hz])
  have h2:evs ev y.toList=evs ev' y.toList:=evs_congr fun z hz=>h z (by simp at hz;simp [hz])
  cases fn<;>simp [apure,aread,aalloc,aeff,h1,h2]
 case makeMap t r =>
  have h1:evo ev r=evo ev' r:=evo_congr fun y hy=>h y (by subst hy;simp)
  simp [apure,aread,aalloc,aeff,h1]
 case slice t x lo hi mx =>
  have h1:evo ev lo=evo ev' lo:=evo_congr fun y hy=>h y (by subst hy;simp)
  have h2:evo ev hi=evo ev' hi:=evo_congr fun y hy=>h y (by subst hy;simp)
  have h3:evo ev mx=evo ev' mx:=evo_congr fun y hy=>h y (by subst hy;simp)
  have h4:ev x=ev' x:=h x (by simp)
  simp [apure,aread,aalloc,aeff,h1,h2,h3,h4]
 case call c =>
  have h1:∀ b,c.callee=.builtin b→∀ x∈c.args.toList,ev x=ev' x:=fun b hb x hx=>h x (by simp [Call.operands,hb];simpa using hx)
  simp only [apure,aread,aalloc,aeff]
  cases hc:c.callee with
  | builtin b =>
   obtain ⟨q1,q2,q3⟩:=builtin_congr (T:=T) (H:=H) (b:=b) (ts:=c.argTypes.toList) (h1 b hc)
   exact ⟨q1,q2,trivial,q3⟩
  | _=>simp
 all_goals first|(simp at h;simp [apure,aread,aalloc,aeff,h];done)|(simp [apure,aread,aalloc,aeff];done)
theorem acall_congr {C:CallSem} {H:Heap} {c:Call} (h:∀ x∈(Op.call c).operands,ev x=ev' x):acall C ev H c=acall C ev' H c:=by
 simp only [Op.operands] at h
 unfold acall
 split
 ·rename_i f hc
  have h1:ev f=ev' f:=h f (by simp [Call.operands,hc])
  have h2:evs ev c.args.toList=evs ev' c.args.toList:=evs_congr fun x hx=>h x (by simp [Call.operands,hc];right;simpa using hx)
  rw [h1,h2]
 ·rfl
theorem aval_congr {H:Heap} {op:Op} (h:∀ x∈op.operands,ev x=ev' x):aval T ev H op=aval T ev' H op:=by
 obtain ⟨h1,h2,_⟩:=op_congr (T:=T) (H:=H) h
 simp only [aval,h1,h2]
end
noncomputable def onlyOps (op:Op) (ev:Operand→Option Value):Operand→Option Value:=fun x=>open Classical in if x∈op.operands then ev x else none
theorem onlyOps_eq (op:Op) (ev:Operand→Option Value):∀ x∈op.operands,ev x=onlyOps op ev x:=fun x hx=>by simp [onlyOps,hx]
def OpRel (ρ:Ren) (op:Op) (env:Env) (ct:Array Value):Prop:=∀ x∈op.operands,∀ v,evOp env x=some v→VRel ρ v (cevOf ct x)
theorem OpRel.evRel {ρ:Ren} {op:Op} {env:Env} {ct:Array Value} (h:OpRel ρ op env ct):EvRel ρ (onlyOps op (evOp env)) (cevOf ct):=by
 intro x v hx
 unfold onlyOps at hx
 split at hx
 ·rename_i hm;exact h x hm v hx
 ·cases hx
theorem evOp_rel {ρ:Ren} {env:Env} {ct:Array Value} (h:ARel ρ env ct):EvRel ρ (evOp env) (cevOf ct):=by
 intro x v hx
 cases x with
 | tmp t=>simp only [evOp,Option.some.injEq] at hx;subst hx;exact h.2 t
 | const c =>
  simp only [evOp] at hx
  split at hx
  ·cases hx;rename_i hc;exact .const ρ hc
  ·cases hx
 | global g=>cases hx
 | func f=>simp only [evOp,Option.some.injEq] at hx;subst hx;exact .func _ _ _ _ _ _ (.func f) rfl rfl (fun i=>by simpa using VRel.undef ρ) (fun i=>by simpa using VRel.undef ρ)
theorem OpRel.of_all {ρ:Ren} {op:Op} {env:Env} {ct:Array Value} (h:ARel ρ env ct):OpRel ρ op env ct:=fun x _ v hv=>evOp_rel h x v hv
def CallRuns (P : Program) (cfv : Value) (cargs : Array Value) (w : World) (cv : Value) (w' : World) (c : Frame) (cs : List Frame) : Prop :=
  ∃ n w1, (do let d ← Deferred.ofValue cfv cargs; invoke d.target d.args : Sem Next).run P w = .ok n w1 ∧
    ((∃ g all, n = .enter g all ∧ Steps P (lone (Frame.enter P g all .normal) (c :: cs) w1) (lone (c.finish cv) cs w')) ∨
     (∃ l f ts as bd, n = .round l f ts as bd ∧ Steps P (lone (Frame.round l f ts as bd .normal) (c :: cs) w1) (lone (c.finish cv) cs w')))
def CSound (P:Program) (C:CallSem):Prop :=
 ∀ fv args H v H',C fv args H=some (v,H')→∀ (ρ:Ren) (w:World) (cfv:Value) (cargs:List Value),VRel ρ fv cfv→LRel ρ args cargs→Rel ρ H w →
  ∀ c cs,∃ ρ' w' cv,CallRuns P cfv cargs.toArray w cv w' c cs∧VRel ρ' v cv∧Stp ρ H w ρ' H' w'∧Rel ρ' H' w'
theorem plain_noDefer {op:Op} (h:plainOp op=true):noDefer op=true:=by cases op<;>simp_all [plainOp,noDefer]
theorem yielded_rel {ρ:Ren} {env:Env} {ct:Array Value} (h:ARel ρ env ct) (ops:Array Oper) (j:Nat):yielded ops ct j=yielded ops env j:=by
 unfold yielded
 cases hj:(ops[j]?).bind (·.dst) with
 | none=>rfl
 | some d =>
  simp only [Option.bind_some]
  cases he:env[d]? with
  | none =>
   have:ct[d]?=none:=by
    rw [Array.getElem?_eq_none_iff] at he ⊢
    rw [←h.1];exact he
   rw [this]
  | some v =>
   obtain ⟨cv,e1,e2⟩:=ARel.get? h he
   rw [e1]
   cases e2<;>rfl
theorem ARel.cput {ρ:Ren} {env:Env} {ct:Array Value} (h:ARel ρ env ct) (d:Option Tmp) {v cv:Value} (r:VRel ρ v cv):ARel ρ (cput env d v) (cput ct d cv):=by
 cases d with
 | none=>exact h
 | some d=>exact ARel.set h d r
section
variable {P:Program} {T:Tab} (tok:TabOK P T) {C:CallSem} (hC:CSound P C)
include tok hC
theorem e_steps {ρ:Ren} {H H':Heap} {w:World} (R:Rel ρ H w) {env:Env} {ct:Array Value} {o:Oper} (hr:OpRel ρ o.op env ct) {v:Value} (h:aE T C (evOp env) H o.op=some (v,H'))
  {ops:Array Oper} {i:Nat} {rest:List Nat} (ho:ops[i]?=some o) (hw:Region.wanted o (yielded ops ct)=true) (hp:plainOp o.op=true) :
  ∀ b ds k cs,∃ ρ' w' cv,Steps P (lone (fat b ct ds (.inRegion ops (i::rest)::k)) cs w) (lone (fat b (cput ct o.dst cv) ds (.inRegion ops rest::k)) cs w') ∧
   VRel ρ' v cv∧Stp ρ H w ρ' H' w'∧Rel ρ' H' w':=by
 have hd:=plain_noDefer hp
 have he:=hr.evRel
 have plain:aeff T (evOp env) H o.op=some (v,H')→∀ b ds k cs,∃ ρ' w' cv,Steps P (lone (fat b ct ds (.inRegion ops (i::rest)::k)) cs w) (lone (fat b (cput ct o.dst cv) ds (.inRegion ops rest::k)) cs w') ∧
   VRel ρ' v cv∧Stp ρ H w ρ' H' w'∧Rel ρ' H' w':=by
  intro h b ds k cs
  rw [(op_congr (T:=T) (H:=H) (onlyOps_eq o.op (evOp env))).2.2.2] at h
  obtain ⟨ρ',w',n,e1,e2,e3,e4⟩:=eff_sim tok R he o h
  rcases e2 with ⟨cv,rfl,r⟩|⟨rfl,rfl⟩
  ·exact ⟨ρ',w',cv,.one (st_opValue ho hw hd e1),r,e3,e4⟩
  ·exact ⟨ρ',w',undef,.one (st_opUnit ho hw hd e1),.undef _,e3,e4⟩
 unfold aE at h
 split at h
 ·rename_i c hop
  split at h
  ·rename_i f hc
   have hcong:=acall_congr (C:=C) (H:=H) (ev:=evOp env) (ev':=onlyOps o.op (evOp env)) (c:=c) (by rw [←hop];exact onlyOps_eq o.op (evOp env))
   rw [hcong] at h
   unfold acall at h
   rw [hc] at h
   simp only [Option.bind_eq_bind,Option.bind_eq_some_iff] at h
   obtain ⟨fv,hfv,args,hargs,h⟩:=h
   have ra:=evs_sim he _ _ hargs
   intro b ds k cs
   obtain ⟨ρ',w',cv,c1,c2,c3,c4⟩:=hC fv args H v H' h ρ w (cevOf ct f) _ (he f fv hfv) ra R (fat b ct ds (.inRegion ops (i::rest)::k)) cs
   refine ⟨ρ',w',cv,?_,c2,c3,c4⟩
   obtain ⟨n,w1,n1,n2⟩:=c1
   have hrun:(execOp (cevOf ct) o).run P w=.ok n w1:=by
    have e:c.args.map (cevOf ct)=(c.args.toList.map (cevOf ct)).toArray:=by apply Array.ext';simp
    simp only [execOp,hop,resolve,hc,e]
    exact n1
   rcases n2 with ⟨g,all,rfl,hs⟩|⟨l,f',ts,as,bd,rfl,hs⟩
   ·refine .head (st_opEnter ho hw hd hrun) ?_
    rwa [fat_finish ho] at hs
   ·refine .head (st_opRound ho hw hd hrun) ?_
    rwa [fat_finish ho] at hs
  ·exact plain h
 ·exact plain h
theorem op_steps {ρ:Ren} {H H':Heap} {w:World} (R:Rel ρ H w) {env:Env} {ct:Array Value} {o:Oper} (hr:OpRel ρ o.op env ct) {v:Value} (h:astep T C (evOp env) H o.op=some (v,H'))
  {ops:Array Oper} {i:Nat} {rest:List Nat} (ho:ops[i]?=some o) (hw:Region.wanted o (yielded ops ct)=true) (hp:plainOp o.op=true) :
  ∀ b ds k cs,∃ ρ' w' cv,Steps P (lone (fat b ct ds (.inRegion ops (i::rest)::k)) cs w) (lone (fat b (cput ct o.dst cv) ds (.inRegion ops rest::k)) cs w') ∧
   VRel ρ' v cv∧Stp ρ H w ρ' H' w'∧Rel ρ' H' w':=by
 have hd:=plain_noDefer hp
 have he:=hr.evRel
 unfold astep at h
 split at h
 ·simp only [Option.map_eq_some_iff,Prod.mk.injEq] at h
  obtain ⟨v',hv,rfl,rfl⟩:=h
  rw [aval_congr (onlyOps_eq o.op (evOp env))] at hv
  have:∃ cv,(execOp (cevOf ct) o).run P w=.ok (.value cv) w∧VRel ρ v' cv:=by
   unfold aval at hv
   split at hv
   ·rename_i hpu
    cases hv
    exact pure_sim tok he o hpu w
   ·exact read_sim tok R he o hv
  obtain ⟨cv,e1,e2⟩:=this
  exact fun b ds k cs=>⟨ρ,w,cv,.one (st_opValue ho hw hd e1),e2,Stp.refl _ _ _,R⟩
 ·simp only [Option.map_eq_some_iff,Prod.mk.injEq] at h
  obtain ⟨⟨ob,f⟩,hv,rfl,rfl⟩:=h
  rw [(op_congr (T:=T) (H:=H) (onlyOps_eq o.op (evOp env))).2.2.1] at hv
  obtain ⟨ρ',w',cv,m1,m2,m3,m4⟩:=(alloc_sim tok he o hv w).step R
  exact fun b ds k cs=>⟨ρ',w',cv,.one (st_opValue ho hw hd m1),m2,m3,m4⟩
 ·exact e_steps tok hC R hr h ho hw hp
theorem seq_steps {ops:Array Oper} (hp:ops.all (fun o=>plainOp o.op)=true):∀ (l:List Nat) {ρ:Ren} {H H':Heap} {w:World} {env env':Env} {ct:Array Value},Rel ρ H w→ARel ρ env ct→evalSeq T C ops l env H=some (env',H') →
  ∀ b ds k cs,∃ ρ' w' ct',Steps P (lone (fat b ct ds (.inRegion ops l::k)) cs w) (lone (fat b ct' ds k) cs w')∧ARel ρ' env' ct'∧Stp ρ H w ρ' H' w'∧Rel ρ' H' w'
 | [],ρ,H,H',w,env,env',ct,R,A,h=>by
  simp only [evalSeq,Option.some.injEq,Prod.mk.injEq] at h
  obtain ⟨rfl,rfl⟩:=h
  exact fun b ds k cs=>⟨ρ,w,ct,.one st_regionEnd,A,Stp.refl _ _ _,R⟩
 | i::l,ρ,H,H',w,env,env',ct,R,A,h=>by
  simp only [evalSeq] at h
  split at h
  ·cases h
  ·rename_i o ho
   have hpo:plainOp o.op=true:=by
    have:=Array.all_eq_true_iff_forall_mem.1 hp o (Array.mem_of_getElem? ho)
    exact this
   have hy:yielded ops ct=yielded ops env:=funext fun j=>yielded_rel A ops j
   split at h
   ·rename_i hw
    split at h
    ·rename_i v H1 hs
     intro b ds k cs
     obtain ⟨ρ1,w1,cv,s1,s2,s3,s4⟩:=op_steps tok hC R (OpRel.of_all A) hs (rest:=l) ho (by rw [hy];exact hw) hpo b ds k cs
     obtain ⟨ρ2,w2,ct2,t1,t2,t3,t4⟩:=seq_steps hp l s4 (ARel.cput (A.mono s3.ren) o.dst s2) h b ds k cs
     exact ⟨ρ2,w2,ct2,s1.trans t1,t2,s3.trans t3,t4⟩
    ·cases h
   ·rename_i hw
    intro b ds k cs
    obtain ⟨ρ2,w2,ct2,t1,t2,t3,t4⟩:=seq_steps hp l R (ARel.cput A o.dst (.undef ρ)) h b ds k cs
    exact ⟨ρ2,w2,ct2,.head (st_opSkip ho (by rw [hy];simpa using hw)) t1,t2,t3,t4⟩
end
end Go.Ev
