/- WT -/
import Derived.Test.YtlmmgebealakkaaGreatDoorRows
import Derived.Test.YtlmmgebealakkaaGreatDoorTab
import Derived.Test.YtlmmgebealakkaaGreatDoorEvF
import Derived.Test.YtlmmgebealakkaaGreatDoorPL
import Derived.Test.YtlmmgebealakkaaGreatDoorOK
set_option linter.unusedVariables false
set_option maxHeartbeats 4000000
set_option linter.unusedSimpArgs false
namespace Go.Proofs.J
open Go.Ev Go
theorem drop1 {vs:List Value} {i:Nat} {x:Value} (h:(vs.drop (i*1)).take 1=[x]):vs[i]?=some x:=by
 rw [Nat.mul_one] at h
 have:=congrArg (fun l=>l[0]?) h
 simpa [List.getElem?_take,List.getElem?_drop] using this
theorem list_of {α:Type} {R:Value→α→Prop}:∀ (vs:List Value),(∀ i,i < vs.length→∃ x a,vs[i]?=some x∧R x a)→∃ l:List α,All2 R vs l
 | [],_=>⟨[],.nil⟩
 | v::vs,h=>by
  obtain ⟨x,a,h1,h2⟩:=h 0 (by simp)
  obtain ⟨l,hl⟩:=list_of vs fun i hi=>by have:=h (i+1) (by simp;omega);simpa using this
  simp at h1
  exact ⟨a::l,.cons (h1▸h2) hl⟩
theorem c5:Tryz.prog.cellsOf 5=1:=by kernel_rfl
theorem c3:Tryz.prog.cellsOf 3=1:=by kernel_rfl
theorem c52:Tryz.prog.cellsOf 28=1:=by kernel_rfl
theorem ints_of {k:IntKind} {vs:List Value} {l:List Int} (h:All2 (fun x a=>x=Value.int k a) vs l):vs=l.map (Value.int k):=by
 induction h with
 | nil=>rfl
 | cons h _ ih=>rw [h,ih];rfl
theorem wt_bytes {Z:Zone} {d:Nat} {cs:List Value} (h:Wt Tryz.prog Z d 61 cs):∃ v xs,cs=[v]∧Sl Z 1 v xs.length (by8 xs):=by
 cases d with
 | zero=>exact h.elim
 | succ d =>
  simp only [Wt,Tryz.underlying61,c5] at h
  obtain ⟨v,m,vs,rfl,hs,_,hw⟩:=h
  have hl:=hs.length
  obtain ⟨l,hl2⟩:=list_of (R:=fun x a=>x=Value.int .u8 a) vs fun i hi=>by
   have:=hw i Ev.wM
   cases d with
   | zero=>exact this.elim
   | succ d =>
    simp only [Wt,Tryz.underlying5] at this
    obtain ⟨n,e,_⟩:=this
    exact ⟨_,n,drop1 e,rfl⟩
  have e:=ints_of hl2
  subst e
  refine ⟨v,l,rfl,?_⟩
  have:m=l.length:=by simp at hl;omega
  subst this
  exact hs
theorem wt_ints {Z:Zone} {d:Nat} {cs:List Value} (h:Wt Tryz.prog Z d 28 cs):∃ v xs,cs=[v]∧Sl Z 1 v xs.length (i64s xs):=by
 cases d with
 | zero=>exact h.elim
 | succ d =>
  simp only [Wt,Tryz.underlying28,c3] at h
  obtain ⟨v,m,vs,rfl,hs,_,hw⟩:=h
  have hl:=hs.length
  obtain ⟨l,hl2⟩:=list_of (R:=fun x a=>x=Value.int .i64 a) vs fun i hi=>by
   have:=hw i Ev.wM
   cases d with
   | zero=>exact this.elim
   | succ d =>
    simp only [Wt,Tryz.underlying3] at this
    obtain ⟨n,e,_⟩:=this
    exact ⟨_,n,drop1 e,rfl⟩
  have e:=ints_of hl2
  subst e
  refine ⟨v,l,rfl,?_⟩
  have:m=l.length:=by simp at hl;omega
  subst this
  exact hs
end Go.Proofs.J
namespace Go.Proofs.J
open Go Go.Ev
theorem k58:Tryz.prog.cellsOf 22=1:=by kernel_rfl
theorem k61:Tryz.prog.cellsOf 25=3:=by kernel_rfl
theorem k63:Tryz.prog.cellsOf 27=4:=by kernel_rfl
theorem k59:Tryz.prog.cellsOf 23=1:=by kernel_rfl
theorem k134:Tryz.prog.cellsOf 69=1:=by kernel_rfl
theorem k135:Tryz.prog.cellsOf 70=1:=by kernel_rfl
theorem k136:Tryz.prog.cellsOf 71=1:=by kernel_rfl
theorem k138:Tryz.prog.cellsOf 73=4:=by kernel_rfl
theorem k9:Tryz.prog.cellsOf 9=1:=by kernel_rfl
theorem k4:Tryz.prog.cellsOf 4=1:=by kernel_rfl
theorem rows_of {α:Type} {sz m:Nat} {R:List Value→α→Prop} {vs:List Value} (hl:vs.length=m*sz) (h:∀ i,i < m→∃ x,R ((vs.drop (i*sz)).take sz) x):∃ l:List α,l.length=m∧RowsL sz R vs l:=by
 have key:∀ k,k≤m→∃ l:List α,l.length=k∧RowsL sz R (vs.take (k*sz)) l:=by
  intro k
  induction k with
  | zero=>exact fun _=>⟨[],rfl,by simpa using RowsL.nil⟩
  | succ k ih =>
   intro hk
   obtain ⟨l,h1,h2⟩:=ih Ev.wM
   obtain ⟨x,hx⟩:=h k Ev.wM
   refine ⟨l++[x],by simp [h1],?_⟩
   rw [Nat.add_mul,Nat.one_mul,List.take_add]
   have hle:(k+1)*sz≤m*sz:=Nat.mul_le_mul_right _ hk
   rw [Nat.add_mul,Nat.one_mul] at hle
   exact h2.snoc (by rw [List.length_take,List.length_drop];omega) hx
 obtain ⟨l,h1,h2⟩:=key m (Nat.le_refl _)
 refine ⟨l,h1,?_⟩
 rw [←hl,List.take_length] at h2
 exact h2
theorem shrl_of {Z:Zone} {m:Nat} {vs:List Value} (hl:vs.length=m*3) (h:∀ i,i < m→∃ s,ShR Z s ((vs.drop (i*3)).take 3)):∃ l:List Shp,l.length=m∧ShRL Z l vs:=by
 have key:∀ k,k≤m→∃ l:List Shp,l.length=k∧ShRL Z l (vs.take (k*3)):=by
  intro k
  induction k with
  | zero=>exact fun _=>⟨[],rfl,by simp [ShRL]⟩
  | succ k ih =>
   intro hk
   obtain ⟨l,h1,h2⟩:=ih Ev.wM
   obtain ⟨x,hx⟩:=h k Ev.wM
   refine ⟨l++[x],by simp [h1],?_⟩
   rw [Nat.add_mul,Nat.one_mul,List.take_add]
   exact ShRL.snoc hx h2
 obtain ⟨l,h1,h2⟩:=key m (Nat.le_refl _)
 refine ⟨l,h1,?_⟩
 rw [←hl,List.take_length] at h2
 exact h2
theorem len3 {l:List Value} (h:l.length=3):∃ a b c,l=[a,b,c]:=by
 match l,h with
 | [a,b,c],_=>exact ⟨a,b,c,rfl⟩
theorem len4 {l:List Value} (h:l.length=4):∃ a b c d,l=[a,b,c,d]:=by
 match l,h with
 | [a,b,c,d],_=>exact ⟨a,b,c,d,rfl⟩
theorem wt_u8 {Z:Zone} {d:Nat} {v:Value} (h:Wt Tryz.prog Z d 5 [v]):∃ n,v=.int .u8 n:=by
 cases d with
 | zero=>exact h.elim
 | succ d =>
  simp only [Wt,Tryz.underlying5] at h
  obtain ⟨n,e,_⟩:=h
  cases e;exact ⟨_,rfl⟩
theorem wt_str {Z:Zone} {d:Nat} {cs:List Value} (h:Wt Tryz.prog Z d 9 cs):∃ n,cs=[.string n]:=by
 cases d with
 | zero=>exact h.elim
 | succ d =>
  simp only [Wt,Tryz.underlying9] at h
  obtain ⟨n,e,_⟩:=h
  exact ⟨_,e⟩
theorem wt_bool {Z:Zone} {d:Nat} {cs:List Value} (h:Wt Tryz.prog Z d 4 cs):∃ n,cs=[.bool n]:=by
 cases d with
 | zero=>exact h.elim
 | succ d =>
  simp only [Wt,Tryz.underlying4] at h
  obtain ⟨n,e⟩:=h
  exact ⟨_,e⟩
theorem wt_shape {Z:Zone}:∀ (d:Nat) {cs:List Value},Wt Tryz.prog Z d 25 cs→∃ s,ShR Z s cs:=by
 intro d
 induction d using Nat.strongRecOn with
 | _ d ih =>
 intro cs h
 cases d with
 | zero=>exact h.elim
 | succ d =>
  simp only [Wt,Tryz.underlying25,k61] at h
  obtain ⟨hlen,hf⟩:=h
  obtain ⟨a,b,c,rfl⟩:=len3 hlen
  have f0:=hf _ (List.Mem.head _)
  have f1:=hf _ (List.Mem.tail _ (List.Mem.head _))
  have f2:=hf _ (List.Mem.tail _ (List.Mem.tail _ (List.Mem.head _)))
  simp only [c5,k9,k59,List.drop_zero,List.drop_succ_cons,List.take_succ_cons,List.take_zero] at f0 f1 f2
  obtain ⟨k,rfl⟩:=wt_u8 f0
  obtain ⟨n,e⟩:=wt_str f1
  cases e
  cases d with
  | zero=>exact f2.elim
  | succ d =>
   simp only [Wt,Tryz.underlying23,k61] at f2
   obtain ⟨v,m,vs,e,hs,_,hw⟩:=f2
   cases e
   obtain ⟨l,hl,hR⟩:=shrl_of hs.length fun i hi=>ih d Ev.wM (hw i hi)
   subst hl
   exact ⟨.mk k n l,by simp only [ShR];exact ⟨_,_,rfl,hs,hR⟩⟩
theorem wt_strs {Z:Zone} {d:Nat} {cs:List Value} (h:Wt Tryz.prog Z d 69 cs):∃ (v:Value) (xs:List ByteArray),cs=[v]∧Sl Z 1 v xs.length (xs.map Value.string):=by
 cases d with
 | zero=>exact h.elim
 | succ d =>
  simp only [Wt,Tryz.underlying69,k9] at h
  obtain ⟨v,m,vs,rfl,hs,_,hw⟩:=h
  have hl:=hs.length
  obtain ⟨l,hl2⟩:=list_of (R:=fun x a=>x=Value.string a) vs fun i hi=>by
   obtain ⟨n,e⟩:=wt_str (hw i Ev.wM)
   exact ⟨_,n,drop1 e,rfl⟩
  have e:vs=l.map Value.string:=by
   clear hs hw hl
   induction hl2 with
   | nil=>rfl
   | cons h _ ih=>rw [h,ih];rfl
  subst e
  refine ⟨v,l,rfl,?_⟩
  have:m=l.length:=by simp at hl;omega
  subst this
  exact hs
theorem wt_bools {Z:Zone} {d:Nat} {cs:List Value} (h:Wt Tryz.prog Z d 71 cs):∃ (v:Value) (xs:List Bool),cs=[v]∧Sl Z 1 v xs.length (xs.map Value.bool):=by
 cases d with
 | zero=>exact h.elim
 | succ d =>
  simp only [Wt,Tryz.underlying71,k4] at h
  obtain ⟨v,m,vs,rfl,hs,_,hw⟩:=h
  have hl:=hs.length
  obtain ⟨l,hl2⟩:=list_of (R:=fun x a=>x=Value.bool a) vs fun i hi=>by
   obtain ⟨n,e⟩:=wt_bool (hw i Ev.wM)
   exact ⟨_,n,drop1 e,rfl⟩
  have e:vs=l.map Value.bool:=by
   clear hs hw hl
   induction hl2 with
   | nil=>rfl
   | cons h _ ih=>rw [h,ih];rfl
  subst e
  refine ⟨v,l,rfl,?_⟩
  have:m=l.length:=by simp at hl;omega
  subst this
  exact hs
theorem wt_introws {Z:Zone} {d:Nat} {cs:List Value} (h:Wt Tryz.prog Z d 70 cs):∃ v xss,cs=[v]∧Rows Z v xss:=by
 cases d with
 | zero=>exact h.elim
 | succ d =>
  simp only [Wt,Tryz.underlying70,c52] at h
  obtain ⟨v,m,vs,rfl,hs,_,hw⟩:=h
  have hl:=hs.length
  obtain ⟨l,hl2⟩:=list_of (R:=fun u (xs:List Int)=>Sl Z 1 u xs.length (xs.map (Value.int .i64))) vs fun i hi=>by
   obtain ⟨u,xs,e,hu⟩:=wt_ints (hw i Ev.wM)
   exact ⟨u,xs,drop1 e,hu⟩
  have:m=l.length:=by rw [←hl2.length];omega
  subst this
  exact ⟨v,l,rfl,vs,hs,fun i hi=>hl2.getElem hi⟩
theorem wt_table {Z:Zone} {d:Nat} {cs:List Value} (h:Wt Tryz.prog Z d 73 cs):∃ t,TbC Z cs t:=by
 cases d with
 | zero=>exact h.elim
 | succ d =>
  simp only [Wt,Tryz.underlying73,k138] at h
  obtain ⟨hlen,hf⟩:=h
  obtain ⟨a,b,c,e,rfl⟩:=len4 hlen
  have f0:=hf _ (List.Mem.head _)
  have f1:=hf _ (List.Mem.tail _ (List.Mem.head _))
  have f2:=hf _ (List.Mem.tail _ (List.Mem.tail _ (List.Mem.head _)))
  have f3:=hf _ (List.Mem.tail _ (List.Mem.tail _ (List.Mem.tail _ (List.Mem.head _))))
  simp only [k134,k9,k135,k136,List.drop_zero,List.drop_succ_cons,List.take_succ_cons,List.take_zero] at f0 f1 f2 f3
  obtain ⟨n,e0⟩:=wt_str f0
  obtain ⟨v1,xs,e1,h1⟩:=wt_strs f1
  obtain ⟨v2,ys,e2,h2⟩:=wt_introws f2
  obtain ⟨v3,zs,e3,h3⟩:=wt_bools f3
  cases e0;cases e1;cases e2;cases e3
  obtain ⟨a1,c1,rfl⟩:=h1.form
  obtain ⟨a3,c3,rfl⟩:=h3.form
  obtain ⟨us,hs,hr⟩:=h2
  obtain ⟨a2,c2,rfl⟩:=hs.form
  exact ⟨⟨n,xs,ys,zs⟩,_,_,_,_,_,_,_,_,_,_,rfl,rfl,h1,⟨us,hs,hr⟩,h3⟩
theorem wt_lattice {Z:Zone} {d:Nat} {cs:List Value} (h:Wt Tryz.prog Z d 27 cs):∃ l,LatR Z cs l:=by
 cases d with
 | zero=>exact h.elim
 | succ d =>
  simp only [Wt,Tryz.underlying27,k63] at h
  obtain ⟨hlen,hf⟩:=h
  obtain ⟨a,b,c,e,rfl⟩:=len4 hlen
  have f0:=hf _ (List.Mem.head _)
  have f1:=hf _ (List.Mem.tail _ (List.Mem.head _))
  simp only [k58,k61,List.drop_zero,List.drop_succ_cons,List.take_succ_cons,List.take_zero] at f0 f1
  obtain ⟨s,hs⟩:=wt_shape _ f1
  cases d with
  | zero=>exact f0.elim
  | succ d =>
   simp only [Wt,Tryz.underlying22,k138] at f0
   obtain ⟨v,m,vs,e,hsl,_,hw⟩:=f0
   cases e
   obtain ⟨l,hl,hR⟩:=rows_of hsl.length fun i hi=>wt_table (hw i hi)
   subst hl
   exact ⟨(l,s),_,_,rfl,TbsR.of hsl hR,hs⟩
end Go.Proofs.J
namespace Go.Proofs.J
open Go Go.Ev
theorem kEl:Tryz.prog.cellsOf 31=4:=by kernel_rfl
theorem bEl:Tryz.prog.bytesOf 31=64:=by kernel_rfl
theorem bInt:Tryz.prog.bytesOf 3=8:=by kernel_rfl
theorem kEls:Tryz.prog.cellsOf 29=1:=by kernel_rfl
theorem kInts:Tryz.prog.cellsOf 28=1:=by kernel_rfl
theorem wf_i64 {n:Int} (h:(Lit.int .i64 n).wf=true):-9223372036854775808≤n∧n≤9223372036854775807:=by
 simp [Lit.wf,IntKind.min,IntKind.max,IntKind.signed,IntKind.bits] at h
 exact h
theorem wf_u8 {n:Int} (h:(Lit.int .u8 n).wf=true):0≤n∧n≤255:=by
 simp [Lit.wf,IntKind.min,IntKind.max,IntKind.signed,IntKind.bits] at h
 exact h
structure El.In (d:Nat) (e:El):Prop where
 lv:e.levels≤d
 sm:∀ k,e.Sm k
theorem El.In.fit {d:Nat} {e:El} (h:e.In d):e.Fit d:=⟨h.lv,h.sm d⟩
theorem El.In.le {d d':Nat} {e:El} (h:e.In d) (k:d≤d'):e.In d':=⟨Nat.le_trans h.lv k,h.sm⟩
theorem elrl_of {Z:Zone} {m d:Nat} {vs:List Value} (hl:vs.length=m*4) (h:∀ i,i < m→∃ s,ElR Z s ((vs.drop (i*4)).take 4)∧s.In d):∃ l:List El,l.length=m∧ElRL Z l vs∧∀ s∈l,s.In d:=by
 have key:∀ k,k≤m→∃ l:List El,l.length=k∧ElRL Z l (vs.take (k*4))∧∀ s∈l,s.In d:=by
  intro k
  induction k with
  | zero=>exact fun _=>⟨[],rfl,by simp [ElRL],by simp⟩
  | succ k ih =>
   intro hk
   obtain ⟨l,h1,h2,h3⟩:=ih Ev.wM
   obtain ⟨x,hx,hi⟩:=h k Ev.wM
   refine ⟨l++[x],by simp [h1],?_,?_⟩
   ·rw [Nat.add_mul,Nat.one_mul,List.take_add]
    exact ElRL.snoc hx h2
   ·intro s hs
    rcases List.mem_append.1 hs with q|q
    ·exact h3 s q
    ·rw [List.mem_singleton.1 q];exact hi
 obtain ⟨l,h1,h2,h3⟩:=key m (Nat.le_refl _)
 refine ⟨l,h1,?_,h3⟩
 rw [←hl,List.take_length] at h2
 exact h2
theorem wt_keys {Z:Zone} {d:Nat} {cs:List Value} (h:Wt Tryz.prog Z d 28 cs):∃ (v:Value) (xs:List Int),cs=[v]∧Sl Z 1 v xs.length (xs.map (Value.int .i64))∧xs.length≤17592186044416∧∀ k∈xs,-9223372036854775808≤k∧k≤9223372036854775807:=by
 cases d with
 | zero=>exact h.elim
 | succ d =>
  simp only [Wt,Tryz.underlying28,c3] at h
  obtain ⟨v,m,vs,rfl,hs,hm,hw⟩:=h
  have hl:=hs.length
  obtain ⟨l,hl2⟩:=list_of (R:=fun x a=>x=Value.int .i64 a∧(-9223372036854775808≤a∧a≤9223372036854775807)) vs fun i hi=>by
   have:=hw i Ev.wM
   cases d with
   | zero=>exact this.elim
   | succ d =>
    simp only [Wt,Tryz.underlying3] at this
    obtain ⟨n,e,k⟩:=this
    exact ⟨_,n,drop1 e,rfl,wf_i64 k⟩
  have e:vs=l.map (Value.int .i64)∧∀ k∈l,-9223372036854775808≤k∧k≤9223372036854775807:=by
   clear hs hw hl
   induction hl2 with
   | nil=>exact ⟨rfl,by simp⟩
   | cons h _ ih=>exact ⟨by rw [h.1,ih.1];rfl,fun k hk=>by
    cases hk with
    | head=>exact h.2
    | tail _ q=>exact ih.2 k q⟩
  obtain ⟨rfl,hb⟩:=e
  have:m=l.length:=by simp at hl;omega
  subst this
  refine ⟨v,l,rfl,hs,?_,hb⟩
  have:=hm.2
  rw [bInt] at this
  simp only [reachBytes] at this
  omega
theorem wt_elem {Z:Zone}:∀ (d:Nat) {cs:List Value},Wt Tryz.prog Z d 31 cs→∃ e,ElR Z e cs∧e.In d:=by
 intro d
 induction d using Nat.strongRecOn with
 | _ d ih =>
 intro cs h
 cases d with
 | zero=>exact h.elim
 | succ d =>
  simp only [Wt,Tryz.underlying31,kEl] at h
  obtain ⟨hlen,hf⟩:=h
  obtain ⟨a,b,c,e,rfl⟩:=len4 hlen
  have f0:=hf _ (List.Mem.head _)
  have f1:=hf _ (List.Mem.tail _ (List.Mem.head _))
  have f2:=hf _ (List.Mem.tail _ (List.Mem.tail _ (List.Mem.head _)))
  have f3:=hf _ (List.Mem.tail _ (List.Mem.tail _ (List.Mem.tail _ (List.Mem.head _))))
  simp only [c5,c3,kInts,kEls,List.drop_zero,List.drop_succ_cons,List.take_succ_cons,List.take_zero] at f0 f1 f2 f3
  obtain ⟨v2,xs,e2,h2,hx1,hx2⟩:=wt_keys f2
  cases e2
  cases d with
  | zero=>exact f3.elim
  | succ d =>
   simp only [Wt,Tryz.underlying5] at f0
   simp only [Wt,Tryz.underlying3] at f1
   simp only [Wt,Tryz.underlying29,kEl] at f3
   obtain ⟨k,e0,w0⟩:=f0
   obtain ⟨n,e1,w1⟩:=f1
   obtain ⟨v,m,vs,e3,hs,hm,hw⟩:=f3
   cases e0
   cases e1
   cases e3
   obtain ⟨l,hl,hR,hI⟩:=elrl_of hs.length fun i hi=>ih d Ev.wM (hw i hi)
   subst hl
   refine ⟨.mk k n xs l,by simp only [ElR];exact ⟨_,_,_,rfl,h2,hs,hR⟩,?_,?_⟩
   ·have:=(elLevelsL_le (l:=l) (n:=d)).2 fun s hs=>(hI s hs).lv
    simp only [El.levels]
    omega
   ·intro q
    cases q with
    | zero=>trivial
    | succ q =>
     refine ⟨hx1,?_,wf_i64 w1,wf_u8 w0,hx2,fun s hs=>(hI s hs).sm q⟩
     have:=hm.2
     rw [bEl] at this
     simp only [reachBytes] at this
     show l.length≤_
     omega
end Go.Proofs.J
