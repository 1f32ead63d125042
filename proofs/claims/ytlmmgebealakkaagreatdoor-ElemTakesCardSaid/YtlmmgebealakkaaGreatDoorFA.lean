/- FA -/
import Derived.Test.YtlmmgebealakkaaGreatDoorEA
import Derived.Test.YtlmmgebealakkaaGreatDoorPL
import Derived.Test.YtlmmgebealakkaaGreatDoorEvF
import Derived.Test.YtlmmgebealakkaaGreatDoorOK
set_option linter.unusedVariables false
set_option maxHeartbeats 4000000
set_option maxRecDepth 100000
set_option linter.unusedSimpArgs false
namespace Go.Proofs.J
open Go.Ev Go
end Go.Proofs.J
namespace Go.Proofs.J
open Go.Ev Go
end Go.Proofs.J
namespace Go.Proofs.J
open Go.Ev Go
theorem countB_len:∀ (k n:Nat),n < 128 ^ k→(countB n).length≤k+1:=by
 intro k
 induction k with
 | zero =>
  intro n h
  rw [countB,if_pos (by simp at h;omega)];simp
 | succ k ih =>
  intro n h
  rw [countB]
  split
  ·simp
  ·simp only [List.length_cons]
   have:=ih (n / 128) (by rw [Nat.pow_succ] at h;omega)
   omega
theorem numB_len {n:Int} (h:NumOk n):(numB n).length≤6:=by
 obtain ⟨h1,h2⟩:=h
 refine countB_len 5 (zig n) ?_
 show zig n < 34359738368
 unfold zig
 split<;>omega
theorem flat_len:∀ {l:List Int},(∀ k∈l,NumOk k)→(l.flatMap numB).length≤6*l.length
 | [],_=>by simp
 | x::l,h=>by
  have:=numB_len (h x (List.mem_cons_self ..))
  have:=flat_len fun k hk=>h k (List.mem_cons_of_mem x hk)
  simp only [List.flatMap_cons,List.length_append,List.length_cons]
  omega
end Go.Proofs.J
namespace Go.Proofs.J
open Go.Ev Go
end Go.Proofs.J
namespace Go.Proofs.J
open Go.Ev Go
end Go.Proofs.J
namespace Go.Proofs.J
open Go.Ev Go
end Go.Proofs.J
namespace Go.Proofs.J
open Go.Ev Go
theorem ElRL.length {Z:Zone}:∀ {l:List El} {us:List Value},ElRL Z l us→us.length=l.length*4
 | [],us,h=>by simp only [ElRL] at h;subst h;rfl
 | s::r,us,h=>by
  simp only [ElRL] at h
  obtain ⟨c,rest,rfl,h1,h2⟩:=h
  obtain ⟨a1,c1,a2,c2,us',rfl,_⟩:=h1.form
  have:=ElRL.length h2
  simp only [List.length_append,List.length_cons,List.length_nil,this];omega
theorem cloneI2 {Z:Zone} {v:Value} {m:Nat} {vs:List Value} (h:Sl Z 1 v m vs) (hm:m≤17592186044416) (ok:okCells vs=true):Cz M (.func (.func 151) #[] #[]) [v] Z [] (fun v' Z' A'=>Z=Z'∧A'=[ol 1 v' m vs]):=by
 have hl:=h.length
 have h0:=h
 rcases h with ⟨rfl,rfl,rfl⟩|⟨b,off,c,xs,wr,g,rfl,h2,h3,h4,h5⟩
 ·refine Cz.fn (f:=Tryz.f151) Ev.cM rfl rfl rfl _ rfl ?_
  refine Ev.gT ?_
  refine Wk.olNil 1 ?_
  refine Wk.ret ?_
  exact ⟨_,Rs.tmp rfl Rs.nil,_,Sub.refl _,rfl,rfl⟩
 ·refine Cz.fn (f:=Tryz.f151) Ev.cM rfl rfl rfl _ rfl ?_
  refine Ev.gT ?_
  refine Wk.bs rfl rfl rfl rfl rfl rfl rfl fun b5=>?_
  refine Ev.gT ?_
  refine Wk.alterr (C:=[ol 1 (.slice (some ⟨b5,0,none⟩) 0 0) 0 []]) Ev.rM (fun s h=>ol_of_pt (m:=0) (vs:=[]) (g:=0) rfl (.inl rfl) rfl h) ?_
  refine Wk.append rfl rfl rfl rfl rfl rfl rfl rfl Rem.head (Src.sl h0) rfl ok hl Ev.wM Ev.wM rfl rfl rfl fun v7=>?_
  refine Ev.gT ?_
  refine Wk.ret ?_
  exact ⟨_,Rs.tmp rfl Rs.nil,_,Sub.refl _,rfl,by simp only [Nat.zero_add,List.nil_append];rfl⟩
end Go.Proofs.J
