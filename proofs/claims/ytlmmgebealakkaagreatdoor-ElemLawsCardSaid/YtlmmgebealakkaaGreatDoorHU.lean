/- HU -/
import Derived.Test.YtlmmgebealakkaaGreatDoorEvF
import Derived.Test.YtlmmgebealakkaaGreatDoorHK
set_option linter.unusedVariables false
set_option maxHeartbeats 4000000
set_option maxRecDepth 100000
namespace Go.Proofs.J
open Go.Ev Go
theorem kids_kind {ts:List Tbl} {d:Nat} {s:Shp} {e:El} (so:s.Ok) (w:IsW ts (d+1) s e) (hk:e.kind≠1∧e.kind≠2∧e.kind≠3∧e.kind≠4∧e.kind≠5) {j:Nat} (hj:j < e.kids.length) :
  0 < s.kids.length∧IsW ts d (s.kid (j % s.kids.length)) (e.kd j)∧(e.kind=6∧e.n=0∧e.keys.length=e.kids.length∨e.kind=7∧e.n=0∧e.keys.length=0∧e.kids.length=2):=by
 by_cases nb:e=El.bot
 ·subst nb;simp [El.bot,El.kids] at hj
 rcases w.kinds nb with k|k|k|k|k|k|k
 ·rw [w.inv1 nb k] at hk;exact absurd rfl hk.1
 ·obtain ⟨m,hm,rfl⟩:=w.inv2 nb k;exact absurd rfl hk.2.1
 ·rcases w.inv4 nb k with ⟨m,hm,rfl⟩|rfl
  ·exact absurd rfl hk.2.1
  ·exact absurd rfl hk.2.2.1
 ·obtain ⟨t,m,ht,h1,h2,rfl⟩:=w.inv5 nb k;exact absurd rfl hk.2.2.2.1
 ·obtain ⟨ks,hk2,rfl⟩:=w.inv3 nb k;exact absurd rfl hk.2.2.2.2
 ·obtain ⟨k0,ks,l,e0,hks,hl,hx,rfl⟩:=w.inv6 nb k
  have hkl:s.kids.length=1:=by
   have:=so.kids_.1
   rw [k] at this
   simpa [kidsOf] using this.symm
  have hj:j < l.length:=hj
  refine ⟨by omega,?_,.inl ⟨rfl,rfl,hl.symm⟩⟩
  rw [hkl,Nat.mod_one,Shp.kid_eq e0]
  have:(El.mk 6 0 ks l).kd j=l[j]:=by simp [El.kd,El.kids,hj]
  rw [this]
  exact (hx _ (List.getElem_mem hj)).2
 ·obtain ⟨k0,k1,x,y,e0,e1,hx,hy,hn,rfl⟩:=w.inv7 nb k
  have hkl:s.kids.length=2:=by
   have:=so.kids_.1
   rw [k] at this
   simpa [kidsOf] using this.symm
  have hj:j < 2:=hj
  refine ⟨by omega,?_,.inr ⟨rfl,rfl,rfl,rfl⟩⟩
  rw [hkl,Nat.mod_eq_of_lt hj]
  rcases (by omega:j=0∨j=1) with rfl|rfl
  ·rw [Shp.kid_eq e0];exact hx
  ·rw [Shp.kid_eq e1];exact hy
end Go.Proofs.J
namespace Go.Proofs.J
open Go.Ev Go
end Go.Proofs.J
namespace Go.Proofs.J
open Go.Ev Go
end Go.Proofs.J
namespace Go.Proofs.J
open Go.Ev Go
end Go.Proofs.J
namespace Go.Proofs.J
open Go.Ev Go
end Go.Proofs.J
