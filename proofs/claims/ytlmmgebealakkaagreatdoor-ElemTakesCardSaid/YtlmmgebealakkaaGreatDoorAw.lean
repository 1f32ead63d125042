/- Aw -/
import Derived.Test.YtlmmgebealakkaaGreatDoorTab
import Derived.Test.YtlmmgebealakkaaGreatDoorEvD
set_option maxRecDepth 100000
namespace Go.Proofs.J
open Go.Ev Go
theorem awake_true:trueR types.get natF 10000 16=some true:=by kernel_rfl
theorem tok:TabOK Tryz.prog M.T:=TabOK.mono (tiOf_ok Tryz.prog) (TT.ok types_ok)
theorem fok:FOK Tryz.prog M.F:=natF_ok
theorem mix:Tryz.prog.follows .mixedOrders=true:=by kernel_rfl
theorem ook:OOK M.T M.F M.O:=by
 intro g b h
 have hO:M.O g=bif Nat.beq g 16 then some true else none:=rfl
 rw [hO] at h
 cases e:Nat.beq g 16 with
 | false=>rw [e] at h;cases h
 | true =>
  rw [e] at h
  cases h
  have:g=16:=Nat.eq_of_beq_eq_true e
  subst this
  have ht:=awake_true
  unfold trueR at ht
  rw [fnR_eq (evalR_eq types.get natF 10000)] at ht
  simp only [Option.bind_eq_some_iff] at ht
  obtain ⟨⟨v,H'⟩,h1,h2⟩:=ht
  have:=pB_some h2
  simp only at this
  subst this
  exact ⟨10000,10000,H',h1⟩
end Go.Proofs.J
