/- Aw -/
import Derived.Test.YtegbiibfmabnbaaGreatTab
import Derived.Test.YtegbiibfmabnbaaGreatEvD
set_option maxRecDepth 100000
namespace Go.Proofs.J
open Go.Ev Go
theorem awake_true:trueR types.get (fnOf Tryz.prog) 10000 14=some true:=by kernel_rfl
theorem tok:TabOK Tryz.prog M.T:=TabOK.mono (tiOf_ok Tryz.prog) (TT.ok types_ok)
theorem fok:FOK Tryz.prog M.F:=fnOf_ok Tryz.prog
theorem mix:Tryz.prog.follows .mixedOrders=true:=by kernel_rfl
theorem ook:OOK M.T M.F M.O:=by
 intro g b h
 have hO:M.O g=bif Nat.beq g 14 then some true else none:=rfl
 rw [hO] at h
 cases e:Nat.beq g 14 with
 | false=>rw [e] at h;cases h
 | true =>
  rw [e] at h
  cases h
  have:g=14:=Nat.eq_of_beq_eq_true e
  subst this
  have ht:=awake_true
  unfold trueR at ht
  rw [fnR_eq (evalR_eq types.get (fnOf Tryz.prog) 10000)] at ht
  simp only [Option.bind_eq_some_iff] at ht
  obtain ⟨⟨v,H'⟩,h1,h2⟩:=ht
  have:=pB_some h2
  simp only at this
  subst this
  exact ⟨10000,10000,H',h1⟩
end Go.Proofs.J
