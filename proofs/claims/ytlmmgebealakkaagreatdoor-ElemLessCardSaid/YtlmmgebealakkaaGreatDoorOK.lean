/- OK -/
import Derived.Test.YtlmmgebealakkaaGreatDoorOA
import Derived.Test.YtlmmgebealakkaaGreatDoorEvF
/- The reference: names, checks of tables. -/
namespace Go.Proofs.J
open Go.Ev Go
set_option linter.unusedVariables false
set_option maxHeartbeats 4000000
end Go.Proofs.J
/- The reference: Check of a table. -/
namespace Go.Proofs.J
open Go.Ev Go
set_option linter.unusedVariables false
set_option maxHeartbeats 4000000
end Go.Proofs.J
/- The reference: steps, bounds, breaks. -/
namespace Go.Proofs.J
open Go.Ev Go
set_option linter.unusedVariables false
set_option maxHeartbeats 4000000
end Go.Proofs.J
/- The reference: the relation, bounds, the least of some. -/
namespace Go.Proofs.J
open Go.Ev Go
set_option linter.unusedVariables false
set_option maxHeartbeats 4000000
end Go.Proofs.J
/- The reference: breaks, lattices. -/
namespace Go.Proofs.J
open Go.Ev Go
set_option linter.unusedVariables false
set_option maxHeartbeats 4000000
end Go.Proofs.J
/- The reference: shapes; CheckShape. -/
namespace Go.Proofs.J
open Go.Ev Go
set_option linter.unusedVariables false
set_option maxHeartbeats 4000000
end Go.Proofs.J
/- What the statements look at: shapes, tables, lattices. -/
namespace Go.Proofs.J
open Go.Ev Go
set_option linter.unusedVariables false
set_option maxHeartbeats 4000000
end Go.Proofs.J
/- The error of lattices, and that of the reference. -/
namespace Go.Proofs.J
open Go.Ev Go
set_option linter.unusedVariables false
set_option maxHeartbeats 4000000
end Go.Proofs.J
/- Copies of shapes, of tables, of lattices. -/
namespace Go.Proofs.J
open Go.Ev Go
set_option linter.unusedVariables false
set_option maxHeartbeats 4000000
end Go.Proofs.J
/- Copies of tables and lattices. -/
namespace Go.Proofs.J
open Go.Ev Go
set_option linter.unusedVariables false
set_option maxHeartbeats 4000000
end Go.Proofs.J
/- Copies of lattices. -/
namespace Go.Proofs.J
open Go.Ev Go
set_option linter.unusedVariables false
set_option maxHeartbeats 4000000
/-- Rows of some cells each. -/
def RowsL {α : Type} (sz : Nat) (R : List Value → α → Prop) (us : List Value) (xs : List α) : Prop := us.length = xs.length * sz ∧ ∀ i (h : i < xs.length), ∃ cs, getCells us (i * sz) sz = some cs ∧ R cs xs[i]
theorem RowsL.nil {α : Type} {sz : Nat} {R : List Value → α → Prop} : RowsL sz R [] [] := ⟨by simp, fun i h => by simp at h⟩
theorem RowsL.mono {α : Type} {sz : Nat} {R S : List Value → α → Prop} {us : List Value} {xs : List α} (h : RowsL sz R us xs) (k : ∀ c x, R c x → S c x) : RowsL sz S us xs :=
  ⟨h.1, fun i hi => let ⟨cs, g1, g2⟩ := h.2 i hi; ⟨cs, g1, k _ _ g2⟩⟩
def TbC (Z : Zone) (cs : List Value) (t : Tbl) : Prop := ∃ nm a1 m1 c1 a2 m2 c2 a3 m3 c3, cs = [.string nm, .slice a1 m1 c1, .slice a2 m2 c2, .slice a3 m3 c3] ∧ TbR Z nm (.slice a1 m1 c1) (.slice a2 m2 c2) (.slice a3 m3 c3) t
theorem TbC.mono {Z Z' : Zone} {cs : List Value} {t : Tbl} (e : Ext Z Z') (h : TbC Z cs t) : TbC Z' cs t := let ⟨nm, a1, m1, c1, a2, m2, c2, a3, m3, c3, h1, h2⟩ := h; ⟨nm, a1, m1, c1, a2, m2, c2, a3, m3, c3, h1, h2.mono e⟩
end Go.Proofs.J
