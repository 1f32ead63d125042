/- OA -/
import Derived.Test.YtlmmgebealakkaaGreatDoorTab
import Derived.Test.YtlmmgebealakkaaGreatDoorPL
import Derived.Test.YtlmmgebealakkaaGreatDoorEvF
/- Names; whether something is so of all elements of a list. -/
namespace Go.Proofs.J
open Go.Ev Go
set_option linter.unusedVariables false
set_option maxHeartbeats 4000000
/-- The words, with what they stand for. -/
def wordE : List (ByteArray × Value) := wordL.zip [.int .u8 1, .int .u8 2, .int .u8 3, .int .u8 4, .int .u8 6, .int .u8 7]
theorem words {Z : Zone} : Cz M (.func (.func 208) #[] #[]) [] Z [] (fun v' Z' A' => Z = Z' ∧ ∃ b, v' = .map (some b) ∧ A' = [pt b (.map (wordE.map fun p => (.string p.1, p.2)))]) := by
  refine Cz.fn (f := Tryz.f208) (by kernel_rfl) rfl rfl rfl _ rfl ?_
  (repeat (first | refine go ?_ | with_reducible intro _))
  refine Wk.mkm rfl rfl rfl fun b => ?_
  repeat (refine Wk.insert rfl rfl rfl rfl (by kernel_rfl) (by kernel_rfl) Upd.head rfl rfl ?_)
  (repeat (first | refine go ?_ | with_reducible intro _))
  refine Wk.ret ⟨_, Rs.tmp rfl Rs.nil, _, Sub.refl _, rfl, b, rfl, rfl⟩
/-! ### all -/
end Go.Proofs.J
/- Check of a table. -/
namespace Go.Proofs.J
open Go.Ev Go
set_option linter.unusedVariables false
set_option maxHeartbeats 4000000
end Go.Proofs.J
/- Check of a table: the whole. -/
namespace Go.Proofs.J
open Go.Ev Go
set_option linter.unusedVariables false
set_option maxHeartbeats 4000000
end Go.Proofs.J
/- The steps of a table. -/
namespace Go.Proofs.J
open Go.Ev Go
set_option linter.unusedVariables false
set_option maxHeartbeats 4000000
end Go.Proofs.J
/- Below, bounds and joins, by steps that are known. -/
namespace Go.Proofs.J
open Go.Ev Go
set_option linter.unusedVariables false
set_option maxHeartbeats 4000000
end Go.Proofs.J
/- Joins; pairs of elements. -/
namespace Go.Proofs.J
open Go.Ev Go
set_option linter.unusedVariables false
set_option maxHeartbeats 4000000
end Go.Proofs.J
/- open, Prove. -/
namespace Go.Proofs.J
open Go.Ev Go
set_option linter.unusedVariables false
set_option maxHeartbeats 4000000
end Go.Proofs.J
/- Prove; shapes. -/
namespace Go.Proofs.J
open Go.Ev Go
set_option linter.unusedVariables false
set_option maxHeartbeats 4000000
end Go.Proofs.J
/- CheckShape. -/
namespace Go.Proofs.J
open Go.Ev Go
set_option linter.unusedVariables false
set_option maxHeartbeats 4000000
/-- A function that tells of a text whether something is so. -/
def Tells (Z : Zone) (fv : Value) (p : ByteArray → Prop) : Prop := ∀ Z1, Ext Z Z1 → ∀ x : ByteArray, x.size ≤ 1000000 → Cz M fv [.string x] Z1 [] (fun v' Z' A' => Bis v' (p x) ∧ Z1 = Z' ∧ A' = [])
theorem Tells.mono {Z Z' : Zone} {fv : Value} {p : ByteArray → Prop} (e : Ext Z Z') (h : Tells Z fv p) : Tells Z' fv p := fun Z1 e1 => h Z1 (e.trans e1)
/-! ### closures of CheckShape -/
end Go.Proofs.J
/- CheckShape: the whole. -/
namespace Go.Proofs.J
open Go.Ev Go
set_option linter.unusedVariables false
set_option maxHeartbeats 4000000
end Go.Proofs.J
