/- The law ElemChecks of chapter 4: the error of any element of any lattice, and whether it is wrong, are what the reference says. -/
import Derived.Test.YtlmmgebealakkaaGreatDoorERowChecks
import Derived.Test.YtlmmgebealakkaaGreatDoorEGoesChecks
import Derived.SevenTiedAt
import Derived.Test.YtlmmgebealakkaaGreatDoorTie
import Derived.Test.YtlmmgebealakkaaGreatDoorCards
set_option linter.unusedVariables false
namespace Go.Proofs.YtlmmgebealakkaaGreatDoor.elemChecks
open Go
/-- The tied card, out of the row. -/
theorem card : Rows.ElemChecksCardSaid :=
 Claim7.holds_tied_plain_at .later [] Rows.elemChecksCard.laidKinds true Rows.elemChecksCard.stood.harness false
  proved (fun _ h => by cases h) (by kernel_rfl) (fun _ h => by cases h) elemChecks_row_tie rfl ⟨rfl, rfl⟩ (by kernel_rfl) rfl
  (fun f fn hf hfn => by
   obtain rfl : f = 3 := Option.some.inj ((show Tryz.prog.funcNamed Rows.elemChecksRow.func = some 3 by kernel_rfl).symm.trans hf) |>.symm
   obtain rfl : fn = Tryz.f3 := (Option.some.inj (Tryz.func3.symm.trans hfn)).symm
   exact ⟨by kernel_rfl, fun j t ht => by
    rw [Tryz.params3] at ht
    have hm : t ∈ [27, 31] := by simpa using Array.mem_of_getElem? ht
    have hall : ([27, 31].all fun u => !Tryz.prog.wantsStandIn u) = true := by kernel_rfl
    exact (show Tryz.prog.wantsStandIn t = false by simpa using List.all_eq_true.1 hall t hm)⟩)
  goes
#print axioms card
end Go.Proofs.YtlmmgebealakkaaGreatDoor.elemChecks
namespace Go.Proofs.YtlmmgebealakkaaGreatDoor
/-- The card, under a short name, for the claim. -/
theorem elemChecks_holds : Rows.ElemChecksCardSaid := elemChecks.card
end Go.Proofs.YtlmmgebealakkaaGreatDoor
