/-
  No cell of these rows narrows 'for every input' (looked for: loops, veiled, ifaces, maps, wideKeys, modest, calm, conditions, laid).
  DERIVED. THE GIVEN ROWS OF THIS SEAT. 6 by the template 'for every input the law returns true; each argument reads behind the call as it read before'; 0 by the template 'total and deterministic' (their statements: YtokmcighnjhfjaaGreatTotals.lean).
  GIVEN WITH THE SEED: the statements are not yours to turn. If you find one false, say at which input.
  Laid BY PROGRAM, IN A SANDBOX (cutbox-rows.mjs): the forced cells as the released guide's own fill.sh prints them over the translation efa5b78b20b1a960… (all of the seat's roots in one cut). By AI agents, Wed Nov 11 2026. No macro, syntax, notation, axiom, sorry.
-/
import Derived.Test.YtokmcighnjhfjaaGreatChecked
import GoSem.Claim
import GoSem.ClaimJoined
import GoSem.ClaimMapViews
import Derived.JoinedTies
import Derived.KernelRfl
namespace Go.Proofs.YtokmcighnjhfjaaGreat
/- THE CELL 'sum', in the pinned program and in every row, IS THE sha256 OF THE DUMP (.gsa) THAT YtokmcighnjhfjaaGreatProg.lean LOADS. Nothing in Lean hashes anything: it is a label: what it is worth is what the hold of that sum in a sandbox is worth. -/
noncomputable def Tryz.pinned : Pinned := { name := "ytokmcighnjhfjaagreat", sum := "efa5b78b20b1a960e04ad0e754b802656d0816084587a37e5aeff2b9f963bfae", checked := Tryz.checked }
namespace Rows
def none {H : Type} : Left H := { results := [], args := [] }

/-- 'dripstonelaw13.DequePrograms': WHATEVER THE INPUT: true; the input reads as it did. -/
def dequeProgramsSpec : ChangeSpec := { name := "dequePrograms", fn := fun _ => fun
  | [d] => { results := [.lit (.bool true)], args := [d] }
  | _ => none }
def dequeProgramsRow : OpenClaim := { program := "ytokmcighnjhfjaagreat", sum := "efa5b78b20b1a960e04ad0e754b802656d0816084587a37e5aeff2b9f963bfae", func := "dripstone/dripstonelaw13.DequePrograms", spec := "dequePrograms", unfollowed := true, recurses := true, plainKeys := false, apart := false }
def DequeProgramsSaid : Prop := dequeProgramsRow.holds Tryz.pinned (OpenSpec.ofChange dequeProgramsSpec)

/-- ITS FALSE NEIGHBOUR: 'it returns false'. Refute it at one input. -/
def dequeProgramsWrong : ChangeSpec := { name := "dequePrograms", fn := fun _ => fun
  | [d] => { results := [.lit (.bool false)], args := [d] }
  | _ => none }
def DequeProgramsWrongFalsely : Prop := dequeProgramsRow.holds Tryz.pinned (OpenSpec.ofChange dequeProgramsWrong)

/-- 'dripstonelaw13.DequeChecks': WHATEVER THE INPUT: true; the input reads as it did. -/
def dequeChecksSpec : ChangeSpec := { name := "dequeChecks", fn := fun _ => fun
  | [d1, d2, d3] => { results := [.lit (.bool true)], args := [d1, d2, d3] }
  | _ => none }
def dequeChecksRow : OpenClaim := { program := "ytokmcighnjhfjaagreat", sum := "efa5b78b20b1a960e04ad0e754b802656d0816084587a37e5aeff2b9f963bfae", func := "dripstone/dripstonelaw13.DequeChecks", spec := "dequeChecks", unfollowed := true, recurses := true, plainKeys := false, apart := false }
def DequeChecksSaid : Prop := dequeChecksRow.holds Tryz.pinned (OpenSpec.ofChange dequeChecksSpec)

/-- ITS FALSE NEIGHBOUR: 'it returns false'. Refute it at one input. -/
def dequeChecksWrong : ChangeSpec := { name := "dequeChecks", fn := fun _ => fun
  | [d1, d2, d3] => { results := [.lit (.bool false)], args := [d1, d2, d3] }
  | _ => none }
def DequeChecksWrongFalsely : Prop := dequeChecksRow.holds Tryz.pinned (OpenSpec.ofChange dequeChecksWrong)

/-- 'dripstonelaw13.DequeSerials': WHATEVER THE INPUT: true; the input reads as it did. -/
def dequeSerialsSpec : ChangeSpec := { name := "dequeSerials", fn := fun _ => fun
  | [d1, d2] => { results := [.lit (.bool true)], args := [d1, d2] }
  | _ => none }
def dequeSerialsRow : OpenClaim := { program := "ytokmcighnjhfjaagreat", sum := "efa5b78b20b1a960e04ad0e754b802656d0816084587a37e5aeff2b9f963bfae", func := "dripstone/dripstonelaw13.DequeSerials", spec := "dequeSerials", unfollowed := true, recurses := true, plainKeys := false, apart := false }
def DequeSerialsSaid : Prop := dequeSerialsRow.holds Tryz.pinned (OpenSpec.ofChange dequeSerialsSpec)

/-- ITS FALSE NEIGHBOUR: 'it returns false'. Refute it at one input. -/
def dequeSerialsWrong : ChangeSpec := { name := "dequeSerials", fn := fun _ => fun
  | [d1, d2] => { results := [.lit (.bool false)], args := [d1, d2] }
  | _ => none }
def DequeSerialsWrongFalsely : Prop := dequeSerialsRow.holds Tryz.pinned (OpenSpec.ofChange dequeSerialsWrong)

/-- 'dripstonelaw13.DequeTells': WHATEVER THE INPUT: true; the input reads as it did. -/
def dequeTellsSpec : ChangeSpec := { name := "dequeTells", fn := fun _ => fun
  | [d1, d2] => { results := [.lit (.bool true)], args := [d1, d2] }
  | _ => none }
def dequeTellsRow : OpenClaim := { program := "ytokmcighnjhfjaagreat", sum := "efa5b78b20b1a960e04ad0e754b802656d0816084587a37e5aeff2b9f963bfae", func := "dripstone/dripstonelaw13.DequeTells", spec := "dequeTells", unfollowed := true, recurses := true, plainKeys := false, apart := false }
def DequeTellsSaid : Prop := dequeTellsRow.holds Tryz.pinned (OpenSpec.ofChange dequeTellsSpec)

/-- ITS FALSE NEIGHBOUR: 'it returns false'. Refute it at one input. -/
def dequeTellsWrong : ChangeSpec := { name := "dequeTells", fn := fun _ => fun
  | [d1, d2] => { results := [.lit (.bool false)], args := [d1, d2] }
  | _ => none }
def DequeTellsWrongFalsely : Prop := dequeTellsRow.holds Tryz.pinned (OpenSpec.ofChange dequeTellsWrong)

/-- 'dripstonelaw13.DequeViews': WHATEVER THE INPUT: true; the input reads as it did. -/
def dequeViewsSpec : ChangeSpec := { name := "dequeViews", fn := fun _ => fun
  | [d1, d2] => { results := [.lit (.bool true)], args := [d1, d2] }
  | _ => none }
def dequeViewsRow : OpenClaim := { program := "ytokmcighnjhfjaagreat", sum := "efa5b78b20b1a960e04ad0e754b802656d0816084587a37e5aeff2b9f963bfae", func := "dripstone/dripstonelaw13.DequeViews", spec := "dequeViews", unfollowed := true, recurses := true, plainKeys := false, apart := false }
def DequeViewsSaid : Prop := dequeViewsRow.holds Tryz.pinned (OpenSpec.ofChange dequeViewsSpec)

/-- ITS FALSE NEIGHBOUR: 'it returns false'. Refute it at one input. -/
def dequeViewsWrong : ChangeSpec := { name := "dequeViews", fn := fun _ => fun
  | [d1, d2] => { results := [.lit (.bool false)], args := [d1, d2] }
  | _ => none }
def DequeViewsWrongFalsely : Prop := dequeViewsRow.holds Tryz.pinned (OpenSpec.ofChange dequeViewsWrong)

/-- 'dripstonelaw13.DequeRuns': WHATEVER THE INPUT: true; the input reads as it did. -/
def dequeRunsSpec : ChangeSpec := { name := "dequeRuns", fn := fun _ => fun
  | [d1, d2] => { results := [.lit (.bool true)], args := [d1, d2] }
  | _ => none }
def dequeRunsRow : OpenClaim := { program := "ytokmcighnjhfjaagreat", sum := "efa5b78b20b1a960e04ad0e754b802656d0816084587a37e5aeff2b9f963bfae", func := "dripstone/dripstonelaw13.DequeRuns", spec := "dequeRuns", unfollowed := true, recurses := true, plainKeys := false, apart := false }
def DequeRunsSaid : Prop := dequeRunsRow.holds Tryz.pinned (OpenSpec.ofChange dequeRunsSpec)

/-- ITS FALSE NEIGHBOUR: 'it returns false'. Refute it at one input. -/
def dequeRunsWrong : ChangeSpec := { name := "dequeRuns", fn := fun _ => fun
  | [d1, d2] => { results := [.lit (.bool false)], args := [d1, d2] }
  | _ => none }
def DequeRunsWrongFalsely : Prop := dequeRunsRow.holds Tryz.pinned (OpenSpec.ofChange dequeRunsWrong)

/- THE SECOND FORM. 'bulk': how many values and letters a reading holds, each counted each time it is reached (what is shared counts as often as it is met; a slice's spare places count too). A statement '..UptoSaid' is the law's where the arguments, and the package variables that the reading takes, are together of bulk at most 1048576: NARROWER than '..Said'. Prove '..Said' where nothing that the law and all that it calls make is longer than what came in: it says more and counts as full. Else prove '..UptoSaid'. A law counts once. -/
mutual
def uptoBulk {H : Type} : DataW H → Nat
  | .lit (.string bytes) => bytes.length + 1
  | .lit _ => 1
  | .nil => 1
  | .ptr d => uptoBulk d + 1
  | .slice elems spare => uptoBulkAll elems + uptoBulkAll spare + 1
  | .agg parts => uptoBulkAll parts + 1
  | .iface _ d => uptoBulk d + 1
  | .map entries => uptoBulkEntries entries + 1
  | .held _ => 1
def uptoBulkAll {H : Type} : List (DataW H) → Nat
  | [] => 0
  | d :: r => uptoBulk d + uptoBulkAll r
def uptoBulkEntries {H : Type} : List (Lit × DataW H) → Nat
  | [] => 0
  | x :: r => uptoBulkEntry x + uptoBulkEntries r
def uptoBulkEntry {H : Type} : Lit × DataW H → Nat
  | (.string bytes, d) => bytes.length + uptoBulk d + 1
  | (_, d) => uptoBulk d + 1
 end
def uptoSmall : (H : Type) → List (DataW H) → Bool := fun _ ds => decide (uptoBulkAll ds ≤ 1048576)
def OpenSpec.upto (s : _root_.Go.ChangeSpec) : _root_.Go.OpenSpec := { _root_.Go.OpenSpec.ofChange s with cond := some uptoSmall }

/-- 'dripstonelaw13.DequePrograms', WHERE WHAT IT READS IS OF BULK AT MOST 1048576: true; the input reads as it did. -/
def dequeProgramsUptoRow : OpenClaim := { program := "ytokmcighnjhfjaagreat", sum := "efa5b78b20b1a960e04ad0e754b802656d0816084587a37e5aeff2b9f963bfae", func := "dripstone/dripstonelaw13.DequePrograms", spec := "dequePrograms", unfollowed := true, recurses := true, plainKeys := false, apart := false, narrowed := true }
def DequeProgramsUptoSaid : Prop := dequeProgramsUptoRow.holds Tryz.pinned (OpenSpec.upto dequeProgramsSpec)

/-- 'dripstonelaw13.DequeChecks', WHERE WHAT IT READS IS OF BULK AT MOST 1048576: true; the input reads as it did. -/
def dequeChecksUptoRow : OpenClaim := { program := "ytokmcighnjhfjaagreat", sum := "efa5b78b20b1a960e04ad0e754b802656d0816084587a37e5aeff2b9f963bfae", func := "dripstone/dripstonelaw13.DequeChecks", spec := "dequeChecks", unfollowed := true, recurses := true, plainKeys := false, apart := false, narrowed := true }
def DequeChecksUptoSaid : Prop := dequeChecksUptoRow.holds Tryz.pinned (OpenSpec.upto dequeChecksSpec)

/-- 'dripstonelaw13.DequeSerials', WHERE WHAT IT READS IS OF BULK AT MOST 1048576: true; the input reads as it did. -/
def dequeSerialsUptoRow : OpenClaim := { program := "ytokmcighnjhfjaagreat", sum := "efa5b78b20b1a960e04ad0e754b802656d0816084587a37e5aeff2b9f963bfae", func := "dripstone/dripstonelaw13.DequeSerials", spec := "dequeSerials", unfollowed := true, recurses := true, plainKeys := false, apart := false, narrowed := true }
def DequeSerialsUptoSaid : Prop := dequeSerialsUptoRow.holds Tryz.pinned (OpenSpec.upto dequeSerialsSpec)

/-- 'dripstonelaw13.DequeTells', WHERE WHAT IT READS IS OF BULK AT MOST 1048576: true; the input reads as it did. -/
def dequeTellsUptoRow : OpenClaim := { program := "ytokmcighnjhfjaagreat", sum := "efa5b78b20b1a960e04ad0e754b802656d0816084587a37e5aeff2b9f963bfae", func := "dripstone/dripstonelaw13.DequeTells", spec := "dequeTells", unfollowed := true, recurses := true, plainKeys := false, apart := false, narrowed := true }
def DequeTellsUptoSaid : Prop := dequeTellsUptoRow.holds Tryz.pinned (OpenSpec.upto dequeTellsSpec)

/-- 'dripstonelaw13.DequeViews', WHERE WHAT IT READS IS OF BULK AT MOST 1048576: true; the input reads as it did. -/
def dequeViewsUptoRow : OpenClaim := { program := "ytokmcighnjhfjaagreat", sum := "efa5b78b20b1a960e04ad0e754b802656d0816084587a37e5aeff2b9f963bfae", func := "dripstone/dripstonelaw13.DequeViews", spec := "dequeViews", unfollowed := true, recurses := true, plainKeys := false, apart := false, narrowed := true }
def DequeViewsUptoSaid : Prop := dequeViewsUptoRow.holds Tryz.pinned (OpenSpec.upto dequeViewsSpec)

/-- 'dripstonelaw13.DequeRuns', WHERE WHAT IT READS IS OF BULK AT MOST 1048576: true; the input reads as it did. -/
def dequeRunsUptoRow : OpenClaim := { program := "ytokmcighnjhfjaagreat", sum := "efa5b78b20b1a960e04ad0e754b802656d0816084587a37e5aeff2b9f963bfae", func := "dripstone/dripstonelaw13.DequeRuns", spec := "dequeRuns", unfollowed := true, recurses := true, plainKeys := false, apart := false, narrowed := true }
def DequeRunsUptoSaid : Prop := dequeRunsUptoRow.holds Tryz.pinned (OpenSpec.upto dequeRunsSpec)

end Rows
end Go.Proofs.YtokmcighnjhfjaaGreat
