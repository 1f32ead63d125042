/-
  No cell of these rows narrows 'for every input' (looked for: loops, veiled, ifaces, maps, wideKeys, modest, calm, conditions, laid).
  DERIVED. THE GIVEN ROWS OF THIS SEAT. 10 by the template 'for every input the law returns true; each argument reads behind the call as it read before'; 0 by the template 'total and deterministic' (their statements: YtegbiibfmabnbaaGreatTotals.lean).
  GIVEN WITH THE SEED: the statements are not yours to turn. If you find one false, say at which input.
  Laid BY PROGRAM, IN A SANDBOX (cutbox-rows.mjs): the forced cells as the released guide's own fill.sh prints them over the translation 3f4354b026ce3001… (all of the seat's roots in one cut). By AI agents, Wed Nov 11 2026. No macro, syntax, notation, axiom, sorry.
-/
import Derived.Test.YtegbiibfmabnbaaGreatChecked
import GoSem.Claim
import GoSem.ClaimJoined
import GoSem.ClaimMapViews
import Derived.JoinedTies
import Derived.KernelRfl
namespace Go.Proofs.YtegbiibfmabnbaaGreat
/- THE CELL 'sum', in the pinned program and in every row, IS THE sha256 OF THE DUMP (.gsa) THAT YtegbiibfmabnbaaGreatProg.lean LOADS. Nothing in Lean hashes anything: it is a label: what it is worth is what the hold of that sum in a sandbox is worth. -/
noncomputable def Tryz.pinned : Pinned := { name := "ytegbiibfmabnbaagreat", sum := "3f4354b026ce30019081ef517bc6745ece1aa02c05ef327260d1d82642cae5cb", checked := Tryz.checked }
namespace Rows
def none {H : Type} : Left H := { results := [], args := [] }

/-- 'dripstonelaw13.DequeSerials': WHATEVER THE INPUT: true; the input reads as it did. -/
def dequeSerialsSpec : ChangeSpec := { name := "dequeSerials", fn := fun _ => fun
  | [d1, d2] => { results := [.lit (.bool true)], args := [d1, d2] }
  | _ => none }
def dequeSerialsRow : OpenClaim := { program := "ytegbiibfmabnbaagreat", sum := "3f4354b026ce30019081ef517bc6745ece1aa02c05ef327260d1d82642cae5cb", func := "dripstone/dripstonelaw13.DequeSerials", spec := "dequeSerials", unfollowed := true, recurses := true, plainKeys := false, apart := false }
def DequeSerialsSaid : Prop := dequeSerialsRow.holds Tryz.pinned (OpenSpec.ofChange dequeSerialsSpec)

/-- ITS FALSE NEIGHBOUR: 'it returns false'. Refute it at one input. -/
def dequeSerialsWrong : ChangeSpec := { name := "dequeSerials", fn := fun _ => fun
  | [d1, d2] => { results := [.lit (.bool false)], args := [d1, d2] }
  | _ => none }
def DequeSerialsWrongFalsely : Prop := dequeSerialsRow.holds Tryz.pinned (OpenSpec.ofChange dequeSerialsWrong)

/-- 'dripstonelaw13.DequeViews': WHATEVER THE INPUT: true; the input reads as it did. -/
def dequeViewsSpec : ChangeSpec := { name := "dequeViews", fn := fun _ => fun
  | [d1, d2] => { results := [.lit (.bool true)], args := [d1, d2] }
  | _ => none }
def dequeViewsRow : OpenClaim := { program := "ytegbiibfmabnbaagreat", sum := "3f4354b026ce30019081ef517bc6745ece1aa02c05ef327260d1d82642cae5cb", func := "dripstone/dripstonelaw13.DequeViews", spec := "dequeViews", unfollowed := true, recurses := true, plainKeys := false, apart := false }
def DequeViewsSaid : Prop := dequeViewsRow.holds Tryz.pinned (OpenSpec.ofChange dequeViewsSpec)

/-- ITS FALSE NEIGHBOUR: 'it returns false'. Refute it at one input. -/
def dequeViewsWrong : ChangeSpec := { name := "dequeViews", fn := fun _ => fun
  | [d1, d2] => { results := [.lit (.bool false)], args := [d1, d2] }
  | _ => none }
def DequeViewsWrongFalsely : Prop := dequeViewsRow.holds Tryz.pinned (OpenSpec.ofChange dequeViewsWrong)

/-- 'dripstonelaw13.DequeRuns': WHATEVER THE INPUT: true; the input reads as it did. -/
def dequeRunsSpec : ChangeSpec := { name := "dequeRuns", fn := fun _ => fun
  | [d1, d2] => { results := [.lit (.bool true)], args := [d1, d2] }
  | _ => none }
def dequeRunsRow : OpenClaim := { program := "ytegbiibfmabnbaagreat", sum := "3f4354b026ce30019081ef517bc6745ece1aa02c05ef327260d1d82642cae5cb", func := "dripstone/dripstonelaw13.DequeRuns", spec := "dequeRuns", unfollowed := true, recurses := true, plainKeys := false, apart := false }
def DequeRunsSaid : Prop := dequeRunsRow.holds Tryz.pinned (OpenSpec.ofChange dequeRunsSpec)

/-- ITS FALSE NEIGHBOUR: 'it returns false'. Refute it at one input. -/
def dequeRunsWrong : ChangeSpec := { name := "dequeRuns", fn := fun _ => fun
  | [d1, d2] => { results := [.lit (.bool false)], args := [d1, d2] }
  | _ => none }
def DequeRunsWrongFalsely : Prop := dequeRunsRow.holds Tryz.pinned (OpenSpec.ofChange dequeRunsWrong)

/-- 'dripstonelaw13.DequeTells': WHATEVER THE INPUT: true; the input reads as it did. -/
def dequeTellsSpec : ChangeSpec := { name := "dequeTells", fn := fun _ => fun
  | [d1, d2] => { results := [.lit (.bool true)], args := [d1, d2] }
  | _ => none }
def dequeTellsRow : OpenClaim := { program := "ytegbiibfmabnbaagreat", sum := "3f4354b026ce30019081ef517bc6745ece1aa02c05ef327260d1d82642cae5cb", func := "dripstone/dripstonelaw13.DequeTells", spec := "dequeTells", unfollowed := true, recurses := true, plainKeys := false, apart := false }
def DequeTellsSaid : Prop := dequeTellsRow.holds Tryz.pinned (OpenSpec.ofChange dequeTellsSpec)

/-- ITS FALSE NEIGHBOUR: 'it returns false'. Refute it at one input. -/
def dequeTellsWrong : ChangeSpec := { name := "dequeTells", fn := fun _ => fun
  | [d1, d2] => { results := [.lit (.bool false)], args := [d1, d2] }
  | _ => none }
def DequeTellsWrongFalsely : Prop := dequeTellsRow.holds Tryz.pinned (OpenSpec.ofChange dequeTellsWrong)

/-- 'dripstonelaw13.DequeOnce': WHATEVER THE INPUT: true; the input reads as it did. -/
def dequeOnceSpec : ChangeSpec := { name := "dequeOnce", fn := fun _ => fun
  | [d1, d2] => { results := [.lit (.bool true)], args := [d1, d2] }
  | _ => none }
def dequeOnceRow : OpenClaim := { program := "ytegbiibfmabnbaagreat", sum := "3f4354b026ce30019081ef517bc6745ece1aa02c05ef327260d1d82642cae5cb", func := "dripstone/dripstonelaw13.DequeOnce", spec := "dequeOnce", unfollowed := true, recurses := true, plainKeys := false, apart := false }
def DequeOnceSaid : Prop := dequeOnceRow.holds Tryz.pinned (OpenSpec.ofChange dequeOnceSpec)

/-- ITS FALSE NEIGHBOUR: 'it returns false'. Refute it at one input. -/
def dequeOnceWrong : ChangeSpec := { name := "dequeOnce", fn := fun _ => fun
  | [d1, d2] => { results := [.lit (.bool false)], args := [d1, d2] }
  | _ => none }
def DequeOnceWrongFalsely : Prop := dequeOnceRow.holds Tryz.pinned (OpenSpec.ofChange dequeOnceWrong)

/-- 'dripstonelaw13.DequeOrder': WHATEVER THE INPUT: true; the input reads as it did. -/
def dequeOrderSpec : ChangeSpec := { name := "dequeOrder", fn := fun _ => fun
  | [d1, d2] => { results := [.lit (.bool true)], args := [d1, d2] }
  | _ => none }
def dequeOrderRow : OpenClaim := { program := "ytegbiibfmabnbaagreat", sum := "3f4354b026ce30019081ef517bc6745ece1aa02c05ef327260d1d82642cae5cb", func := "dripstone/dripstonelaw13.DequeOrder", spec := "dequeOrder", unfollowed := true, recurses := true, plainKeys := false, apart := false }
def DequeOrderSaid : Prop := dequeOrderRow.holds Tryz.pinned (OpenSpec.ofChange dequeOrderSpec)

/-- ITS FALSE NEIGHBOUR: 'it returns false'. Refute it at one input. -/
def dequeOrderWrong : ChangeSpec := { name := "dequeOrder", fn := fun _ => fun
  | [d1, d2] => { results := [.lit (.bool false)], args := [d1, d2] }
  | _ => none }
def DequeOrderWrongFalsely : Prop := dequeOrderRow.holds Tryz.pinned (OpenSpec.ofChange dequeOrderWrong)

/-- 'dripstonelaw13.DequeEach': WHATEVER THE INPUT: true; the input reads as it did. -/
def dequeEachSpec : ChangeSpec := { name := "dequeEach", fn := fun _ => fun
  | [d1, d2] => { results := [.lit (.bool true)], args := [d1, d2] }
  | _ => none }
def dequeEachRow : OpenClaim := { program := "ytegbiibfmabnbaagreat", sum := "3f4354b026ce30019081ef517bc6745ece1aa02c05ef327260d1d82642cae5cb", func := "dripstone/dripstonelaw13.DequeEach", spec := "dequeEach", unfollowed := true, recurses := true, plainKeys := false, apart := false }
def DequeEachSaid : Prop := dequeEachRow.holds Tryz.pinned (OpenSpec.ofChange dequeEachSpec)

/-- ITS FALSE NEIGHBOUR: 'it returns false'. Refute it at one input. -/
def dequeEachWrong : ChangeSpec := { name := "dequeEach", fn := fun _ => fun
  | [d1, d2] => { results := [.lit (.bool false)], args := [d1, d2] }
  | _ => none }
def DequeEachWrongFalsely : Prop := dequeEachRow.holds Tryz.pinned (OpenSpec.ofChange dequeEachWrong)

/-- 'dripstonelaw13.DequeLost': WHATEVER THE INPUT: true; the input reads as it did. -/
def dequeLostSpec : ChangeSpec := { name := "dequeLost", fn := fun _ => fun
  | [d1, d2] => { results := [.lit (.bool true)], args := [d1, d2] }
  | _ => none }
def dequeLostRow : OpenClaim := { program := "ytegbiibfmabnbaagreat", sum := "3f4354b026ce30019081ef517bc6745ece1aa02c05ef327260d1d82642cae5cb", func := "dripstone/dripstonelaw13.DequeLost", spec := "dequeLost", unfollowed := true, recurses := true, plainKeys := false, apart := false }
def DequeLostSaid : Prop := dequeLostRow.holds Tryz.pinned (OpenSpec.ofChange dequeLostSpec)

/-- ITS FALSE NEIGHBOUR: 'it returns false'. Refute it at one input. -/
def dequeLostWrong : ChangeSpec := { name := "dequeLost", fn := fun _ => fun
  | [d1, d2] => { results := [.lit (.bool false)], args := [d1, d2] }
  | _ => none }
def DequeLostWrongFalsely : Prop := dequeLostRow.holds Tryz.pinned (OpenSpec.ofChange dequeLostWrong)

/-- 'dripstonelaw13.DequeAlone': WHATEVER THE INPUT: true; the input reads as it did. -/
def dequeAloneSpec : ChangeSpec := { name := "dequeAlone", fn := fun _ => fun
  | [d1, d2] => { results := [.lit (.bool true)], args := [d1, d2] }
  | _ => none }
def dequeAloneRow : OpenClaim := { program := "ytegbiibfmabnbaagreat", sum := "3f4354b026ce30019081ef517bc6745ece1aa02c05ef327260d1d82642cae5cb", func := "dripstone/dripstonelaw13.DequeAlone", spec := "dequeAlone", unfollowed := true, recurses := true, plainKeys := false, apart := false }
def DequeAloneSaid : Prop := dequeAloneRow.holds Tryz.pinned (OpenSpec.ofChange dequeAloneSpec)

/-- ITS FALSE NEIGHBOUR: 'it returns false'. Refute it at one input. -/
def dequeAloneWrong : ChangeSpec := { name := "dequeAlone", fn := fun _ => fun
  | [d1, d2] => { results := [.lit (.bool false)], args := [d1, d2] }
  | _ => none }
def DequeAloneWrongFalsely : Prop := dequeAloneRow.holds Tryz.pinned (OpenSpec.ofChange dequeAloneWrong)

/-- 'dripstonelaw13.DequeCan': WHATEVER THE INPUT: true; the input reads as it did. -/
def dequeCanSpec : ChangeSpec := { name := "dequeCan", fn := fun _ => fun
  | [d1, d2] => { results := [.lit (.bool true)], args := [d1, d2] }
  | _ => none }
def dequeCanRow : OpenClaim := { program := "ytegbiibfmabnbaagreat", sum := "3f4354b026ce30019081ef517bc6745ece1aa02c05ef327260d1d82642cae5cb", func := "dripstone/dripstonelaw13.DequeCan", spec := "dequeCan", unfollowed := true, recurses := true, plainKeys := false, apart := false }
def DequeCanSaid : Prop := dequeCanRow.holds Tryz.pinned (OpenSpec.ofChange dequeCanSpec)

/-- ITS FALSE NEIGHBOUR: 'it returns false'. Refute it at one input. -/
def dequeCanWrong : ChangeSpec := { name := "dequeCan", fn := fun _ => fun
  | [d1, d2] => { results := [.lit (.bool false)], args := [d1, d2] }
  | _ => none }
def DequeCanWrongFalsely : Prop := dequeCanRow.holds Tryz.pinned (OpenSpec.ofChange dequeCanWrong)

/- THE SECOND FORM. 'bulk': how many values and letters a reading holds, each counted each time it is reached (what is shared counts as often as it is met; a slice's spare places count too). A statement '..UptoSaid' is the law's where the arguments, and the package variables that the reading takes, are together of bulk at most 1048576: NARROWER than '..Said'. Prove '..Said' where nothing that the law and all that it calls make is longer than what came in: it says more and counts as full. Else prove '..UptoSaid'. A law counts once. -/
mutual
def uptoBulk {H : Type} : DataW H → Nat
  | .lit (.string bytes) => bytes.length + 1
  | .lit _ => 1
  | .nil => 1
  | .ptr d => uptoBulk d + 1
  | .slice elems spare => uptoBulkAll elems + uptoBulkAll spare + 1
  | .agg parts => uptoBulkAll parts + 1
  | .iface _ d => uptoBulk d + 1
  | .map entries => uptoBulkEntries entries + 1
  | .held _ => 1
def uptoBulkAll {H : Type} : List (DataW H) → Nat
  | [] => 0
  | d :: r => uptoBulk d + uptoBulkAll r
def uptoBulkEntries {H : Type} : List (Lit × DataW H) → Nat
  | [] => 0
  | x :: r => uptoBulkEntry x + uptoBulkEntries r
def uptoBulkEntry {H : Type} : Lit × DataW H → Nat
  | (.string bytes, d) => bytes.length + uptoBulk d + 1
  | (_, d) => uptoBulk d + 1
 end
def uptoSmall : (H : Type) → List (DataW H) → Bool := fun _ ds => decide (uptoBulkAll ds ≤ 1048576)
def OpenSpec.upto (s : _root_.Go.ChangeSpec) : _root_.Go.OpenSpec := { _root_.Go.OpenSpec.ofChange s with cond := some uptoSmall }

/-- 'dripstonelaw13.DequeSerials', WHERE WHAT IT READS IS OF BULK AT MOST 1048576: true; the input reads as it did. -/
def dequeSerialsUptoRow : OpenClaim := { program := "ytegbiibfmabnbaagreat", sum := "3f4354b026ce30019081ef517bc6745ece1aa02c05ef327260d1d82642cae5cb", func := "dripstone/dripstonelaw13.DequeSerials", spec := "dequeSerials", unfollowed := true, recurses := true, plainKeys := false, apart := false, narrowed := true }
def DequeSerialsUptoSaid : Prop := dequeSerialsUptoRow.holds Tryz.pinned (OpenSpec.upto dequeSerialsSpec)

/-- 'dripstonelaw13.DequeViews', WHERE WHAT IT READS IS OF BULK AT MOST 1048576: true; the input reads as it did. -/
def dequeViewsUptoRow : OpenClaim := { program := "ytegbiibfmabnbaagreat", sum := "3f4354b026ce30019081ef517bc6745ece1aa02c05ef327260d1d82642cae5cb", func := "dripstone/dripstonelaw13.DequeViews", spec := "dequeViews", unfollowed := true, recurses := true, plainKeys := false, apart := false, narrowed := true }
def DequeViewsUptoSaid : Prop := dequeViewsUptoRow.holds Tryz.pinned (OpenSpec.upto dequeViewsSpec)

/-- 'dripstonelaw13.DequeRuns', WHERE WHAT IT READS IS OF BULK AT MOST 1048576: true; the input reads as it did. -/
def dequeRunsUptoRow : OpenClaim := { program := "ytegbiibfmabnbaagreat", sum := "3f4354b026ce30019081ef517bc6745ece1aa02c05ef327260d1d82642cae5cb", func := "dripstone/dripstonelaw13.DequeRuns", spec := "dequeRuns", unfollowed := true, recurses := true, plainKeys := false, apart := false, narrowed := true }
def DequeRunsUptoSaid : Prop := dequeRunsUptoRow.holds Tryz.pinned (OpenSpec.upto dequeRunsSpec)

/-- 'dripstonelaw13.DequeTells', WHERE WHAT IT READS IS OF BULK AT MOST 1048576: true; the input reads as it did. -/
def dequeTellsUptoRow : OpenClaim := { program := "ytegbiibfmabnbaagreat", sum := "3f4354b026ce30019081ef517bc6745ece1aa02c05ef327260d1d82642cae5cb", func := "dripstone/dripstonelaw13.DequeTells", spec := "dequeTells", unfollowed := true, recurses := true, plainKeys := false, apart := false, narrowed := true }
def DequeTellsUptoSaid : Prop := dequeTellsUptoRow.holds Tryz.pinned (OpenSpec.upto dequeTellsSpec)

/-- 'dripstonelaw13.DequeOnce', WHERE WHAT IT READS IS OF BULK AT MOST 1048576: true; the input reads as it did. -/
def dequeOnceUptoRow : OpenClaim := { program := "ytegbiibfmabnbaagreat", sum := "3f4354b026ce30019081ef517bc6745ece1aa02c05ef327260d1d82642cae5cb", func := "dripstone/dripstonelaw13.DequeOnce", spec := "dequeOnce", unfollowed := true, recurses := true, plainKeys := false, apart := false, narrowed := true }
def DequeOnceUptoSaid : Prop := dequeOnceUptoRow.holds Tryz.pinned (OpenSpec.upto dequeOnceSpec)

/-- 'dripstonelaw13.DequeOrder', WHERE WHAT IT READS IS OF BULK AT MOST 1048576: true; the input reads as it did. -/
def dequeOrderUptoRow : OpenClaim := { program := "ytegbiibfmabnbaagreat", sum := "3f4354b026ce30019081ef517bc6745ece1aa02c05ef327260d1d82642cae5cb", func := "dripstone/dripstonelaw13.DequeOrder", spec := "dequeOrder", unfollowed := true, recurses := true, plainKeys := false, apart := false, narrowed := true }
def DequeOrderUptoSaid : Prop := dequeOrderUptoRow.holds Tryz.pinned (OpenSpec.upto dequeOrderSpec)

/-- 'dripstonelaw13.DequeEach', WHERE WHAT IT READS IS OF BULK AT MOST 1048576: true; the input reads as it did. -/
def dequeEachUptoRow : OpenClaim := { program := "ytegbiibfmabnbaagreat", sum := "3f4354b026ce30019081ef517bc6745ece1aa02c05ef327260d1d82642cae5cb", func := "dripstone/dripstonelaw13.DequeEach", spec := "dequeEach", unfollowed := true, recurses := true, plainKeys := false, apart := false, narrowed := true }
def DequeEachUptoSaid : Prop := dequeEachUptoRow.holds Tryz.pinned (OpenSpec.upto dequeEachSpec)

/-- 'dripstonelaw13.DequeLost', WHERE WHAT IT READS IS OF BULK AT MOST 1048576: true; the input reads as it did. -/
def dequeLostUptoRow : OpenClaim := { program := "ytegbiibfmabnbaagreat", sum := "3f4354b026ce30019081ef517bc6745ece1aa02c05ef327260d1d82642cae5cb", func := "dripstone/dripstonelaw13.DequeLost", spec := "dequeLost", unfollowed := true, recurses := true, plainKeys := false, apart := false, narrowed := true }
def DequeLostUptoSaid : Prop := dequeLostUptoRow.holds Tryz.pinned (OpenSpec.upto dequeLostSpec)

/-- 'dripstonelaw13.DequeAlone', WHERE WHAT IT READS IS OF BULK AT MOST 1048576: true; the input reads as it did. -/
def dequeAloneUptoRow : OpenClaim := { program := "ytegbiibfmabnbaagreat", sum := "3f4354b026ce30019081ef517bc6745ece1aa02c05ef327260d1d82642cae5cb", func := "dripstone/dripstonelaw13.DequeAlone", spec := "dequeAlone", unfollowed := true, recurses := true, plainKeys := false, apart := false, narrowed := true }
def DequeAloneUptoSaid : Prop := dequeAloneUptoRow.holds Tryz.pinned (OpenSpec.upto dequeAloneSpec)

/-- 'dripstonelaw13.DequeCan', WHERE WHAT IT READS IS OF BULK AT MOST 1048576: true; the input reads as it did. -/
def dequeCanUptoRow : OpenClaim := { program := "ytegbiibfmabnbaagreat", sum := "3f4354b026ce30019081ef517bc6745ece1aa02c05ef327260d1d82642cae5cb", func := "dripstone/dripstonelaw13.DequeCan", spec := "dequeCan", unfollowed := true, recurses := true, plainKeys := false, apart := false, narrowed := true }
def DequeCanUptoSaid : Prop := dequeCanUptoRow.holds Tryz.pinned (OpenSpec.upto dequeCanSpec)

end Rows
end Go.Proofs.YtegbiibfmabnbaaGreat
