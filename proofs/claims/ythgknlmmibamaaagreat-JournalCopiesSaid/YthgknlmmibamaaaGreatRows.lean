/-
  NARROWER THAN 'FOR EVERY INPUT', by the rows' own cells (each row's printed sentence says how): JournalRecords: loops · JournalPuts: loops · JournalCopies: loops · JournalKept: loops · JournalSame: loops · JournalRoom: loops.
  DERIVED. THE GIVEN ROWS OF THIS SEAT. 7 by the template 'for every input the law returns true; each argument reads behind the call as it read before'; 0 by the template 'total and deterministic' (their statements: YthgknlmmibamaaaGreatTotals.lean).
  GIVEN WITH THE SEED: the statements are not yours to turn. If you find one false, say at which input.
  Laid BY PROGRAM, IN A SANDBOX (cutbox-rows.mjs): the forced cells as the released guide's own fill.sh prints them over the translation c43cafde3274c0eb… (all of the seat's roots in one cut). By AI agents, Wed Nov 11 2026. No macro, syntax, notation, axiom, sorry.
-/
import Derived.Test.YthgknlmmibamaaaGreatChecked
import GoSem.Claim
import GoSem.ClaimJoined
import GoSem.ClaimMapViews
import Derived.JoinedTies
import Derived.KernelRfl
namespace Go.Proofs.YthgknlmmibamaaaGreat
/- THE CELL 'sum', in the pinned program and in every row, IS THE sha256 OF THE DUMP (.gsa) THAT YthgknlmmibamaaaGreatProg.lean LOADS. Nothing in Lean hashes anything: it is a label: what it is worth is what the hold of that sum in a sandbox is worth. -/
noncomputable def Tryz.pinned : Pinned := { name := "ythgknlmmibamaaagreat", sum := "c43cafde3274c0eb96db0287633d3c8808b771ff090f0f58f47e0bf8cdf86aa0", checked := Tryz.checked }
namespace Rows
def none {H : Type} : Left H := { results := [], args := [] }

/-- 'dripstonelaw23.JournalRecords': WHATEVER THE INPUT: true; the input reads as it did. -/
def journalRecordsSpec : ChangeSpec := { name := "journalRecords", fn := fun _ => fun
  | [d1, d2] => { results := [.lit (.bool true)], args := [d1, d2] }
  | _ => none }
def journalRecordsRow : OpenClaim := { program := "ythgknlmmibamaaagreat", sum := "c43cafde3274c0eb96db0287633d3c8808b771ff090f0f58f47e0bf8cdf86aa0", func := "dripstone/dripstonelaw23.JournalRecords", spec := "journalRecords", unfollowed := true, recurses := true, loops := true, apart := false }
def JournalRecordsSaid : Prop := journalRecordsRow.holds Tryz.pinned (OpenSpec.ofChange journalRecordsSpec)

/-- ITS FALSE NEIGHBOUR: 'it returns false'. Refute it at one input. -/
def journalRecordsWrong : ChangeSpec := { name := "journalRecords", fn := fun _ => fun
  | [d1, d2] => { results := [.lit (.bool false)], args := [d1, d2] }
  | _ => none }
def JournalRecordsWrongFalsely : Prop := journalRecordsRow.holds Tryz.pinned (OpenSpec.ofChange journalRecordsWrong)

/-- 'dripstonelaw23.JournalPuts': WHATEVER THE INPUT: true; the input reads as it did. -/
def journalPutsSpec : ChangeSpec := { name := "journalPuts", fn := fun _ => fun
  | [d1, d2, d3] => { results := [.lit (.bool true)], args := [d1, d2, d3] }
  | _ => none }
def journalPutsRow : OpenClaim := { program := "ythgknlmmibamaaagreat", sum := "c43cafde3274c0eb96db0287633d3c8808b771ff090f0f58f47e0bf8cdf86aa0", func := "dripstone/dripstonelaw23.JournalPuts", spec := "journalPuts", unfollowed := true, recurses := true, loops := true, apart := false }
def JournalPutsSaid : Prop := journalPutsRow.holds Tryz.pinned (OpenSpec.ofChange journalPutsSpec)

/-- ITS FALSE NEIGHBOUR: 'it returns false'. Refute it at one input. -/
def journalPutsWrong : ChangeSpec := { name := "journalPuts", fn := fun _ => fun
  | [d1, d2, d3] => { results := [.lit (.bool false)], args := [d1, d2, d3] }
  | _ => none }
def JournalPutsWrongFalsely : Prop := journalPutsRow.holds Tryz.pinned (OpenSpec.ofChange journalPutsWrong)

/-- 'dripstonelaw23.JournalThere': WHATEVER THE INPUT: true; the input reads as it did. -/
def journalThereSpec : ChangeSpec := { name := "journalThere", fn := fun _ => fun
  | [d1, d2, d3] => { results := [.lit (.bool true)], args := [d1, d2, d3] }
  | _ => none }
def journalThereRow : OpenClaim := { program := "ythgknlmmibamaaagreat", sum := "c43cafde3274c0eb96db0287633d3c8808b771ff090f0f58f47e0bf8cdf86aa0", func := "dripstone/dripstonelaw23.JournalThere", spec := "journalThere", unfollowed := true, recurses := true, apart := false }
def JournalThereSaid : Prop := journalThereRow.holds Tryz.pinned (OpenSpec.ofChange journalThereSpec)

/-- ITS FALSE NEIGHBOUR: 'it returns false'. Refute it at one input. -/
def journalThereWrong : ChangeSpec := { name := "journalThere", fn := fun _ => fun
  | [d1, d2, d3] => { results := [.lit (.bool false)], args := [d1, d2, d3] }
  | _ => none }
def JournalThereWrongFalsely : Prop := journalThereRow.holds Tryz.pinned (OpenSpec.ofChange journalThereWrong)

/-- 'dripstonelaw23.JournalCopies': WHATEVER THE INPUT: true; the input reads as it did. -/
def journalCopiesSpec : ChangeSpec := { name := "journalCopies", fn := fun _ => fun
  | [d1, d2] => { results := [.lit (.bool true)], args := [d1, d2] }
  | _ => none }
def journalCopiesRow : OpenClaim := { program := "ythgknlmmibamaaagreat", sum := "c43cafde3274c0eb96db0287633d3c8808b771ff090f0f58f47e0bf8cdf86aa0", func := "dripstone/dripstonelaw23.JournalCopies", spec := "journalCopies", unfollowed := true, recurses := true, loops := true, apart := false }
def JournalCopiesSaid : Prop := journalCopiesRow.holds Tryz.pinned (OpenSpec.ofChange journalCopiesSpec)

/-- ITS FALSE NEIGHBOUR: 'it returns false'. Refute it at one input. -/
def journalCopiesWrong : ChangeSpec := { name := "journalCopies", fn := fun _ => fun
  | [d1, d2] => { results := [.lit (.bool false)], args := [d1, d2] }
  | _ => none }
def JournalCopiesWrongFalsely : Prop := journalCopiesRow.holds Tryz.pinned (OpenSpec.ofChange journalCopiesWrong)

/-- 'dripstonelaw23.JournalKept': WHATEVER THE INPUT: true; the input reads as it did. -/
def journalKeptSpec : ChangeSpec := { name := "journalKept", fn := fun _ => fun
  | [d1, d2, d3] => { results := [.lit (.bool true)], args := [d1, d2, d3] }
  | _ => none }
def journalKeptRow : OpenClaim := { program := "ythgknlmmibamaaagreat", sum := "c43cafde3274c0eb96db0287633d3c8808b771ff090f0f58f47e0bf8cdf86aa0", func := "dripstone/dripstonelaw23.JournalKept", spec := "journalKept", unfollowed := true, recurses := true, loops := true, apart := false }
def JournalKeptSaid : Prop := journalKeptRow.holds Tryz.pinned (OpenSpec.ofChange journalKeptSpec)

/-- ITS FALSE NEIGHBOUR: 'it returns false'. Refute it at one input. -/
def journalKeptWrong : ChangeSpec := { name := "journalKept", fn := fun _ => fun
  | [d1, d2, d3] => { results := [.lit (.bool false)], args := [d1, d2, d3] }
  | _ => none }
def JournalKeptWrongFalsely : Prop := journalKeptRow.holds Tryz.pinned (OpenSpec.ofChange journalKeptWrong)

/-- 'dripstonelaw23.JournalSame': WHATEVER THE INPUT: true; the input reads as it did. -/
def journalSameSpec : ChangeSpec := { name := "journalSame", fn := fun _ => fun
  | [d1, d2, d3] => { results := [.lit (.bool true)], args := [d1, d2, d3] }
  | _ => none }
def journalSameRow : OpenClaim := { program := "ythgknlmmibamaaagreat", sum := "c43cafde3274c0eb96db0287633d3c8808b771ff090f0f58f47e0bf8cdf86aa0", func := "dripstone/dripstonelaw23.JournalSame", spec := "journalSame", unfollowed := true, recurses := true, loops := true, apart := false }
def JournalSameSaid : Prop := journalSameRow.holds Tryz.pinned (OpenSpec.ofChange journalSameSpec)

/-- ITS FALSE NEIGHBOUR: 'it returns false'. Refute it at one input. -/
def journalSameWrong : ChangeSpec := { name := "journalSame", fn := fun _ => fun
  | [d1, d2, d3] => { results := [.lit (.bool false)], args := [d1, d2, d3] }
  | _ => none }
def JournalSameWrongFalsely : Prop := journalSameRow.holds Tryz.pinned (OpenSpec.ofChange journalSameWrong)

/-- 'dripstonelaw23.JournalRoom': WHATEVER THE INPUT: true; the input reads as it did. -/
def journalRoomSpec : ChangeSpec := { name := "journalRoom", fn := fun _ => fun
  | [d1, d2, d3] => { results := [.lit (.bool true)], args := [d1, d2, d3] }
  | _ => none }
def journalRoomRow : OpenClaim := { program := "ythgknlmmibamaaagreat", sum := "c43cafde3274c0eb96db0287633d3c8808b771ff090f0f58f47e0bf8cdf86aa0", func := "dripstone/dripstonelaw23.JournalRoom", spec := "journalRoom", unfollowed := true, recurses := true, loops := true, apart := false }
def JournalRoomSaid : Prop := journalRoomRow.holds Tryz.pinned (OpenSpec.ofChange journalRoomSpec)

/-- ITS FALSE NEIGHBOUR: 'it returns false'. Refute it at one input. -/
def journalRoomWrong : ChangeSpec := { name := "journalRoom", fn := fun _ => fun
  | [d1, d2, d3] => { results := [.lit (.bool false)], args := [d1, d2, d3] }
  | _ => none }
def JournalRoomWrongFalsely : Prop := journalRoomRow.holds Tryz.pinned (OpenSpec.ofChange journalRoomWrong)

/- THE SECOND FORM. 'bulk': how many values and letters a reading holds, each counted each time it is reached (what is shared counts as often as it is met; a slice's spare places count too). A statement '..UptoSaid' is the law's where the arguments, and the package variables that the reading takes, are together of bulk at most 1048576: NARROWER than '..Said'. Prove '..Said' where nothing that the law and all that it calls make is longer than what came in: it says more and counts as full. Else prove '..UptoSaid'. A law counts once. -/
mutual
def uptoBulk {H : Type} : DataW H → Nat
  | .lit (.string bytes) => bytes.length + 1
  | .lit _ => 1
  | .nil => 1
  | .ptr d => uptoBulk d + 1
  | .slice elems spare => uptoBulkAll elems + uptoBulkAll spare + 1
  | .agg parts => uptoBulkAll parts + 1
  | .iface _ d => uptoBulk d + 1
  | .map entries => uptoBulkEntries entries + 1
  | .held _ => 1
def uptoBulkAll {H : Type} : List (DataW H) → Nat
  | [] => 0
  | d :: r => uptoBulk d + uptoBulkAll r
def uptoBulkEntries {H : Type} : List (Lit × DataW H) → Nat
  | [] => 0
  | x :: r => uptoBulkEntry x + uptoBulkEntries r
def uptoBulkEntry {H : Type} : Lit × DataW H → Nat
  | (.string bytes, d) => bytes.length + uptoBulk d + 1
  | (_, d) => uptoBulk d + 1
 end
def uptoSmall : (H : Type) → List (DataW H) → Bool := fun _ ds => decide (uptoBulkAll ds ≤ 1048576)
def OpenSpec.upto (s : _root_.Go.ChangeSpec) : _root_.Go.OpenSpec := { _root_.Go.OpenSpec.ofChange s with cond := some uptoSmall }

/-- 'dripstonelaw23.JournalRecords', WHERE WHAT IT READS IS OF BULK AT MOST 1048576: true; the input reads as it did. -/
def journalRecordsUptoRow : OpenClaim := { program := "ythgknlmmibamaaagreat", sum := "c43cafde3274c0eb96db0287633d3c8808b771ff090f0f58f47e0bf8cdf86aa0", func := "dripstone/dripstonelaw23.JournalRecords", spec := "journalRecords", unfollowed := true, recurses := true, loops := true, apart := false, narrowed := true }
def JournalRecordsUptoSaid : Prop := journalRecordsUptoRow.holds Tryz.pinned (OpenSpec.upto journalRecordsSpec)

/-- 'dripstonelaw23.JournalPuts', WHERE WHAT IT READS IS OF BULK AT MOST 1048576: true; the input reads as it did. -/
def journalPutsUptoRow : OpenClaim := { program := "ythgknlmmibamaaagreat", sum := "c43cafde3274c0eb96db0287633d3c8808b771ff090f0f58f47e0bf8cdf86aa0", func := "dripstone/dripstonelaw23.JournalPuts", spec := "journalPuts", unfollowed := true, recurses := true, loops := true, apart := false, narrowed := true }
def JournalPutsUptoSaid : Prop := journalPutsUptoRow.holds Tryz.pinned (OpenSpec.upto journalPutsSpec)

/-- 'dripstonelaw23.JournalThere', WHERE WHAT IT READS IS OF BULK AT MOST 1048576: true; the input reads as it did. -/
def journalThereUptoRow : OpenClaim := { program := "ythgknlmmibamaaagreat", sum := "c43cafde3274c0eb96db0287633d3c8808b771ff090f0f58f47e0bf8cdf86aa0", func := "dripstone/dripstonelaw23.JournalThere", spec := "journalThere", unfollowed := true, recurses := true, apart := false, narrowed := true }
def JournalThereUptoSaid : Prop := journalThereUptoRow.holds Tryz.pinned (OpenSpec.upto journalThereSpec)

/-- 'dripstonelaw23.JournalCopies', WHERE WHAT IT READS IS OF BULK AT MOST 1048576: true; the input reads as it did. -/
def journalCopiesUptoRow : OpenClaim := { program := "ythgknlmmibamaaagreat", sum := "c43cafde3274c0eb96db0287633d3c8808b771ff090f0f58f47e0bf8cdf86aa0", func := "dripstone/dripstonelaw23.JournalCopies", spec := "journalCopies", unfollowed := true, recurses := true, loops := true, apart := false, narrowed := true }
def JournalCopiesUptoSaid : Prop := journalCopiesUptoRow.holds Tryz.pinned (OpenSpec.upto journalCopiesSpec)

/-- 'dripstonelaw23.JournalKept', WHERE WHAT IT READS IS OF BULK AT MOST 1048576: true; the input reads as it did. -/
def journalKeptUptoRow : OpenClaim := { program := "ythgknlmmibamaaagreat", sum := "c43cafde3274c0eb96db0287633d3c8808b771ff090f0f58f47e0bf8cdf86aa0", func := "dripstone/dripstonelaw23.JournalKept", spec := "journalKept", unfollowed := true, recurses := true, loops := true, apart := false, narrowed := true }
def JournalKeptUptoSaid : Prop := journalKeptUptoRow.holds Tryz.pinned (OpenSpec.upto journalKeptSpec)

/-- 'dripstonelaw23.JournalSame', WHERE WHAT IT READS IS OF BULK AT MOST 1048576: true; the input reads as it did. -/
def journalSameUptoRow : OpenClaim := { program := "ythgknlmmibamaaagreat", sum := "c43cafde3274c0eb96db0287633d3c8808b771ff090f0f58f47e0bf8cdf86aa0", func := "dripstone/dripstonelaw23.JournalSame", spec := "journalSame", unfollowed := true, recurses := true, loops := true, apart := false, narrowed := true }
def JournalSameUptoSaid : Prop := journalSameUptoRow.holds Tryz.pinned (OpenSpec.upto journalSameSpec)

/-- 'dripstonelaw23.JournalRoom', WHERE WHAT IT READS IS OF BULK AT MOST 1048576: true; the input reads as it did. -/
def journalRoomUptoRow : OpenClaim := { program := "ythgknlmmibamaaagreat", sum := "c43cafde3274c0eb96db0287633d3c8808b771ff090f0f58f47e0bf8cdf86aa0", func := "dripstone/dripstonelaw23.JournalRoom", spec := "journalRoom", unfollowed := true, recurses := true, loops := true, apart := false, narrowed := true }
def JournalRoomUptoSaid : Prop := journalRoomUptoRow.holds Tryz.pinned (OpenSpec.upto journalRoomSpec)

end Rows
end Go.Proofs.YthgknlmmibamaaaGreat
