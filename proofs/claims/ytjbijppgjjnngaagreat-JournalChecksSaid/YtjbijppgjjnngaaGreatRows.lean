/-
  NARROWER THAN 'FOR EVERY INPUT', by the rows' own cells (each row's printed sentence says how): JournalFormats: loops · JournalChecks: loops · JournalRecords: loops · JournalPuts: loops · JournalCopies: loops · JournalKept: loops · JournalSame: loops · JournalRoom: loops.
  DERIVED. THE GIVEN ROWS OF THIS SEAT. 12 by the template 'for every input the law returns true; each argument reads behind the call as it read before'; 0 by the template 'total and deterministic' (their statements: YtjbijppgjjnngaaGreatTotals.lean).
  GIVEN WITH THE SEED: the statements are not yours to turn. If you find one false, say at which input.
  Laid BY PROGRAM, IN A SANDBOX (cutbox-rows.mjs): the forced cells as the released guide's own fill.sh prints them over the translation 89abd41dcd248ef1… (all of the seat's roots in one cut). By AI agents, Wed Nov 11 2026. No macro, syntax, notation, axiom, sorry.
-/
import Derived.Test.YtjbijppgjjnngaaGreatChecked
import GoSem.Claim
import GoSem.ClaimJoined
import GoSem.ClaimMapViews
import Derived.JoinedTies
import Derived.KernelRfl
namespace Go.Proofs.YtjbijppgjjnngaaGreat
/- THE CELL 'sum', in the pinned program and in every row, IS THE sha256 OF THE DUMP (.gsa) THAT YtjbijppgjjnngaaGreatProg.lean LOADS. Nothing in Lean hashes anything: it is a label: what it is worth is what the hold of that sum in a sandbox is worth. -/
noncomputable def Tryz.pinned : Pinned := { name := "ytjbijppgjjnngaagreat", sum := "89abd41dcd248ef160ff57bf9da1bd4149c1ee20c19e9fbd11eac03f8c546603", checked := Tryz.checked }
namespace Rows
def none {H : Type} : Left H := { results := [], args := [] }

/-- 'dripstonelaw23.JournalFormats': WHATEVER THE INPUT: true; the input reads as it did. -/
def journalFormatsSpec : ChangeSpec := { name := "journalFormats", fn := fun _ => fun
  | [d1, d2] => { results := [.lit (.bool true)], args := [d1, d2] }
  | _ => none }
def journalFormatsRow : OpenClaim := { program := "ytjbijppgjjnngaagreat", sum := "89abd41dcd248ef160ff57bf9da1bd4149c1ee20c19e9fbd11eac03f8c546603", func := "dripstone/dripstonelaw23.JournalFormats", spec := "journalFormats", unfollowed := true, recurses := true, loops := true, apart := false }
def JournalFormatsSaid : Prop := journalFormatsRow.holds Tryz.pinned (OpenSpec.ofChange journalFormatsSpec)

/-- ITS FALSE NEIGHBOUR: 'it returns false'. Refute it at one input. -/
def journalFormatsWrong : ChangeSpec := { name := "journalFormats", fn := fun _ => fun
  | [d1, d2] => { results := [.lit (.bool false)], args := [d1, d2] }
  | _ => none }
def JournalFormatsWrongFalsely : Prop := journalFormatsRow.holds Tryz.pinned (OpenSpec.ofChange journalFormatsWrong)

/-- 'dripstonelaw23.JournalChecks': WHATEVER THE INPUT: true; the input reads as it did. -/
def journalChecksSpec : ChangeSpec := { name := "journalChecks", fn := fun _ => fun
  | [d1, d2] => { results := [.lit (.bool true)], args := [d1, d2] }
  | _ => none }
def journalChecksRow : OpenClaim := { program := "ytjbijppgjjnngaagreat", sum := "89abd41dcd248ef160ff57bf9da1bd4149c1ee20c19e9fbd11eac03f8c546603", func := "dripstone/dripstonelaw23.JournalChecks", spec := "journalChecks", unfollowed := true, recurses := true, loops := true, apart := false }
def JournalChecksSaid : Prop := journalChecksRow.holds Tryz.pinned (OpenSpec.ofChange journalChecksSpec)

/-- ITS FALSE NEIGHBOUR: 'it returns false'. Refute it at one input. -/
def journalChecksWrong : ChangeSpec := { name := "journalChecks", fn := fun _ => fun
  | [d1, d2] => { results := [.lit (.bool false)], args := [d1, d2] }
  | _ => none }
def JournalChecksWrongFalsely : Prop := journalChecksRow.holds Tryz.pinned (OpenSpec.ofChange journalChecksWrong)

/-- 'dripstonelaw23.JournalRecords': WHATEVER THE INPUT: true; the input reads as it did. -/
def journalRecordsSpec : ChangeSpec := { name := "journalRecords", fn := fun _ => fun
  | [d1, d2] => { results := [.lit (.bool true)], args := [d1, d2] }
  | _ => none }
def journalRecordsRow : OpenClaim := { program := "ytjbijppgjjnngaagreat", sum := "89abd41dcd248ef160ff57bf9da1bd4149c1ee20c19e9fbd11eac03f8c546603", func := "dripstone/dripstonelaw23.JournalRecords", spec := "journalRecords", unfollowed := true, recurses := true, loops := true, apart := false }
def JournalRecordsSaid : Prop := journalRecordsRow.holds Tryz.pinned (OpenSpec.ofChange journalRecordsSpec)

/-- ITS FALSE NEIGHBOUR: 'it returns false'. Refute it at one input. -/
def journalRecordsWrong : ChangeSpec := { name := "journalRecords", fn := fun _ => fun
  | [d1, d2] => { results := [.lit (.bool false)], args := [d1, d2] }
  | _ => none }
def JournalRecordsWrongFalsely : Prop := journalRecordsRow.holds Tryz.pinned (OpenSpec.ofChange journalRecordsWrong)

/-- 'dripstonelaw23.JournalPuts': WHATEVER THE INPUT: true; the input reads as it did. -/
def journalPutsSpec : ChangeSpec := { name := "journalPuts", fn := fun _ => fun
  | [d1, d2, d3] => { results := [.lit (.bool true)], args := [d1, d2, d3] }
  | _ => none }
def journalPutsRow : OpenClaim := { program := "ytjbijppgjjnngaagreat", sum := "89abd41dcd248ef160ff57bf9da1bd4149c1ee20c19e9fbd11eac03f8c546603", func := "dripstone/dripstonelaw23.JournalPuts", spec := "journalPuts", unfollowed := true, recurses := true, loops := true, apart := false }
def JournalPutsSaid : Prop := journalPutsRow.holds Tryz.pinned (OpenSpec.ofChange journalPutsSpec)

/-- ITS FALSE NEIGHBOUR: 'it returns false'. Refute it at one input. -/
def journalPutsWrong : ChangeSpec := { name := "journalPuts", fn := fun _ => fun
  | [d1, d2, d3] => { results := [.lit (.bool false)], args := [d1, d2, d3] }
  | _ => none }
def JournalPutsWrongFalsely : Prop := journalPutsRow.holds Tryz.pinned (OpenSpec.ofChange journalPutsWrong)

/-- 'dripstonelaw23.JournalCrashes': WHATEVER THE INPUT: true; the input reads as it did. -/
def journalCrashesSpec : ChangeSpec := { name := "journalCrashes", fn := fun _ => fun
  | [d1, d2] => { results := [.lit (.bool true)], args := [d1, d2] }
  | _ => none }
def journalCrashesRow : OpenClaim := { program := "ytjbijppgjjnngaagreat", sum := "89abd41dcd248ef160ff57bf9da1bd4149c1ee20c19e9fbd11eac03f8c546603", func := "dripstone/dripstonelaw23.JournalCrashes", spec := "journalCrashes", unfollowed := true, recurses := true, apart := false }
def JournalCrashesSaid : Prop := journalCrashesRow.holds Tryz.pinned (OpenSpec.ofChange journalCrashesSpec)

/-- ITS FALSE NEIGHBOUR: 'it returns false'. Refute it at one input. -/
def journalCrashesWrong : ChangeSpec := { name := "journalCrashes", fn := fun _ => fun
  | [d1, d2] => { results := [.lit (.bool false)], args := [d1, d2] }
  | _ => none }
def JournalCrashesWrongFalsely : Prop := journalCrashesRow.holds Tryz.pinned (OpenSpec.ofChange journalCrashesWrong)

/-- 'dripstonelaw23.JournalBlocks': WHATEVER THE INPUT: true; the input reads as it did. -/
def journalBlocksSpec : ChangeSpec := { name := "journalBlocks", fn := fun _ => fun
  | [d1, d2] => { results := [.lit (.bool true)], args := [d1, d2] }
  | _ => none }
def journalBlocksRow : OpenClaim := { program := "ytjbijppgjjnngaagreat", sum := "89abd41dcd248ef160ff57bf9da1bd4149c1ee20c19e9fbd11eac03f8c546603", func := "dripstone/dripstonelaw23.JournalBlocks", spec := "journalBlocks", unfollowed := true, recurses := true, apart := false }
def JournalBlocksSaid : Prop := journalBlocksRow.holds Tryz.pinned (OpenSpec.ofChange journalBlocksSpec)

/-- ITS FALSE NEIGHBOUR: 'it returns false'. Refute it at one input. -/
def journalBlocksWrong : ChangeSpec := { name := "journalBlocks", fn := fun _ => fun
  | [d1, d2] => { results := [.lit (.bool false)], args := [d1, d2] }
  | _ => none }
def JournalBlocksWrongFalsely : Prop := journalBlocksRow.holds Tryz.pinned (OpenSpec.ofChange journalBlocksWrong)

/-- 'dripstonelaw23.JournalThere': WHATEVER THE INPUT: true; the input reads as it did. -/
def journalThereSpec : ChangeSpec := { name := "journalThere", fn := fun _ => fun
  | [d1, d2, d3] => { results := [.lit (.bool true)], args := [d1, d2, d3] }
  | _ => none }
def journalThereRow : OpenClaim := { program := "ytjbijppgjjnngaagreat", sum := "89abd41dcd248ef160ff57bf9da1bd4149c1ee20c19e9fbd11eac03f8c546603", func := "dripstone/dripstonelaw23.JournalThere", spec := "journalThere", unfollowed := true, recurses := true, apart := false }
def JournalThereSaid : Prop := journalThereRow.holds Tryz.pinned (OpenSpec.ofChange journalThereSpec)

/-- ITS FALSE NEIGHBOUR: 'it returns false'. Refute it at one input. -/
def journalThereWrong : ChangeSpec := { name := "journalThere", fn := fun _ => fun
  | [d1, d2, d3] => { results := [.lit (.bool false)], args := [d1, d2, d3] }
  | _ => none }
def JournalThereWrongFalsely : Prop := journalThereRow.holds Tryz.pinned (OpenSpec.ofChange journalThereWrong)

/-- 'dripstonelaw23.JournalCopies': WHATEVER THE INPUT: true; the input reads as it did. -/
def journalCopiesSpec : ChangeSpec := { name := "journalCopies", fn := fun _ => fun
  | [d1, d2] => { results := [.lit (.bool true)], args := [d1, d2] }
  | _ => none }
def journalCopiesRow : OpenClaim := { program := "ytjbijppgjjnngaagreat", sum := "89abd41dcd248ef160ff57bf9da1bd4149c1ee20c19e9fbd11eac03f8c546603", func := "dripstone/dripstonelaw23.JournalCopies", spec := "journalCopies", unfollowed := true, recurses := true, loops := true, apart := false }
def JournalCopiesSaid : Prop := journalCopiesRow.holds Tryz.pinned (OpenSpec.ofChange journalCopiesSpec)

/-- ITS FALSE NEIGHBOUR: 'it returns false'. Refute it at one input. -/
def journalCopiesWrong : ChangeSpec := { name := "journalCopies", fn := fun _ => fun
  | [d1, d2] => { results := [.lit (.bool false)], args := [d1, d2] }
  | _ => none }
def JournalCopiesWrongFalsely : Prop := journalCopiesRow.holds Tryz.pinned (OpenSpec.ofChange journalCopiesWrong)

/-- 'dripstonelaw23.JournalKept': WHATEVER THE INPUT: true; the input reads as it did. -/
def journalKeptSpec : ChangeSpec := { name := "journalKept", fn := fun _ => fun
  | [d1, d2, d3] => { results := [.lit (.bool true)], args := [d1, d2, d3] }
  | _ => none }
def journalKeptRow : OpenClaim := { program := "ytjbijppgjjnngaagreat", sum := "89abd41dcd248ef160ff57bf9da1bd4149c1ee20c19e9fbd11eac03f8c546603", func := "dripstone/dripstonelaw23.JournalKept", spec := "journalKept", unfollowed := true, recurses := true, loops := true, apart := false }
def JournalKeptSaid : Prop := journalKeptRow.holds Tryz.pinned (OpenSpec.ofChange journalKeptSpec)

/-- ITS FALSE NEIGHBOUR: 'it returns false'. Refute it at one input. -/
def journalKeptWrong : ChangeSpec := { name := "journalKept", fn := fun _ => fun
  | [d1, d2, d3] => { results := [.lit (.bool false)], args := [d1, d2, d3] }
  | _ => none }
def JournalKeptWrongFalsely : Prop := journalKeptRow.holds Tryz.pinned (OpenSpec.ofChange journalKeptWrong)

/-- 'dripstonelaw23.JournalSame': WHATEVER THE INPUT: true; the input reads as it did. -/
def journalSameSpec : ChangeSpec := { name := "journalSame", fn := fun _ => fun
  | [d1, d2, d3] => { results := [.lit (.bool true)], args := [d1, d2, d3] }
  | _ => none }
def journalSameRow : OpenClaim := { program := "ytjbijppgjjnngaagreat", sum := "89abd41dcd248ef160ff57bf9da1bd4149c1ee20c19e9fbd11eac03f8c546603", func := "dripstone/dripstonelaw23.JournalSame", spec := "journalSame", unfollowed := true, recurses := true, loops := true, apart := false }
def JournalSameSaid : Prop := journalSameRow.holds Tryz.pinned (OpenSpec.ofChange journalSameSpec)

/-- ITS FALSE NEIGHBOUR: 'it returns false'. Refute it at one input. -/
def journalSameWrong : ChangeSpec := { name := "journalSame", fn := fun _ => fun
  | [d1, d2, d3] => { results := [.lit (.bool false)], args := [d1, d2, d3] }
  | _ => none }
def JournalSameWrongFalsely : Prop := journalSameRow.holds Tryz.pinned (OpenSpec.ofChange journalSameWrong)

/-- 'dripstonelaw23.JournalRoom': WHATEVER THE INPUT: true; the input reads as it did. -/
def journalRoomSpec : ChangeSpec := { name := "journalRoom", fn := fun _ => fun
  | [d1, d2, d3] => { results := [.lit (.bool true)], args := [d1, d2, d3] }
  | _ => none }
def journalRoomRow : OpenClaim := { program := "ytjbijppgjjnngaagreat", sum := "89abd41dcd248ef160ff57bf9da1bd4149c1ee20c19e9fbd11eac03f8c546603", func := "dripstone/dripstonelaw23.JournalRoom", spec := "journalRoom", unfollowed := true, recurses := true, loops := true, apart := false }
def JournalRoomSaid : Prop := journalRoomRow.holds Tryz.pinned (OpenSpec.ofChange journalRoomSpec)

/-- ITS FALSE NEIGHBOUR: 'it returns false'. Refute it at one input. -/
def journalRoomWrong : ChangeSpec := { name := "journalRoom", fn := fun _ => fun
  | [d1, d2, d3] => { results := [.lit (.bool false)], args := [d1, d2, d3] }
  | _ => none }
def JournalRoomWrongFalsely : Prop := journalRoomRow.holds Tryz.pinned (OpenSpec.ofChange journalRoomWrong)

/-- 'dripstonelaw23.JournalNames': WHATEVER THE INPUT: true; the input reads as it did. -/
def journalNamesSpec : ChangeSpec := { name := "journalNames", fn := fun _ => fun
  | [] => { results := [.lit (.bool true)], args := [] }
  | _ => none }
def journalNamesRow : OpenClaim := { program := "ytjbijppgjjnngaagreat", sum := "89abd41dcd248ef160ff57bf9da1bd4149c1ee20c19e9fbd11eac03f8c546603", func := "dripstone/dripstonelaw23.JournalNames", spec := "journalNames", unfollowed := true, recurses := true, apart := false }
def JournalNamesSaid : Prop := journalNamesRow.holds Tryz.pinned (OpenSpec.ofChange journalNamesSpec)

/-- ITS FALSE NEIGHBOUR: 'it returns false'. Refute it at one input. -/
def journalNamesWrong : ChangeSpec := { name := "journalNames", fn := fun _ => fun
  | [] => { results := [.lit (.bool false)], args := [] }
  | _ => none }
def JournalNamesWrongFalsely : Prop := journalNamesRow.holds Tryz.pinned (OpenSpec.ofChange journalNamesWrong)

/- THE SECOND FORM. 'bulk': how many values and letters a reading holds, each counted each time it is reached (what is shared counts as often as it is met; a slice's spare places count too). A statement '..UptoSaid' is the law's where the arguments, and the package variables that the reading takes, are together of bulk at most 1048576: NARROWER than '..Said'. Prove '..Said' where nothing that the law and all that it calls make is longer than what came in: it says more and counts as full. Else prove '..UptoSaid'. A law counts once. -/
mutual
def uptoBulk {H : Type} : DataW H → Nat
  | .lit (.string bytes) => bytes.length + 1
  | .lit _ => 1
  | .nil => 1
  | .ptr d => uptoBulk d + 1
  | .slice elems spare => uptoBulkAll elems + uptoBulkAll spare + 1
  | .agg parts => uptoBulkAll parts + 1
  | .iface _ d => uptoBulk d + 1
  | .map entries => uptoBulkEntries entries + 1
  | .held _ => 1
def uptoBulkAll {H : Type} : List (DataW H) → Nat
  | [] => 0
  | d :: r => uptoBulk d + uptoBulkAll r
def uptoBulkEntries {H : Type} : List (Lit × DataW H) → Nat
  | [] => 0
  | x :: r => uptoBulkEntry x + uptoBulkEntries r
def uptoBulkEntry {H : Type} : Lit × DataW H → Nat
  | (.string bytes, d) => bytes.length + uptoBulk d + 1
  | (_, d) => uptoBulk d + 1
 end
def uptoSmall : (H : Type) → List (DataW H) → Bool := fun _ ds => decide (uptoBulkAll ds ≤ 1048576)
def OpenSpec.upto (s : _root_.Go.ChangeSpec) : _root_.Go.OpenSpec := { _root_.Go.OpenSpec.ofChange s with cond := some uptoSmall }

/-- 'dripstonelaw23.JournalFormats', WHERE WHAT IT READS IS OF BULK AT MOST 1048576: true; the input reads as it did. -/
def journalFormatsUptoRow : OpenClaim := { program := "ytjbijppgjjnngaagreat", sum := "89abd41dcd248ef160ff57bf9da1bd4149c1ee20c19e9fbd11eac03f8c546603", func := "dripstone/dripstonelaw23.JournalFormats", spec := "journalFormats", unfollowed := true, recurses := true, loops := true, apart := false, narrowed := true }
def JournalFormatsUptoSaid : Prop := journalFormatsUptoRow.holds Tryz.pinned (OpenSpec.upto journalFormatsSpec)

/-- 'dripstonelaw23.JournalChecks', WHERE WHAT IT READS IS OF BULK AT MOST 1048576: true; the input reads as it did. -/
def journalChecksUptoRow : OpenClaim := { program := "ytjbijppgjjnngaagreat", sum := "89abd41dcd248ef160ff57bf9da1bd4149c1ee20c19e9fbd11eac03f8c546603", func := "dripstone/dripstonelaw23.JournalChecks", spec := "journalChecks", unfollowed := true, recurses := true, loops := true, apart := false, narrowed := true }
def JournalChecksUptoSaid : Prop := journalChecksUptoRow.holds Tryz.pinned (OpenSpec.upto journalChecksSpec)

/-- 'dripstonelaw23.JournalRecords', WHERE WHAT IT READS IS OF BULK AT MOST 1048576: true; the input reads as it did. -/
def journalRecordsUptoRow : OpenClaim := { program := "ytjbijppgjjnngaagreat", sum := "89abd41dcd248ef160ff57bf9da1bd4149c1ee20c19e9fbd11eac03f8c546603", func := "dripstone/dripstonelaw23.JournalRecords", spec := "journalRecords", unfollowed := true, recurses := true, loops := true, apart := false, narrowed := true }
def JournalRecordsUptoSaid : Prop := journalRecordsUptoRow.holds Tryz.pinned (OpenSpec.upto journalRecordsSpec)

/-- 'dripstonelaw23.JournalPuts', WHERE WHAT IT READS IS OF BULK AT MOST 1048576: true; the input reads as it did. -/
def journalPutsUptoRow : OpenClaim := { program := "ytjbijppgjjnngaagreat", sum := "89abd41dcd248ef160ff57bf9da1bd4149c1ee20c19e9fbd11eac03f8c546603", func := "dripstone/dripstonelaw23.JournalPuts", spec := "journalPuts", unfollowed := true, recurses := true, loops := true, apart := false, narrowed := true }
def JournalPutsUptoSaid : Prop := journalPutsUptoRow.holds Tryz.pinned (OpenSpec.upto journalPutsSpec)

/-- 'dripstonelaw23.JournalCrashes', WHERE WHAT IT READS IS OF BULK AT MOST 1048576: true; the input reads as it did. -/
def journalCrashesUptoRow : OpenClaim := { program := "ytjbijppgjjnngaagreat", sum := "89abd41dcd248ef160ff57bf9da1bd4149c1ee20c19e9fbd11eac03f8c546603", func := "dripstone/dripstonelaw23.JournalCrashes", spec := "journalCrashes", unfollowed := true, recurses := true, apart := false, narrowed := true }
def JournalCrashesUptoSaid : Prop := journalCrashesUptoRow.holds Tryz.pinned (OpenSpec.upto journalCrashesSpec)

/-- 'dripstonelaw23.JournalBlocks', WHERE WHAT IT READS IS OF BULK AT MOST 1048576: true; the input reads as it did. -/
def journalBlocksUptoRow : OpenClaim := { program := "ytjbijppgjjnngaagreat", sum := "89abd41dcd248ef160ff57bf9da1bd4149c1ee20c19e9fbd11eac03f8c546603", func := "dripstone/dripstonelaw23.JournalBlocks", spec := "journalBlocks", unfollowed := true, recurses := true, apart := false, narrowed := true }
def JournalBlocksUptoSaid : Prop := journalBlocksUptoRow.holds Tryz.pinned (OpenSpec.upto journalBlocksSpec)

/-- 'dripstonelaw23.JournalThere', WHERE WHAT IT READS IS OF BULK AT MOST 1048576: true; the input reads as it did. -/
def journalThereUptoRow : OpenClaim := { program := "ytjbijppgjjnngaagreat", sum := "89abd41dcd248ef160ff57bf9da1bd4149c1ee20c19e9fbd11eac03f8c546603", func := "dripstone/dripstonelaw23.JournalThere", spec := "journalThere", unfollowed := true, recurses := true, apart := false, narrowed := true }
def JournalThereUptoSaid : Prop := journalThereUptoRow.holds Tryz.pinned (OpenSpec.upto journalThereSpec)

/-- 'dripstonelaw23.JournalCopies', WHERE WHAT IT READS IS OF BULK AT MOST 1048576: true; the input reads as it did. -/
def journalCopiesUptoRow : OpenClaim := { program := "ytjbijppgjjnngaagreat", sum := "89abd41dcd248ef160ff57bf9da1bd4149c1ee20c19e9fbd11eac03f8c546603", func := "dripstone/dripstonelaw23.JournalCopies", spec := "journalCopies", unfollowed := true, recurses := true, loops := true, apart := false, narrowed := true }
def JournalCopiesUptoSaid : Prop := journalCopiesUptoRow.holds Tryz.pinned (OpenSpec.upto journalCopiesSpec)

/-- 'dripstonelaw23.JournalKept', WHERE WHAT IT READS IS OF BULK AT MOST 1048576: true; the input reads as it did. -/
def journalKeptUptoRow : OpenClaim := { program := "ytjbijppgjjnngaagreat", sum := "89abd41dcd248ef160ff57bf9da1bd4149c1ee20c19e9fbd11eac03f8c546603", func := "dripstone/dripstonelaw23.JournalKept", spec := "journalKept", unfollowed := true, recurses := true, loops := true, apart := false, narrowed := true }
def JournalKeptUptoSaid : Prop := journalKeptUptoRow.holds Tryz.pinned (OpenSpec.upto journalKeptSpec)

/-- 'dripstonelaw23.JournalSame', WHERE WHAT IT READS IS OF BULK AT MOST 1048576: true; the input reads as it did. -/
def journalSameUptoRow : OpenClaim := { program := "ytjbijppgjjnngaagreat", sum := "89abd41dcd248ef160ff57bf9da1bd4149c1ee20c19e9fbd11eac03f8c546603", func := "dripstone/dripstonelaw23.JournalSame", spec := "journalSame", unfollowed := true, recurses := true, loops := true, apart := false, narrowed := true }
def JournalSameUptoSaid : Prop := journalSameUptoRow.holds Tryz.pinned (OpenSpec.upto journalSameSpec)

/-- 'dripstonelaw23.JournalRoom', WHERE WHAT IT READS IS OF BULK AT MOST 1048576: true; the input reads as it did. -/
def journalRoomUptoRow : OpenClaim := { program := "ytjbijppgjjnngaagreat", sum := "89abd41dcd248ef160ff57bf9da1bd4149c1ee20c19e9fbd11eac03f8c546603", func := "dripstone/dripstonelaw23.JournalRoom", spec := "journalRoom", unfollowed := true, recurses := true, loops := true, apart := false, narrowed := true }
def JournalRoomUptoSaid : Prop := journalRoomUptoRow.holds Tryz.pinned (OpenSpec.upto journalRoomSpec)

/-- 'dripstonelaw23.JournalNames', WHERE WHAT IT READS IS OF BULK AT MOST 1048576: true; the input reads as it did. -/
def journalNamesUptoRow : OpenClaim := { program := "ytjbijppgjjnngaagreat", sum := "89abd41dcd248ef160ff57bf9da1bd4149c1ee20c19e9fbd11eac03f8c546603", func := "dripstone/dripstonelaw23.JournalNames", spec := "journalNames", unfollowed := true, recurses := true, apart := false, narrowed := true }
def JournalNamesUptoSaid : Prop := journalNamesUptoRow.holds Tryz.pinned (OpenSpec.upto journalNamesSpec)

end Rows
end Go.Proofs.YtjbijppgjjnngaaGreat
