/-
  NARROWER THAN 'FOR EVERY INPUT', by the rows' own cells (each row's printed sentence says how): ElemChecks: loops, laid · ElemLess: loops, laid · ElemJoins: loops, laid · ElemLaws: loops, laid · ElemWrong: loops, laid · ElemLists: loops, laid · ElemDeltas: loops, laid · ElemTakes: loops, laid · ElemShuffled: loops, laid · ElemPieces: loops, laid · ElemOrder: loops, laid · ElemWrites: loops, laid.
  DERIVED. THE GIVEN ROWS OF THIS SEAT. 12 by the template 'for every input the law returns true; each argument reads behind the call as it read before'; 0 by the template 'total and deterministic' (their statements: YtlmmgebealakkaaGreatDoorTotals.lean).
  GIVEN WITH THE SEED: the statements are not yours to turn. If you find one false, say at which input.
  Laid BY PROGRAM, IN A SANDBOX (cutbox-rows.mjs): the forced cells as the released guide's own fill.sh prints them over the translation a1cd851911c68931… (all of the seat's roots in one cut). By AI agents, Wed Nov 11 2026. No macro, syntax, notation, axiom, sorry.
-/
import Derived.Test.YtlmmgebealakkaaGreatDoorChecked
import GoSem.Claim
import GoSem.ClaimJoined
import GoSem.ClaimMapViews
import Derived.JoinedTies
import Derived.KernelRfl
namespace Go.Proofs.YtlmmgebealakkaaGreatDoor
/- THE CELL 'sum', in the pinned program and in every row, IS THE sha256 OF THE DUMP (.gsa) THAT YtlmmgebealakkaaGreatDoorProg.lean LOADS. Nothing in Lean hashes anything: it is a label: what it is worth is what the hold of that sum in a sandbox is worth. -/
noncomputable def Tryz.pinned : Pinned := { name := "ytlmmgebealakkaagreatdoor", sum := "a1cd851911c6893193ca46766d2604a49c018be442471e7f134679d6de23b94a", checked := Tryz.checked }
namespace Rows
def none {H : Type} : Left H := { results := [], args := [] }

/- WHAT THE LISTED PACKAGE-LEVEL VARIABLES READ AS WHEN THE CALL BEGINS. Each datum BY PROGRAM (the guide's laid-datum.mjs) off the statement by which the dump's own 'gosem.cut.vars' lays the variable. In a bare row this is a premise. The card (YtlmmgebealakkaaGreatDoorCards.lean) ties it to the program's text. -/
def laid_math_bits_deBruijn32tab {H : Type} : DataW H := .agg [.lit (.int .u8 0), .lit (.int .u8 1), .lit (.int .u8 28), .lit (.int .u8 2), .lit (.int .u8 29), .lit (.int .u8 14), .lit (.int .u8 24), .lit (.int .u8 3), .lit (.int .u8 30), .lit (.int .u8 22), .lit (.int .u8 20), .lit (.int .u8 15), .lit (.int .u8 25), .lit (.int .u8 17), .lit (.int .u8 4), .lit (.int .u8 8), .lit (.int .u8 31), .lit (.int .u8 27), .lit (.int .u8 13), .lit (.int .u8 23), .lit (.int .u8 21), .lit (.int .u8 19), .lit (.int .u8 16), .lit (.int .u8 7), .lit (.int .u8 26), .lit (.int .u8 12), .lit (.int .u8 18), .lit (.int .u8 6), .lit (.int .u8 11), .lit (.int .u8 5), .lit (.int .u8 10), .lit (.int .u8 9)]
def laid_math_bits_deBruijn64tab {H : Type} : DataW H := .agg [.lit (.int .u8 0), .lit (.int .u8 1), .lit (.int .u8 56), .lit (.int .u8 2), .lit (.int .u8 57), .lit (.int .u8 49), .lit (.int .u8 28), .lit (.int .u8 3), .lit (.int .u8 61), .lit (.int .u8 58), .lit (.int .u8 42), .lit (.int .u8 50), .lit (.int .u8 38), .lit (.int .u8 29), .lit (.int .u8 17), .lit (.int .u8 4), .lit (.int .u8 62), .lit (.int .u8 47), .lit (.int .u8 59), .lit (.int .u8 36), .lit (.int .u8 45), .lit (.int .u8 43), .lit (.int .u8 51), .lit (.int .u8 22), .lit (.int .u8 53), .lit (.int .u8 39), .lit (.int .u8 33), .lit (.int .u8 30), .lit (.int .u8 24), .lit (.int .u8 18), .lit (.int .u8 12), .lit (.int .u8 5), .lit (.int .u8 63), .lit (.int .u8 55), .lit (.int .u8 48), .lit (.int .u8 27), .lit (.int .u8 60), .lit (.int .u8 41), .lit (.int .u8 37), .lit (.int .u8 16), .lit (.int .u8 46), .lit (.int .u8 35), .lit (.int .u8 44), .lit (.int .u8 21), .lit (.int .u8 52), .lit (.int .u8 32), .lit (.int .u8 23), .lit (.int .u8 11), .lit (.int .u8 54), .lit (.int .u8 26), .lit (.int .u8 40), .lit (.int .u8 15), .lit (.int .u8 34), .lit (.int .u8 20), .lit (.int .u8 31), .lit (.int .u8 10), .lit (.int .u8 25), .lit (.int .u8 14), .lit (.int .u8 19), .lit (.int .u8 9), .lit (.int .u8 13), .lit (.int .u8 8), .lit (.int .u8 7), .lit (.int .u8 6)]
def laid_internal_strconv_uint64pow10 {H : Type} : DataW H := .agg [.lit (.int .u64 1), .lit (.int .u64 10), .lit (.int .u64 100), .lit (.int .u64 1000), .lit (.int .u64 10000), .lit (.int .u64 100000), .lit (.int .u64 1000000), .lit (.int .u64 10000000), .lit (.int .u64 100000000), .lit (.int .u64 1000000000), .lit (.int .u64 10000000000), .lit (.int .u64 100000000000), .lit (.int .u64 1000000000000), .lit (.int .u64 10000000000000), .lit (.int .u64 100000000000000), .lit (.int .u64 1000000000000000), .lit (.int .u64 10000000000000000), .lit (.int .u64 100000000000000000), .lit (.int .u64 1000000000000000000), .lit (.int .u64 10000000000000000000)]

/-- 'dripstonelaw04.ElemChecks': WHATEVER THE INPUT: true; the input reads as it did. -/
def elemChecksSpec : ChangeSpec := { name := "elemChecks", fn := fun _ => fun
  | [d1, d2] => { results := [.lit (.bool true)], args := [d1, d2] }
  | _ => none }
def elemChecksRow : OpenClaim := { program := "ytlmmgebealakkaagreatdoor", sum := "a1cd851911c6893193ca46766d2604a49c018be442471e7f134679d6de23b94a", func := "dripstone/dripstonelaw04.ElemChecks", spec := "elemChecks", inPlace := ["internal/abi.NoEscape", "internal/bytealg.MakeNoZero"], unfollowed := true, recurses := true, named := ["internal/strconv.uint64pow10", "math/bits.deBruijn32tab", "math/bits.deBruijn64tab"], loops := true, apart := false, laid := [("math/bits.deBruijn32tab", laid_math_bits_deBruijn32tab), ("math/bits.deBruijn64tab", laid_math_bits_deBruijn64tab), ("internal/strconv.uint64pow10", laid_internal_strconv_uint64pow10)] }
def ElemChecksSaid : Prop := elemChecksRow.holds Tryz.pinned (OpenSpec.ofChange elemChecksSpec)

/-- ITS FALSE NEIGHBOUR: 'it returns false'. Refute it at one input. -/
def elemChecksWrong : ChangeSpec := { name := "elemChecks", fn := fun _ => fun
  | [d1, d2] => { results := [.lit (.bool false)], args := [d1, d2] }
  | _ => none }
def ElemChecksWrongFalsely : Prop := elemChecksRow.holds Tryz.pinned (OpenSpec.ofChange elemChecksWrong)

/-- 'dripstonelaw04.ElemLess': WHATEVER THE INPUT: true; the input reads as it did. -/
def elemLessSpec : ChangeSpec := { name := "elemLess", fn := fun _ => fun
  | [d1, d2] => { results := [.lit (.bool true)], args := [d1, d2] }
  | _ => none }
def elemLessRow : OpenClaim := { program := "ytlmmgebealakkaagreatdoor", sum := "a1cd851911c6893193ca46766d2604a49c018be442471e7f134679d6de23b94a", func := "dripstone/dripstonelaw04.ElemLess", spec := "elemLess", inPlace := ["internal/abi.NoEscape", "internal/bytealg.MakeNoZero"], unfollowed := true, recurses := true, named := ["internal/strconv.uint64pow10", "math/bits.deBruijn32tab", "math/bits.deBruijn64tab"], loops := true, apart := false, laid := [("math/bits.deBruijn32tab", laid_math_bits_deBruijn32tab), ("math/bits.deBruijn64tab", laid_math_bits_deBruijn64tab), ("internal/strconv.uint64pow10", laid_internal_strconv_uint64pow10)] }
def ElemLessSaid : Prop := elemLessRow.holds Tryz.pinned (OpenSpec.ofChange elemLessSpec)

/-- ITS FALSE NEIGHBOUR: 'it returns false'. Refute it at one input. -/
def elemLessWrong : ChangeSpec := { name := "elemLess", fn := fun _ => fun
  | [d1, d2] => { results := [.lit (.bool false)], args := [d1, d2] }
  | _ => none }
def ElemLessWrongFalsely : Prop := elemLessRow.holds Tryz.pinned (OpenSpec.ofChange elemLessWrong)

/-- 'dripstonelaw04.ElemJoins': WHATEVER THE INPUT: true; the input reads as it did. -/
def elemJoinsSpec : ChangeSpec := { name := "elemJoins", fn := fun _ => fun
  | [d1, d2, d3] => { results := [.lit (.bool true)], args := [d1, d2, d3] }
  | _ => none }
def elemJoinsRow : OpenClaim := { program := "ytlmmgebealakkaagreatdoor", sum := "a1cd851911c6893193ca46766d2604a49c018be442471e7f134679d6de23b94a", func := "dripstone/dripstonelaw04.ElemJoins", spec := "elemJoins", inPlace := ["internal/abi.NoEscape", "internal/bytealg.MakeNoZero"], unfollowed := true, recurses := true, named := ["internal/strconv.uint64pow10", "math/bits.deBruijn32tab", "math/bits.deBruijn64tab"], loops := true, apart := false, laid := [("math/bits.deBruijn32tab", laid_math_bits_deBruijn32tab), ("math/bits.deBruijn64tab", laid_math_bits_deBruijn64tab), ("internal/strconv.uint64pow10", laid_internal_strconv_uint64pow10)] }
def ElemJoinsSaid : Prop := elemJoinsRow.holds Tryz.pinned (OpenSpec.ofChange elemJoinsSpec)

/-- ITS FALSE NEIGHBOUR: 'it returns false'. Refute it at one input. -/
def elemJoinsWrong : ChangeSpec := { name := "elemJoins", fn := fun _ => fun
  | [d1, d2, d3] => { results := [.lit (.bool false)], args := [d1, d2, d3] }
  | _ => none }
def ElemJoinsWrongFalsely : Prop := elemJoinsRow.holds Tryz.pinned (OpenSpec.ofChange elemJoinsWrong)

/-- 'dripstonelaw04.ElemLaws': WHATEVER THE INPUT: true; the input reads as it did. -/
def elemLawsSpec : ChangeSpec := { name := "elemLaws", fn := fun _ => fun
  | [d1, d2] => { results := [.lit (.bool true)], args := [d1, d2] }
  | _ => none }
def elemLawsRow : OpenClaim := { program := "ytlmmgebealakkaagreatdoor", sum := "a1cd851911c6893193ca46766d2604a49c018be442471e7f134679d6de23b94a", func := "dripstone/dripstonelaw04.ElemLaws", spec := "elemLaws", inPlace := ["internal/abi.NoEscape", "internal/bytealg.MakeNoZero"], unfollowed := true, recurses := true, named := ["internal/strconv.uint64pow10", "math/bits.deBruijn32tab", "math/bits.deBruijn64tab"], loops := true, apart := false, laid := [("math/bits.deBruijn32tab", laid_math_bits_deBruijn32tab), ("math/bits.deBruijn64tab", laid_math_bits_deBruijn64tab), ("internal/strconv.uint64pow10", laid_internal_strconv_uint64pow10)] }
def ElemLawsSaid : Prop := elemLawsRow.holds Tryz.pinned (OpenSpec.ofChange elemLawsSpec)

/-- ITS FALSE NEIGHBOUR: 'it returns false'. Refute it at one input. -/
def elemLawsWrong : ChangeSpec := { name := "elemLaws", fn := fun _ => fun
  | [d1, d2] => { results := [.lit (.bool false)], args := [d1, d2] }
  | _ => none }
def ElemLawsWrongFalsely : Prop := elemLawsRow.holds Tryz.pinned (OpenSpec.ofChange elemLawsWrong)

/-- 'dripstonelaw04.ElemWrong': WHATEVER THE INPUT: true; the input reads as it did. -/
def elemWrongSpec : ChangeSpec := { name := "elemWrong", fn := fun _ => fun
  | [d1, d2] => { results := [.lit (.bool true)], args := [d1, d2] }
  | _ => none }
def elemWrongRow : OpenClaim := { program := "ytlmmgebealakkaagreatdoor", sum := "a1cd851911c6893193ca46766d2604a49c018be442471e7f134679d6de23b94a", func := "dripstone/dripstonelaw04.ElemWrong", spec := "elemWrong", inPlace := ["internal/abi.NoEscape", "internal/bytealg.MakeNoZero"], unfollowed := true, recurses := true, named := ["internal/strconv.uint64pow10", "math/bits.deBruijn32tab", "math/bits.deBruijn64tab"], loops := true, apart := false, laid := [("math/bits.deBruijn32tab", laid_math_bits_deBruijn32tab), ("math/bits.deBruijn64tab", laid_math_bits_deBruijn64tab), ("internal/strconv.uint64pow10", laid_internal_strconv_uint64pow10)] }
def ElemWrongSaid : Prop := elemWrongRow.holds Tryz.pinned (OpenSpec.ofChange elemWrongSpec)

/-- ITS FALSE NEIGHBOUR: 'it returns false'. Refute it at one input. -/
def elemWrongWrong : ChangeSpec := { name := "elemWrong", fn := fun _ => fun
  | [d1, d2] => { results := [.lit (.bool false)], args := [d1, d2] }
  | _ => none }
def ElemWrongWrongFalsely : Prop := elemWrongRow.holds Tryz.pinned (OpenSpec.ofChange elemWrongWrong)

/-- 'dripstonelaw04.ElemLists': WHATEVER THE INPUT: true; the input reads as it did. -/
def elemListsSpec : ChangeSpec := { name := "elemLists", fn := fun _ => fun
  | [d1, d2] => { results := [.lit (.bool true)], args := [d1, d2] }
  | _ => none }
def elemListsRow : OpenClaim := { program := "ytlmmgebealakkaagreatdoor", sum := "a1cd851911c6893193ca46766d2604a49c018be442471e7f134679d6de23b94a", func := "dripstone/dripstonelaw04.ElemLists", spec := "elemLists", inPlace := ["internal/abi.NoEscape", "internal/bytealg.MakeNoZero"], unfollowed := true, recurses := true, named := ["internal/strconv.uint64pow10", "math/bits.deBruijn32tab", "math/bits.deBruijn64tab"], loops := true, apart := false, laid := [("math/bits.deBruijn32tab", laid_math_bits_deBruijn32tab), ("math/bits.deBruijn64tab", laid_math_bits_deBruijn64tab), ("internal/strconv.uint64pow10", laid_internal_strconv_uint64pow10)] }
def ElemListsSaid : Prop := elemListsRow.holds Tryz.pinned (OpenSpec.ofChange elemListsSpec)

/-- ITS FALSE NEIGHBOUR: 'it returns false'. Refute it at one input. -/
def elemListsWrong : ChangeSpec := { name := "elemLists", fn := fun _ => fun
  | [d1, d2] => { results := [.lit (.bool false)], args := [d1, d2] }
  | _ => none }
def ElemListsWrongFalsely : Prop := elemListsRow.holds Tryz.pinned (OpenSpec.ofChange elemListsWrong)

/-- 'dripstonelaw04.ElemDeltas': WHATEVER THE INPUT: true; the input reads as it did. -/
def elemDeltasSpec : ChangeSpec := { name := "elemDeltas", fn := fun _ => fun
  | [d1, d2, d3] => { results := [.lit (.bool true)], args := [d1, d2, d3] }
  | _ => none }
def elemDeltasRow : OpenClaim := { program := "ytlmmgebealakkaagreatdoor", sum := "a1cd851911c6893193ca46766d2604a49c018be442471e7f134679d6de23b94a", func := "dripstone/dripstonelaw04.ElemDeltas", spec := "elemDeltas", inPlace := ["internal/abi.NoEscape", "internal/bytealg.MakeNoZero"], unfollowed := true, recurses := true, named := ["internal/strconv.uint64pow10", "math/bits.deBruijn32tab", "math/bits.deBruijn64tab"], loops := true, apart := false, laid := [("math/bits.deBruijn32tab", laid_math_bits_deBruijn32tab), ("math/bits.deBruijn64tab", laid_math_bits_deBruijn64tab), ("internal/strconv.uint64pow10", laid_internal_strconv_uint64pow10)] }
def ElemDeltasSaid : Prop := elemDeltasRow.holds Tryz.pinned (OpenSpec.ofChange elemDeltasSpec)

/-- ITS FALSE NEIGHBOUR: 'it returns false'. Refute it at one input. -/
def elemDeltasWrong : ChangeSpec := { name := "elemDeltas", fn := fun _ => fun
  | [d1, d2, d3] => { results := [.lit (.bool false)], args := [d1, d2, d3] }
  | _ => none }
def ElemDeltasWrongFalsely : Prop := elemDeltasRow.holds Tryz.pinned (OpenSpec.ofChange elemDeltasWrong)

/-- 'dripstonelaw04.ElemTakes': WHATEVER THE INPUT: true; the input reads as it did. -/
def elemTakesSpec : ChangeSpec := { name := "elemTakes", fn := fun _ => fun
  | [d1, d2, d3] => { results := [.lit (.bool true)], args := [d1, d2, d3] }
  | _ => none }
def elemTakesRow : OpenClaim := { program := "ytlmmgebealakkaagreatdoor", sum := "a1cd851911c6893193ca46766d2604a49c018be442471e7f134679d6de23b94a", func := "dripstone/dripstonelaw04.ElemTakes", spec := "elemTakes", inPlace := ["internal/abi.NoEscape", "internal/bytealg.MakeNoZero"], unfollowed := true, recurses := true, named := ["internal/strconv.uint64pow10", "math/bits.deBruijn32tab", "math/bits.deBruijn64tab"], loops := true, apart := false, laid := [("math/bits.deBruijn32tab", laid_math_bits_deBruijn32tab), ("math/bits.deBruijn64tab", laid_math_bits_deBruijn64tab), ("internal/strconv.uint64pow10", laid_internal_strconv_uint64pow10)] }
def ElemTakesSaid : Prop := elemTakesRow.holds Tryz.pinned (OpenSpec.ofChange elemTakesSpec)

/-- ITS FALSE NEIGHBOUR: 'it returns false'. Refute it at one input. -/
def elemTakesWrong : ChangeSpec := { name := "elemTakes", fn := fun _ => fun
  | [d1, d2, d3] => { results := [.lit (.bool false)], args := [d1, d2, d3] }
  | _ => none }
def ElemTakesWrongFalsely : Prop := elemTakesRow.holds Tryz.pinned (OpenSpec.ofChange elemTakesWrong)

/-- 'dripstonelaw04.ElemShuffled': WHATEVER THE INPUT: true; the input reads as it did. -/
def elemShuffledSpec : ChangeSpec := { name := "elemShuffled", fn := fun _ => fun
  | [d1, d2, d3] => { results := [.lit (.bool true)], args := [d1, d2, d3] }
  | _ => none }
def elemShuffledRow : OpenClaim := { program := "ytlmmgebealakkaagreatdoor", sum := "a1cd851911c6893193ca46766d2604a49c018be442471e7f134679d6de23b94a", func := "dripstone/dripstonelaw04.ElemShuffled", spec := "elemShuffled", inPlace := ["internal/abi.NoEscape", "internal/bytealg.MakeNoZero"], unfollowed := true, recurses := true, named := ["internal/strconv.uint64pow10", "math/bits.deBruijn32tab", "math/bits.deBruijn64tab"], loops := true, apart := false, laid := [("math/bits.deBruijn32tab", laid_math_bits_deBruijn32tab), ("math/bits.deBruijn64tab", laid_math_bits_deBruijn64tab), ("internal/strconv.uint64pow10", laid_internal_strconv_uint64pow10)] }
def ElemShuffledSaid : Prop := elemShuffledRow.holds Tryz.pinned (OpenSpec.ofChange elemShuffledSpec)

/-- ITS FALSE NEIGHBOUR: 'it returns false'. Refute it at one input. -/
def elemShuffledWrong : ChangeSpec := { name := "elemShuffled", fn := fun _ => fun
  | [d1, d2, d3] => { results := [.lit (.bool false)], args := [d1, d2, d3] }
  | _ => none }
def ElemShuffledWrongFalsely : Prop := elemShuffledRow.holds Tryz.pinned (OpenSpec.ofChange elemShuffledWrong)

/-- 'dripstonelaw04.ElemPieces': WHATEVER THE INPUT: true; the input reads as it did. -/
def elemPiecesSpec : ChangeSpec := { name := "elemPieces", fn := fun _ => fun
  | [d1, d2, d3] => { results := [.lit (.bool true)], args := [d1, d2, d3] }
  | _ => none }
def elemPiecesRow : OpenClaim := { program := "ytlmmgebealakkaagreatdoor", sum := "a1cd851911c6893193ca46766d2604a49c018be442471e7f134679d6de23b94a", func := "dripstone/dripstonelaw04.ElemPieces", spec := "elemPieces", inPlace := ["internal/abi.NoEscape", "internal/bytealg.MakeNoZero"], unfollowed := true, recurses := true, named := ["internal/strconv.uint64pow10", "math/bits.deBruijn32tab", "math/bits.deBruijn64tab"], loops := true, apart := false, laid := [("math/bits.deBruijn32tab", laid_math_bits_deBruijn32tab), ("math/bits.deBruijn64tab", laid_math_bits_deBruijn64tab), ("internal/strconv.uint64pow10", laid_internal_strconv_uint64pow10)] }
def ElemPiecesSaid : Prop := elemPiecesRow.holds Tryz.pinned (OpenSpec.ofChange elemPiecesSpec)

/-- ITS FALSE NEIGHBOUR: 'it returns false'. Refute it at one input. -/
def elemPiecesWrong : ChangeSpec := { name := "elemPieces", fn := fun _ => fun
  | [d1, d2, d3] => { results := [.lit (.bool false)], args := [d1, d2, d3] }
  | _ => none }
def ElemPiecesWrongFalsely : Prop := elemPiecesRow.holds Tryz.pinned (OpenSpec.ofChange elemPiecesWrong)

/-- 'dripstonelaw04.ElemOrder': WHATEVER THE INPUT: true; the input reads as it did. -/
def elemOrderSpec : ChangeSpec := { name := "elemOrder", fn := fun _ => fun
  | [d1, d2] => { results := [.lit (.bool true)], args := [d1, d2] }
  | _ => none }
def elemOrderRow : OpenClaim := { program := "ytlmmgebealakkaagreatdoor", sum := "a1cd851911c6893193ca46766d2604a49c018be442471e7f134679d6de23b94a", func := "dripstone/dripstonelaw04.ElemOrder", spec := "elemOrder", inPlace := ["internal/abi.NoEscape", "internal/bytealg.MakeNoZero"], unfollowed := true, recurses := true, named := ["internal/strconv.uint64pow10", "math/bits.deBruijn32tab", "math/bits.deBruijn64tab"], loops := true, apart := false, laid := [("math/bits.deBruijn32tab", laid_math_bits_deBruijn32tab), ("math/bits.deBruijn64tab", laid_math_bits_deBruijn64tab), ("internal/strconv.uint64pow10", laid_internal_strconv_uint64pow10)] }
def ElemOrderSaid : Prop := elemOrderRow.holds Tryz.pinned (OpenSpec.ofChange elemOrderSpec)

/-- ITS FALSE NEIGHBOUR: 'it returns false'. Refute it at one input. -/
def elemOrderWrong : ChangeSpec := { name := "elemOrder", fn := fun _ => fun
  | [d1, d2] => { results := [.lit (.bool false)], args := [d1, d2] }
  | _ => none }
def ElemOrderWrongFalsely : Prop := elemOrderRow.holds Tryz.pinned (OpenSpec.ofChange elemOrderWrong)

/-- 'dripstonelaw04.ElemWrites': WHATEVER THE INPUT: true; the input reads as it did. -/
def elemWritesSpec : ChangeSpec := { name := "elemWrites", fn := fun _ => fun
  | [d1, d2] => { results := [.lit (.bool true)], args := [d1, d2] }
  | _ => none }
def elemWritesRow : OpenClaim := { program := "ytlmmgebealakkaagreatdoor", sum := "a1cd851911c6893193ca46766d2604a49c018be442471e7f134679d6de23b94a", func := "dripstone/dripstonelaw04.ElemWrites", spec := "elemWrites", inPlace := ["internal/abi.NoEscape", "internal/bytealg.MakeNoZero"], unfollowed := true, recurses := true, named := ["internal/strconv.uint64pow10", "math/bits.deBruijn32tab", "math/bits.deBruijn64tab"], loops := true, apart := false, laid := [("math/bits.deBruijn32tab", laid_math_bits_deBruijn32tab), ("math/bits.deBruijn64tab", laid_math_bits_deBruijn64tab), ("internal/strconv.uint64pow10", laid_internal_strconv_uint64pow10)] }
def ElemWritesSaid : Prop := elemWritesRow.holds Tryz.pinned (OpenSpec.ofChange elemWritesSpec)

/-- ITS FALSE NEIGHBOUR: 'it returns false'. Refute it at one input. -/
def elemWritesWrong : ChangeSpec := { name := "elemWrites", fn := fun _ => fun
  | [d1, d2] => { results := [.lit (.bool false)], args := [d1, d2] }
  | _ => none }
def ElemWritesWrongFalsely : Prop := elemWritesRow.holds Tryz.pinned (OpenSpec.ofChange elemWritesWrong)

/- THE SECOND FORM. 'bulk': how many values and letters a reading holds, each counted each time it is reached (what is shared counts as often as it is met; a slice's spare places count too). A statement '..UptoSaid' is the law's where the arguments, and the package variables that the reading takes, are together of bulk at most 1048576: NARROWER than '..Said'. Prove '..Said' where nothing that the law and all that it calls make is longer than what came in: it says more and counts as full. Else prove '..UptoSaid'. A law counts once. -/
mutual
def uptoBulk {H : Type} : DataW H → Nat
  | .lit (.string bytes) => bytes.length + 1
  | .lit _ => 1
  | .nil => 1
  | .ptr d => uptoBulk d + 1
  | .slice elems spare => uptoBulkAll elems + uptoBulkAll spare + 1
  | .agg parts => uptoBulkAll parts + 1
  | .iface _ d => uptoBulk d + 1
  | .map entries => uptoBulkEntries entries + 1
  | .held _ => 1
def uptoBulkAll {H : Type} : List (DataW H) → Nat
  | [] => 0
  | d :: r => uptoBulk d + uptoBulkAll r
def uptoBulkEntries {H : Type} : List (Lit × DataW H) → Nat
  | [] => 0
  | x :: r => uptoBulkEntry x + uptoBulkEntries r
def uptoBulkEntry {H : Type} : Lit × DataW H → Nat
  | (.string bytes, d) => bytes.length + uptoBulk d + 1
  | (_, d) => uptoBulk d + 1
 end
def uptoSmall : (H : Type) → List (DataW H) → Bool := fun _ ds => decide (uptoBulkAll ds ≤ 1048576)
def OpenSpec.upto (s : _root_.Go.ChangeSpec) : _root_.Go.OpenSpec := { _root_.Go.OpenSpec.ofChange s with cond := some uptoSmall }

/-- 'dripstonelaw04.ElemChecks', WHERE WHAT IT READS IS OF BULK AT MOST 1048576: true; the input reads as it did. -/
def elemChecksUptoRow : OpenClaim := { program := "ytlmmgebealakkaagreatdoor", sum := "a1cd851911c6893193ca46766d2604a49c018be442471e7f134679d6de23b94a", func := "dripstone/dripstonelaw04.ElemChecks", spec := "elemChecks", inPlace := ["internal/abi.NoEscape", "internal/bytealg.MakeNoZero"], unfollowed := true, recurses := true, named := ["internal/strconv.uint64pow10", "math/bits.deBruijn32tab", "math/bits.deBruijn64tab"], loops := true, apart := false, laid := [("math/bits.deBruijn32tab", laid_math_bits_deBruijn32tab), ("math/bits.deBruijn64tab", laid_math_bits_deBruijn64tab), ("internal/strconv.uint64pow10", laid_internal_strconv_uint64pow10)], narrowed := true }
def ElemChecksUptoSaid : Prop := elemChecksUptoRow.holds Tryz.pinned (OpenSpec.upto elemChecksSpec)

/-- 'dripstonelaw04.ElemLess', WHERE WHAT IT READS IS OF BULK AT MOST 1048576: true; the input reads as it did. -/
def elemLessUptoRow : OpenClaim := { program := "ytlmmgebealakkaagreatdoor", sum := "a1cd851911c6893193ca46766d2604a49c018be442471e7f134679d6de23b94a", func := "dripstone/dripstonelaw04.ElemLess", spec := "elemLess", inPlace := ["internal/abi.NoEscape", "internal/bytealg.MakeNoZero"], unfollowed := true, recurses := true, named := ["internal/strconv.uint64pow10", "math/bits.deBruijn32tab", "math/bits.deBruijn64tab"], loops := true, apart := false, laid := [("math/bits.deBruijn32tab", laid_math_bits_deBruijn32tab), ("math/bits.deBruijn64tab", laid_math_bits_deBruijn64tab), ("internal/strconv.uint64pow10", laid_internal_strconv_uint64pow10)], narrowed := true }
def ElemLessUptoSaid : Prop := elemLessUptoRow.holds Tryz.pinned (OpenSpec.upto elemLessSpec)

/-- 'dripstonelaw04.ElemJoins', WHERE WHAT IT READS IS OF BULK AT MOST 1048576: true; the input reads as it did. -/
def elemJoinsUptoRow : OpenClaim := { program := "ytlmmgebealakkaagreatdoor", sum := "a1cd851911c6893193ca46766d2604a49c018be442471e7f134679d6de23b94a", func := "dripstone/dripstonelaw04.ElemJoins", spec := "elemJoins", inPlace := ["internal/abi.NoEscape", "internal/bytealg.MakeNoZero"], unfollowed := true, recurses := true, named := ["internal/strconv.uint64pow10", "math/bits.deBruijn32tab", "math/bits.deBruijn64tab"], loops := true, apart := false, laid := [("math/bits.deBruijn32tab", laid_math_bits_deBruijn32tab), ("math/bits.deBruijn64tab", laid_math_bits_deBruijn64tab), ("internal/strconv.uint64pow10", laid_internal_strconv_uint64pow10)], narrowed := true }
def ElemJoinsUptoSaid : Prop := elemJoinsUptoRow.holds Tryz.pinned (OpenSpec.upto elemJoinsSpec)

/-- 'dripstonelaw04.ElemLaws', WHERE WHAT IT READS IS OF BULK AT MOST 1048576: true; the input reads as it did. -/
def elemLawsUptoRow : OpenClaim := { program := "ytlmmgebealakkaagreatdoor", sum := "a1cd851911c6893193ca46766d2604a49c018be442471e7f134679d6de23b94a", func := "dripstone/dripstonelaw04.ElemLaws", spec := "elemLaws", inPlace := ["internal/abi.NoEscape", "internal/bytealg.MakeNoZero"], unfollowed := true, recurses := true, named := ["internal/strconv.uint64pow10", "math/bits.deBruijn32tab", "math/bits.deBruijn64tab"], loops := true, apart := false, laid := [("math/bits.deBruijn32tab", laid_math_bits_deBruijn32tab), ("math/bits.deBruijn64tab", laid_math_bits_deBruijn64tab), ("internal/strconv.uint64pow10", laid_internal_strconv_uint64pow10)], narrowed := true }
def ElemLawsUptoSaid : Prop := elemLawsUptoRow.holds Tryz.pinned (OpenSpec.upto elemLawsSpec)

/-- 'dripstonelaw04.ElemWrong', WHERE WHAT IT READS IS OF BULK AT MOST 1048576: true; the input reads as it did. -/
def elemWrongUptoRow : OpenClaim := { program := "ytlmmgebealakkaagreatdoor", sum := "a1cd851911c6893193ca46766d2604a49c018be442471e7f134679d6de23b94a", func := "dripstone/dripstonelaw04.ElemWrong", spec := "elemWrong", inPlace := ["internal/abi.NoEscape", "internal/bytealg.MakeNoZero"], unfollowed := true, recurses := true, named := ["internal/strconv.uint64pow10", "math/bits.deBruijn32tab", "math/bits.deBruijn64tab"], loops := true, apart := false, laid := [("math/bits.deBruijn32tab", laid_math_bits_deBruijn32tab), ("math/bits.deBruijn64tab", laid_math_bits_deBruijn64tab), ("internal/strconv.uint64pow10", laid_internal_strconv_uint64pow10)], narrowed := true }
def ElemWrongUptoSaid : Prop := elemWrongUptoRow.holds Tryz.pinned (OpenSpec.upto elemWrongSpec)

/-- 'dripstonelaw04.ElemLists', WHERE WHAT IT READS IS OF BULK AT MOST 1048576: true; the input reads as it did. -/
def elemListsUptoRow : OpenClaim := { program := "ytlmmgebealakkaagreatdoor", sum := "a1cd851911c6893193ca46766d2604a49c018be442471e7f134679d6de23b94a", func := "dripstone/dripstonelaw04.ElemLists", spec := "elemLists", inPlace := ["internal/abi.NoEscape", "internal/bytealg.MakeNoZero"], unfollowed := true, recurses := true, named := ["internal/strconv.uint64pow10", "math/bits.deBruijn32tab", "math/bits.deBruijn64tab"], loops := true, apart := false, laid := [("math/bits.deBruijn32tab", laid_math_bits_deBruijn32tab), ("math/bits.deBruijn64tab", laid_math_bits_deBruijn64tab), ("internal/strconv.uint64pow10", laid_internal_strconv_uint64pow10)], narrowed := true }
def ElemListsUptoSaid : Prop := elemListsUptoRow.holds Tryz.pinned (OpenSpec.upto elemListsSpec)

/-- 'dripstonelaw04.ElemDeltas', WHERE WHAT IT READS IS OF BULK AT MOST 1048576: true; the input reads as it did. -/
def elemDeltasUptoRow : OpenClaim := { program := "ytlmmgebealakkaagreatdoor", sum := "a1cd851911c6893193ca46766d2604a49c018be442471e7f134679d6de23b94a", func := "dripstone/dripstonelaw04.ElemDeltas", spec := "elemDeltas", inPlace := ["internal/abi.NoEscape", "internal/bytealg.MakeNoZero"], unfollowed := true, recurses := true, named := ["internal/strconv.uint64pow10", "math/bits.deBruijn32tab", "math/bits.deBruijn64tab"], loops := true, apart := false, laid := [("math/bits.deBruijn32tab", laid_math_bits_deBruijn32tab), ("math/bits.deBruijn64tab", laid_math_bits_deBruijn64tab), ("internal/strconv.uint64pow10", laid_internal_strconv_uint64pow10)], narrowed := true }
def ElemDeltasUptoSaid : Prop := elemDeltasUptoRow.holds Tryz.pinned (OpenSpec.upto elemDeltasSpec)

/-- 'dripstonelaw04.ElemTakes', WHERE WHAT IT READS IS OF BULK AT MOST 1048576: true; the input reads as it did. -/
def elemTakesUptoRow : OpenClaim := { program := "ytlmmgebealakkaagreatdoor", sum := "a1cd851911c6893193ca46766d2604a49c018be442471e7f134679d6de23b94a", func := "dripstone/dripstonelaw04.ElemTakes", spec := "elemTakes", inPlace := ["internal/abi.NoEscape", "internal/bytealg.MakeNoZero"], unfollowed := true, recurses := true, named := ["internal/strconv.uint64pow10", "math/bits.deBruijn32tab", "math/bits.deBruijn64tab"], loops := true, apart := false, laid := [("math/bits.deBruijn32tab", laid_math_bits_deBruijn32tab), ("math/bits.deBruijn64tab", laid_math_bits_deBruijn64tab), ("internal/strconv.uint64pow10", laid_internal_strconv_uint64pow10)], narrowed := true }
def ElemTakesUptoSaid : Prop := elemTakesUptoRow.holds Tryz.pinned (OpenSpec.upto elemTakesSpec)

/-- 'dripstonelaw04.ElemShuffled', WHERE WHAT IT READS IS OF BULK AT MOST 1048576: true; the input reads as it did. -/
def elemShuffledUptoRow : OpenClaim := { program := "ytlmmgebealakkaagreatdoor", sum := "a1cd851911c6893193ca46766d2604a49c018be442471e7f134679d6de23b94a", func := "dripstone/dripstonelaw04.ElemShuffled", spec := "elemShuffled", inPlace := ["internal/abi.NoEscape", "internal/bytealg.MakeNoZero"], unfollowed := true, recurses := true, named := ["internal/strconv.uint64pow10", "math/bits.deBruijn32tab", "math/bits.deBruijn64tab"], loops := true, apart := false, laid := [("math/bits.deBruijn32tab", laid_math_bits_deBruijn32tab), ("math/bits.deBruijn64tab", laid_math_bits_deBruijn64tab), ("internal/strconv.uint64pow10", laid_internal_strconv_uint64pow10)], narrowed := true }
def ElemShuffledUptoSaid : Prop := elemShuffledUptoRow.holds Tryz.pinned (OpenSpec.upto elemShuffledSpec)

/-- 'dripstonelaw04.ElemPieces', WHERE WHAT IT READS IS OF BULK AT MOST 1048576: true; the input reads as it did. -/
def elemPiecesUptoRow : OpenClaim := { program := "ytlmmgebealakkaagreatdoor", sum := "a1cd851911c6893193ca46766d2604a49c018be442471e7f134679d6de23b94a", func := "dripstone/dripstonelaw04.ElemPieces", spec := "elemPieces", inPlace := ["internal/abi.NoEscape", "internal/bytealg.MakeNoZero"], unfollowed := true, recurses := true, named := ["internal/strconv.uint64pow10", "math/bits.deBruijn32tab", "math/bits.deBruijn64tab"], loops := true, apart := false, laid := [("math/bits.deBruijn32tab", laid_math_bits_deBruijn32tab), ("math/bits.deBruijn64tab", laid_math_bits_deBruijn64tab), ("internal/strconv.uint64pow10", laid_internal_strconv_uint64pow10)], narrowed := true }
def ElemPiecesUptoSaid : Prop := elemPiecesUptoRow.holds Tryz.pinned (OpenSpec.upto elemPiecesSpec)

/-- 'dripstonelaw04.ElemOrder', WHERE WHAT IT READS IS OF BULK AT MOST 1048576: true; the input reads as it did. -/
def elemOrderUptoRow : OpenClaim := { program := "ytlmmgebealakkaagreatdoor", sum := "a1cd851911c6893193ca46766d2604a49c018be442471e7f134679d6de23b94a", func := "dripstone/dripstonelaw04.ElemOrder", spec := "elemOrder", inPlace := ["internal/abi.NoEscape", "internal/bytealg.MakeNoZero"], unfollowed := true, recurses := true, named := ["internal/strconv.uint64pow10", "math/bits.deBruijn32tab", "math/bits.deBruijn64tab"], loops := true, apart := false, laid := [("math/bits.deBruijn32tab", laid_math_bits_deBruijn32tab), ("math/bits.deBruijn64tab", laid_math_bits_deBruijn64tab), ("internal/strconv.uint64pow10", laid_internal_strconv_uint64pow10)], narrowed := true }
def ElemOrderUptoSaid : Prop := elemOrderUptoRow.holds Tryz.pinned (OpenSpec.upto elemOrderSpec)

/-- 'dripstonelaw04.ElemWrites', WHERE WHAT IT READS IS OF BULK AT MOST 1048576: true; the input reads as it did. -/
def elemWritesUptoRow : OpenClaim := { program := "ytlmmgebealakkaagreatdoor", sum := "a1cd851911c6893193ca46766d2604a49c018be442471e7f134679d6de23b94a", func := "dripstone/dripstonelaw04.ElemWrites", spec := "elemWrites", inPlace := ["internal/abi.NoEscape", "internal/bytealg.MakeNoZero"], unfollowed := true, recurses := true, named := ["internal/strconv.uint64pow10", "math/bits.deBruijn32tab", "math/bits.deBruijn64tab"], loops := true, apart := false, laid := [("math/bits.deBruijn32tab", laid_math_bits_deBruijn32tab), ("math/bits.deBruijn64tab", laid_math_bits_deBruijn64tab), ("internal/strconv.uint64pow10", laid_internal_strconv_uint64pow10)], narrowed := true }
def ElemWritesUptoSaid : Prop := elemWritesUptoRow.holds Tryz.pinned (OpenSpec.upto elemWritesSpec)

end Rows
end Go.Proofs.YtlmmgebealakkaaGreatDoor
