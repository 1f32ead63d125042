/- The law JournalNames of chapter 23, a closed one: whatever memory there is, the call returns true, without conditions. -/
import Derived.Test.YtjbijppgjjnngaaGreatRows
import Derived.Test.YtjbijppgjjnngaaGreatJTab
import Derived.Test.YtjbijppgjjnngaaGreatEvD
import Derived.WalkKit
import Derived.ProofKit
import Derived.OpenShut
import Derived.ShutString
import Derived.ChangeOld
import Derived.Below
import Derived.SizedLaws
import Derived.JoinedOf
import Derived.ClosedOfChecked
namespace Go.Proofs.YtjbijppgjjnngaaGreat.journalNames
open Go.ChangeShapes Go.WideShapes Go.ChangeAt Go.RowKit Go.Ev
open Go.ChangeMaps (open_string shut_string)
set_option linter.unusedVariables false
set_option maxRecDepth 100000
theorem own : ownKnob Tryz.prog.godebug = none := by kernel_rfl
theorem names_true : trueR J.types.get (fnOf Tryz.prog) 10000 14 = some true := by kernel_rfl
theorem tok : TabOK Tryz.prog J.types.get := TabOK.mono (tiOf_ok Tryz.prog) (TT.ok J.types_ok)
theorem mix : Tryz.prog.follows .mixedOrders = true := by kernel_rfl
theorem lifted (os : Os) (started : os.Started) (H : Type) (enc : TypeId × Value → H) :
    ReturnsInHanded {} Tryz.checked os 14 .any (Rows.journalNamesSpec.pre6 enc Tryz.prog Tryz.f14 Rows.journalNamesRow.domain false) (Rows.journalNamesSpec.post enc Tryz.prog Tryz.f14 false true false false) := by
  refine returnsInHanded_of_change_sized (C := Tryz.checked) own started (by kernel_rfl) Tryz.func14
    (ChangeSpec.witness6 (enc := enc) (C := Tryz.checked) false ⟨#[], #[], []⟩ 8 (by kernel_rfl) (by kernel_rfl) (by kernel_rfl) (by kernel_rfl)) ?_
  intro W base args ds gs before hval0 hW hcnd hsz0 _
  have hW' := hW
  obtain ⟨p, q, hA0, hV, rfl, hfz, hnd⟩ := hW
  have hA : DataW.TrodAll enc Tryz.prog W 0 (fun _ => true) true Tryz.f14.params.toList args.toList ds p := hA0
  rw [Tryz.params14] at hA
  obtain ⟨rfl, rfl, rfl⟩ := trodAll_none hA
  obtain ⟨rfl, rfl⟩ := trodVars_none hV
  clear hA0 hval0 hsz0
  refine (calls_trueR tok (fnOf_ok Tryz.prog) mix names_true W).mono fun e W' ⟨he, bel⟩ => ?_
  subst he
  exact ⟨_, rfl, _, _, _, [], _, [], hW', trodAll_mk1 (shut_bool Tryz.underlying4 _), trodAll_mk0, rfl, bel.frame _, fun h => by cases h⟩
theorem and_tt {a b : Bool} (h : a = true) (k : b = true) : (a && b) = true := by rw [h, k]; rfl
theorem closed3 : laidOutB Tryz.prog = true ∧ mapsRowed Tryz.prog = true ∧ Tryz.prog.plainKeys = true :=
  Go.ClosedOfChecked.closed_of_checked Tryz.checked (by kernel_rfl) (by kernel_rfl) (by kernel_rfl)
set_option maxRecDepth 100000 in
set_option maxHeartbeats 4000000 in
theorem facts : joinedFacts Tryz.prog 14 Tryz.f14 Rows.journalNamesSpec Rows.journalNamesRow = true := by
  unfold joinedFacts
  with_reducible refine (and_tt (and_tt (and_tt (and_tt (and_tt (and_tt (and_tt (and_tt (and_tt (and_tt (and_tt (and_tt (and_tt (and_tt (and_tt (and_tt (and_tt (and_tt (and_tt (and_tt (and_tt (and_tt (and_tt (and_tt (and_tt (and_tt (and_tt (and_tt (and_tt (and_tt (and_tt ?k1 ?k2) ?k3) ?k4) ?k5) ?k6) ?k7) ?k8) ?k9) ?k10) ?k11) ?k12) ?k13) ?k14) ?k15) ?k16) ?k17) ?k17b) ?k18) ?k19) ?k20) ?k21) ?k22) ?k23) ?k23b) ?k24) ?k24b) ?k24c) ?k25) ?k26) ?k27) ?k28)
  case k1 => as_aux_lemma => kernel_rfl
  case k2 => exact closed3.1
  case k3 => exact closed3.2.1
  case k4 => as_aux_lemma => kernel_rfl
  case k5 => as_aux_lemma => kernel_rfl
  case k6 => as_aux_lemma => kernel_rfl
  case k7 => as_aux_lemma => kernel_rfl
  case k8 => as_aux_lemma => kernel_rfl
  case k9 => as_aux_lemma => kernel_rfl
  case k10 => as_aux_lemma => kernel_rfl
  case k11 => as_aux_lemma => kernel_rfl
  case k12 => as_aux_lemma => kernel_rfl
  case k13 => as_aux_lemma => kernel_rfl
  case k14 => as_aux_lemma => kernel_rfl
  case k15 => as_aux_lemma => kernel_rfl
  case k16 => as_aux_lemma => kernel_rfl
  case k17 => as_aux_lemma => kernel_rfl
  case k17b => as_aux_lemma => kernel_rfl
  case k18 => as_aux_lemma => kernel_rfl
  case k19 => as_aux_lemma => kernel_rfl
  case k20 => as_aux_lemma => kernel_rfl
  case k21 => as_aux_lemma => kernel_rfl
  case k22 => rw [closed3.2.2]; as_aux_lemma => kernel_rfl
  case k23 => as_aux_lemma => kernel_rfl
  case k23b => as_aux_lemma => kernel_rfl
  case k24 => as_aux_lemma => kernel_rfl
  case k24b => as_aux_lemma => kernel_rfl
  case k24c => as_aux_lemma => kernel_rfl
  case k25 => as_aux_lemma => kernel_rfl
  case k26 => as_aux_lemma => kernel_rfl
  case k27 => as_aux_lemma => kernel_rfl
  case k28 => as_aux_lemma => kernel_rfl
theorem over : Rows.journalNamesRow.holds Tryz.pinned (OpenSpec.ofChange Rows.journalNamesSpec) :=
  OpenClaim.holds_of_wide 14 Tryz.f14 rfl rfl rfl rfl rfl rfl rfl ⟨rfl, rfl, rfl, rfl, rfl⟩ rfl rfl rfl rfl rfl (by kernel_rfl) Tryz.func14 facts
    (of_decide_eq_true (by kernel_rfl)) (by unfold Func.isWrapper; first | (rw [if_pos (by decide +kernel)]; kernel_rfl) | (rw [if_neg (by decide +kernel)]; exact ⟨rfl, rfl⟩))
    (fun os started H enc _ => lifted os started H enc)
theorem proved : Rows.JournalNamesSaid := over
#print axioms proved
end Go.Proofs.YtjbijppgjjnngaaGreat.journalNames
namespace Go.Proofs.YtjbijppgjjnngaaGreat
/-- The row, under a short name, for the claim. -/
theorem journalNames_holds : Rows.JournalNamesSaid := journalNames.proved
end Go.Proofs.YtjbijppgjjnngaaGreat
