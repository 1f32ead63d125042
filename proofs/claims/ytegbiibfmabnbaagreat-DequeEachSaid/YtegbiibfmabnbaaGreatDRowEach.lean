/- The law DequeEach of chapter 13: what one order of a deque comes to is sound and explained -/
import Derived.Test.YtegbiibfmabnbaaGreatRows
import Derived.Test.YtegbiibfmabnbaaGreatRV
import Derived.Test.YtegbiibfmabnbaaGreatAw
import Derived.Test.YtegbiibfmabnbaaGreatEvF
import Derived.WalkKit
import Derived.ProofKit
import Derived.OpenShut
import Derived.ShutString
import Derived.ChangeOld
import Derived.Below
import Derived.SizedLaws
import Derived.JoinedOf
import Derived.ClosedOfChecked
set_option linter.unusedVariables false
namespace Go.Proofs.YtegbiibfmabnbaaGreat.dequeEach
open Go.ChangeShapes Go.WideShapes Go.ChangeAt Go.RowKit Go.Ev
theorem own:ownKnob Tryz.prog.godebug=none:=by kernel_rfl
theorem sup:supB Tryz.prog [64,5,62]=true:=by kernel_rfl
theorem read:∀ t∈[64,62],Tryz.prog.readableRec t=true∧t < Tryz.prog.types.size:=by
 intro t ht
 have:[64,62].all (fun t=>Tryz.prog.readableRec t&&Nat.blt t Tryz.prog.types.size)=true:=by kernel_rfl
 have:=List.all_eq_true.1 this t ht
 simpa using this
theorem and_tt {a b:Bool} (h:a=true) (k:b=true):(a&&b)=true:=by rw [h,k];rfl
theorem closed3:laidOutB Tryz.prog=true∧mapsRowed Tryz.prog=true∧Tryz.prog.plainKeys=false :=
 have H:=Go.ClosedOfChecked.allSpec_of (P:=Tryz.prog) Tryz.checked.wellFormed (by kernel_rfl)
 ⟨Go.ClosedOfChecked.laidOutB_of H (by kernel_rfl),Go.ClosedOfChecked.mapsRowed_of H,by kernel_rfl⟩
set_option maxRecDepth 100000 in
theorem lifted (os:Os) (started:os.Started) (H:Type) (enc:TypeId×Value→H) :
  ReturnsInHanded {} Tryz.checked os 9 .any (Rows.dequeEachSpec.pre6 enc Tryz.prog Tryz.f9 Rows.dequeEachRow.domain false) (Rows.dequeEachSpec.post enc Tryz.prog Tryz.f9 false true false false):=by
 refine returnsInHanded_of_change_sized (C:=Tryz.checked) own started (by kernel_rfl) Tryz.func9
  (ChangeSpec.witness6 (enc:=enc) (C:=Tryz.checked) false ⟨#[],#[.agg #[.int .u8 0,.int .u8 0,.slice none 0 0,.slice none 0 0],.slice none 0 0],[]⟩ 8 (by kernel_rfl) (by kernel_rfl) (by kernel_rfl) (by kernel_rfl)) ?_
 intro W base args ds gs before hval0 hW hcnd hsz0 _
 have hval:∀ (j:Nat) t v,[64,62][j]?=some t→args[j]?=some v→Value.okWide Tryz.prog W .any base t v:=fun j t v h1 h2=>hval0 j t v (by rw [Tryz.params9];simpa using h1) h2
 have hW':=hW
 obtain ⟨p,q,hA0,hV,rfl,hfz,hnd⟩:=hW
 have hA:DataW.TrodAll enc Tryz.prog W 0 (fun _=>true) true [64,62] args.toList ds p:=by
  have h:=hA0
  rw [Tryz.params9] at h
  exact h
 obtain ⟨rfl,rfl⟩:=trodVars_none hV
 have hsz:(DataW.weightsEach Tryz.prog [64,62] ds).all (·≤reachBytes)=true:=by
  have h:=hsz0
  rw [Tryz.params9,List.append_nil] at h
  exact h
 have hlt:=trodAll_lt _ _ _ _ hA
 obtain ⟨v0,vs0,d0,ds0,p0,q0,hargs0,rfl,rfl,h0,r0⟩:=trodAll_cons hA
 obtain ⟨v1,vs1,d1,ds1,p1,q1,hargs1,rfl,rfl,h1,r1⟩:=trodAll_cons r0
 obtain ⟨hn,rfl,rfl⟩:=trodAll_nil r1
 clear hA0 hval0 hsz0
 refine (calls_row J.tok J.fok J.mix J.ook (sup_of sup) (g:=9) hA hsz (by decide) hval rfl J.each_law).mono fun e W' ⟨he,bel⟩=>?_
 subst he
 obtain ⟨ps',hps⟩:=trodAll_below closed3.1 bel _ _ _ _ read hA hlt
 exact ⟨_,rfl,_,_,_,[],_,[],hW',trodAll_mk1 (shut_bool Tryz.underlying4 _),hps,rfl,bel.frame _,fun h=>by cases h⟩
set_option maxRecDepth 100000 in
set_option maxHeartbeats 4000000 in
theorem facts:joinedFacts Tryz.prog 9 Tryz.f9 Rows.dequeEachSpec Rows.dequeEachRow=true:=by
 unfold joinedFacts
 with_reducible refine (and_tt (and_tt (and_tt (and_tt (and_tt (and_tt (and_tt (and_tt (and_tt (and_tt (and_tt (and_tt (and_tt (and_tt (and_tt (and_tt (and_tt (and_tt (and_tt (and_tt (and_tt (and_tt (and_tt (and_tt (and_tt (and_tt (and_tt (and_tt (and_tt (and_tt (and_tt ?k1 ?k2) ?k3) ?k4) ?k5) ?k6) ?k7) ?k8) ?k9) ?k10) ?k11) ?k12) ?k13) ?k14) ?k15) ?k16) ?k17) ?k17b) ?k18) ?k19) ?k20) ?k21) ?k22) ?k23) ?k23b) ?k24) ?k24b) ?k24c) ?k25) ?k26) ?k27) ?k28)
 case k1=>as_aux_lemma=>kernel_rfl
 case k2=>exact closed3.1
 case k3=>exact closed3.2.1
 case k4=>as_aux_lemma=>kernel_rfl
 case k5=>as_aux_lemma=>kernel_rfl
 case k6=>as_aux_lemma=>kernel_rfl
 case k7=>as_aux_lemma=>kernel_rfl
 case k8=>as_aux_lemma=>kernel_rfl
 case k9=>as_aux_lemma=>kernel_rfl
 case k10=>as_aux_lemma=>kernel_rfl
 case k11=>as_aux_lemma=>kernel_rfl
 case k12=>as_aux_lemma=>kernel_rfl
 case k13=>as_aux_lemma=>kernel_rfl
 case k14=>as_aux_lemma=>kernel_rfl
 case k15=>as_aux_lemma=>kernel_rfl
 case k16=>as_aux_lemma=>kernel_rfl
 case k17=>as_aux_lemma=>kernel_rfl
 case k17b=>as_aux_lemma=>kernel_rfl
 case k18=>as_aux_lemma=>kernel_rfl
 case k19=>as_aux_lemma=>kernel_rfl
 case k20=>as_aux_lemma=>kernel_rfl
 case k21=>as_aux_lemma=>kernel_rfl
 case k22=>rw [closed3.2.2];as_aux_lemma=>kernel_rfl
 case k23=>as_aux_lemma=>kernel_rfl
 case k23b=>as_aux_lemma=>kernel_rfl
 case k24=>as_aux_lemma=>kernel_rfl
 case k24b=>as_aux_lemma=>kernel_rfl
 case k24c=>as_aux_lemma=>kernel_rfl
 case k25=>as_aux_lemma=>kernel_rfl
 case k26=>as_aux_lemma=>kernel_rfl
 case k27=>as_aux_lemma=>kernel_rfl
 case k28=>as_aux_lemma=>kernel_rfl
theorem over:Rows.dequeEachRow.holds Tryz.pinned (OpenSpec.ofChange Rows.dequeEachSpec) :=
 OpenClaim.holds_of_wide 9 Tryz.f9 rfl rfl rfl rfl rfl rfl rfl ⟨rfl,rfl,rfl,rfl,rfl⟩ rfl rfl rfl rfl rfl (by kernel_rfl) Tryz.func9 facts
  (of_decide_eq_true (by kernel_rfl)) (by unfold Func.isWrapper;first|(rw [if_pos (by decide +kernel)];kernel_rfl)|(rw [if_neg (by decide +kernel)];exact ⟨rfl,rfl⟩))
  (fun os started H enc _=>lifted os started H enc)
theorem proved:Rows.DequeEachSaid:=over
#print axioms proved
end Go.Proofs.YtegbiibfmabnbaaGreat.dequeEach
namespace Go.Proofs.YtegbiibfmabnbaaGreat
theorem dequeEach_holds:Rows.DequeEachSaid:=dequeEach.proved
end Go.Proofs.YtegbiibfmabnbaaGreat
