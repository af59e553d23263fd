/- SweepKnown: its statement. -/
import Derived.WalkKit
import Derived.ProofKit
import Derived.OpenShut
import Derived.Test.YtjeonjoifjbohaaGreatSweepKnownP8
namespace Go.Proofs.YtjeonjoifjbohaaGreat
set_option linter.unusedSimpArgs false
set_option linter.unusedVariables false
set_option linter.unnecessarySimpa false
set_option linter.unusedSectionVars false
open Go.ChangeShapes Go.WideShapes Go.ChangeAt Go.RowKit

theorem sweepKnown_own : ownKnob Tryz.prog.godebug = none := by kernel_rfl

set_option maxRecDepth 100000 in
theorem sweepKnown_lifted (os : Os) (started : os.Started) (H : Type) (enc : TypeId × Value → H) :
    ReturnsInHanded {} Tryz.checked os 10 .any (Rows.sweepKnownSpec.pre6 enc Tryz.prog Tryz.f10 Rows.sweepKnownRow.domain false) (Rows.sweepKnownSpec.post enc Tryz.prog Tryz.f10 false true false false) := by
  refine returnsInHanded_of_change (C := Tryz.checked) sweepKnown_own started (by kernel_rfl) Tryz.func10
    (ChangeSpec.witness6 (enc := enc) (C := Tryz.checked) false ⟨#[], #[], []⟩ 8 (by kernel_rfl) (by kernel_rfl) (by kernel_rfl) (by kernel_rfl)) ?_
  intro W base args ds gs before hval0 hW hcnd _
  have hval : ∀ (j : Nat) t v, Tryz.f10.params[j]? = some t → args[j]? = some v → Value.okWide Tryz.prog W .any base t v := hval0
  have hW' := hW
  obtain ⟨p, q, hA0, hV, rfl, hfz, hnd⟩ := hW
  have hA : DataW.TrodAll enc Tryz.prog W 0 (fun _ => true) true Tryz.f10.params.toList args.toList ds p := hA0
  rw [Tryz.params10] at hA hval
  obtain ⟨rfl, rfl, rfl⟩ := trodAll_none hA
  obtain ⟨rfl, rfl⟩ := trodVars_none hV
  clear hA0 hval0
  simp only [List.append_nil] at hW'
  refine (sweepKnown_any W ).mono fun e W' ⟨he, hm⟩ => ?_
  subst he
  exact ⟨_, rfl, post_of_mod (pa := []) (pv := []) hW' hm (fun _ => (trodAll_cons_mk (shut_bool Tryz.underlying4 _) trodAll_mk0)) (by rfl) (by rfl)⟩

theorem sweepKnown_band {a b : Bool} (h : a = true) (k : b = true) : (a && b) = true := by rw [h, k]; rfl
theorem sweepKnown_k0 : Rows.sweepKnownRow.wf (OpenSpec.ofChange Rows.sweepKnownSpec) = true := by kernel_rfl
theorem sweepKnown_k1 : laidOutB Tryz.prog = true := by kernel_rfl
theorem sweepKnown_k2 : mapsRowed Tryz.prog = true := by kernel_rfl
theorem sweepKnown_k3 : Tryz.f10.params.all (Tryz.prog.readableRec ·) = true := by kernel_rfl
theorem sweepKnown_k4 : namedTie Tryz.prog Rows.sweepKnownRow.named Rows.sweepKnownSpec.vars = true := by kernel_rfl
theorem sweepKnown_k5 : (Rows.sweepKnownRow.stops == []) = true := by kernel_rfl
theorem sweepKnown_k6 : (Tryz.prog.stops == []) = true := by kernel_rfl
theorem sweepKnown_k7 : (Rows.sweepKnownRow.knobs == []) = true := by kernel_rfl
theorem sweepKnown_k8 : (Tryz.prog.stopKnobs == []) = true := by kernel_rfl
theorem sweepKnown_k9 : (Rows.sweepKnownRow.inPlace == Tryz.prog.inPlace 10) = true := by kernel_rfl
theorem sweepKnown_k10 : (Rows.sweepKnownRow.unfollowed == Tryz.prog.unfollowed 10) = true := by kernel_rfl
theorem sweepKnown_k11 : (Rows.sweepKnownRow.recurses == Tryz.prog.recurses 10) = true := by kernel_rfl
theorem sweepKnown_k12 : (Rows.sweepKnownRow.named == Tryz.prog.varsNamed 10) = true := by kernel_rfl
theorem sweepKnown_k13 : (Rows.sweepKnownRow.maps == (Tryz.f10.params.toList ++ Rows.sweepKnownSpec.plain.varTypes Tryz.prog).any (Tryz.prog.mapsRec ·)) = true := by kernel_rfl
theorem sweepKnown_k14 : (Rows.sweepKnownRow.ifaces == (Tryz.f10.params.toList ++ Rows.sweepKnownSpec.plain.varTypes Tryz.prog).any (Tryz.prog.ifacesRec ·)) = true := by kernel_rfl
theorem sweepKnown_k15 : (Rows.sweepKnownRow.mapsOut == Tryz.prog.mapsAmong Tryz.f10.resultTypes.toList) = true := by kernel_rfl
theorem sweepKnown_k16 : (Rows.sweepKnownRow.loops == (Tryz.f10.params.toList ++ Rows.sweepKnownSpec.plain.varTypes Tryz.prog).any (Tryz.prog.loopsFrom ·)) = true := by kernel_rfl
theorem sweepKnown_k17 : (Rows.sweepKnownRow.wideKeys == (Tryz.f10.params.toList ++ Rows.sweepKnownSpec.plain.varTypes Tryz.prog ++ Tryz.f10.resultTypes.toList).any (Tryz.prog.wideKeysFrom ·)) = true := by kernel_rfl
theorem sweepKnown_k18 : Rows.sweepKnownSpec.vars.all (Tryz.prog.varReadable ·) = true := by kernel_rfl
theorem sweepKnown_k19 : Tryz.f10.resultTypes.all (fun t => Tryz.prog.readableRec t && decide (t < Tryz.prog.types.size)) = true := by kernel_rfl
theorem sweepKnown_k20 : (Rows.sweepKnownRow.ifacesOut == Tryz.f10.resultTypes.toList.any (Tryz.prog.ifacesRec ·)) = true := by kernel_rfl
theorem sweepKnown_k21 : (Rows.sweepKnownRow.loopsOut == Tryz.f10.resultTypes.toList.any (Tryz.prog.loopsFrom ·)) = true := by kernel_rfl
theorem sweepKnown_k22 : (Rows.sweepKnownRow.plainKeys == Tryz.prog.plainKeys) = true := by kernel_rfl
theorem sweepKnown_k23 : Rows.sweepKnownRow.shortTexts.isNone = true := by kernel_rfl
theorem sweepKnown_k24 : Tryz.prog.stopsHeard = true := by kernel_rfl
theorem sweepKnown_k25 : Tryz.prog.mayEnter = true := by kernel_rfl
theorem sweepKnown_k26 : (Rows.sweepKnownRow.lifted == Tryz.prog.liftsFinal) = true := by kernel_rfl
theorem sweepKnown_k27 : (Tryz.prog.make == some Rows.sweepKnownRow.make) = true := by kernel_rfl
theorem sweepKnown_k29 : (Rows.sweepKnownRow.pinned == Rows.sweepKnownRow.pinnedBy) = true := by kernel_rfl
theorem sweepKnown_k30 : (Rows.sweepKnownRow.veiled == (Tryz.f10.params.toList ++ Rows.sweepKnownSpec.plain.varTypes Tryz.prog ++ Tryz.f10.resultTypes.toList).any (Tryz.prog.veiledRec ·)) = true := by kernel_rfl
theorem sweepKnown_k31 : Rows.sweepKnownRow.veiledFits Tryz.prog Tryz.f10.params.toList (Tryz.f10.params.toList ++ Rows.sweepKnownSpec.plain.varTypes Tryz.prog ++ Tryz.f10.resultTypes.toList) = true := by kernel_rfl
theorem sweepKnown_closed : joinedFacts Tryz.prog 10 Tryz.f10 Rows.sweepKnownSpec Rows.sweepKnownRow = true := by
  unfold joinedFacts
  exact sweepKnown_band (sweepKnown_band (sweepKnown_band (sweepKnown_band (sweepKnown_band (sweepKnown_band (sweepKnown_band (sweepKnown_band (sweepKnown_band (sweepKnown_band (sweepKnown_band (sweepKnown_band (sweepKnown_band (sweepKnown_band (sweepKnown_band (sweepKnown_band (sweepKnown_band (sweepKnown_band (sweepKnown_band (sweepKnown_band (sweepKnown_band (sweepKnown_band (sweepKnown_band (sweepKnown_band (sweepKnown_band (sweepKnown_band (sweepKnown_band (sweepKnown_band (sweepKnown_band (sweepKnown_band (sweepKnown_band sweepKnown_k0 sweepKnown_k1) sweepKnown_k2) sweepKnown_k3) sweepKnown_k4) sweepKnown_k5) sweepKnown_k6) sweepKnown_k7) sweepKnown_k8) sweepKnown_k9) sweepKnown_k10) sweepKnown_k11) sweepKnown_k12) sweepKnown_k13) sweepKnown_k14) sweepKnown_k15) sweepKnown_k16) sweepKnown_k17) sweepKnown_k18) sweepKnown_k19) sweepKnown_k20) sweepKnown_k21) sweepKnown_k22) sweepKnown_k23) sweepKnown_k24) sweepKnown_k25) sweepKnown_k26) sweepKnown_k27) (by kernel_rfl)) sweepKnown_k29) sweepKnown_k30) sweepKnown_k31
theorem sweepKnown_named : Tryz.prog.funcNamed Rows.sweepKnownRow.func = some 10 := by kernel_rfl
theorem sweepKnown_inst : Tryz.f10.isInstance Tryz.prog Rows.sweepKnownRow.origin Rows.sweepKnownRow.targs := of_decide_eq_true (by kernel_rfl)
theorem sweepKnown_wrap : Tryz.f10.isWrapper Tryz.prog Rows.sweepKnownRow.wrapper Rows.sweepKnownRow.mainSum := by unfold Func.isWrapper; first | (rw [if_pos (by decide +kernel)]; kernel_rfl) | (rw [if_neg (by decide +kernel)]; exact ⟨rfl, rfl⟩)

theorem sweepKnown_over : Rows.sweepKnownRow.holds Tryz.pinned (OpenSpec.ofChange Rows.sweepKnownSpec) :=
  OpenClaim.holds_of_wide 10 Tryz.f10 rfl rfl rfl rfl rfl rfl rfl ⟨rfl, rfl, rfl, rfl, rfl⟩ rfl rfl rfl rfl rfl sweepKnown_named Tryz.func10 sweepKnown_closed
    sweepKnown_inst sweepKnown_wrap
    (fun os started H enc _ => sweepKnown_lifted os started H enc)

theorem sweepKnown_proved : Rows.SweepKnownSaid :=
  sweepKnown_over
#print axioms sweepKnown_proved
end Go.Proofs.YtjeonjoifjbohaaGreat
