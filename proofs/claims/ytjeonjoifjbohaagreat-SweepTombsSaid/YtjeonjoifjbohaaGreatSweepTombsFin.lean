/- SweepTombs: its statement. -/
import Derived.Test.YtjeonjoifjbohaaGreatSweepTombsP8
namespace Go.Proofs.YtjeonjoifjbohaaGreat
set_option linter.unusedSimpArgs false
set_option linter.unusedVariables false
set_option linter.unnecessarySimpa false
set_option linter.unusedSectionVars false
open Go.ChangeShapes Go.WideShapes Go.ChangeAt Go.RowKit

theorem sweepTombs_readsEvent : Tryz.prog.readableRec 72 = true := by kernel_rfl
theorem sweepTombs_rowsEvent : 72 < Tryz.prog.types.size := of_decide_eq_true (by kernel_rfl)
theorem sweepTombs_readsInt : Tryz.prog.readableRec 64 = true := by kernel_rfl
theorem sweepTombs_rowsInt : 64 < Tryz.prog.types.size := of_decide_eq_true (by kernel_rfl)
theorem sweepTombs_own : ownKnob Tryz.prog.godebug = none := by kernel_rfl

set_option maxRecDepth 100000 in
theorem sweepTombs_lifted (os : Os) (started : os.Started) (H : Type) (enc : TypeId × Value → H) :
    ReturnsInHanded {} Tryz.checked os 12 .any (Rows.sweepTombsSpec.pre6 enc Tryz.prog Tryz.f12 Rows.sweepTombsRow.domain false) (Rows.sweepTombsSpec.post enc Tryz.prog Tryz.f12 false true false false) := by
  refine returnsInHanded_of_change (C := Tryz.checked) sweepTombs_own started (by kernel_rfl) Tryz.func12
    (ChangeSpec.witness6 (enc := enc) (C := Tryz.checked) false ⟨#[], #[.slice none 0 0, .slice none 0 0, .slice none 0 0], []⟩ 8 (by kernel_rfl) (by kernel_rfl) (by kernel_rfl) (by kernel_rfl)) ?_
  intro W base args ds gs before hval0 hW hcnd _
  have hval : ∀ (j : Nat) t v, Tryz.f12.params[j]? = some t → args[j]? = some v → Value.okWide Tryz.prog W .any base t v := hval0
  have hW' := hW
  obtain ⟨p, q, hA0, hV, rfl, hfz, hnd⟩ := hW
  have hA : DataW.TrodAll enc Tryz.prog W 0 (fun _ => true) true Tryz.f12.params.toList args.toList ds p := hA0
  rw [Tryz.params12] at hA hval
  obtain ⟨v0, vs0, d0, ds0, p0, q0, hargs, rfl, rfl, h0, r0⟩ := trodAll_cons hA
  obtain ⟨v1, vs1, d1, ds1, p1, q1, rfl, rfl, rfl, h1, r1⟩ := trodAll_cons r0
  obtain ⟨v2, vs2, d2, ds2, p2, q2, rfl, rfl, rfl, h2, r2⟩ := trodAll_cons r1
  obtain ⟨rfl, rfl, rfl⟩ := trodAll_nil r2
  obtain rfl : args = #[v0, v1, v2] := by cases args; simp_all
  obtain ⟨rfl, rfl⟩ := trodVars_none hV
  obtain ⟨a0, w0⟩ := open_events (hval 0 72 v0 rfl rfl) h0
  obtain ⟨a1, w1⟩ := open_nums (hval 1 64 v1 rfl rfl) h1
  obtain ⟨a2, w2⟩ := open_nums (hval 2 64 v2 rfl rfl) h2
  clear hA0 hval0
  simp only [List.append_nil, List.nil_append] at hW'
  refine (sweepTombs_any W v0 a0 v1 a1 v2 a2 w0 w1 w2).mono fun e W' ⟨he, hm⟩ => ?_
  subst he
  exact ⟨_, rfl, post_of_mod (pv := []) hW' hm (fun _ => (trodAll_cons_mk (shut_bool Tryz.underlying4 _) trodAll_mk0))
    (trodAll_cons_mk (carry sweepTombs_readsEvent sweepTombs_rowsEvent hm h0) (trodAll_cons_mk (carry sweepTombs_readsInt sweepTombs_rowsInt hm h1) (trodAll_cons_mk (carry sweepTombs_readsInt sweepTombs_rowsInt hm h2) trodAll_mk0))) (by rfl)⟩

theorem sweepTombs_band {a b : Bool} (h : a = true) (k : b = true) : (a && b) = true := by rw [h, k]; rfl
theorem sweepTombs_k0 : Rows.sweepTombsRow.wf (OpenSpec.ofChange Rows.sweepTombsSpec) = true := by kernel_rfl
theorem sweepTombs_k1 : laidOutB Tryz.prog = true := by kernel_rfl
theorem sweepTombs_k2 : mapsRowed Tryz.prog = true := by kernel_rfl
theorem sweepTombs_k3 : Tryz.f12.params.all (Tryz.prog.readableRec ·) = true := by kernel_rfl
theorem sweepTombs_k4 : namedTie Tryz.prog Rows.sweepTombsRow.named Rows.sweepTombsSpec.vars = true := by kernel_rfl
theorem sweepTombs_k5 : (Rows.sweepTombsRow.stops == []) = true := by kernel_rfl
theorem sweepTombs_k6 : (Tryz.prog.stops == []) = true := by kernel_rfl
theorem sweepTombs_k7 : (Rows.sweepTombsRow.knobs == []) = true := by kernel_rfl
theorem sweepTombs_k8 : (Tryz.prog.stopKnobs == []) = true := by kernel_rfl
theorem sweepTombs_k9 : (Rows.sweepTombsRow.inPlace == Tryz.prog.inPlace 12) = true := by kernel_rfl
theorem sweepTombs_k10 : (Rows.sweepTombsRow.unfollowed == Tryz.prog.unfollowed 12) = true := by kernel_rfl
theorem sweepTombs_k11 : (Rows.sweepTombsRow.recurses == Tryz.prog.recurses 12) = true := by kernel_rfl
theorem sweepTombs_k12 : (Rows.sweepTombsRow.named == Tryz.prog.varsNamed 12) = true := by kernel_rfl
theorem sweepTombs_k13 : (Rows.sweepTombsRow.maps == (Tryz.f12.params.toList ++ Rows.sweepTombsSpec.plain.varTypes Tryz.prog).any (Tryz.prog.mapsRec ·)) = true := by kernel_rfl
theorem sweepTombs_k14 : (Rows.sweepTombsRow.ifaces == (Tryz.f12.params.toList ++ Rows.sweepTombsSpec.plain.varTypes Tryz.prog).any (Tryz.prog.ifacesRec ·)) = true := by kernel_rfl
theorem sweepTombs_k15 : (Rows.sweepTombsRow.mapsOut == Tryz.prog.mapsAmong Tryz.f12.resultTypes.toList) = true := by kernel_rfl
theorem sweepTombs_k16 : (Rows.sweepTombsRow.loops == (Tryz.f12.params.toList ++ Rows.sweepTombsSpec.plain.varTypes Tryz.prog).any (Tryz.prog.loopsFrom ·)) = true := by kernel_rfl
theorem sweepTombs_k17 : (Rows.sweepTombsRow.wideKeys == (Tryz.f12.params.toList ++ Rows.sweepTombsSpec.plain.varTypes Tryz.prog ++ Tryz.f12.resultTypes.toList).any (Tryz.prog.wideKeysFrom ·)) = true := by kernel_rfl
theorem sweepTombs_k18 : Rows.sweepTombsSpec.vars.all (Tryz.prog.varReadable ·) = true := by kernel_rfl
theorem sweepTombs_k19 : Tryz.f12.resultTypes.all (fun t => Tryz.prog.readableRec t && decide (t < Tryz.prog.types.size)) = true := by kernel_rfl
theorem sweepTombs_k20 : (Rows.sweepTombsRow.ifacesOut == Tryz.f12.resultTypes.toList.any (Tryz.prog.ifacesRec ·)) = true := by kernel_rfl
theorem sweepTombs_k21 : (Rows.sweepTombsRow.loopsOut == Tryz.f12.resultTypes.toList.any (Tryz.prog.loopsFrom ·)) = true := by kernel_rfl
theorem sweepTombs_k22 : (Rows.sweepTombsRow.plainKeys == Tryz.prog.plainKeys) = true := by kernel_rfl
theorem sweepTombs_k23 : Rows.sweepTombsRow.shortTexts.isNone = true := by kernel_rfl
theorem sweepTombs_k24 : Tryz.prog.stopsHeard = true := by kernel_rfl
theorem sweepTombs_k25 : Tryz.prog.mayEnter = true := by kernel_rfl
theorem sweepTombs_k26 : (Rows.sweepTombsRow.lifted == Tryz.prog.liftsFinal) = true := by kernel_rfl
theorem sweepTombs_k27 : (Tryz.prog.make == some Rows.sweepTombsRow.make) = true := by kernel_rfl
theorem sweepTombs_k29 : (Rows.sweepTombsRow.pinned == Rows.sweepTombsRow.pinnedBy) = true := by kernel_rfl
theorem sweepTombs_k30 : (Rows.sweepTombsRow.veiled == (Tryz.f12.params.toList ++ Rows.sweepTombsSpec.plain.varTypes Tryz.prog ++ Tryz.f12.resultTypes.toList).any (Tryz.prog.veiledRec ·)) = true := by kernel_rfl
theorem sweepTombs_k31 : Rows.sweepTombsRow.veiledFits Tryz.prog Tryz.f12.params.toList (Tryz.f12.params.toList ++ Rows.sweepTombsSpec.plain.varTypes Tryz.prog ++ Tryz.f12.resultTypes.toList) = true := by kernel_rfl
theorem sweepTombs_closed : joinedFacts Tryz.prog 12 Tryz.f12 Rows.sweepTombsSpec Rows.sweepTombsRow = true := by
  unfold joinedFacts
  exact sweepTombs_band (sweepTombs_band (sweepTombs_band (sweepTombs_band (sweepTombs_band (sweepTombs_band (sweepTombs_band (sweepTombs_band (sweepTombs_band (sweepTombs_band (sweepTombs_band (sweepTombs_band (sweepTombs_band (sweepTombs_band (sweepTombs_band (sweepTombs_band (sweepTombs_band (sweepTombs_band (sweepTombs_band (sweepTombs_band (sweepTombs_band (sweepTombs_band (sweepTombs_band (sweepTombs_band (sweepTombs_band (sweepTombs_band (sweepTombs_band (sweepTombs_band (sweepTombs_band (sweepTombs_band (sweepTombs_band sweepTombs_k0 sweepTombs_k1) sweepTombs_k2) sweepTombs_k3) sweepTombs_k4) sweepTombs_k5) sweepTombs_k6) sweepTombs_k7) sweepTombs_k8) sweepTombs_k9) sweepTombs_k10) sweepTombs_k11) sweepTombs_k12) sweepTombs_k13) sweepTombs_k14) sweepTombs_k15) sweepTombs_k16) sweepTombs_k17) sweepTombs_k18) sweepTombs_k19) sweepTombs_k20) sweepTombs_k21) sweepTombs_k22) sweepTombs_k23) sweepTombs_k24) sweepTombs_k25) sweepTombs_k26) sweepTombs_k27) (by kernel_rfl)) sweepTombs_k29) sweepTombs_k30) sweepTombs_k31
theorem sweepTombs_named : Tryz.prog.funcNamed Rows.sweepTombsRow.func = some 12 := by kernel_rfl
theorem sweepTombs_inst : Tryz.f12.isInstance Tryz.prog Rows.sweepTombsRow.origin Rows.sweepTombsRow.targs := of_decide_eq_true (by kernel_rfl)
theorem sweepTombs_wrap : Tryz.f12.isWrapper Tryz.prog Rows.sweepTombsRow.wrapper Rows.sweepTombsRow.mainSum := by unfold Func.isWrapper; first | (rw [if_pos (by decide +kernel)]; kernel_rfl) | (rw [if_neg (by decide +kernel)]; exact ⟨rfl, rfl⟩)

theorem sweepTombs_over : Rows.sweepTombsRow.holds Tryz.pinned (OpenSpec.ofChange Rows.sweepTombsSpec) :=
  OpenClaim.holds_of_wide 12 Tryz.f12 rfl rfl rfl rfl rfl rfl rfl ⟨rfl, rfl, rfl, rfl, rfl⟩ rfl rfl rfl rfl rfl sweepTombs_named Tryz.func12 sweepTombs_closed
    sweepTombs_inst sweepTombs_wrap
    (fun os started H enc _ => sweepTombs_lifted os started H enc)

theorem sweepTombs_proved : Rows.SweepTombsSaid :=
  sweepTombs_over
#print axioms sweepTombs_proved
end Go.Proofs.YtjeonjoifjbohaaGreat
