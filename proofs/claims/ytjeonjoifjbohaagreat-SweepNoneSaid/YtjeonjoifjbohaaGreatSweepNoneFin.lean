/- SweepNone: its statement. -/
import Derived.Test.YtjeonjoifjbohaaGreatSweepNoneP8
namespace Go.Proofs.YtjeonjoifjbohaaGreat
set_option linter.unusedSimpArgs false
set_option linter.unusedVariables false
set_option linter.unnecessarySimpa false
set_option linter.unusedSectionVars false
open Go.ChangeShapes Go.WideShapes Go.ChangeAt Go.RowKit

theorem sweepNone_readHouse : Tryz.prog.readableRec 68 = true := by kernel_rfl
theorem sweepNone_rowHouse : 68 < Tryz.prog.types.size := of_decide_eq_true (by kernel_rfl)
theorem sweepNone_readsID : Tryz.prog.readableRec 25 = true := by kernel_rfl
theorem sweepNone_rowsID : 25 < Tryz.prog.types.size := of_decide_eq_true (by kernel_rfl)
theorem sweepNone_own : ownKnob Tryz.prog.godebug = none := by kernel_rfl

set_option maxRecDepth 100000 in
theorem sweepNone_lifted (os : Os) (started : os.Started) (H : Type) (enc : TypeId × Value → H) :
    ReturnsInHanded {} Tryz.checked os 9 .any (Rows.sweepNoneSpec.pre6 enc Tryz.prog Tryz.f9 Rows.sweepNoneRow.domain false) (Rows.sweepNoneSpec.post enc Tryz.prog Tryz.f9 false true false false) := by
  refine returnsInHanded_of_change (C := Tryz.checked) sweepNone_own started (by kernel_rfl) Tryz.func9
    (ChangeSpec.witness6 (enc := enc) (C := Tryz.checked) false ⟨#[], #[.agg #[.int .i64 0, .slice none 0 0, .slice none 0 0], .slice none 0 0], []⟩ 8 (by kernel_rfl) (by kernel_rfl) (by kernel_rfl) (by kernel_rfl)) ?_
  intro W base args ds gs before hval0 hW hcnd _
  have hval : ∀ (j : Nat) t v, Tryz.f9.params[j]? = some t → args[j]? = some v → Value.okWide Tryz.prog W .any base t v := hval0
  have hW' := hW
  obtain ⟨p, q, hA0, hV, rfl, hfz, hnd⟩ := hW
  have hA : DataW.TrodAll enc Tryz.prog W 0 (fun _ => true) true Tryz.f9.params.toList args.toList ds p := hA0
  rw [Tryz.params9] at hA hval
  obtain ⟨v0, vs0, d0, ds0, p0, q0, hargs, rfl, rfl, h0, r0⟩ := trodAll_cons hA
  obtain ⟨v1, vs1, d1, ds1, p1, q1, rfl, rfl, rfl, h1, r1⟩ := trodAll_cons r0
  obtain ⟨rfl, rfl, rfl⟩ := trodAll_nil r1
  obtain rfl : args = #[v0, v1] := by cases args; simp_all
  obtain ⟨rfl, rfl⟩ := trodVars_none hV
  obtain ⟨a0, rfl, w0⟩ := open_house (hval 0 68 v0 rfl rfl) h0
  obtain ⟨a1, w1⟩ := open_ids (hval 1 25 v1 rfl rfl) h1
  clear hA0 hval0
  simp only [List.append_nil, List.nil_append] at hW'
  refine (sweepNone_any W a0 v1 a1 w0 w1).mono fun e W' ⟨he, hm⟩ => ?_
  subst he
  exact ⟨_, rfl, post_of_mod (pv := []) hW' hm (fun _ => (trodAll_cons_mk (shut_bool Tryz.underlying4 _) trodAll_mk0))
    (trodAll_cons_mk (carry sweepNone_readHouse sweepNone_rowHouse hm h0) (trodAll_cons_mk (carry sweepNone_readsID sweepNone_rowsID hm h1) trodAll_mk0)) (by rfl)⟩

theorem sweepNone_band {a b : Bool} (h : a = true) (k : b = true) : (a && b) = true := by rw [h, k]; rfl
theorem sweepNone_k0 : Rows.sweepNoneRow.wf (OpenSpec.ofChange Rows.sweepNoneSpec) = true := by kernel_rfl
theorem sweepNone_k1 : laidOutB Tryz.prog = true := by kernel_rfl
theorem sweepNone_k2 : mapsRowed Tryz.prog = true := by kernel_rfl
theorem sweepNone_k3 : Tryz.f9.params.all (Tryz.prog.readableRec ·) = true := by kernel_rfl
theorem sweepNone_k4 : namedTie Tryz.prog Rows.sweepNoneRow.named Rows.sweepNoneSpec.vars = true := by kernel_rfl
theorem sweepNone_k5 : (Rows.sweepNoneRow.stops == []) = true := by kernel_rfl
theorem sweepNone_k6 : (Tryz.prog.stops == []) = true := by kernel_rfl
theorem sweepNone_k7 : (Rows.sweepNoneRow.knobs == []) = true := by kernel_rfl
theorem sweepNone_k8 : (Tryz.prog.stopKnobs == []) = true := by kernel_rfl
theorem sweepNone_k9 : (Rows.sweepNoneRow.inPlace == Tryz.prog.inPlace 9) = true := by kernel_rfl
theorem sweepNone_k10 : (Rows.sweepNoneRow.unfollowed == Tryz.prog.unfollowed 9) = true := by kernel_rfl
theorem sweepNone_k11 : (Rows.sweepNoneRow.recurses == Tryz.prog.recurses 9) = true := by kernel_rfl
theorem sweepNone_k12 : (Rows.sweepNoneRow.named == Tryz.prog.varsNamed 9) = true := by kernel_rfl
theorem sweepNone_k13 : (Rows.sweepNoneRow.maps == (Tryz.f9.params.toList ++ Rows.sweepNoneSpec.plain.varTypes Tryz.prog).any (Tryz.prog.mapsRec ·)) = true := by kernel_rfl
theorem sweepNone_k14 : (Rows.sweepNoneRow.ifaces == (Tryz.f9.params.toList ++ Rows.sweepNoneSpec.plain.varTypes Tryz.prog).any (Tryz.prog.ifacesRec ·)) = true := by kernel_rfl
theorem sweepNone_k15 : (Rows.sweepNoneRow.mapsOut == Tryz.prog.mapsAmong Tryz.f9.resultTypes.toList) = true := by kernel_rfl
theorem sweepNone_k16 : (Rows.sweepNoneRow.loops == (Tryz.f9.params.toList ++ Rows.sweepNoneSpec.plain.varTypes Tryz.prog).any (Tryz.prog.loopsFrom ·)) = true := by kernel_rfl
theorem sweepNone_k17 : (Rows.sweepNoneRow.wideKeys == (Tryz.f9.params.toList ++ Rows.sweepNoneSpec.plain.varTypes Tryz.prog ++ Tryz.f9.resultTypes.toList).any (Tryz.prog.wideKeysFrom ·)) = true := by kernel_rfl
theorem sweepNone_k18 : Rows.sweepNoneSpec.vars.all (Tryz.prog.varReadable ·) = true := by kernel_rfl
theorem sweepNone_k19 : Tryz.f9.resultTypes.all (fun t => Tryz.prog.readableRec t && decide (t < Tryz.prog.types.size)) = true := by kernel_rfl
theorem sweepNone_k20 : (Rows.sweepNoneRow.ifacesOut == Tryz.f9.resultTypes.toList.any (Tryz.prog.ifacesRec ·)) = true := by kernel_rfl
theorem sweepNone_k21 : (Rows.sweepNoneRow.loopsOut == Tryz.f9.resultTypes.toList.any (Tryz.prog.loopsFrom ·)) = true := by kernel_rfl
theorem sweepNone_k22 : (Rows.sweepNoneRow.plainKeys == Tryz.prog.plainKeys) = true := by kernel_rfl
theorem sweepNone_k23 : Rows.sweepNoneRow.shortTexts.isNone = true := by kernel_rfl
theorem sweepNone_k24 : Tryz.prog.stopsHeard = true := by kernel_rfl
theorem sweepNone_k25 : Tryz.prog.mayEnter = true := by kernel_rfl
theorem sweepNone_k26 : (Rows.sweepNoneRow.lifted == Tryz.prog.liftsFinal) = true := by kernel_rfl
theorem sweepNone_k27 : (Tryz.prog.make == some Rows.sweepNoneRow.make) = true := by kernel_rfl
theorem sweepNone_k29 : (Rows.sweepNoneRow.pinned == Rows.sweepNoneRow.pinnedBy) = true := by kernel_rfl
theorem sweepNone_k30 : (Rows.sweepNoneRow.veiled == (Tryz.f9.params.toList ++ Rows.sweepNoneSpec.plain.varTypes Tryz.prog ++ Tryz.f9.resultTypes.toList).any (Tryz.prog.veiledRec ·)) = true := by kernel_rfl
theorem sweepNone_k31 : Rows.sweepNoneRow.veiledFits Tryz.prog Tryz.f9.params.toList (Tryz.f9.params.toList ++ Rows.sweepNoneSpec.plain.varTypes Tryz.prog ++ Tryz.f9.resultTypes.toList) = true := by kernel_rfl
theorem sweepNone_closed : joinedFacts Tryz.prog 9 Tryz.f9 Rows.sweepNoneSpec Rows.sweepNoneRow = true := by
  unfold joinedFacts
  exact sweepNone_band (sweepNone_band (sweepNone_band (sweepNone_band (sweepNone_band (sweepNone_band (sweepNone_band (sweepNone_band (sweepNone_band (sweepNone_band (sweepNone_band (sweepNone_band (sweepNone_band (sweepNone_band (sweepNone_band (sweepNone_band (sweepNone_band (sweepNone_band (sweepNone_band (sweepNone_band (sweepNone_band (sweepNone_band (sweepNone_band (sweepNone_band (sweepNone_band (sweepNone_band (sweepNone_band (sweepNone_band (sweepNone_band (sweepNone_band (sweepNone_band sweepNone_k0 sweepNone_k1) sweepNone_k2) sweepNone_k3) sweepNone_k4) sweepNone_k5) sweepNone_k6) sweepNone_k7) sweepNone_k8) sweepNone_k9) sweepNone_k10) sweepNone_k11) sweepNone_k12) sweepNone_k13) sweepNone_k14) sweepNone_k15) sweepNone_k16) sweepNone_k17) sweepNone_k18) sweepNone_k19) sweepNone_k20) sweepNone_k21) sweepNone_k22) sweepNone_k23) sweepNone_k24) sweepNone_k25) sweepNone_k26) sweepNone_k27) (by kernel_rfl)) sweepNone_k29) sweepNone_k30) sweepNone_k31
theorem sweepNone_named : Tryz.prog.funcNamed Rows.sweepNoneRow.func = some 9 := by kernel_rfl
theorem sweepNone_inst : Tryz.f9.isInstance Tryz.prog Rows.sweepNoneRow.origin Rows.sweepNoneRow.targs := of_decide_eq_true (by kernel_rfl)
theorem sweepNone_wrap : Tryz.f9.isWrapper Tryz.prog Rows.sweepNoneRow.wrapper Rows.sweepNoneRow.mainSum := by unfold Func.isWrapper; first | (rw [if_pos (by decide +kernel)]; kernel_rfl) | (rw [if_neg (by decide +kernel)]; exact ⟨rfl, rfl⟩)

theorem sweepNone_over : Rows.sweepNoneRow.holds Tryz.pinned (OpenSpec.ofChange Rows.sweepNoneSpec) :=
  OpenClaim.holds_of_wide 9 Tryz.f9 rfl rfl rfl rfl rfl rfl rfl ⟨rfl, rfl, rfl, rfl, rfl⟩ rfl rfl rfl rfl rfl sweepNone_named Tryz.func9 sweepNone_closed
    sweepNone_inst sweepNone_wrap
    (fun os started H enc _ => sweepNone_lifted os started H enc)

theorem sweepNone_proved : Rows.SweepNoneSaid :=
  sweepNone_over
#print axioms sweepNone_proved
end Go.Proofs.YtjeonjoifjbohaaGreat
