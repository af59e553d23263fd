/- SweepLess: its statement. -/
import Derived.Test.YtjeonjoifjbohaaGreatSweepLessP8
namespace Go.Proofs.YtjeonjoifjbohaaGreat
set_option linter.unusedSimpArgs false
set_option linter.unusedVariables false
set_option linter.unnecessarySimpa false
set_option linter.unusedSectionVars false
open Go.ChangeShapes Go.WideShapes Go.ChangeAt Go.RowKit

theorem sweepLess_readHouse : Tryz.prog.readableRec 68 = true := by kernel_rfl
theorem sweepLess_rowHouse : 68 < Tryz.prog.types.size := of_decide_eq_true (by kernel_rfl)
theorem sweepLess_readTable : Tryz.prog.readableRec 71 = true := by kernel_rfl
theorem sweepLess_rowTable : 71 < Tryz.prog.types.size := of_decide_eq_true (by kernel_rfl)
theorem sweepLess_readsEvent : Tryz.prog.readableRec 72 = true := by kernel_rfl
theorem sweepLess_rowsEvent : 72 < Tryz.prog.types.size := of_decide_eq_true (by kernel_rfl)
theorem sweepLess_own : ownKnob Tryz.prog.godebug = none := by kernel_rfl

set_option maxRecDepth 100000 in
theorem sweepLess_lifted (os : Os) (started : os.Started) (H : Type) (enc : TypeId × Value → H) :
    ReturnsInHanded {} Tryz.checked os 11 .any (Rows.sweepLessSpec.pre6 enc Tryz.prog Tryz.f11 Rows.sweepLessRow.domain false) (Rows.sweepLessSpec.post enc Tryz.prog Tryz.f11 false true false false) := by
  refine returnsInHanded_of_change (C := Tryz.checked) sweepLess_own started (by kernel_rfl) Tryz.func11
    (ChangeSpec.witness6 (enc := enc) (C := Tryz.checked) false ⟨#[], #[.agg #[.int .i64 0, .slice none 0 0, .slice none 0 0], .agg #[.slice none 0 0, .slice none 0 0], .slice none 0 0, .int .i64 0], []⟩ 8 (by kernel_rfl) (by kernel_rfl) (by kernel_rfl) (by kernel_rfl)) ?_
  intro W base args ds gs before hval0 hW hcnd _
  have hval : ∀ (j : Nat) t v, Tryz.f11.params[j]? = some t → args[j]? = some v → Value.okWide Tryz.prog W .any base t v := hval0
  have hW' := hW
  obtain ⟨p, q, hA0, hV, rfl, hfz, hnd⟩ := hW
  have hA : DataW.TrodAll enc Tryz.prog W 0 (fun _ => true) true Tryz.f11.params.toList args.toList ds p := hA0
  rw [Tryz.params11] at hA hval
  obtain ⟨v0, vs0, d0, ds0, p0, q0, hargs, rfl, rfl, h0, r0⟩ := trodAll_cons hA
  obtain ⟨v1, vs1, d1, ds1, p1, q1, rfl, rfl, rfl, h1, r1⟩ := trodAll_cons r0
  obtain ⟨v2, vs2, d2, ds2, p2, q2, rfl, rfl, rfl, h2, r2⟩ := trodAll_cons r1
  obtain ⟨v3, vs3, d3, ds3, p3, q3, rfl, rfl, rfl, h3, r3⟩ := trodAll_cons r2
  obtain ⟨rfl, rfl, rfl⟩ := trodAll_nil r3
  obtain rfl : args = #[v0, v1, v2, v3] := by cases args; simp_all
  obtain ⟨rfl, rfl⟩ := trodVars_none hV
  obtain ⟨a0, rfl, w0⟩ := open_house (hval 0 68 v0 rfl rfl) h0
  obtain ⟨a1, rfl, w1⟩ := open_table (hval 1 71 v1 rfl rfl) h1
  obtain ⟨a2, w2⟩ := open_events (hval 2 72 v2 rfl rfl) h2
  obtain ⟨a3, rfl, rfl, rfl, w3⟩ := open_int Tryz.underlying3 (hval 3 3 v3 rfl rfl) h3
  clear hA0 hval0
  simp only [List.append_nil, List.nil_append] at hW'
  refine (sweepLess_any W a0 a1 v2 a2 a3 w0 w1 w2 (fit_i64 w3)).mono fun e W' ⟨he, hm⟩ => ?_
  subst he
  exact ⟨_, rfl, post_of_mod (pv := []) hW' hm (fun _ => (trodAll_cons_mk (shut_bool Tryz.underlying4 _) trodAll_mk0))
    (trodAll_cons_mk (carry sweepLess_readHouse sweepLess_rowHouse hm h0) (trodAll_cons_mk (carry sweepLess_readTable sweepLess_rowTable hm h1) (trodAll_cons_mk (carry sweepLess_readsEvent sweepLess_rowsEvent hm h2) (trodAll_cons_mk (shut_int Tryz.underlying3 w3) trodAll_mk0)))) (by rfl)⟩

theorem sweepLess_band {a b : Bool} (h : a = true) (k : b = true) : (a && b) = true := by rw [h, k]; rfl
theorem sweepLess_k0 : Rows.sweepLessRow.wf (OpenSpec.ofChange Rows.sweepLessSpec) = true := by kernel_rfl
theorem sweepLess_k1 : laidOutB Tryz.prog = true := by kernel_rfl
theorem sweepLess_k2 : mapsRowed Tryz.prog = true := by kernel_rfl
theorem sweepLess_k3 : Tryz.f11.params.all (Tryz.prog.readableRec ·) = true := by kernel_rfl
theorem sweepLess_k4 : namedTie Tryz.prog Rows.sweepLessRow.named Rows.sweepLessSpec.vars = true := by kernel_rfl
theorem sweepLess_k5 : (Rows.sweepLessRow.stops == []) = true := by kernel_rfl
theorem sweepLess_k6 : (Tryz.prog.stops == []) = true := by kernel_rfl
theorem sweepLess_k7 : (Rows.sweepLessRow.knobs == []) = true := by kernel_rfl
theorem sweepLess_k8 : (Tryz.prog.stopKnobs == []) = true := by kernel_rfl
theorem sweepLess_k9 : (Rows.sweepLessRow.inPlace == Tryz.prog.inPlace 11) = true := by kernel_rfl
theorem sweepLess_k10 : (Rows.sweepLessRow.unfollowed == Tryz.prog.unfollowed 11) = true := by kernel_rfl
theorem sweepLess_k11 : (Rows.sweepLessRow.recurses == Tryz.prog.recurses 11) = true := by kernel_rfl
theorem sweepLess_k12 : (Rows.sweepLessRow.named == Tryz.prog.varsNamed 11) = true := by kernel_rfl
theorem sweepLess_k13 : (Rows.sweepLessRow.maps == (Tryz.f11.params.toList ++ Rows.sweepLessSpec.plain.varTypes Tryz.prog).any (Tryz.prog.mapsRec ·)) = true := by kernel_rfl
theorem sweepLess_k14 : (Rows.sweepLessRow.ifaces == (Tryz.f11.params.toList ++ Rows.sweepLessSpec.plain.varTypes Tryz.prog).any (Tryz.prog.ifacesRec ·)) = true := by kernel_rfl
theorem sweepLess_k15 : (Rows.sweepLessRow.mapsOut == Tryz.prog.mapsAmong Tryz.f11.resultTypes.toList) = true := by kernel_rfl
theorem sweepLess_k16 : (Rows.sweepLessRow.loops == (Tryz.f11.params.toList ++ Rows.sweepLessSpec.plain.varTypes Tryz.prog).any (Tryz.prog.loopsFrom ·)) = true := by kernel_rfl
theorem sweepLess_k17 : (Rows.sweepLessRow.wideKeys == (Tryz.f11.params.toList ++ Rows.sweepLessSpec.plain.varTypes Tryz.prog ++ Tryz.f11.resultTypes.toList).any (Tryz.prog.wideKeysFrom ·)) = true := by kernel_rfl
theorem sweepLess_k18 : Rows.sweepLessSpec.vars.all (Tryz.prog.varReadable ·) = true := by kernel_rfl
theorem sweepLess_k19 : Tryz.f11.resultTypes.all (fun t => Tryz.prog.readableRec t && decide (t < Tryz.prog.types.size)) = true := by kernel_rfl
theorem sweepLess_k20 : (Rows.sweepLessRow.ifacesOut == Tryz.f11.resultTypes.toList.any (Tryz.prog.ifacesRec ·)) = true := by kernel_rfl
theorem sweepLess_k21 : (Rows.sweepLessRow.loopsOut == Tryz.f11.resultTypes.toList.any (Tryz.prog.loopsFrom ·)) = true := by kernel_rfl
theorem sweepLess_k22 : (Rows.sweepLessRow.plainKeys == Tryz.prog.plainKeys) = true := by kernel_rfl
theorem sweepLess_k23 : Rows.sweepLessRow.shortTexts.isNone = true := by kernel_rfl
theorem sweepLess_k24 : Tryz.prog.stopsHeard = true := by kernel_rfl
theorem sweepLess_k25 : Tryz.prog.mayEnter = true := by kernel_rfl
theorem sweepLess_k26 : (Rows.sweepLessRow.lifted == Tryz.prog.liftsFinal) = true := by kernel_rfl
theorem sweepLess_k27 : (Tryz.prog.make == some Rows.sweepLessRow.make) = true := by kernel_rfl
theorem sweepLess_k29 : (Rows.sweepLessRow.pinned == Rows.sweepLessRow.pinnedBy) = true := by kernel_rfl
theorem sweepLess_k30 : (Rows.sweepLessRow.veiled == (Tryz.f11.params.toList ++ Rows.sweepLessSpec.plain.varTypes Tryz.prog ++ Tryz.f11.resultTypes.toList).any (Tryz.prog.veiledRec ·)) = true := by kernel_rfl
theorem sweepLess_k31 : Rows.sweepLessRow.veiledFits Tryz.prog Tryz.f11.params.toList (Tryz.f11.params.toList ++ Rows.sweepLessSpec.plain.varTypes Tryz.prog ++ Tryz.f11.resultTypes.toList) = true := by kernel_rfl
theorem sweepLess_closed : joinedFacts Tryz.prog 11 Tryz.f11 Rows.sweepLessSpec Rows.sweepLessRow = true := by
  unfold joinedFacts
  exact sweepLess_band (sweepLess_band (sweepLess_band (sweepLess_band (sweepLess_band (sweepLess_band (sweepLess_band (sweepLess_band (sweepLess_band (sweepLess_band (sweepLess_band (sweepLess_band (sweepLess_band (sweepLess_band (sweepLess_band (sweepLess_band (sweepLess_band (sweepLess_band (sweepLess_band (sweepLess_band (sweepLess_band (sweepLess_band (sweepLess_band (sweepLess_band (sweepLess_band (sweepLess_band (sweepLess_band (sweepLess_band (sweepLess_band (sweepLess_band (sweepLess_band sweepLess_k0 sweepLess_k1) sweepLess_k2) sweepLess_k3) sweepLess_k4) sweepLess_k5) sweepLess_k6) sweepLess_k7) sweepLess_k8) sweepLess_k9) sweepLess_k10) sweepLess_k11) sweepLess_k12) sweepLess_k13) sweepLess_k14) sweepLess_k15) sweepLess_k16) sweepLess_k17) sweepLess_k18) sweepLess_k19) sweepLess_k20) sweepLess_k21) sweepLess_k22) sweepLess_k23) sweepLess_k24) sweepLess_k25) sweepLess_k26) sweepLess_k27) (by kernel_rfl)) sweepLess_k29) sweepLess_k30) sweepLess_k31
theorem sweepLess_named : Tryz.prog.funcNamed Rows.sweepLessRow.func = some 11 := by kernel_rfl
theorem sweepLess_inst : Tryz.f11.isInstance Tryz.prog Rows.sweepLessRow.origin Rows.sweepLessRow.targs := of_decide_eq_true (by kernel_rfl)
theorem sweepLess_wrap : Tryz.f11.isWrapper Tryz.prog Rows.sweepLessRow.wrapper Rows.sweepLessRow.mainSum := by unfold Func.isWrapper; first | (rw [if_pos (by decide +kernel)]; kernel_rfl) | (rw [if_neg (by decide +kernel)]; exact ⟨rfl, rfl⟩)

theorem sweepLess_over : Rows.sweepLessRow.holds Tryz.pinned (OpenSpec.ofChange Rows.sweepLessSpec) :=
  OpenClaim.holds_of_wide 11 Tryz.f11 rfl rfl rfl rfl rfl rfl rfl ⟨rfl, rfl, rfl, rfl, rfl⟩ rfl rfl rfl rfl rfl sweepLess_named Tryz.func11 sweepLess_closed
    sweepLess_inst sweepLess_wrap
    (fun os started H enc _ => sweepLess_lifted os started H enc)

theorem sweepLess_proved : Rows.SweepLessSaid :=
  sweepLess_over
#print axioms sweepLess_proved
end Go.Proofs.YtjeonjoifjbohaaGreat
