/- The wrapper of TreeRoots. -/
import Derived.Test.YtchkikmmcmjcgaaGreatTreeRootsP8
namespace Go.Proofs.YtchkikmmcmjcgaaGreat
set_option linter.unusedSimpArgs false
set_option linter.unusedVariables false
set_option linter.unnecessarySimpa false
set_option linter.unusedSectionVars false
open Go.ChangeShapes Go.WideShapes Go.ChangeAt Go.RowKit
open Go.ChangeMaps (setBlock shut_map_nil open_string shut_string keptBut_setBlock frozen?_setBlock heap_setBlock_same)

theorem treeRoots_readsEntry : Tryz.prog.readableRec 22 = true := by kernel_rfl
theorem treeRoots_rowsEntry : 22 < Tryz.prog.types.size := of_decide_eq_true (by kernel_rfl)
theorem treeRoots_readID : Tryz.prog.readableRec 24 = true := by kernel_rfl
theorem treeRoots_rowID : 24 < Tryz.prog.types.size := of_decide_eq_true (by kernel_rfl)
theorem treeRoots_readEntry : Tryz.prog.readableRec 27 = true := by kernel_rfl
theorem treeRoots_rowEntry : 27 < Tryz.prog.types.size := of_decide_eq_true (by kernel_rfl)
theorem treeRoots_readsSide : Tryz.prog.readableRec 28 = true := by kernel_rfl
theorem treeRoots_rowsSide : 28 < Tryz.prog.types.size := of_decide_eq_true (by kernel_rfl)
theorem treeRoots_own : ownKnob Tryz.prog.godebug = none := by kernel_rfl

set_option maxRecDepth 100000 in
theorem treeRoots_lifted (os : Os) (started : os.Started) (H : Type) (enc : TypeId × Value → H) :
    ReturnsInHanded {} Tryz.checked os 3 .any (Rows.treeRootsSpec.pre6 enc Tryz.prog Tryz.f3 Rows.treeRootsRow.domain false) (Rows.treeRootsSpec.post enc Tryz.prog Tryz.f3 false true false false) := by
  refine returnsInHanded_of_change (C := Tryz.checked) treeRoots_own started (by kernel_rfl) Tryz.func3
    (ChangeSpec.witness6 (enc := enc) (C := Tryz.checked) false ⟨#[], #[.slice none 0 0, .string ⟨#[]⟩, (.agg (idCells (List.replicate 32 0))), (.agg #[.string ⟨#[]⟩,.slice none 0 0]), .slice none 0 0], []⟩ 8 (by kernel_rfl) (by kernel_rfl) (by kernel_rfl) (by kernel_rfl)) ?_
  intro W base args ds gs before hval0 hW hcnd _
  have hval : ∀ (j : Nat) t v, Tryz.f3.params[j]? = some t → args[j]? = some v → Value.okWide Tryz.prog W .any base t v := hval0
  have hW' := hW
  obtain ⟨p, q, hA0, hV, rfl, hfz, hnd⟩ := hW
  have hA : DataW.TrodAll enc Tryz.prog W 0 (fun _ => true) true Tryz.f3.params.toList args.toList ds p := hA0
  rw [Tryz.params3] at hA hval
  obtain ⟨v0, vs0, d0, ds0, p0, q0, hargs, rfl, rfl, h0, r0⟩ := trodAll_cons hA
  obtain ⟨v1, vs1, d1, ds1, p1, q1, rfl, rfl, rfl, h1, r1⟩ := trodAll_cons r0
  obtain ⟨v2, vs2, d2, ds2, p2, q2, rfl, rfl, rfl, h2, r2⟩ := trodAll_cons r1
  obtain ⟨v3, vs3, d3, ds3, p3, q3, rfl, rfl, rfl, h3, r3⟩ := trodAll_cons r2
  obtain ⟨v4, vs4, d4, ds4, p4, q4, rfl, rfl, rfl, h4, r4⟩ := trodAll_cons r3
  obtain ⟨rfl, rfl, rfl⟩ := trodAll_nil r4
  obtain rfl : args = #[v0, v1, v2, v3, v4] := by cases args; simp_all
  obtain ⟨rfl, rfl⟩ := trodVars_none hV
  obtain ⟨a0, w0⟩ := open_entries (hval 0 22 v0 rfl rfl) h0
  obtain ⟨a1, rfl, rfl, rfl, w1⟩ := open_string Tryz.underlying9 (hval 1 9 v1 rfl rfl) h1
  obtain ⟨a2, rfl, w2⟩ := open_id (hval 2 24 v2 rfl rfl) h2
  obtain ⟨c3, a3, rfl, w3⟩ := open_entry (hval 3 27 v3 rfl rfl) h3
  obtain ⟨a4, w4⟩ := open_sides (hval 4 28 v4 rfl rfl) h4
  clear hA0 hval0
  simp only [List.append_nil, List.nil_append] at hW'
  refine (treeRoots_any W v0 a0 a1 a2 c3 a3 v4 a4 w0 w2 w3 w4).mono fun e W' ⟨he, hm⟩ => ?_
  subst he
  exact ⟨_, rfl, post_of_mod (pv := []) hW' hm (fun _ => (trodAll_cons_mk (shut_bool Tryz.underlying4 _) trodAll_mk0))
    (trodAll_cons_mk (carry treeRoots_readsEntry treeRoots_rowsEntry hm h0) (trodAll_cons_mk (shut_string Tryz.underlying9 w1) (trodAll_cons_mk (carry treeRoots_readID treeRoots_rowID hm h2) (trodAll_cons_mk (carry treeRoots_readEntry treeRoots_rowEntry hm h3) (trodAll_cons_mk (carry treeRoots_readsSide treeRoots_rowsSide hm h4) trodAll_mk0))))) (by rfl)⟩

theorem treeRoots_over : Rows.treeRootsRow.holds Tryz.pinned (OpenSpec.ofChange Rows.treeRootsSpec) :=
  OpenClaim.holds_of_wide 3 Tryz.f3 rfl rfl rfl rfl rfl rfl rfl ⟨rfl, rfl, rfl, rfl, rfl⟩ rfl rfl rfl rfl rfl (by kernel_rfl) Tryz.func3 (by kernel_rfl)
    (of_decide_eq_true (by kernel_rfl)) (by unfold Func.isWrapper; first | (rw [if_pos (by decide +kernel)]; kernel_rfl) | (rw [if_neg (by decide +kernel)]; exact ⟨rfl, rfl⟩))
    (fun os started H enc _ => treeRoots_lifted os started H enc)

theorem treeRoots_proved : Rows.TreeRootsSaid :=
  treeRoots_over
#print axioms treeRoots_proved
end Go.Proofs.YtchkikmmcmjcgaaGreat
