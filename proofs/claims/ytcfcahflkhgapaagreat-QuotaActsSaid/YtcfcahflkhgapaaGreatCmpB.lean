/- Comparing the links' keys. -/
import Derived.Test.YtcfcahflkhgapaaGreatCmpA
import Derived.Great.BuildSlice
namespace Go.Proofs.YtcfcahflkhgapaaGreat
set_option linter.unusedSimpArgs false
set_option linter.unusedVariables false
set_option linter.unnecessarySimpa false
set_option linter.unusedSectionVars false
open Go.RowKit

theorem keyCells_at1 {p : Key} (j : Nat) (hj : j < (idCells p.2).size) : (keyCells p)[1 + j]? = (idCells p.2)[j]? := by
  simp only [keyCells]
  rw [Array.getElem?_append_right (by simp)]
  simp
theorem keyAt0 {w : World} {b : Nat} {p : Key} (h : w.heap[b]? = some (.cells (keyCells p) 67 (0, 0))) : w.cell? ⟨b, 0, none⟩ = some (.string p.1) := by
  have := (CellsAt.whole h).cell (j := 0) (v := .string p.1) (by simp only [keyCells]; rw [Array.getElem?_append_left (by simp)]; rfl)
  simpa using this
theorem keyAt1 {w : World} {b : Nat} {p : Key} (h : w.heap[b]? = some (.cells (keyCells p) 67 (0, 0))) : CellsAt w b 1 (idCells p.2) := CellsAt.of_obj h (fun j hj => keyCells_at1 j hj)

theorem fill_ints (m n : Int) : Instr.fill (fun i => some (i * 1, 1)) (Array.map (fun x => (Value.int .i64 0).cells[x % (Value.int .i64 0).cells.size]!) (Array.range (2 * 1))) [(0, .int .i64 m), (1, .int .i64 n)] = some #[.int .i64 m, .int .i64 n] := by
  have h : (Array.map (fun x => (Value.int .i64 0).cells[x % (Value.int .i64 0).cells.size]!) (Array.range (2 * 1))) = #[.int .i64 0, .int .i64 0] := by kernel_rfl
  rw [h]
  have cx : ∀ k : Int, (Value.int .i64 k).cells = #[.int .i64 k] := fun _ => rfl
  rw [fill_cons (off := 0) (size := 1) rfl (by simp [cx]) (by simp), fill_cons (off := 1) (size := 1) rfl (by simp [cx]) (by simp [putRow, cx]), fill_nil]
  simp [putRow, cx]
theorem wp_two {o : Oper} {act : Act} {w : World} {K : Act → World → Prop} {Q : Exit → Act → World → Prop} (x y : Operand) (m n : Int) (ho : o.op = .buildSlice 110 2 #[(0, x), (1, y)]) (hx : act.eval x = .int .i64 m) (hy : act.eval y = .int .i64 n)
    (h : ∀ w', w'.heap[w.heap.size]? = some (.cells #[.int .i64 m, .int .i64 n] 3 (0, 0)) → Grown w w' → w.heap.size < w'.heap.size → K (act.put o.dst (.slice (some ⟨w.heap.size, 0, none⟩) 2 2)) w') : o.wp Tryz.prog act w K Q := by
  obtain ⟨i, hi, hz⟩ : ∃ i, Tryz.prog.info? 3 = some i ∧ i.zero = some (.int .i64 0) ∧ i.size = 1 := by
    have h : (Tryz.prog.info? 3).map (fun i => (i.zero, i.size)) = some (some (.int .i64 0), 1) := by kernel_rfl
    cases hi : Tryz.prog.info? 3 with
    | none => simp [hi] at h
    | some i => simp [hi] at h; exact ⟨i, rfl, h⟩
  refine wp_buildSlice 110 3 2 _ ho #[.int .i64 m, .int .i64 n] i (.int .i64 0) Tryz.underlying110 hi hz.1 (by rw [hz.2]; omega) (by rw [hz.2]; omega) ?_ ?_
  · simp only [hz.2]
    have e : (Array.map (fun (x : Nat × Operand) => (x.1, act.eval x.2)) #[(0, x), (1, y)]) = #[(0, .int .i64 m), (1, .int .i64 n)] := by simp only [List.map_toArray, List.map_cons, List.map_nil, hx, hy]
    have e' : (Array.map (fun (ix : Nat × Operand) => match ix with | (i, x) => (i, act.eval x)) #[(0, x), (1, y)]) = #[(0, .int .i64 m), (1, .int .i64 n)] := e
    rw [e']
    exact fill_ints m n
  · exact h _ (heap_alloc_new _ _) ((Grown.refl _).alloc _) (by simp)

set_option maxRecDepth 10000 in
set_option maxHeartbeats 1000000 in
theorem idsF_any (p q : Key) (hp : KeyOk p) (hq : KeyOk q) (w : World) : Calls Tryz.prog 51 #[.agg (keyCells p), .agg (keyCells q)] w (RetG (.int .i64 (cmpK p q)) w) := by
  go_enter Tryz.func51, Tryz.ntmps51
  go_upto_region 0 with (fail)
  refine wp_region_seq [1, 1, 3] (fun _ => True) (by rfl) (by rfl) trivial ?_
  simp only [List.zip_cons_cons, List.zip_nil_right]
  refine wpPi_do rfl (fun K hK => ?_)
  refine wp_boxG 67 _ _ (by rfl) (by rfl) (fun w1 hB1 hm1 hs1 => ?_)
  replace hB1 : w1.heap[w.heap.size]? = some (.cells (keyCells p) 67 (0, 0)) := hB1
  refine hK _ _ trivial ?_
  clear hK K
  try simp only [pl, pn, el, ec, sz, ss, gz, gs, if_true, if_false, Bool.false_eq_true, Bool.not_true, Bool.not_false, Nat.add_zero, Nat.zero_add, Nat.reduceAdd]
  refine wpPi_do rfl (fun K hK => ?_)
  refine wp_boxG 67 _ _ (by rfl) (by rfl) (fun w2 hB2 hm2 hs2 => ?_)
  replace hB2 : w2.heap[w1.heap.size]? = some (.cells (keyCells q) 67 (0, 0)) := hB2
  refine hK _ _ trivial ?_
  clear hK K
  try simp only [pl, pn, el, ec, sz, ss, gz, gs, if_true, if_false, Bool.false_eq_true, Bool.not_true, Bool.not_false, Nat.add_zero, Nat.zero_add, Nat.reduceAdd]
  refine wpPi_assign _ rfl rfl ?_
  simp only [pl, pn, el, ec, sz, ss, gz, gs, if_true, if_false, Bool.false_eq_true, Bool.not_true, Bool.not_false, Nat.add_zero, Nat.zero_add, Nat.reduceAdd]
  refine wpPi_nil ?_
  replace hB1 := hm2.mod.obj id hB1
  have hM := hm1.trans hm2
  clear hm1 hm2
  go_upto_region 1 with (fail)
  have hS : Grown w2 w2.drew := (Grown.refl w2).drew
  refine wp_region_pi [(0, 3), (1, 0), (2, 3), (3, 0), (4, 0), (5, 3), (6, 0), (7, 3), (8, 0), (9, 1), (10, 1), (11, 1), (12, 3)] [] (fun w' => Grown w2 w') (by kernel_rfl) (by kernel_rfl) (by kernel_rfl) (by kernel_rfl) (fun _ _ _ _ hd h => ⟨hd.trans h.1, h.2⟩) hS ?_
  simp only [List.map_cons, List.map_nil, List.getD_cons_zero, List.getD_cons_succ]
  refine wpPi_field _ _ _ _ _ _ rfl rfl rfl fo_67_0 ?_
  simp only [pl, pn, el, ec, sz, ss, gz, gs, if_true, if_false, Bool.false_eq_true, Bool.not_true, Bool.not_false, Nat.add_zero, Nat.zero_add, Nat.reduceAdd]
  refine wpPi_val rfl (fun w' hS => exec_load1 9 _ (by rfl) w.heap.size 0 (by rfl) _ (keyAt0 (hS.mod.obj id hB1)) _ Tryz.underlying9 rfl) ?_
  simp only [pl, pn, el, ec, sz, ss, gz, gs, if_true, if_false, Bool.false_eq_true, Bool.not_true, Bool.not_false, Nat.add_zero, Nat.zero_add, Nat.reduceAdd]
  refine wpPi_field _ _ _ _ _ _ rfl rfl rfl fo_67_0 ?_
  simp only [pl, pn, el, ec, sz, ss, gz, gs, if_true, if_false, Bool.false_eq_true, Bool.not_true, Bool.not_false, Nat.add_zero, Nat.zero_add, Nat.reduceAdd]
  refine wpPi_val rfl (fun w' hS => exec_load1 9 _ (by rfl) w1.heap.size 0 (by rfl) _ (keyAt0 (hS.mod.obj id hB2)) _ Tryz.underlying9 rfl) ?_
  simp only [pl, pn, el, ec, sz, ss, gz, gs, if_true, if_false, Bool.false_eq_true, Bool.not_true, Bool.not_false, Nat.add_zero, Nat.zero_add, Nat.reduceAdd]
  refine wpPi_call (f := 53) rfl ?_ (fun w' hS => (cmpStr_any p.1 q.1 w').mono (fun e w' h => h)) ?_
  · exact run_call 53 _ _ rfl _ Tryz.func53 rfl (by kernel_rfl) _ rfl
  simp only [pl, pn, el, ec, sz, ss, gz, gs, if_true, if_false, Bool.false_eq_true, Bool.not_true, Bool.not_false, Nat.add_zero, Nat.zero_add, Nat.reduceAdd]
  refine wpPi_field _ _ _ _ _ _ rfl rfl rfl fo_67_1 ?_
  simp only [pl, pn, el, ec, sz, ss, gz, gs, if_true, if_false, Bool.false_eq_true, Bool.not_true, Bool.not_false, Nat.add_zero, Nat.zero_add, Nat.reduceAdd]
  refine wpPi_val rfl (fun w' hS => exec_loadA 32 _ (by rfl) w.heap.size 1 (by rfl) (idCells p.2) (keyAt1 (hS.mod.obj id hB1)) _ Tryz.underlying32 rfl 32 (by kernel_rfl) (by rw [idCells_size]; exact hp)) ?_
  simp only [pl, pn, el, ec, sz, ss, gz, gs, if_true, if_false, Bool.false_eq_true, Bool.not_true, Bool.not_false, Nat.add_zero, Nat.zero_add, Nat.reduceAdd]
  refine wpPi_field _ _ _ _ _ _ rfl rfl rfl fo_67_1 ?_
  simp only [pl, pn, el, ec, sz, ss, gz, gs, if_true, if_false, Bool.false_eq_true, Bool.not_true, Bool.not_false, Nat.add_zero, Nat.zero_add, Nat.reduceAdd]
  refine wpPi_val rfl (fun w' hS => exec_loadA 32 _ (by rfl) w1.heap.size 1 (by rfl) (idCells q.2) (keyAt1 (hS.mod.obj id hB2)) _ Tryz.underlying32 rfl 32 (by kernel_rfl) (by rw [idCells_size]; exact hq)) ?_
  simp only [pl, pn, el, ec, sz, ss, gz, gs, if_true, if_false, Bool.false_eq_true, Bool.not_true, Bool.not_false, Nat.add_zero, Nat.zero_add, Nat.reduceAdd]
  refine wpPi_do rfl (fun K hK => ?_)
  go_wp2_with (go_at_call 54; refine (shaCompare_any p.2 q.2 hp hq _).mono ?_; rintro _ w3 ⟨rfl, hm3⟩)
  replace hm3 := hS.trans hm3
  refine hK _ _ hm3 ?_
  clear hK K
  try simp only [pl, pn, el, ec, sz, ss, gz, gs, if_true, if_false, Bool.false_eq_true, Bool.not_true, Bool.not_false, Nat.add_zero, Nat.zero_add, Nat.reduceAdd]
  refine wpPi_do rfl (fun K hK => ?_)
  refine wp_two _ _ _ _ (by rfl) (by rfl) (by rfl) (fun w4 hB4 hm4 hs4 => ?_)
  replace hm4 := hm3.trans hm4
  refine hK _ _ hm4 ?_
  clear hK K
  try simp only [pl, pn, el, ec, sz, ss, gz, gs, if_true, if_false, Bool.false_eq_true, Bool.not_true, Bool.not_false, Nat.add_zero, Nat.zero_add, Nat.reduceAdd]
  refine wpPi_do rfl (fun K hK => ?_)
  have hc0 : w4.cell? ⟨w3.heap.size, 0, none⟩ = some (.int .i64 (cmpI p.1.data.toList q.1.data.toList)) := by rw [cell_of_row w4 _ _ _ _ _ hB4]; rfl
  have hc1 : w4.cell? ⟨w3.heap.size, 1, none⟩ = some (.int .i64 (cmpI p.2 q.2)) := by rw [cell_of_row w4 _ _ _ _ _ hB4]; rfl
  go_wp2_with (go_at_call 52; refine (cmpOr_any w3.heap.size _ _ w4 hc0 hc1).mono ?_; rintro _ w5 ⟨rfl, hw⟩; obtain rfl := hw.symm)
  refine hK _ _ hm4 ?_
  clear hK K
  try simp only [pl, pn, el, ec, sz, ss, gz, gs, if_true, if_false, Bool.false_eq_true, Bool.not_true, Bool.not_false, Nat.add_zero, Nat.zero_add, Nat.reduceAdd]
  refine wpPi_assign _ rfl rfl ?_
  simp only [pl, pn, el, ec, sz, ss, gz, gs, if_true, if_false, Bool.false_eq_true, Bool.not_true, Bool.not_false, Nat.add_zero, Nat.zero_add, Nat.reduceAdd]
  refine wpPi_nil ?_
  go_wp2
  go_ret
  exact ⟨rfl, hM.trans hm4⟩
end Go.Proofs.YtcfcahflkhgapaaGreat
