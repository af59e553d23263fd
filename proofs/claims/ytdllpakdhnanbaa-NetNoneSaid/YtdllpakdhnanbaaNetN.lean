/- A net that is nil, or that nobody made. -/
import Derived.Test.YtdllpakdhnanbaaLong
namespace Go.Proofs.Ytdllpakdhnanbaa
set_option linter.unusedSimpArgs false
set_option linter.unusedVariables false
set_option linter.unnecessarySimpa false
open Go.RowKit

/-- The net is nil, or nobody made it. -/
def NoneW (w : World) (p : Value) : Prop := p = .pointer none ∨ ∃ b, p = .pointer (some ⟨b, 0, none⟩) ∧ w.cell? ⟨b, 0, none⟩ = some (.int .i64 0)
theorem NoneW.keep0 {w w' : World} {p : Value} (h : NoneW w p) (hm : Mod NoB w w') : NoneW w' p := by
  rcases h with h | ⟨b, h1, h2⟩
  · exact .inl h
  · exact .inr ⟨b, h1, hm.cell id h2⟩

set_option maxHeartbeats 400000 in
theorem none_nil_eq (w : World) : Calls Try.prog 40 #[.pointer none] w (RetE (.bool true) w) := by
  go_enter Try.func40, Try.ntmps40
  go_wp2
  go_ret
  exact ⟨rfl, rfl⟩
section
variable {w : World} {p : Value}
theorem none_no (h : NoneW w p) : Calls Try.prog 40 #[p] w (RetE (.bool true) w) := by
  rcases h with rfl | ⟨b, rfl, h⟩
  · exact none_nil_eq w
  · exact none_eq b 0 w h

set_option maxRecDepth 10000 in
set_option maxHeartbeats 400000 in
theorem len_no (h : NoneW w p) : Calls Try.prog 16 #[p] w (RetE (.int .i64 0) w) := by
  go_enter Try.func16, Try.ntmps16
  go_wp2_with (go_at_call 40; refine (none_no h).mono ?_; rintro _ w1 ⟨rfl, hw1⟩; obtain rfl := hw1.symm)
  all_goals try go_wp2
  go_ret
  exact ⟨rfl, rfl⟩

set_option maxRecDepth 10000 in
set_option maxHeartbeats 400000 in
theorem lost_no (h : NoneW w p) : Calls Try.prog 17 #[p] w (RetE (.int .i64 0) w) := by
  go_enter Try.func17, Try.ntmps17
  go_wp2_with (go_at_call 40; refine (none_no h).mono ?_; rintro _ w1 ⟨rfl, hw1⟩; obtain rfl := hw1.symm)
  all_goals try go_wp2
  go_ret
  exact ⟨rfl, rfl⟩

set_option maxRecDepth 10000 in
set_option maxHeartbeats 400000 in
theorem open_no (h : NoneW w p) (x y : Int) : Calls Try.prog 26 #[p, .int .i64 x, .int .i64 y] w (RetE (.bool false) w) := by
  go_enter Try.func26, Try.ntmps26
  go_wp2_with (go_at_call 40; refine (none_no h).mono ?_; rintro _ w1 ⟨rfl, hw1⟩; obtain rfl := hw1.symm)
  all_goals try go_wp2
  go_ret
  exact ⟨rfl, rfl⟩

set_option maxRecDepth 10000 in
set_option maxHeartbeats 400000 in
theorem list_no (h : NoneW w p) : Calls Try.prog 35 #[p] w (RetE (.slice none 0 0) w) := by
  go_enter Try.func35, Try.ntmps35
  go_wp2_with (go_at_call 40; refine (none_no h).mono ?_; rintro _ w1 ⟨rfl, hw1⟩; obtain rfl := hw1.symm)
  all_goals try go_wp2
  go_ret
  exact ⟨rfl, rfl⟩

set_option maxRecDepth 10000 in
set_option maxHeartbeats 400000 in
theorem at_no (h : NoneW w p) (i : Int) (f : Value) : Calls Try.prog 45 #[p, .int .i64 i, f] w (RetE (.int .i64 1) w) := by
  go_enter Try.func45, Try.ntmps45
  go_wp2_with (go_at_call 40; refine (none_no h).mono ?_; rintro _ w1 ⟨rfl, hw1⟩; obtain rfl := hw1.symm)
  all_goals try go_wp2
  go_ret
  exact ⟨rfl, rfl⟩

set_option maxRecDepth 10000 in
set_option maxHeartbeats 400000 in
theorem turn_no (h : NoneW w p) (x y : Int) (f : Value) : Calls Try.prog 52 #[p, .int .i64 x, .int .i64 y, f] w (RetE (.int .i64 1) w) := by
  go_enter Try.func52, Try.ntmps52
  go_wp2_with (go_at_call 40; refine (none_no h).mono ?_; rintro _ w1 ⟨rfl, hw1⟩; obtain rfl := hw1.symm)
  all_goals try go_wp2
  go_ret
  exact ⟨rfl, rfl⟩

set_option maxRecDepth 10000 in
set_option maxHeartbeats 400000 in
theorem drop_no (h : NoneW w p) (i : Int) : Calls Try.prog 28 #[p, .int .i64 i] w (RetE (.int .i64 1) w) := by
  go_enter Try.func28, Try.ntmps28
  go_wp2_with (go_at_call 45; refine (at_no h i _).mono ?_; rintro _ w1 ⟨rfl, hw1⟩; obtain rfl := hw1.symm)
  all_goals try go_wp2
  go_ret
  exact ⟨rfl, rfl⟩

set_option maxRecDepth 10000 in
set_option maxHeartbeats 400000 in
theorem copy_no (h : NoneW w p) (i : Int) : Calls Try.prog 14 #[p, .int .i64 i] w (RetE (.int .i64 1) w) := by
  go_enter Try.func14, Try.ntmps14
  go_wp2_with (go_at_call 45; refine (at_no h i _).mono ?_; rintro _ w1 ⟨rfl, hw1⟩; obtain rfl := hw1.symm)
  all_goals try go_wp2
  go_ret
  exact ⟨rfl, rfl⟩

set_option maxRecDepth 10000 in
set_option maxHeartbeats 400000 in
theorem cut_no (h : NoneW w p) (x y : Int) : Calls Try.prog 25 #[p, .int .i64 x, .int .i64 y] w (RetM (.int .i64 1) w) := by
  go_enter Try.func25, Try.ntmps25
  go_upto_region 0 with (fail)
  refine wp_region_seq [1, 3] (fun _ => True) (by rfl) (by rfl) trivial ?_
  simp only [List.zip_cons_cons, List.zip_nil_right]
  refine wpPi_do rfl (fun K hK => ?_)
  refine wp_box 23 _ p (by rfl) (by rfl) (fun w1 hB1 hM hs1 => ?_)
  have hB1c : w1.cell? ⟨w.heap.size, 0, none⟩ = some p := by
    rw [cell_of_row _ _ _ _ _ _ hB1]
    rcases h with rfl | ⟨b, rfl, _⟩ <;> rfl
  refine hK _ _ trivial ?_
  clear hK K
  try simp only [pl, pn, el, ec, sz, ss, gz, gs, if_true, if_false, Bool.false_eq_true, Bool.not_true, Bool.not_false, Nat.add_zero, Nat.zero_add, Nat.reduceAdd]
  refine wpPi_assign _ rfl rfl ?_
  simp only [pl, pn, el, ec, sz, ss, gz, gs, if_true, if_false, Bool.false_eq_true, Bool.not_true, Bool.not_false, Nat.add_zero, Nat.zero_add, Nat.reduceAdd]
  refine wpPi_nil ?_
  have h1 := h.keep0 hM
  go_upto_region 1 with (fail)
  refine wp_region_seq [1, 3, 3, 1, 1, 3] (fun _ => True) (by rfl) (by rfl) trivial ?_
  simp only [List.zip_cons_cons, List.zip_nil_right]
  refine wpPi_do rfl (fun K hK => ?_)
  refine wp_exec (exec_load1 23 _ (by rfl) w.heap.size 0 (by rfl) _ hB1c _ Try.underlying23 rfl) ?_
  refine hK _ _ trivial ?_
  clear hK K
  try simp only [pl, pn, el, ec, sz, ss, gz, gs, if_true, if_false, Bool.false_eq_true, Bool.not_true, Bool.not_false, Nat.add_zero, Nat.zero_add, Nat.reduceAdd]
  refine wpPi_move _ rfl rfl ?_
  simp only [pl, pn, el, ec, sz, ss, gz, gs, if_true, if_false, Bool.false_eq_true, Bool.not_true, Bool.not_false, Nat.add_zero, Nat.zero_add, Nat.reduceAdd]
  refine wpPi_move _ rfl rfl ?_
  simp only [pl, pn, el, ec, sz, ss, gz, gs, if_true, if_false, Bool.false_eq_true, Bool.not_true, Bool.not_false, Nat.add_zero, Nat.zero_add, Nat.reduceAdd]
  refine wpPi_do rfl (fun K hK => ?_)
  go_wp2
  refine hK _ _ trivial ?_
  clear hK K
  try simp only [pl, pn, el, ec, sz, ss, gz, gs, if_true, if_false, Bool.false_eq_true, Bool.not_true, Bool.not_false, Nat.add_zero, Nat.zero_add, Nat.reduceAdd]
  refine wpPi_do rfl (fun K hK => ?_)
  go_wp2_with (go_at_call 52; refine (turn_no h1 x y _).mono ?_; rintro _ w2 ⟨rfl, hw2⟩; obtain rfl := hw2.symm)
  refine hK _ _ trivial ?_
  clear hK K
  try simp only [pl, pn, el, ec, sz, ss, gz, gs, if_true, if_false, Bool.false_eq_true, Bool.not_true, Bool.not_false, Nat.add_zero, Nat.zero_add, Nat.reduceAdd]
  refine wpPi_assign _ rfl rfl ?_
  simp only [pl, pn, el, ec, sz, ss, gz, gs, if_true, if_false, Bool.false_eq_true, Bool.not_true, Bool.not_false, Nat.add_zero, Nat.zero_add, Nat.reduceAdd]
  refine wpPi_nil ?_
  go_wp2
  go_ret
  exact ⟨rfl, hM⟩

set_option maxRecDepth 10000 in
set_option maxHeartbeats 400000 in
theorem heal_no (h : NoneW w p) (x y : Int) : Calls Try.prog 27 #[p, .int .i64 x, .int .i64 y] w (RetM (.int .i64 1) w) := by
  go_enter Try.func27, Try.ntmps27
  go_upto_region 0 with (fail)
  refine wp_region_seq [1, 3] (fun _ => True) (by rfl) (by rfl) trivial ?_
  simp only [List.zip_cons_cons, List.zip_nil_right]
  refine wpPi_do rfl (fun K hK => ?_)
  refine wp_box 23 _ p (by rfl) (by rfl) (fun w1 hB1 hM hs1 => ?_)
  have hB1c : w1.cell? ⟨w.heap.size, 0, none⟩ = some p := by
    rw [cell_of_row _ _ _ _ _ _ hB1]
    rcases h with rfl | ⟨b, rfl, _⟩ <;> rfl
  refine hK _ _ trivial ?_
  clear hK K
  try simp only [pl, pn, el, ec, sz, ss, gz, gs, if_true, if_false, Bool.false_eq_true, Bool.not_true, Bool.not_false, Nat.add_zero, Nat.zero_add, Nat.reduceAdd]
  refine wpPi_assign _ rfl rfl ?_
  simp only [pl, pn, el, ec, sz, ss, gz, gs, if_true, if_false, Bool.false_eq_true, Bool.not_true, Bool.not_false, Nat.add_zero, Nat.zero_add, Nat.reduceAdd]
  refine wpPi_nil ?_
  have h1 := h.keep0 hM
  go_upto_region 1 with (fail)
  refine wp_region_seq [1, 3, 3, 1, 1, 3] (fun _ => True) (by rfl) (by rfl) trivial ?_
  simp only [List.zip_cons_cons, List.zip_nil_right]
  refine wpPi_do rfl (fun K hK => ?_)
  refine wp_exec (exec_load1 23 _ (by rfl) w.heap.size 0 (by rfl) _ hB1c _ Try.underlying23 rfl) ?_
  refine hK _ _ trivial ?_
  clear hK K
  try simp only [pl, pn, el, ec, sz, ss, gz, gs, if_true, if_false, Bool.false_eq_true, Bool.not_true, Bool.not_false, Nat.add_zero, Nat.zero_add, Nat.reduceAdd]
  refine wpPi_move _ rfl rfl ?_
  simp only [pl, pn, el, ec, sz, ss, gz, gs, if_true, if_false, Bool.false_eq_true, Bool.not_true, Bool.not_false, Nat.add_zero, Nat.zero_add, Nat.reduceAdd]
  refine wpPi_move _ rfl rfl ?_
  simp only [pl, pn, el, ec, sz, ss, gz, gs, if_true, if_false, Bool.false_eq_true, Bool.not_true, Bool.not_false, Nat.add_zero, Nat.zero_add, Nat.reduceAdd]
  refine wpPi_do rfl (fun K hK => ?_)
  go_wp2
  refine hK _ _ trivial ?_
  clear hK K
  try simp only [pl, pn, el, ec, sz, ss, gz, gs, if_true, if_false, Bool.false_eq_true, Bool.not_true, Bool.not_false, Nat.add_zero, Nat.zero_add, Nat.reduceAdd]
  refine wpPi_do rfl (fun K hK => ?_)
  go_wp2_with (go_at_call 52; refine (turn_no h1 x y _).mono ?_; rintro _ w2 ⟨rfl, hw2⟩; obtain rfl := hw2.symm)
  refine hK _ _ trivial ?_
  clear hK K
  try simp only [pl, pn, el, ec, sz, ss, gz, gs, if_true, if_false, Bool.false_eq_true, Bool.not_true, Bool.not_false, Nat.add_zero, Nat.zero_add, Nat.reduceAdd]
  refine wpPi_assign _ rfl rfl ?_
  simp only [pl, pn, el, ec, sz, ss, gz, gs, if_true, if_false, Bool.false_eq_true, Bool.not_true, Bool.not_false, Nat.add_zero, Nat.zero_add, Nat.reduceAdd]
  refine wpPi_nil ?_
  go_wp2
  go_ret
  exact ⟨rfl, hM⟩

set_option maxRecDepth 10000 in
set_option maxHeartbeats 400000 in
theorem send_no (h : NoneW w p) (cs : Array Value) : Calls Try.prog 12 #[p, .agg cs] w (RetM (.tuple #[.bool false, .int .i64 1]) w) := by
  go_enter Try.func12, Try.ntmps12
  go_upto_region 0 with (fail)
  refine wp_region_seq [1, 3, 3] (fun _ => True) (by rfl) (by rfl) trivial ?_
  simp only [List.zip_cons_cons, List.zip_nil_right]
  refine wpPi_do rfl (fun K hK => ?_)
  refine wp_box 38 _ _ (by rfl) (by rfl) (fun w1 hB0 hM hs1 => ?_)
  refine hK _ _ trivial ?_
  clear hK K
  try simp only [pl, pn, el, ec, sz, ss, gz, gs, if_true, if_false, Bool.false_eq_true, Bool.not_true, Bool.not_false, Nat.add_zero, Nat.zero_add, Nat.reduceAdd]
  refine wpPi_assign _ rfl rfl ?_
  simp only [pl, pn, el, ec, sz, ss, gz, gs, if_true, if_false, Bool.false_eq_true, Bool.not_true, Bool.not_false, Nat.add_zero, Nat.zero_add, Nat.reduceAdd]
  refine wpPi_assign _ rfl rfl ?_
  simp only [pl, pn, el, ec, sz, ss, gz, gs, if_true, if_false, Bool.false_eq_true, Bool.not_true, Bool.not_false, Nat.add_zero, Nat.zero_add, Nat.reduceAdd]
  refine wpPi_nil ?_
  have h1 := h.keep0 hM
  go_wp2_with (go_at_call 40; refine (none_no h1).mono ?_; rintro _ w2 ⟨rfl, hw2⟩; obtain rfl := hw2.symm)
  all_goals try go_wp2
  go_ret2
  exact ⟨rfl, hM⟩

set_option maxRecDepth 10000 in
set_option maxHeartbeats 800000 in
theorem take_no (h : NoneW w p) (i : Int) : Calls Try.prog 18 #[p, .int .i64 i] w (RetM (.tuple #[.agg zeroLet, .int .i64 1]) w) := by
  have hz : zeroLet.size = 40 := (ltrCells_spec ltr0 _ _ _ (by rfl)).size
  have hzo : ∀ c ∈ zeroLet, c.oneCell' = true := ltrCells_one _ _ _ _ rfl rfl rfl
  go_enter Try.func18, Try.ntmps18
  go_upto_region 0 with (fail)
  refine wp_region_seq [1, 1, 3] (fun _ => True) (by rfl) (by rfl) trivial ?_
  simp only [List.zip_cons_cons, List.zip_nil_right]
  refine wpPi_do rfl (fun K hK => ?_)
  refine wp_box 23 _ p (by rfl) (by rfl) (fun w1 hB1 hM hs1 => ?_)
  have hB1c : w1.cell? ⟨w.heap.size, 0, none⟩ = some p := by
    rw [cell_of_row _ _ _ _ _ _ hB1]
    rcases h with rfl | ⟨b, rfl, _⟩ <;> rfl
  refine hK _ _ trivial ?_
  clear hK K
  try simp only [pl, pn, el, ec, sz, ss, gz, gs, if_true, if_false, Bool.false_eq_true, Bool.not_true, Bool.not_false, Nat.add_zero, Nat.zero_add, Nat.reduceAdd]
  refine wpPi_do rfl (fun K hK => ?_)
  refine wp_alloc 38 ltrZero (by rfl) zero38 (fun w2 hB2 hm2 hs2 => ?_)
  replace hB2 : w2.heap[w1.heap.size]? = some (.cells zeroLet 38 (0, 0)) := hB2
  replace hB1c := hm2.cell id hB1c
  replace hM := hM.trans0 hm2
  refine hK _ _ trivial ?_
  clear hK K
  try simp only [pl, pn, el, ec, sz, ss, gz, gs, if_true, if_false, Bool.false_eq_true, Bool.not_true, Bool.not_false, Nat.add_zero, Nat.zero_add, Nat.reduceAdd]
  refine wpPi_assign _ rfl rfl ?_
  simp only [pl, pn, el, ec, sz, ss, gz, gs, if_true, if_false, Bool.false_eq_true, Bool.not_true, Bool.not_false, Nat.add_zero, Nat.zero_add, Nat.reduceAdd]
  refine wpPi_nil ?_
  have h2 := h.keep0 hM
  go_upto_region 1 with (fail)
  refine wp_region_seq [1, 3, 1, 1, 3] (fun _ => True) (by rfl) (by rfl) trivial ?_
  simp only [List.zip_cons_cons, List.zip_nil_right]
  refine wpPi_do rfl (fun K hK => ?_)
  refine wp_exec (exec_load1 23 _ (by rfl) w.heap.size 0 (by rfl) _ hB1c _ Try.underlying23 rfl) ?_
  refine hK _ _ trivial ?_
  clear hK K
  try simp only [pl, pn, el, ec, sz, ss, gz, gs, if_true, if_false, Bool.false_eq_true, Bool.not_true, Bool.not_false, Nat.add_zero, Nat.zero_add, Nat.reduceAdd]
  refine wpPi_move _ rfl rfl ?_
  simp only [pl, pn, el, ec, sz, ss, gz, gs, if_true, if_false, Bool.false_eq_true, Bool.not_true, Bool.not_false, Nat.add_zero, Nat.zero_add, Nat.reduceAdd]
  refine wpPi_do rfl (fun K hK => ?_)
  go_wp2
  refine hK _ _ trivial ?_
  clear hK K
  try simp only [pl, pn, el, ec, sz, ss, gz, gs, if_true, if_false, Bool.false_eq_true, Bool.not_true, Bool.not_false, Nat.add_zero, Nat.zero_add, Nat.reduceAdd]
  refine wpPi_do rfl (fun K hK => ?_)
  go_wp2_with (go_at_call 45; refine (at_no h2 i _).mono ?_; rintro _ w3 ⟨rfl, hw3⟩; obtain rfl := hw3.symm)
  refine hK _ _ trivial ?_
  clear hK K
  try simp only [pl, pn, el, ec, sz, ss, gz, gs, if_true, if_false, Bool.false_eq_true, Bool.not_true, Bool.not_false, Nat.add_zero, Nat.zero_add, Nat.reduceAdd]
  refine wpPi_assign _ rfl rfl ?_
  simp only [pl, pn, el, ec, sz, ss, gz, gs, if_true, if_false, Bool.false_eq_true, Bool.not_true, Bool.not_false, Nat.add_zero, Nat.zero_add, Nat.reduceAdd]
  refine wpPi_nil ?_
  go_upto_region 2 with (fail)
  refine wp_region_seq [1, 3, 1, 3] (fun _ => True) (by rfl) (by rfl) trivial ?_
  simp only [List.zip_cons_cons, List.zip_nil_right]
  refine wpPi_do rfl (fun K hK => ?_)
  refine wp_exec (exec_loadA 38 _ (by rfl) w1.heap.size 0 (by rfl) _ (CellsAt.whole hB2) _ Try.underlying38 rfl 40 (by kernel_rfl) hz) ?_
  refine hK _ _ trivial ?_
  clear hK K
  try simp only [pl, pn, el, ec, sz, ss, gz, gs, if_true, if_false, Bool.false_eq_true, Bool.not_true, Bool.not_false, Nat.add_zero, Nat.zero_add, Nat.reduceAdd]
  refine wpPi_move _ rfl rfl ?_
  simp only [pl, pn, el, ec, sz, ss, gz, gs, if_true, if_false, Bool.false_eq_true, Bool.not_true, Bool.not_false, Nat.add_zero, Nat.zero_add, Nat.reduceAdd]
  refine wpPi_do rfl (fun K hK => ?_)
  refine wp_storeA 38 _ _ w1.heap.size 0 zeroLet (by rfl) (by rfl) (by rfl) hzo 40 (by kernel_rfl) hz _ _ hB2 (by omega) (fun w4 hB4 hm4 => ?_)
  rw [putRow_whole rfl] at hB4
  replace hM := hM.transB hm4 (by omega)
  refine hK _ _ trivial ?_
  clear hK K
  try simp only [pl, pn, el, ec, sz, ss, gz, gs, if_true, if_false, Bool.false_eq_true, Bool.not_true, Bool.not_false, Nat.add_zero, Nat.zero_add, Nat.reduceAdd]
  refine wpPi_assign _ rfl rfl ?_
  simp only [pl, pn, el, ec, sz, ss, gz, gs, if_true, if_false, Bool.false_eq_true, Bool.not_true, Bool.not_false, Nat.add_zero, Nat.zero_add, Nat.reduceAdd]
  refine wpPi_nil ?_
  go_wp2
  refine bodyPost_ret (results_cell_tmp rfl _ _ w1.heap.size _ _ _ (by rfl) hB4 Try.underlying38 rfl (by rw [hz]; kernel_rfl)) rfl ?_
  exact ⟨rfl, hM⟩
end
end Go.Proofs.Ytdllpakdhnanbaa
