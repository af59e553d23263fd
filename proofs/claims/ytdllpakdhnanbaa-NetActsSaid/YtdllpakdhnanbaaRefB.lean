/- The document's net: New, two, Open, set, Cut, Heal. -/
import Derived.Test.YtdllpakdhnanbaaRefA
namespace Go.Proofs.Ytdllpakdhnanbaa
set_option linter.unusedSimpArgs false
set_option linter.unusedVariables false
set_option linter.unnecessarySimpa false
open Go.RowKit

set_option maxHeartbeats 400000 in
theorem two44 (b : Nat) (n x y : Int) (w : World) (h : w.cell? ⟨b, 0, none⟩ = some (.int .i64 n)) :
    Calls Try.prog 44 #[.pointer (some ⟨b, 0, none⟩), .int .i64 x, .int .i64 y] w (RetE (.bool (twoB n x y)) w) := by
  have ht : ∃ t, t = twoB n x y := ⟨_, rfl⟩
  obtain ⟨t, ht⟩ := ht
  have HT := Lib.hid ht; clear ht
  rw [← HT.out]
  go_enter Try.func44, Try.ntmps44
  go_wp2
  all_goals
    go_ret
    refine ⟨ret_bool ?_, rfl⟩
    rw [HT.out]
    unfold twoB
    rw [Bool.eq_iff_iff]
    simp
    all_goals omega

theorem sq_in {n : Int} (h : 1 ≤ n ∧ n ≤ 16) : 1 ≤ n * n ∧ n * n ≤ 256 := by
  have h1 : 1 * 1 ≤ n * n := Int.mul_le_mul h.1 h.1 (by omega) (by omega)
  have h2 : n * n ≤ 16 * 16 := Int.mul_le_mul h.2 h.2 (by omega) (by omega)
  omega

set_option maxRecDepth 10000 in
set_option maxHeartbeats 400000 in
theorem refNew_at (n : Int) (w0 : World) (hn : 1 ≤ n ∧ n ≤ 16) (w : World) (hM : Mod NoB w0 w) :
    Calls Try.prog 11 #[.int .i64 n] w fun e w' => ∃ b R, e = .returned (.tuple #[.pointer (some ⟨b, 0, none⟩), .int .i64 0]) ∧ RefAt w0 w' (.pointer (some ⟨b, 0, none⟩)) ⟨n, 0, fun _ => false, []⟩ R ∧ Mod NoB w w' ∧ ∀ k, R k → w.heap.size ≤ k := by
  obtain ⟨h1, h2⟩ := hn
  have hsq := sq_in ⟨h1, h2⟩
  go_enter Try.func11, Try.ntmps11
  go_upto_region 3 with (fail)
  refine wp_region_seq [3, 3, 3, 3, 1, 1, 1, 3, 3] (fun _ => True) (by rfl) (by rfl) trivial ?_
  simp only [List.zip_cons_cons, List.zip_nil_right]
  refine wpPi_move _ rfl rfl ?_
  simp only [pl, pn, el, ec, sz, ss, gz, gs, if_true, if_false, Bool.false_eq_true, Bool.not_true, Bool.not_false, Nat.add_zero, Nat.zero_add, Nat.reduceAdd]
  refine wpPi_move _ rfl rfl ?_
  simp only [pl, pn, el, ec, sz, ss, gz, gs, if_true, if_false, Bool.false_eq_true, Bool.not_true, Bool.not_false, Nat.add_zero, Nat.zero_add, Nat.reduceAdd]
  refine wpPi_move _ rfl rfl ?_
  simp only [pl, pn, el, ec, sz, ss, gz, gs, if_true, if_false, Bool.false_eq_true, Bool.not_true, Bool.not_false, Nat.add_zero, Nat.zero_add, Nat.reduceAdd]
  refine wpPi_mul _ _ _ _ _ _ rfl rfl rfl rfl (by omega) (by omega) ?_
  simp only [pl, pn, el, ec, sz, ss, gz, gs, if_true, if_false, Bool.false_eq_true, Bool.not_true, Bool.not_false, Nat.add_zero, Nat.zero_add, Nat.reduceAdd]
  refine wpPi_do rfl (fun K hK => ?_)
  refine wp_makeBools 44 _ _ (n * n) (n * n).toNat (by omega) (by rfl) (by rfl) (by rfl) Try.underlying44 (by kernel_rfl) (by omega) (fun w1 ways hws hwf hB hm1 hs1 => ?_)
  refine hK _ _ trivial ?_
  clear hK K
  try simp only [pl, pn, el, ec, sz, ss, gz, gs, if_true, if_false, Bool.false_eq_true, Bool.not_true, Bool.not_false, Nat.add_zero, Nat.zero_add, Nat.reduceAdd]
  refine wpPi_do rfl (fun K hK => ?_)
  go_wp2
  refine hK _ _ trivial ?_
  clear hK K
  try simp only [pl, pn, el, ec, sz, ss, gz, gs, if_true, if_false, Bool.false_eq_true, Bool.not_true, Bool.not_false, Nat.add_zero, Nat.zero_add, Nat.reduceAdd]
  refine wpPi_do rfl (fun K hK => ?_)
  refine wp_box 46 _ _ (by rfl) (by rfl) (fun w2 hB2 hm2 hs2 => ?_)
  replace hB2 : w2.heap[w1.heap.size]? = some (.cells (refCells n 0 (.slice none 0 0) w.heap.size) 46 (0, 0)) := hB2
  replace hB := hm2.obj id hB
  have hM2 := hm1.trans0 hm2
  refine hK _ _ trivial ?_
  clear hK K
  try simp only [pl, pn, el, ec, sz, ss, gz, gs, if_true, if_false, Bool.false_eq_true, Bool.not_true, Bool.not_false, Nat.add_zero, Nat.zero_add, Nat.reduceAdd]
  refine wpPi_assign _ rfl rfl ?_
  simp only [pl, pn, el, ec, sz, ss, gz, gs, if_true, if_false, Bool.false_eq_true, Bool.not_true, Bool.not_false, Nat.add_zero, Nat.zero_add, Nat.reduceAdd]
  refine wpPi_assign _ rfl rfl ?_
  simp only [pl, pn, el, ec, sz, ss, gz, gs, if_true, if_false, Bool.false_eq_true, Bool.not_true, Bool.not_false, Nat.add_zero, Nat.zero_add, Nat.reduceAdd]
  refine wpPi_nil ?_
  go_wp2
  go_ret2
  refine ⟨_, fun k => New w w2 k, rfl, ⟨hM.trans0 hM2, ⟨_, _, _, ways, rfl, ⟨hB2, hB, hws, fun a b hab => ?_, ⟨h1, h2⟩, by simp, by simp⟩, LtAcc.nil, by omega, ⟨by omega, by omega⟩, ⟨Nat.le_refl _, by omega⟩, fun g hg => by cases hg⟩, fun k hk => Nat.le_trans hM.size hk.1, fun k hk => hk.2⟩, hM2, fun k hk => hk.1⟩
  have := way_in hab
  exact hwf _ (by simp only at this ⊢; omega)

set_option maxRecDepth 10000 in
set_option maxHeartbeats 400000 in
theorem refNew_no (n : Int) (hn : ¬ (1 ≤ n ∧ n ≤ 16)) (w : World) : Calls Try.prog 11 #[.int .i64 n] w (RetE (.tuple #[.pointer none, .int .i64 3]) w) := by
  go_enter Try.func11, Try.ntmps11
  go_wp2
  all_goals
    go_ret2
    exact ⟨rfl, rfl⟩

section
variable {w0 w : World} {q : Value} {N : Ns} {R : Nat → Prop}

set_option maxRecDepth 10000 in
set_option maxHeartbeats 800000 in
theorem refOpen_at (h : RefAt w0 w q N R) (x y : Int) : Calls Try.prog 36 #[q, .int .i64 x, .int .i64 y] w (RetM (.bool (openB N.n N.cut x y)) w) := by
  obtain ⟨hM, ⟨br, bw, Lv, ways, rfl, ho, -⟩, -⟩ := h
  obtain ⟨hc0, -, -, hc3⟩ := ho.cell
  have hn := ho.hn
  have hsq := sq_in hn
  obtain ⟨n, hne⟩ : ∃ n, n = N.n := ⟨_, rfl⟩
  have hway := ho.way; have hwo := ho.wobj; have hws := ho.wsz
  rw [← hne] at hc0 hc3 hn hsq hway hws ⊢
  clear hne ho
  obtain ⟨t, ht⟩ : ∃ t, t = twoB n x y := ⟨_, rfl⟩
  go_enter Try.func36, Try.ntmps36
  go_upto_region 1 with (fail)
  cases t
  · have HT := Lib.hid ht; clear ht
    have hS : Mod NoB w w.drew := (Mod.refl _ _).drew
    refine wp_region_pi [(0, 3), (1, 3), (2, 3), (3, 1), (4, 3), (5, 3), (6, 3), (7, 3), (8, 0), (9, 3), (10, 3), (11, 3), (12, 3), (13, 3), (14, 0), (15, 3), (16, 3), (17, 3), (18, 3), (19, 3), (20, 0), (21, 3), (22, 3), (23, 3)] [] (fun w' => Mod NoB w w') (by kernel_rfl) (by kernel_rfl) (by kernel_rfl) (by kernel_rfl) (fun _ _ _ _ hd h => ⟨hd.trans h.1, h.2⟩) hS ?_
    simp only [List.map_cons, List.map_nil, List.getD_cons_zero, List.getD_cons_succ]
    refine wpPi_move _ rfl rfl ?_
    simp only [pl, pn, el, ec, sz, ss, gz, gs, if_true, if_false, Bool.false_eq_true, Bool.not_true, Bool.not_false, Nat.add_zero, Nat.zero_add, Nat.reduceAdd]
    refine wpPi_move _ rfl rfl ?_
    simp only [pl, pn, el, ec, sz, ss, gz, gs, if_true, if_false, Bool.false_eq_true, Bool.not_true, Bool.not_false, Nat.add_zero, Nat.zero_add, Nat.reduceAdd]
    refine wpPi_move _ rfl rfl ?_
    simp only [pl, pn, el, ec, sz, ss, gz, gs, if_true, if_false, Bool.false_eq_true, Bool.not_true, Bool.not_false, Nat.add_zero, Nat.zero_add, Nat.reduceAdd]
    refine wpPi_do rfl (fun K hK => ?_)
    go_wp2_with (go_at_call 44; refine (two44 br n x y _ (hS.cell id hc0)).mono ?_; rintro _ w1 ⟨rfl, hw1⟩; obtain rfl := hw1.symm; rw [← HT.out])
    refine hK _ _ hS ?_
    clear hK K
    try simp only [pl, pn, el, ec, sz, ss, gz, gs, if_true, if_false, Bool.false_eq_true, Bool.not_true, Bool.not_false, Nat.add_zero, Nat.zero_add, Nat.reduceAdd]
    refine wpPi_move _ rfl rfl ?_
    simp only [pl, pn, el, ec, sz, ss, gz, gs, if_true, if_false, Bool.false_eq_true, Bool.not_true, Bool.not_false, Nat.add_zero, Nat.zero_add, Nat.reduceAdd]
    refine wpPi_skip rfl ?_
    simp only [pl, pn, el, ec, sz, ss, gz, gs, if_true, if_false, Bool.false_eq_true, Bool.not_true, Bool.not_false, Nat.add_zero, Nat.zero_add, Nat.reduceAdd]
    refine wpPi_skip rfl ?_
    simp only [pl, pn, el, ec, sz, ss, gz, gs, if_true, if_false, Bool.false_eq_true, Bool.not_true, Bool.not_false, Nat.add_zero, Nat.zero_add, Nat.reduceAdd]
    refine wpPi_skip rfl ?_
    simp only [pl, pn, el, ec, sz, ss, gz, gs, if_true, if_false, Bool.false_eq_true, Bool.not_true, Bool.not_false, Nat.add_zero, Nat.zero_add, Nat.reduceAdd]
    refine wpPi_skip0 rfl ?_
    simp only [pl, pn, el, ec, sz, ss, gz, gs, if_true, if_false, Bool.false_eq_true, Bool.not_true, Bool.not_false, Nat.add_zero, Nat.zero_add, Nat.reduceAdd]
    refine wpPi_skip rfl ?_
    simp only [pl, pn, el, ec, sz, ss, gz, gs, if_true, if_false, Bool.false_eq_true, Bool.not_true, Bool.not_false, Nat.add_zero, Nat.zero_add, Nat.reduceAdd]
    refine wpPi_skip rfl ?_
    simp only [pl, pn, el, ec, sz, ss, gz, gs, if_true, if_false, Bool.false_eq_true, Bool.not_true, Bool.not_false, Nat.add_zero, Nat.zero_add, Nat.reduceAdd]
    refine wpPi_skip rfl ?_
    simp only [pl, pn, el, ec, sz, ss, gz, gs, if_true, if_false, Bool.false_eq_true, Bool.not_true, Bool.not_false, Nat.add_zero, Nat.zero_add, Nat.reduceAdd]
    refine wpPi_skip rfl ?_
    simp only [pl, pn, el, ec, sz, ss, gz, gs, if_true, if_false, Bool.false_eq_true, Bool.not_true, Bool.not_false, Nat.add_zero, Nat.zero_add, Nat.reduceAdd]
    refine wpPi_skip rfl ?_
    simp only [pl, pn, el, ec, sz, ss, gz, gs, if_true, if_false, Bool.false_eq_true, Bool.not_true, Bool.not_false, Nat.add_zero, Nat.zero_add, Nat.reduceAdd]
    refine wpPi_skip0 rfl ?_
    simp only [pl, pn, el, ec, sz, ss, gz, gs, if_true, if_false, Bool.false_eq_true, Bool.not_true, Bool.not_false, Nat.add_zero, Nat.zero_add, Nat.reduceAdd]
    refine wpPi_skip rfl ?_
    simp only [pl, pn, el, ec, sz, ss, gz, gs, if_true, if_false, Bool.false_eq_true, Bool.not_true, Bool.not_false, Nat.add_zero, Nat.zero_add, Nat.reduceAdd]
    refine wpPi_skip rfl ?_
    simp only [pl, pn, el, ec, sz, ss, gz, gs, if_true, if_false, Bool.false_eq_true, Bool.not_true, Bool.not_false, Nat.add_zero, Nat.zero_add, Nat.reduceAdd]
    refine wpPi_skip rfl ?_
    simp only [pl, pn, el, ec, sz, ss, gz, gs, if_true, if_false, Bool.false_eq_true, Bool.not_true, Bool.not_false, Nat.add_zero, Nat.zero_add, Nat.reduceAdd]
    refine wpPi_skip rfl ?_
    simp only [pl, pn, el, ec, sz, ss, gz, gs, if_true, if_false, Bool.false_eq_true, Bool.not_true, Bool.not_false, Nat.add_zero, Nat.zero_add, Nat.reduceAdd]
    refine wpPi_skip rfl ?_
    simp only [pl, pn, el, ec, sz, ss, gz, gs, if_true, if_false, Bool.false_eq_true, Bool.not_true, Bool.not_false, Nat.add_zero, Nat.zero_add, Nat.reduceAdd]
    refine wpPi_skip0 rfl ?_
    simp only [pl, pn, el, ec, sz, ss, gz, gs, if_true, if_false, Bool.false_eq_true, Bool.not_true, Bool.not_false, Nat.add_zero, Nat.zero_add, Nat.reduceAdd]
    refine wpPi_skip rfl ?_
    simp only [pl, pn, el, ec, sz, ss, gz, gs, if_true, if_false, Bool.false_eq_true, Bool.not_true, Bool.not_false, Nat.add_zero, Nat.zero_add, Nat.reduceAdd]
    refine wpPi_pick _ _ _ _ rfl rfl rfl ?_
    simp only [pl, pn, el, ec, sz, ss, gz, gs, if_true, if_false, Bool.false_eq_true, Bool.not_true, Bool.not_false, Nat.add_zero, Nat.zero_add, Nat.reduceAdd]
    refine wpPi_assign _ rfl rfl ?_
    simp only [pl, pn, el, ec, sz, ss, gz, gs, if_true, if_false, Bool.false_eq_true, Bool.not_true, Bool.not_false, Nat.add_zero, Nat.zero_add, Nat.reduceAdd]
    refine wpPi_nil ?_
    go_wp2
    go_ret
    refine ⟨ret_bool ?_, hS⟩
    simp [openB, ← HT.out]
  · have hb := way_in ht.symm
    have hb2 := of_decide_eq_true ht.symm
    obtain ⟨i, hi⟩ : ∃ i : Nat, (x - 1) * n + y - 1 = i := ⟨((x - 1) * n + y - 1).toNat, by omega⟩
    have hcell := hway x y ht.symm
    rw [show ((x - 1) * n + y - 1).toNat = i by omega] at hcell
    have hil : i < (n * n).toNat := by omega
    obtain ⟨c, hc⟩ : ∃ c, c = N.cut (x, y) := ⟨_, rfl⟩
    rw [← hc] at hcell
    have hcl : w.cell? ⟨bw, i * 1, none⟩ = some (.bool c) := by rw [cell_of_row w bw _ _ _ _ hwo, Nat.mul_one, hcell]
    have hm1 : -9223372036854775808 ≤ (x - 1) * n ∧ (x - 1) * n ≤ 9223372036854775807 := by omega
    have hx1 : -9223372036854775808 ≤ x - 1 ∧ x - 1 ≤ 9223372036854775807 := by omega
    have hx2 : -9223372036854775808 ≤ (x - 1) * n + y ∧ (x - 1) * n + y ≤ 9223372036854775807 := by omega
    have hx3 : -9223372036854775808 ≤ (x - 1) * n + y - 1 ∧ (x - 1) * n + y - 1 ≤ 9223372036854775807 := by omega
    have HT := Lib.hid ht; have HI := Lib.hid hi; have HC := Lib.hid hc; clear ht hi hc hway hcell hwo hws
    have hS : Mod NoB w w.drew := (Mod.refl _ _).drew
    refine wp_region_pi [(0, 3), (1, 3), (2, 3), (3, 1), (4, 3), (5, 3), (6, 3), (7, 3), (8, 0), (9, 3), (10, 3), (11, 3), (12, 3), (13, 3), (14, 0), (15, 3), (16, 3), (17, 3), (18, 3), (19, 3), (20, 0), (21, 3), (22, 3), (23, 3)] [] (fun w' => Mod NoB w w') (by kernel_rfl) (by kernel_rfl) (by kernel_rfl) (by kernel_rfl) (fun _ _ _ _ hd h => ⟨hd.trans h.1, h.2⟩) hS ?_
    simp only [List.map_cons, List.map_nil, List.getD_cons_zero, List.getD_cons_succ]
    refine wpPi_move _ rfl rfl ?_
    simp only [pl, pn, el, ec, sz, ss, gz, gs, if_true, if_false, Bool.false_eq_true, Bool.not_true, Bool.not_false, Nat.add_zero, Nat.zero_add, Nat.reduceAdd]
    refine wpPi_move _ rfl rfl ?_
    simp only [pl, pn, el, ec, sz, ss, gz, gs, if_true, if_false, Bool.false_eq_true, Bool.not_true, Bool.not_false, Nat.add_zero, Nat.zero_add, Nat.reduceAdd]
    refine wpPi_move _ rfl rfl ?_
    simp only [pl, pn, el, ec, sz, ss, gz, gs, if_true, if_false, Bool.false_eq_true, Bool.not_true, Bool.not_false, Nat.add_zero, Nat.zero_add, Nat.reduceAdd]
    refine wpPi_do rfl (fun K hK => ?_)
    go_wp2_with (go_at_call 44; refine (two44 br n x y _ (hS.cell id hc0)).mono ?_; rintro _ w1 ⟨rfl, hw1⟩; obtain rfl := hw1.symm; rw [← HT.out])
    refine hK _ _ hS ?_
    clear hK K
    try simp only [pl, pn, el, ec, sz, ss, gz, gs, if_true, if_false, Bool.false_eq_true, Bool.not_true, Bool.not_false, Nat.add_zero, Nat.zero_add, Nat.reduceAdd]
    refine wpPi_move _ rfl rfl ?_
    simp only [pl, pn, el, ec, sz, ss, gz, gs, if_true, if_false, Bool.false_eq_true, Bool.not_true, Bool.not_false, Nat.add_zero, Nat.zero_add, Nat.reduceAdd]
    refine wpPi_move _ rfl rfl ?_
    simp only [pl, pn, el, ec, sz, ss, gz, gs, if_true, if_false, Bool.false_eq_true, Bool.not_true, Bool.not_false, Nat.add_zero, Nat.zero_add, Nat.reduceAdd]
    refine wpPi_nilCheck _ _ rfl rfl rfl ?_
    simp only [pl, pn, el, ec, sz, ss, gz, gs, if_true, if_false, Bool.false_eq_true, Bool.not_true, Bool.not_false, Nat.add_zero, Nat.zero_add, Nat.reduceAdd]
    refine wpPi_field _ _ _ _ _ _ rfl rfl rfl fo_46_3 ?_
    simp only [pl, pn, el, ec, sz, ss, gz, gs, if_true, if_false, Bool.false_eq_true, Bool.not_true, Bool.not_false, Nat.add_zero, Nat.zero_add, Nat.reduceAdd]
    refine wpPi_val rfl (fun w' hS => exec_load1 _ _ rfl _ _ rfl _ (hS.cell id hc3) _ Try.underlying44 rfl) ?_
    simp only [pl, pn, el, ec, sz, ss, gz, gs, if_true, if_false, Bool.false_eq_true, Bool.not_true, Bool.not_false, Nat.add_zero, Nat.zero_add, Nat.reduceAdd]
    refine wpPi_move _ rfl rfl ?_
    simp only [pl, pn, el, ec, sz, ss, gz, gs, if_true, if_false, Bool.false_eq_true, Bool.not_true, Bool.not_false, Nat.add_zero, Nat.zero_add, Nat.reduceAdd]
    refine wpPi_sub _ _ _ _ _ _ rfl rfl rfl rfl hx1.1 hx1.2 ?_
    simp only [pl, pn, el, ec, sz, ss, gz, gs, if_true, if_false, Bool.false_eq_true, Bool.not_true, Bool.not_false, Nat.add_zero, Nat.zero_add, Nat.reduceAdd]
    refine wpPi_move _ rfl rfl ?_
    simp only [pl, pn, el, ec, sz, ss, gz, gs, if_true, if_false, Bool.false_eq_true, Bool.not_true, Bool.not_false, Nat.add_zero, Nat.zero_add, Nat.reduceAdd]
    refine wpPi_nilCheck _ _ rfl rfl rfl ?_
    simp only [pl, pn, el, ec, sz, ss, gz, gs, if_true, if_false, Bool.false_eq_true, Bool.not_true, Bool.not_false, Nat.add_zero, Nat.zero_add, Nat.reduceAdd]
    refine wpPi_field _ _ _ _ _ _ rfl rfl rfl fo_46_0 ?_
    simp only [pl, pn, el, ec, sz, ss, gz, gs, if_true, if_false, Bool.false_eq_true, Bool.not_true, Bool.not_false, Nat.add_zero, Nat.zero_add, Nat.reduceAdd]
    refine wpPi_val rfl (fun w' hS => exec_load1 _ _ rfl _ _ rfl _ (hS.cell id hc0) _ Try.underlying3 rfl) ?_
    simp only [pl, pn, el, ec, sz, ss, gz, gs, if_true, if_false, Bool.false_eq_true, Bool.not_true, Bool.not_false, Nat.add_zero, Nat.zero_add, Nat.reduceAdd]
    refine wpPi_mul _ _ _ _ _ _ rfl rfl rfl rfl hm1.1 hm1.2 ?_
    simp only [pl, pn, el, ec, sz, ss, gz, gs, if_true, if_false, Bool.false_eq_true, Bool.not_true, Bool.not_false, Nat.add_zero, Nat.zero_add, Nat.reduceAdd]
    refine wpPi_move _ rfl rfl ?_
    simp only [pl, pn, el, ec, sz, ss, gz, gs, if_true, if_false, Bool.false_eq_true, Bool.not_true, Bool.not_false, Nat.add_zero, Nat.zero_add, Nat.reduceAdd]
    refine wpPi_add _ _ _ _ _ _ rfl rfl rfl rfl hx2.1 hx2.2 ?_
    simp only [pl, pn, el, ec, sz, ss, gz, gs, if_true, if_false, Bool.false_eq_true, Bool.not_true, Bool.not_false, Nat.add_zero, Nat.zero_add, Nat.reduceAdd]
    refine wpPi_sub _ _ _ _ _ _ rfl rfl rfl rfl hx3.1 hx3.2 ?_
    simp only [pl, pn, el, ec, sz, ss, gz, gs, if_true, if_false, Bool.false_eq_true, Bool.not_true, Bool.not_false, Nat.add_zero, Nat.zero_add, Nat.reduceAdd]
    refine wpPi_index _ _ _ _ _ _ _ _ i rfl rfl rfl (congrArg (Value.int .i64) HI.out) Try.underlying44 (n := 1) (by kernel_rfl) hil ?_
    simp only [pl, pn, el, ec, sz, ss, gz, gs, if_true, if_false, Bool.false_eq_true, Bool.not_true, Bool.not_false, Nat.add_zero, Nat.zero_add, Nat.reduceAdd]
    refine wpPi_val rfl (fun w' hS => exec_load1 _ _ rfl _ _ rfl _ (hS.cell id hcl) _ Try.underlying4 rfl) ?_
    simp only [pl, pn, el, ec, sz, ss, gz, gs, if_true, if_false, Bool.false_eq_true, Bool.not_true, Bool.not_false, Nat.add_zero, Nat.zero_add, Nat.reduceAdd]
    refine wpPi_not _ _ _ rfl rfl rfl ?_
    simp only [pl, pn, el, ec, sz, ss, gz, gs, if_true, if_false, Bool.false_eq_true, Bool.not_true, Bool.not_false, Nat.add_zero, Nat.zero_add, Nat.reduceAdd]
    refine wpPi_pick _ _ _ _ rfl rfl rfl ?_
    simp only [pl, pn, el, ec, sz, ss, gz, gs, if_true, if_false, Bool.false_eq_true, Bool.not_true, Bool.not_false, Nat.add_zero, Nat.zero_add, Nat.reduceAdd]
    refine wpPi_assign _ rfl rfl ?_
    simp only [pl, pn, el, ec, sz, ss, gz, gs, if_true, if_false, Bool.false_eq_true, Bool.not_true, Bool.not_false, Nat.add_zero, Nat.zero_add, Nat.reduceAdd]
    refine wpPi_nil ?_
    go_wp2
    go_ret
    refine ⟨ret_bool ?_, hS⟩
    simp [openB, ← HT.out, ← HC.out]

def refSetN (N : Ns) (a b : Int) (c : Bool) : Ns := if c then cutN N a b else healN N a b
theorem ref_set_ok {w' : World} {br bw i : Nat} {Lv : Value} {ways : Array Value} {x y : Int} (ho : RefOk w br bw Lv ways N) (hne : br ≠ bw) (ht : twoB N.n x y = true) (hi : (x - 1) * N.n + y - 1 = i) (c : Bool)
    (hb : w'.heap[bw]? = some (.cells (ways.setIfInBounds i (.bool c)) 4 (0, 0))) (hm : Mod (fun k => k = bw) w w') : RefOk w' br bw Lv (ways.setIfInBounds i (.bool c)) (refSetN N x y c) := by
  have hway : ∀ (cut : Int × Int → Bool), (∀ p, cut p = if p = (x, y) then c else N.cut p) → ∀ a b, twoB N.n a b = true → (ways.setIfInBounds i (.bool c))[((a - 1) * N.n + b - 1).toNat]? = some (.bool (cut (a, b))) := by
    intro cut hcut a b hab
    rw [hcut, Array.getElem?_setIfInBounds]
    have h1 := way_in hab
    have h2 := way_in ht
    by_cases e : i = ((a - 1) * N.n + b - 1).toNat
    · obtain ⟨rfl, rfl⟩ := way_inj hab ht (by omega)
      rw [if_pos e, if_pos (by rw [ho.wsz]; omega), if_pos rfl]
    · rw [if_neg e, if_neg (fun h => e (by cases h; omega))]
      exact ho.way a b hab
  cases c
  · unfold refSetN healN
    rw [if_neg (by simp), if_pos ht]
    exact ⟨hm.objB hne ho.obj, hb, by simpa using ho.wsz, hway _ (fun p => by simp only [healP]; by_cases hp : p = (x, y) <;> simp [hp]), ho.hn, ho.few, ho.oks⟩
  · unfold refSetN cutN
    rw [if_pos rfl, if_pos ht]
    exact ⟨hm.objB hne ho.obj, hb, by simpa using ho.wsz, hway _ (fun p => by simp only [cutP]; by_cases hp : p = (x, y) <;> simp [hp]), ho.hn, ho.few, ho.oks⟩
theorem refSetN_ls (x y : Int) (c : Bool) : (refSetN N x y c).ls = N.ls := by
  unfold refSetN cutN healN
  cases c <;> simp only [if_true, if_false, Bool.false_eq_true] <;> split <;> rfl

set_option maxRecDepth 10000 in
set_option maxHeartbeats 800000 in
theorem refSet_at (h : RefAt w0 w q N R) (x y : Int) (c : Bool) : Calls Try.prog 62 #[q, .int .i64 x, .int .i64 y, .bool c] w fun e w' => e = .returned (.int .i64 (turnE N x y)) ∧ RStep w0 w q R w' (refSetN N x y c) := by
  have h' := h
  obtain ⟨hM, ⟨br, bw, Lv, ways, rfl, ho, ha, hne, hRr, hRw, hg⟩, hold, hlt⟩ := h
  obtain ⟨hc0, -, -, hc3⟩ := ho.cell
  have hn := ho.hn
  have hsq := sq_in hn
  obtain ⟨n, hnn⟩ : ∃ n, n = N.n := ⟨_, rfl⟩
  have hwo := ho.wobj; have hws := ho.wsz
  rw [← hnn] at hc0 hc3 hn hsq hws
  obtain ⟨t, ht⟩ : ∃ t, t = twoB n x y := ⟨_, rfl⟩
  have HN := Lib.hid hnn; clear hnn
  go_enter Try.func62, Try.ntmps62
  cases t
  · have HT := Lib.hid ht; clear ht
    go_wp2_with (go_at_call 44; refine (two44 br n x y _ hc0).mono ?_; rintro _ w1 ⟨rfl, hw1⟩; obtain rfl := hw1.symm; rw [← HT.out])
    all_goals try go_wp2
    go_ret
    have htw : twoB N.n x y = false := by rw [← HN.out]; exact HT.out.symm
    refine ⟨by simp [turnE, htw], ?_⟩
    rw [show refSetN N x y c = N by unfold refSetN cutN healN; simp [htw]]
    exact h'.step (Mod.refl _ _)
  · have hb := way_in ht.symm
    have hb2 := of_decide_eq_true ht.symm
    obtain ⟨i, hi⟩ : ∃ i : Nat, (x - 1) * n + y - 1 = i := ⟨((x - 1) * n + y - 1).toNat, by omega⟩
    have hil : i < (n * n).toNat := by omega
    have hm1 : -9223372036854775808 ≤ (x - 1) * n ∧ (x - 1) * n ≤ 9223372036854775807 := by omega
    have hx1 : -9223372036854775808 ≤ x - 1 ∧ x - 1 ≤ 9223372036854775807 := by omega
    have hx2 : -9223372036854775808 ≤ (x - 1) * n + y ∧ (x - 1) * n + y ≤ 9223372036854775807 := by omega
    have hx3 : -9223372036854775808 ≤ (x - 1) * n + y - 1 ∧ (x - 1) * n + y - 1 ≤ 9223372036854775807 := by omega
    have HT := Lib.hid ht; have HI := Lib.hid hi; clear ht hi
    go_upto_region 3 with (go_at_call 44; refine (two44 br n x y _ hc0).mono ?_; rintro _ w1 ⟨rfl, hw1⟩; obtain rfl := hw1.symm; rw [← HT.out])
    have hS : Mod NoB w w.drew := (Mod.refl _ _).drew
    refine wp_region_pi [(0, 3), (1, 3), (2, 3), (3, 0), (4, 3), (5, 3), (6, 3), (7, 3), (8, 3), (9, 0), (10, 3), (11, 3), (12, 3), (13, 3), (14, 3), (15, 3), (16, 2)] [16] (fun w' => Mod NoB w w') (by kernel_rfl) (by kernel_rfl) (by kernel_rfl) (by kernel_rfl) (fun _ _ _ _ hd h => ⟨hd.trans h.1, h.2⟩) hS ?_
    simp only [List.map_cons, List.map_nil, List.getD_cons_zero, List.getD_cons_succ]
    refine wpPi_move _ rfl rfl ?_
    simp only [pl, pn, el, ec, sz, ss, gz, gs, if_true, if_false, Bool.false_eq_true, Bool.not_true, Bool.not_false, Nat.add_zero, Nat.zero_add, Nat.reduceAdd]
    refine wpPi_nilCheck _ _ rfl rfl rfl ?_
    simp only [pl, pn, el, ec, sz, ss, gz, gs, if_true, if_false, Bool.false_eq_true, Bool.not_true, Bool.not_false, Nat.add_zero, Nat.zero_add, Nat.reduceAdd]
    refine wpPi_field _ _ _ _ _ _ rfl rfl rfl fo_46_3 ?_
    simp only [pl, pn, el, ec, sz, ss, gz, gs, if_true, if_false, Bool.false_eq_true, Bool.not_true, Bool.not_false, Nat.add_zero, Nat.zero_add, Nat.reduceAdd]
    refine wpPi_val rfl (fun w' hS => exec_load1 _ _ rfl _ _ rfl _ (hS.cell id hc3) _ Try.underlying44 rfl) ?_
    simp only [pl, pn, el, ec, sz, ss, gz, gs, if_true, if_false, Bool.false_eq_true, Bool.not_true, Bool.not_false, Nat.add_zero, Nat.zero_add, Nat.reduceAdd]
    refine wpPi_move _ rfl rfl ?_
    simp only [pl, pn, el, ec, sz, ss, gz, gs, if_true, if_false, Bool.false_eq_true, Bool.not_true, Bool.not_false, Nat.add_zero, Nat.zero_add, Nat.reduceAdd]
    refine wpPi_sub _ _ _ _ _ _ rfl rfl rfl rfl hx1.1 hx1.2 ?_
    simp only [pl, pn, el, ec, sz, ss, gz, gs, if_true, if_false, Bool.false_eq_true, Bool.not_true, Bool.not_false, Nat.add_zero, Nat.zero_add, Nat.reduceAdd]
    refine wpPi_move _ rfl rfl ?_
    simp only [pl, pn, el, ec, sz, ss, gz, gs, if_true, if_false, Bool.false_eq_true, Bool.not_true, Bool.not_false, Nat.add_zero, Nat.zero_add, Nat.reduceAdd]
    refine wpPi_nilCheck _ _ rfl rfl rfl ?_
    simp only [pl, pn, el, ec, sz, ss, gz, gs, if_true, if_false, Bool.false_eq_true, Bool.not_true, Bool.not_false, Nat.add_zero, Nat.zero_add, Nat.reduceAdd]
    refine wpPi_field _ _ _ _ _ _ rfl rfl rfl fo_46_0 ?_
    simp only [pl, pn, el, ec, sz, ss, gz, gs, if_true, if_false, Bool.false_eq_true, Bool.not_true, Bool.not_false, Nat.add_zero, Nat.zero_add, Nat.reduceAdd]
    refine wpPi_val rfl (fun w' hS => exec_load1 _ _ rfl _ _ rfl _ (hS.cell id hc0) _ Try.underlying3 rfl) ?_
    simp only [pl, pn, el, ec, sz, ss, gz, gs, if_true, if_false, Bool.false_eq_true, Bool.not_true, Bool.not_false, Nat.add_zero, Nat.zero_add, Nat.reduceAdd]
    refine wpPi_mul _ _ _ _ _ _ rfl rfl rfl rfl hm1.1 hm1.2 ?_
    simp only [pl, pn, el, ec, sz, ss, gz, gs, if_true, if_false, Bool.false_eq_true, Bool.not_true, Bool.not_false, Nat.add_zero, Nat.zero_add, Nat.reduceAdd]
    refine wpPi_move _ rfl rfl ?_
    simp only [pl, pn, el, ec, sz, ss, gz, gs, if_true, if_false, Bool.false_eq_true, Bool.not_true, Bool.not_false, Nat.add_zero, Nat.zero_add, Nat.reduceAdd]
    refine wpPi_add _ _ _ _ _ _ rfl rfl rfl rfl hx2.1 hx2.2 ?_
    simp only [pl, pn, el, ec, sz, ss, gz, gs, if_true, if_false, Bool.false_eq_true, Bool.not_true, Bool.not_false, Nat.add_zero, Nat.zero_add, Nat.reduceAdd]
    refine wpPi_sub _ _ _ _ _ _ rfl rfl rfl rfl hx3.1 hx3.2 ?_
    simp only [pl, pn, el, ec, sz, ss, gz, gs, if_true, if_false, Bool.false_eq_true, Bool.not_true, Bool.not_false, Nat.add_zero, Nat.zero_add, Nat.reduceAdd]
    refine wpPi_move _ rfl rfl ?_
    simp only [pl, pn, el, ec, sz, ss, gz, gs, if_true, if_false, Bool.false_eq_true, Bool.not_true, Bool.not_false, Nat.add_zero, Nat.zero_add, Nat.reduceAdd]
    refine wpPi_index _ _ _ _ _ _ _ _ i rfl rfl rfl (congrArg (Value.int .i64) HI.out) Try.underlying44 (n := 1) (by kernel_rfl) hil ?_
    simp only [pl, pn, el, ec, sz, ss, gz, gs, if_true, if_false, Bool.false_eq_true, Bool.not_true, Bool.not_false, Nat.add_zero, Nat.zero_add, Nat.reduceAdd]
    refine wpPi_last rfl (fun K hK => ?_)
    have ho1 := ho.keep hS id id
    refine wp_store1 4 _ _ bw (i * 1) (.bool c) (by rfl) (by rfl) (by rfl) rfl (by kernel_rfl) _ _ ho1.wobj (by rw [hws]; omega) (fun w2 hB2 hm2 => ?_)
    rw [Nat.mul_one] at hB2
    refine hK _ _ ?_
    clear hK K
    try simp only [pl, pn, el, ec, sz, ss, gz, gs, if_true, if_false, Bool.false_eq_true, Bool.not_true, Bool.not_false, Nat.add_zero, Nat.zero_add, Nat.reduceAdd]
    refine wpPi_nil ?_
    have htw : twoB N.n x y = true := by rw [← HN.out]; exact HT.out.symm
    have hok := ref_set_ok ho1 hne htw (by rw [← HN.out]; exact HI.out) c hB2 hm2
    have hM2 : Mod (fun k => k = bw) w w2 := (hS.mono (fun _ _ h => False.elim h)).trans hm2 (fun _ _ h => h)
    go_wp2
    go_ret
    refine ⟨by simp [turnE, htw], RStep.mk h' hRr hRw hne hok ?_ (fun g hgg => ⟨.inl (hg g hgg).1, (hg g hgg).2⟩) hM2 (fun k hk => by rw [show k = bw from hk]; exact hRw)⟩
    rw [refSetN_ls]
    exact (ha.keep hM2 (fun k hk => hk.1.2.2) (fun k hk => (hg k hk).2.2)).monoQ (fun k _ hk => ⟨.inl hk.1, hk.2⟩)

set_option maxRecDepth 10000 in
set_option maxHeartbeats 400000 in
theorem refCut_at (h : RefAt w0 w q N R) (x y : Int) : Calls Try.prog 33 #[q, .int .i64 x, .int .i64 y] w fun e w' => e = .returned (.int .i64 (turnE N x y)) ∧ RStep w0 w q R w' (cutN N x y) := by
  have hc := refSet_at h x y true
  go_enter Try.func33, Try.ntmps33
  go_wp2_with (go_at_call 62; refine hc.mono ?_; rintro _ w1 ⟨rfl, hs⟩)
  all_goals try go_wp2
  go_ret
  exact ⟨rfl, hs⟩
set_option maxRecDepth 10000 in
set_option maxHeartbeats 400000 in
theorem refHeal_at (h : RefAt w0 w q N R) (x y : Int) : Calls Try.prog 34 #[q, .int .i64 x, .int .i64 y] w fun e w' => e = .returned (.int .i64 (turnE N x y)) ∧ RStep w0 w q R w' (healN N x y) := by
  have hc := refSet_at h x y false
  go_enter Try.func34, Try.ntmps34
  go_wp2_with (go_at_call 62; refine hc.mono ?_; rintro _ w1 ⟨rfl, hs⟩)
  all_goals try go_wp2
  go_ret
  exact ⟨rfl, hs⟩
end
end Go.Proofs.Ytdllpakdhnanbaa
