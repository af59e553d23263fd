/- awake. -/
import Derived.Test.YtcfcahflkhgapaaGreatQE
namespace Go.Proofs.YtcfcahflkhgapaaGreat
set_option linter.unusedSimpArgs false
set_option linter.unusedVariables false
set_option linter.unnecessarySimpa false
set_option linter.unusedSectionVars false
open Go.RowKit Go.Shelf

def id1 : List UInt8 := 1 :: List.replicate 31 0
def id2 : List UInt8 := 2 :: List.replicate 31 0
def aN : ByteArray := ⟨#[97]⟩
theorem aN_sz : aN.size ≤ maxLen := by unfold maxLen; exact of_decide_eq_true rfl
theorem idZ : (Tryz.prog.info? 32).bind (·.zero) = some (.agg (idCells (List.replicate 32 0))) := by kernel_rfl
theorem built_one : Tryz.prog.built 32 [(0, .int .u8 1)] = some (idCells id1) := by kernel_rfl
theorem built_two : Tryz.prog.built 32 [(0, .int .u8 2)] = some (idCells id2) := by kernel_rfl
set_option maxRecDepth 10000 in
theorem one_any (w : World) : Calls Tryz.prog 41 #[] w (RetM (.agg (idCells id1)) w) := by
  go_enter Tryz.func41, Tryz.ntmps41
  go_upto_region 0 with (fail)
  refine wp_region_seq [1] (fun _ => True) (by rfl) (by rfl) trivial ?_
  simp only [List.zip_cons_cons, List.zip_nil_right]
  refine wpPi_do rfl (fun K hK => ?_)
  refine wp_alloc 32 _ (by rfl) idZ (fun w1 hB1 hm1 hs1 => ?_)
  replace hB1 : w1.heap[w.heap.size]? = some (.cells (idCells (List.replicate 32 0)) 32 (0, 0)) := hB1
  refine hK _ _ trivial ?_
  clear hK K
  try simp only [pl, pn, el, ec, sz, ss, gz, gs, if_true, if_false, Bool.false_eq_true, Bool.not_true, Bool.not_false, Nat.add_zero, Nat.zero_add, Nat.reduceAdd]
  refine wpPi_nil ?_
  go_upto_region 1 with (fail)
  refine wp_region_seq [1, 1] (fun _ => True) (by rfl) (by rfl) trivial ?_
  simp only [List.zip_cons_cons, List.zip_nil_right]
  refine wpPi_do rfl (fun K hK => ?_)
  refine wp_exec (exec_build_of 32 [(0, .const (.int .u8 1))] [(0, .int .u8 1)] (idCells id1) (by rfl) (by rfl) built_one) ?_
  refine hK _ _ trivial ?_
  clear hK K
  try simp only [pl, pn, el, ec, sz, ss, gz, gs, if_true, if_false, Bool.false_eq_true, Bool.not_true, Bool.not_false, Nat.add_zero, Nat.zero_add, Nat.reduceAdd]
  refine wpPi_do rfl (fun K hK => ?_)
  refine wp_storeA 32 _ _ w.heap.size 0 (idCells id1) (by rfl) (by rfl) (by rfl) (idCells_one _) 32 (by kernel_rfl) (by kernel_rfl) _ _ hB1 (by simp [idCells_size, id1]) (fun w2 hB2 hm2 => ?_)
  refine hK _ _ trivial ?_
  clear hK K
  try simp only [pl, pn, el, ec, sz, ss, gz, gs, if_true, if_false, Bool.false_eq_true, Bool.not_true, Bool.not_false, Nat.add_zero, Nat.zero_add, Nat.reduceAdd]
  refine wpPi_nil ?_
  rw [putRow_whole (by simp [idCells_size, id1])] at hB2
  go_wp2
  refine bodyPost_ret (results_cell_row rfl _ _ w.heap.size _ _ _ _ (by rfl) hB2 Tryz.underlying32 rfl (by kernel_rfl)) rfl ?_
  exact ⟨rfl, hm1.transB hm2 (Nat.le_refl _)⟩
set_option maxRecDepth 10000 in
theorem two_any (w : World) : Calls Tryz.prog 42 #[] w (RetM (.agg (idCells id2)) w) := by
  go_enter Tryz.func42, Tryz.ntmps42
  go_upto_region 0 with (fail)
  refine wp_region_seq [1] (fun _ => True) (by rfl) (by rfl) trivial ?_
  simp only [List.zip_cons_cons, List.zip_nil_right]
  refine wpPi_do rfl (fun K hK => ?_)
  refine wp_alloc 32 _ (by rfl) idZ (fun w1 hB1 hm1 hs1 => ?_)
  replace hB1 : w1.heap[w.heap.size]? = some (.cells (idCells (List.replicate 32 0)) 32 (0, 0)) := hB1
  refine hK _ _ trivial ?_
  clear hK K
  try simp only [pl, pn, el, ec, sz, ss, gz, gs, if_true, if_false, Bool.false_eq_true, Bool.not_true, Bool.not_false, Nat.add_zero, Nat.zero_add, Nat.reduceAdd]
  refine wpPi_nil ?_
  go_upto_region 1 with (fail)
  refine wp_region_seq [1, 1] (fun _ => True) (by rfl) (by rfl) trivial ?_
  simp only [List.zip_cons_cons, List.zip_nil_right]
  refine wpPi_do rfl (fun K hK => ?_)
  refine wp_exec (exec_build_of 32 [(0, .const (.int .u8 2))] [(0, .int .u8 2)] (idCells id2) (by rfl) (by rfl) built_two) ?_
  refine hK _ _ trivial ?_
  clear hK K
  try simp only [pl, pn, el, ec, sz, ss, gz, gs, if_true, if_false, Bool.false_eq_true, Bool.not_true, Bool.not_false, Nat.add_zero, Nat.zero_add, Nat.reduceAdd]
  refine wpPi_do rfl (fun K hK => ?_)
  refine wp_storeA 32 _ _ w.heap.size 0 (idCells id2) (by rfl) (by rfl) (by rfl) (idCells_one _) 32 (by kernel_rfl) (by kernel_rfl) _ _ hB1 (by simp [idCells_size, id2]) (fun w2 hB2 hm2 => ?_)
  refine hK _ _ trivial ?_
  clear hK K
  try simp only [pl, pn, el, ec, sz, ss, gz, gs, if_true, if_false, Bool.false_eq_true, Bool.not_true, Bool.not_false, Nat.add_zero, Nat.zero_add, Nat.reduceAdd]
  refine wpPi_nil ?_
  rw [putRow_whole (by simp [idCells_size, id2])] at hB2
  go_wp2
  refine bodyPost_ret (results_cell_row rfl _ _ w.heap.size _ _ _ _ (by rfl) hB2 Tryz.underlying32 rfl (by kernel_rfl)) rfl ?_
  exact ⟨rfl, hm1.transB hm2 (Nat.le_refl _)⟩

section
variable {w0 w : World} {p : Value} {limit : Int} {l : LinkL}
theorem links_now (h : LkNow w0 w p limit l) (k : Key) (hk : KeyOk k) (hsz : k.1.size ≤ maxLen) (size : Int) (want : Bool) (err : Int) (b : Bool) (hb : decide ((addE true limit l k size).1 = want ∧ (addE true limit l k size).2 = err) = b) (l' : LinkL) (hl : addL true limit l k size = l') :
    Calls Tryz.prog 40 #[p, .string k.1, .agg (idCells k.2), .int .i64 size, .bool want, .int .i64 err] w (fun e w' => e = .returned (.bool b) ∧ LkNow w0 w' p limit l') := by
  obtain ⟨F, h⟩ := h
  subst hb hl
  exact (links_at h k hk hsz size want err).mono fun e w' ⟨he, hs⟩ => ⟨he, hs.now⟩
theorem use_now (h : LkNow w0 w p limit l) (r : ByteArray) (v : Int) (hv : useOf l r = v) : Calls Tryz.prog 38 #[p, .string r] w (fun e w' => e = .returned (.int .i64 v) ∧ LkNow w0 w' p limit l) := by
  obtain ⟨F, h⟩ := h
  subst hv
  refine (use_at h r).mono ?_
  rintro e w' ⟨rfl, rfl⟩
  exact ⟨rfl, F, h⟩
theorem has_now (h : LkNow w0 w p limit l) (k : Key) (hk : KeyOk k) (b : Bool) (hb : (getL k l).isSome = b) : Calls Tryz.prog 17 #[p, .string k.1, .agg (idCells k.2)] w (fun e w' => e = .returned (.bool b) ∧ LkNow w0 w' p limit l) := by
  obtain ⟨F, h⟩ := h
  subst hb
  refine (has_at h k hk).mono ?_
  rintro e w' ⟨rfl, hm⟩
  exact ⟨rfl, F, h.keep0 hm⟩
theorem new_now (n : Int) (w0 : World) (hn : 0 ≤ n ∧ n ≤ 1099511627776) (w : World) (hM : Mod NoB w0 w) : Calls Tryz.prog 4 #[.int .i64 n] w fun e w' => ∃ b, e = .returned (.tuple #[.pointer (some ⟨b, 0, none⟩), .int .i64 0]) ∧ LkNow w0 w' (.pointer (some ⟨b, 0, none⟩)) n [] := by
  refine (new_at n w0 hn w hM).mono ?_
  rintro e w' ⟨b, F, rfl, h, _⟩
  exact ⟨b, rfl, F, h⟩
end

def lA : LinkL := [((aN, id1), 6)]
theorem ex1 : decide ((addE true 10 [] (aN, id1) 6).1 = true ∧ (addE true 10 [] (aN, id1) 6).2 = 0) = true := by kernel_rfl
theorem ex1' : addL true 10 [] (aN, id1) 6 = lA := by kernel_rfl
theorem ex2 : decide ((addE true 10 lA (aN, id1) 6).1 = false ∧ (addE true 10 lA (aN, id1) 6).2 = 0) = true := by kernel_rfl
theorem ex2' : addL true 10 lA (aN, id1) 6 = lA := by kernel_rfl
theorem ex3 : decide ((addE true 10 lA (aN, id2) 5).1 = false ∧ (addE true 10 lA (aN, id2) 5).2 = 11) = true := by kernel_rfl
theorem ex3' : addL true 10 lA (aN, id2) 5 = lA := by kernel_rfl
theorem ex4 : useOf lA aN = 6 := by kernel_rfl
theorem ex5 : (getL (aN, id1) lA).isSome = true := by kernel_rfl

set_option maxRecDepth 10000 in
set_option maxHeartbeats 1000000 in
theorem awake_any (w : World) : Calls Tryz.prog 24 #[] w (RetM (.bool true) w) := by
  go_enter Tryz.func24, Tryz.ntmps24
  go_upto_region 1 with (fail)
  refine wp_region_seq [1, 3, 3, 3, 3, 3] (fun _ => True) (by rfl) (by rfl) trivial ?_
  simp only [List.zip_cons_cons, List.zip_nil_right]
  refine wpPi_do rfl (fun K hK => ?_)
  go_wp2_with (go_at_call 4; refine (new_now 10 w ⟨by decide, by decide⟩ w (Mod.refl _ _)).mono ?_; rintro _ w1 ⟨b, rfl, hN⟩)
  refine hK _ _ trivial ?_
  clear hK K
  try simp only [pl, pn, el, ec, sz, ss, gz, gs, if_true, if_false, Bool.false_eq_true, Bool.not_true, Bool.not_false, Nat.add_zero, Nat.zero_add, Nat.reduceAdd]
  refine wpPi_move _ rfl rfl ?_
  simp only [pl, pn, el, ec, sz, ss, gz, gs, if_true, if_false, Bool.false_eq_true, Bool.not_true, Bool.not_false, Nat.add_zero, Nat.zero_add, Nat.reduceAdd]
  refine wpPi_any (v := ?_) rfl (fun w' => ?_) ?_; rotate_left; · (go_simp; try with_reducible rfl)
  simp only [pl, pn, el, ec, sz, ss, gz, gs, if_true, if_false, Bool.false_eq_true, Bool.not_true, Bool.not_false, Nat.add_zero, Nat.zero_add, Nat.reduceAdd]
  refine wpPi_any (v := ?_) rfl (fun w' => ?_) ?_; rotate_left; · (go_simp; try with_reducible rfl)
  simp only [pl, pn, el, ec, sz, ss, gz, gs, if_true, if_false, Bool.false_eq_true, Bool.not_true, Bool.not_false, Nat.add_zero, Nat.zero_add, Nat.reduceAdd]
  refine wpPi_assign _ rfl rfl ?_
  simp only [pl, pn, el, ec, sz, ss, gz, gs, if_true, if_false, Bool.false_eq_true, Bool.not_true, Bool.not_false, Nat.add_zero, Nat.zero_add, Nat.reduceAdd]
  refine wpPi_assign _ rfl rfl ?_
  simp only [pl, pn, el, ec, sz, ss, gz, gs, if_true, if_false, Bool.false_eq_true, Bool.not_true, Bool.not_false, Nat.add_zero, Nat.zero_add, Nat.reduceAdd]
  refine wpPi_nil ?_
  go_upto_region 2 with (fail)
  refine wp_region_seq [3, 3, 3, 3, 3, 3, 3, 3, 1, 1, 3, 3, 3, 1, 1, 3, 3, 3, 1, 1, 3, 3, 3, 1, 3, 3, 3, 3, 1, 1, 3, 3] (fun _ => True) (by rfl) (by rfl) trivial ?_
  simp only [List.zip_cons_cons, List.zip_nil_right]
  refine wpPi_move _ rfl rfl ?_
  simp only [pl, pn, el, ec, sz, ss, gz, gs, if_true, if_false, Bool.false_eq_true, Bool.not_true, Bool.not_false, Nat.add_zero, Nat.zero_add, Nat.reduceAdd]
  refine wpPi_cmp _ _ _ _ _ _ _ _ rfl rfl rfl rfl rfl true (by rfl) ?_
  simp only [pl, pn, el, ec, sz, ss, gz, gs, if_true, if_false, Bool.false_eq_true, Bool.not_true, Bool.not_false, Nat.add_zero, Nat.zero_add, Nat.reduceAdd]
  refine wpPi_move _ rfl rfl ?_
  simp only [pl, pn, el, ec, sz, ss, gz, gs, if_true, if_false, Bool.false_eq_true, Bool.not_true, Bool.not_false, Nat.add_zero, Nat.zero_add, Nat.reduceAdd]
  refine wpPi_move _ rfl rfl ?_
  simp only [pl, pn, el, ec, sz, ss, gz, gs, if_true, if_false, Bool.false_eq_true, Bool.not_true, Bool.not_false, Nat.add_zero, Nat.zero_add, Nat.reduceAdd]
  refine wpPi_any (v := ?_) rfl (fun w' => ?_) ?_; rotate_left; · (go_simp; try with_reducible rfl)
  simp only [pl, pn, el, ec, sz, ss, gz, gs, if_true, if_false, Bool.false_eq_true, Bool.not_true, Bool.not_false, Nat.add_zero, Nat.zero_add, Nat.reduceAdd]
  refine wpPi_pick _ _ _ _ rfl rfl rfl ?_
  simp only [pl, pn, el, ec, sz, ss, gz, gs, if_true, if_false, Bool.false_eq_true, Bool.not_true, Bool.not_false, Nat.add_zero, Nat.zero_add, Nat.reduceAdd]
  refine wpPi_move _ rfl rfl ?_
  simp only [pl, pn, el, ec, sz, ss, gz, gs, if_true, if_false, Bool.false_eq_true, Bool.not_true, Bool.not_false, Nat.add_zero, Nat.zero_add, Nat.reduceAdd]
  refine wpPi_move _ rfl rfl ?_
  simp only [pl, pn, el, ec, sz, ss, gz, gs, if_true, if_false, Bool.false_eq_true, Bool.not_true, Bool.not_false, Nat.add_zero, Nat.zero_add, Nat.reduceAdd]
  refine wpPi_do rfl (fun K hK => ?_)
  go_wp2_with (go_at_call 41; refine (one_any _).mono ?_; rintro _ w2 ⟨rfl, hm⟩)
  replace hN := hN.keep0 hm
  refine hK _ _ trivial ?_
  clear hK K hm
  try simp only [pl, pn, el, ec, sz, ss, gz, gs, if_true, if_false, Bool.false_eq_true, Bool.not_true, Bool.not_false, Nat.add_zero, Nat.zero_add, Nat.reduceAdd]
  refine wpPi_do rfl (fun K hK => ?_)
  go_wp2_with (go_at_call 40; refine (links_now hN (aN, id1) rfl aN_sz 6 true 0 true ex1 lA ex1').mono ?_; rintro _ w3 ⟨rfl, hN3⟩)
  clear hN; have hN := hN3; clear hN3
  refine hK _ _ trivial ?_
  clear hK K
  try simp only [pl, pn, el, ec, sz, ss, gz, gs, if_true, if_false, Bool.false_eq_true, Bool.not_true, Bool.not_false, Nat.add_zero, Nat.zero_add, Nat.reduceAdd]
  refine wpPi_pick _ _ _ _ rfl rfl rfl ?_
  simp only [pl, pn, el, ec, sz, ss, gz, gs, if_true, if_false, Bool.false_eq_true, Bool.not_true, Bool.not_false, Nat.add_zero, Nat.zero_add, Nat.reduceAdd]
  refine wpPi_move _ rfl rfl ?_
  simp only [pl, pn, el, ec, sz, ss, gz, gs, if_true, if_false, Bool.false_eq_true, Bool.not_true, Bool.not_false, Nat.add_zero, Nat.zero_add, Nat.reduceAdd]
  refine wpPi_move _ rfl rfl ?_
  simp only [pl, pn, el, ec, sz, ss, gz, gs, if_true, if_false, Bool.false_eq_true, Bool.not_true, Bool.not_false, Nat.add_zero, Nat.zero_add, Nat.reduceAdd]
  refine wpPi_do rfl (fun K hK => ?_)
  go_wp2_with (go_at_call 41; refine (one_any _).mono ?_; rintro _ w4 ⟨rfl, hm⟩)
  replace hN := hN.keep0 hm
  refine hK _ _ trivial ?_
  clear hK K hm
  try simp only [pl, pn, el, ec, sz, ss, gz, gs, if_true, if_false, Bool.false_eq_true, Bool.not_true, Bool.not_false, Nat.add_zero, Nat.zero_add, Nat.reduceAdd]
  refine wpPi_do rfl (fun K hK => ?_)
  go_wp2_with (go_at_call 40; refine (links_now hN (aN, id1) rfl aN_sz 6 false 0 true ex2 lA ex2').mono ?_; rintro _ w5 ⟨rfl, hN3⟩)
  clear hN; have hN := hN3; clear hN3
  refine hK _ _ trivial ?_
  clear hK K
  try simp only [pl, pn, el, ec, sz, ss, gz, gs, if_true, if_false, Bool.false_eq_true, Bool.not_true, Bool.not_false, Nat.add_zero, Nat.zero_add, Nat.reduceAdd]
  refine wpPi_pick _ _ _ _ rfl rfl rfl ?_
  simp only [pl, pn, el, ec, sz, ss, gz, gs, if_true, if_false, Bool.false_eq_true, Bool.not_true, Bool.not_false, Nat.add_zero, Nat.zero_add, Nat.reduceAdd]
  refine wpPi_move _ rfl rfl ?_
  simp only [pl, pn, el, ec, sz, ss, gz, gs, if_true, if_false, Bool.false_eq_true, Bool.not_true, Bool.not_false, Nat.add_zero, Nat.zero_add, Nat.reduceAdd]
  refine wpPi_move _ rfl rfl ?_
  simp only [pl, pn, el, ec, sz, ss, gz, gs, if_true, if_false, Bool.false_eq_true, Bool.not_true, Bool.not_false, Nat.add_zero, Nat.zero_add, Nat.reduceAdd]
  refine wpPi_do rfl (fun K hK => ?_)
  go_wp2_with (go_at_call 42; refine (two_any _).mono ?_; rintro _ w6 ⟨rfl, hm⟩)
  replace hN := hN.keep0 hm
  refine hK _ _ trivial ?_
  clear hK K hm
  try simp only [pl, pn, el, ec, sz, ss, gz, gs, if_true, if_false, Bool.false_eq_true, Bool.not_true, Bool.not_false, Nat.add_zero, Nat.zero_add, Nat.reduceAdd]
  refine wpPi_do rfl (fun K hK => ?_)
  go_wp2_with (go_at_call 40; refine (links_now hN (aN, id2) rfl aN_sz 5 false 11 true ex3 lA ex3').mono ?_; rintro _ w7 ⟨rfl, hN3⟩)
  clear hN; have hN := hN3; clear hN3
  refine hK _ _ trivial ?_
  clear hK K
  try simp only [pl, pn, el, ec, sz, ss, gz, gs, if_true, if_false, Bool.false_eq_true, Bool.not_true, Bool.not_false, Nat.add_zero, Nat.zero_add, Nat.reduceAdd]
  refine wpPi_pick _ _ _ _ rfl rfl rfl ?_
  simp only [pl, pn, el, ec, sz, ss, gz, gs, if_true, if_false, Bool.false_eq_true, Bool.not_true, Bool.not_false, Nat.add_zero, Nat.zero_add, Nat.reduceAdd]
  refine wpPi_move _ rfl rfl ?_
  simp only [pl, pn, el, ec, sz, ss, gz, gs, if_true, if_false, Bool.false_eq_true, Bool.not_true, Bool.not_false, Nat.add_zero, Nat.zero_add, Nat.reduceAdd]
  refine wpPi_move _ rfl rfl ?_
  simp only [pl, pn, el, ec, sz, ss, gz, gs, if_true, if_false, Bool.false_eq_true, Bool.not_true, Bool.not_false, Nat.add_zero, Nat.zero_add, Nat.reduceAdd]
  refine wpPi_do rfl (fun K hK => ?_)
  go_wp2_with (go_at_call 38; refine (use_now hN aN 6 ex4).mono ?_; rintro _ w8 ⟨rfl, hN3⟩)
  clear hN; have hN := hN3; clear hN3
  refine hK _ _ trivial ?_
  clear hK K
  try simp only [pl, pn, el, ec, sz, ss, gz, gs, if_true, if_false, Bool.false_eq_true, Bool.not_true, Bool.not_false, Nat.add_zero, Nat.zero_add, Nat.reduceAdd]
  refine wpPi_cmp _ _ _ _ _ _ _ _ rfl rfl rfl rfl rfl true (by rfl) ?_
  simp only [pl, pn, el, ec, sz, ss, gz, gs, if_true, if_false, Bool.false_eq_true, Bool.not_true, Bool.not_false, Nat.add_zero, Nat.zero_add, Nat.reduceAdd]
  refine wpPi_pick _ _ _ _ rfl rfl rfl ?_
  simp only [pl, pn, el, ec, sz, ss, gz, gs, if_true, if_false, Bool.false_eq_true, Bool.not_true, Bool.not_false, Nat.add_zero, Nat.zero_add, Nat.reduceAdd]
  refine wpPi_move _ rfl rfl ?_
  simp only [pl, pn, el, ec, sz, ss, gz, gs, if_true, if_false, Bool.false_eq_true, Bool.not_true, Bool.not_false, Nat.add_zero, Nat.zero_add, Nat.reduceAdd]
  refine wpPi_move _ rfl rfl ?_
  simp only [pl, pn, el, ec, sz, ss, gz, gs, if_true, if_false, Bool.false_eq_true, Bool.not_true, Bool.not_false, Nat.add_zero, Nat.zero_add, Nat.reduceAdd]
  refine wpPi_do rfl (fun K hK => ?_)
  go_wp2_with (go_at_call 41; refine (one_any _).mono ?_; rintro _ w9 ⟨rfl, hm⟩)
  replace hN := hN.keep0 hm
  refine hK _ _ trivial ?_
  clear hK K hm
  try simp only [pl, pn, el, ec, sz, ss, gz, gs, if_true, if_false, Bool.false_eq_true, Bool.not_true, Bool.not_false, Nat.add_zero, Nat.zero_add, Nat.reduceAdd]
  refine wpPi_do rfl (fun K hK => ?_)
  go_wp2_with (go_at_call 17; refine (has_now hN (aN, id1) rfl true ex5).mono ?_; rintro _ w10 ⟨rfl, hN3⟩)
  clear hN; have hN := hN3; clear hN3
  refine hK _ _ trivial ?_
  clear hK K
  try simp only [pl, pn, el, ec, sz, ss, gz, gs, if_true, if_false, Bool.false_eq_true, Bool.not_true, Bool.not_false, Nat.add_zero, Nat.zero_add, Nat.reduceAdd]
  refine wpPi_pick _ _ _ _ rfl rfl rfl ?_
  simp only [pl, pn, el, ec, sz, ss, gz, gs, if_true, if_false, Bool.false_eq_true, Bool.not_true, Bool.not_false, Nat.add_zero, Nat.zero_add, Nat.reduceAdd]
  refine wpPi_assign _ rfl rfl ?_
  simp only [pl, pn, el, ec, sz, ss, gz, gs, if_true, if_false, Bool.false_eq_true, Bool.not_true, Bool.not_false, Nat.add_zero, Nat.zero_add, Nat.reduceAdd]
  refine wpPi_nil ?_
  go_wp2
  go_ret
  exact ⟨rfl, hN.mod⟩
end Go.Proofs.YtcfcahflkhgapaaGreat
