/- The net's functions: New, Open, Len, Lost. -/
import Derived.Test.YtdllpakdhnanbaaNetG
namespace Go.Proofs.Ytdllpakdhnanbaa
set_option linter.unusedSimpArgs false
set_option linter.unusedVariables false
set_option linter.unnecessarySimpa false
open Go.RowKit

/-- What New tells. -/
def NewR (n : Int) (w : World) (e : Ending) (w' : World) : Prop :=
  (1 ≤ n ∧ n ≤ 16 ∧ ∃ bx mb, e = .returned (.tuple #[.pointer (some ⟨bx, 0, none⟩), .int .i64 0]) ∧ NetInv w' bx mb n 0 (fun _ => false) [] ∧ Mod NoB w w' ∧ New w w' bx ∧ New w w' mb) ∨
  (¬ (1 ≤ n ∧ n ≤ 16) ∧ e = .returned (.tuple #[.pointer none, .int .i64 3]) ∧ w' = w)

theorem new_inv {w w1 w2 : World} {n : Int} (hn : 1 ≤ n) (hm : w1.heap[w.heap.size]? = some (.map #[] 0))
    (hb : w2.heap[w1.heap.size]? = some (.cells #[.int .i64 n, .int .i64 0, .pointer none, .int .i64 0, .map (some w.heap.size)] 72 (0, 0))) (hm2 : Mod NoB w1 w2) :
    NetInv w2 w1.heap.size w.heap.size n 0 (fun _ => false) [] :=
  ⟨⟨hb, fun i hi => by simp at hi, fun x hx => by simp at hx, by simp, by simp⟩, ⟨[], ⟨⟨#[], 0, hm2.obj id hm, by simp [Keyed]⟩, by simp⟩, by simp⟩, fun x hx => by simp at hx, fun x hx => by simp at hx, fun x hx => by simp at hx, by simp, by simp, hn⟩

set_option maxRecDepth 10000 in
set_option maxHeartbeats 400000 in
theorem new_any (n : Int) (w : World) : Calls Try.prog 10 #[.int .i64 n] w (NewR n w) := by
  have hmm := @run_makeMap Try.prog
  go_enter Try.func10, Try.ntmps10
  by_cases hn : 1 ≤ n ∧ n ≤ 16
  · obtain ⟨h1, h2⟩ := hn
    go_upto_region 3 with (fail)
    refine wp_region_seq [3, 1, 1, 1, 3, 3] (fun _ => True) (by rfl) (by rfl) trivial ?_
    simp only [List.zip_cons_cons, List.zip_nil_right]
    refine wpPi_move _ rfl rfl ?_
    simp only [pl, pn, el, ec, sz, ss, gz, gs, if_true, if_false, Bool.false_eq_true, Bool.not_true, Bool.not_false, Nat.add_zero, Nat.zero_add, Nat.reduceAdd]
    refine wpPi_do rfl (fun K hK => ?_)
    unfold Oper.wp execOp
    simp only [Array.map_empty, Option.map_none, Sem.run_bind, hmm, Result.andThen_ok, Sem.run_pure]
    have hB := heap_alloc_new w (.map #[] 0)
    have hM := mod_alloc w (.map #[] 0)
    have hs : w.heap.size < (w.alloc (.map #[] 0)).heap.size := by simp
    generalize w.alloc (.map #[] 0) = w1 at hB hM hs ⊢
    refine hK _ _ trivial ?_
    clear hK K
    try simp only [pl, pn, el, ec, sz, ss, gz, gs, if_true, if_false, Bool.false_eq_true, Bool.not_true, Bool.not_false, Nat.add_zero, Nat.zero_add, Nat.reduceAdd]
    refine wpPi_do rfl (fun K hK => ?_)
    go_wp2
    refine hK _ _ trivial ?_
    clear hK K
    try simp only [pl, pn, el, ec, sz, ss, gz, gs, if_true, if_false, Bool.false_eq_true, Bool.not_true, Bool.not_false, Nat.add_zero, Nat.zero_add, Nat.reduceAdd]
    refine wpPi_do rfl (fun K hK => ?_)
    refine wp_box 72 _ _ (by rfl) (by rfl) (fun w2 hB2 hm2 hs2 => ?_)
    have hinv := new_inv h1 hB hB2 hm2
    have hM2 := hM.trans0 hm2
    refine hK _ _ trivial ?_
    clear hK K
    try simp only [pl, pn, el, ec, sz, ss, gz, gs, if_true, if_false, Bool.false_eq_true, Bool.not_true, Bool.not_false, Nat.add_zero, Nat.zero_add, Nat.reduceAdd]
    refine wpPi_assign _ rfl rfl ?_
    simp only [pl, pn, el, ec, sz, ss, gz, gs, if_true, if_false, Bool.false_eq_true, Bool.not_true, Bool.not_false, Nat.add_zero, Nat.zero_add, Nat.reduceAdd]
    refine wpPi_assign _ rfl rfl ?_
    simp only [pl, pn, el, ec, sz, ss, gz, gs, if_true, if_false, Bool.false_eq_true, Bool.not_true, Bool.not_false, Nat.add_zero, Nat.zero_add, Nat.reduceAdd]
    refine wpPi_nil ?_
    go_wp2
    go_ret2
    exact .inl ⟨h1, h2, _, _, rfl, hinv, hM2, ⟨by omega, by omega⟩, ⟨by omega, by omega⟩⟩
  · go_wp2
    all_goals
      go_ret2
      exact .inr ⟨hn, rfl, rfl⟩

section
variable {w : World} {bx mb : Nat} {n lost : Int} {cut : Int × Int → Bool} {its : List It}

set_option maxRecDepth 10000 in
set_option maxHeartbeats 400000 in
theorem len_any (h : NetInv w bx mb n lost cut its) : Calls Try.prog 16 #[.pointer (some ⟨bx, 0, none⟩)] w (RetE (.int .i64 its.length) w) := by
  have hc := h.cell
  have hn := h.hn0
  have hcl := hc.2.2.1
  go_enter Try.func16, Try.ntmps16
  go_wp2_with (go_at_call 40; refine (none_eq bx n w hc.1).mono ?_; rintro _ _ ⟨rfl, rfl⟩; simp only [hn])
  all_goals try go_wp2
  go_ret
  exact ⟨rfl, rfl⟩

set_option maxRecDepth 10000 in
set_option maxHeartbeats 400000 in
theorem lost_any (h : NetInv w bx mb n lost cut its) : Calls Try.prog 17 #[.pointer (some ⟨bx, 0, none⟩)] w (RetE (.int .i64 lost) w) := by
  have hc := h.cell
  have hn := h.hn0
  have hcl := hc.2.1
  go_enter Try.func17, Try.ntmps17
  go_wp2_with (go_at_call 40; refine (none_eq bx n w hc.1).mono ?_; rintro _ _ ⟨rfl, rfl⟩; simp only [hn])
  all_goals try go_wp2
  go_ret
  exact ⟨rfl, rfl⟩

/-- May a letter go that way? -/
def openB (n : Int) (cut : Int × Int → Bool) (a b : Int) : Bool := twoB n a b && !cut (a, b)

theorem exec_build_way {w : World} {o : Oper} {a : Act} (x y : Operand) (p q : Int) (ho : o.op = .build 84 #[(0, x), (1, y)]) (hx : a.eval x = .int .i64 p) (hy : a.eval y = .int .i64 q) :
    (execOp a.eval o).run Try.prog w = .ok (.value (wayV (p, q))) w := by
  unfold execOp
  simp only [ho]
  have h : (Instr.build 84 (Array.map (fun (x : Nat × Operand) => (x.1, a.eval x.2)) #[(0, x), (1, y)])).run Try.prog w = .ok (wayV (p, q)) w := by
    simp only [List.map_toArray, List.map_cons, List.map_nil, hx, hy]
    go_simp
    rfl
  simp only [Sem.run_bind, h, Result.andThen_ok, Sem.run_pure]

theorem exec_lookup_way {w : World} {o : Oper} {a : Act} (m k : Operand) (mb : Nat) (p : Int × Int) (ps : List (Int × Int)) (cut : Int × Int → Bool) (ho : o.op = .lookup 70 m k true) (hm : a.eval m = .map (some mb)) (hk : a.eval k = wayV p)
    (hM : MapW w mb ps) (hq : ∀ q, q ∈ ps ↔ cut q = true) : (execOp a.eval o).run Try.prog w = .ok (.value (.tuple #[.agg #[], .bool (cut p)])) w := by
  unfold execOp
  have e : decide (p ∈ ps) = cut p := by
    have := hq p
    cases hc : cut p
    · simp only [hc] at this; simpa using this
    · simp only [hc] at this; simpa using this
  simp only [ho, hm, hk, Sem.run_bind, run_lookup_way hM p, Result.andThen_ok, Sem.run_pure, e]

set_option maxRecDepth 10000 in
set_option maxHeartbeats 800000 in
theorem open_any (h : NetInv w bx mb n lost cut its) (p q : Int) : Calls Try.prog 26 #[.pointer (some ⟨bx, 0, none⟩), .int .i64 p, .int .i64 q] w (RetM (.bool (openB n cut p q)) w) := by
  have hc := h.cell
  have hn := h.hn0
  obtain ⟨ps, hps, hq⟩ := h.map
  go_enter Try.func26, Try.ntmps26
  go_upto_region 3 with (go_at_call 40; refine (none_eq bx n w hc.1).mono ?_; rintro _ w1 ⟨rfl, hw1⟩; obtain rfl := hw1.symm; simp only [hn])
  refine wp_region_seq [3, 3, 3, 1, 3, 3, 1, 1, 3, 1, 1, 1, 1, 3] (fun _ => True) (by rfl) (by rfl) trivial ?_
  simp only [List.zip_cons_cons, List.zip_nil_right]
  refine wpPi_move _ rfl rfl ?_
  simp only [pl, pn, el, ec, sz, ss, gz, gs, if_true, if_false, Bool.false_eq_true, Bool.not_true, Bool.not_false, Nat.add_zero, Nat.zero_add, Nat.reduceAdd]
  refine wpPi_nilCheck _ _ rfl rfl rfl ?_
  simp only [pl, pn, el, ec, sz, ss, gz, gs, if_true, if_false, Bool.false_eq_true, Bool.not_true, Bool.not_false, Nat.add_zero, Nat.zero_add, Nat.reduceAdd]
  refine wpPi_field _ _ _ _ _ _ rfl rfl rfl fo_72_3 ?_
  simp only [pl, pn, el, ec, sz, ss, gz, gs, if_true, if_false, Bool.false_eq_true, Bool.not_true, Bool.not_false, Nat.add_zero, Nat.zero_add, Nat.reduceAdd]
  refine wpPi_do rfl (fun K hK => ?_)
  refine wp_exec (exec_load1 70 _ (by rfl) bx 4 (by rfl) _ hc.2.2.2 _ Try.underlying70 rfl) ?_
  refine hK _ _ trivial ?_
  clear hK K
  try simp only [pl, pn, el, ec, sz, ss, gz, gs, if_true, if_false, Bool.false_eq_true, Bool.not_true, Bool.not_false, Nat.add_zero, Nat.zero_add, Nat.reduceAdd]
  refine wpPi_move _ rfl rfl ?_
  simp only [pl, pn, el, ec, sz, ss, gz, gs, if_true, if_false, Bool.false_eq_true, Bool.not_true, Bool.not_false, Nat.add_zero, Nat.zero_add, Nat.reduceAdd]
  refine wpPi_move _ rfl rfl ?_
  simp only [pl, pn, el, ec, sz, ss, gz, gs, if_true, if_false, Bool.false_eq_true, Bool.not_true, Bool.not_false, Nat.add_zero, Nat.zero_add, Nat.reduceAdd]
  refine wpPi_do rfl (fun K hK => ?_)
  refine wp_exec (exec_build_way _ _ p q (by rfl) (by rfl) (by rfl)) ?_
  refine hK _ _ trivial ?_
  clear hK K
  try simp only [pl, pn, el, ec, sz, ss, gz, gs, if_true, if_false, Bool.false_eq_true, Bool.not_true, Bool.not_false, Nat.add_zero, Nat.zero_add, Nat.reduceAdd]
  refine wpPi_do rfl (fun K hK => ?_)
  refine wp_exec (exec_lookup_way _ _ mb (p, q) ps cut (by rfl) (by rfl) (by rfl) hps hq) ?_
  refine hK _ _ trivial ?_
  clear hK K
  try simp only [pl, pn, el, ec, sz, ss, gz, gs, if_true, if_false, Bool.false_eq_true, Bool.not_true, Bool.not_false, Nat.add_zero, Nat.zero_add, Nat.reduceAdd]
  refine wpPi_move _ rfl rfl ?_
  simp only [pl, pn, el, ec, sz, ss, gz, gs, if_true, if_false, Bool.false_eq_true, Bool.not_true, Bool.not_false, Nat.add_zero, Nat.zero_add, Nat.reduceAdd]
  refine wpPi_do rfl (fun K hK => ?_)
  go_wp2
  refine hK _ _ trivial ?_
  clear hK K
  try simp only [pl, pn, el, ec, sz, ss, gz, gs, if_true, if_false, Bool.false_eq_true, Bool.not_true, Bool.not_false, Nat.add_zero, Nat.zero_add, Nat.reduceAdd]
  refine wpPi_do rfl (fun K hK => ?_)
  go_wp2
  refine hK _ _ trivial ?_
  clear hK K
  try simp only [pl, pn, el, ec, sz, ss, gz, gs, if_true, if_false, Bool.false_eq_true, Bool.not_true, Bool.not_false, Nat.add_zero, Nat.zero_add, Nat.reduceAdd]
  refine wpPi_do rfl (fun K hK => ?_)
  refine wp_alloc 86 (.agg #[]) (by rfl) (by kernel_rfl) (fun w1 hB1 hM hs1 => ?_)
  replace hB1 : w1.heap[w.heap.size]? = some (.cells #[] 86 (0, 0)) := hB1
  refine hK _ _ trivial ?_
  clear hK K
  try simp only [pl, pn, el, ec, sz, ss, gz, gs, if_true, if_false, Bool.false_eq_true, Bool.not_true, Bool.not_false, Nat.add_zero, Nat.zero_add, Nat.reduceAdd]
  refine wpPi_do rfl (fun K hK => ?_)
  refine wp_storeA 86 _ _ w.heap.size 0 #[] (by rfl) (by rfl) (by rfl) (by simp) 0 (by kernel_rfl) rfl _ _ hB1 (by simp) (fun w2 hB2 hm2 => ?_)
  have hM2 : Mod NoB w w2 := hM.transB hm2 (Nat.le_refl _)
  refine hK _ _ trivial ?_
  clear hK K
  try simp only [pl, pn, el, ec, sz, ss, gz, gs, if_true, if_false, Bool.false_eq_true, Bool.not_true, Bool.not_false, Nat.add_zero, Nat.zero_add, Nat.reduceAdd]
  refine wpPi_assign _ rfl rfl ?_
  simp only [pl, pn, el, ec, sz, ss, gz, gs, if_true, if_false, Bool.false_eq_true, Bool.not_true, Bool.not_false, Nat.add_zero, Nat.zero_add, Nat.reduceAdd]
  refine wpPi_nil ?_
  have hc2 := (h.keep0 hM2).cell.1
  have ht : ∃ t, t = twoB n p q := ⟨_, rfl⟩
  obtain ⟨t, ht⟩ := ht
  have HT := Lib.hid ht; clear ht
  have hcu : ∃ t, t = cut (p, q) := ⟨_, rfl⟩
  obtain ⟨u, hu⟩ := hcu
  rw [← hu]
  have HU := Lib.hid hu; clear hu
  cases t <;> cases u
  all_goals
    go_wp2_with (go_at_call 41; refine (two_eq bx n p q w2 hc2).mono ?_; rintro _ w3 ⟨rfl, hw3⟩; obtain rfl := hw3.symm; rw [← HT.out])
    try go_wp2
    go_ret
    refine ⟨ret_bool ?_, hM2⟩
    unfold openB
    rw [← HT.out, ← HU.out]
    rfl
end
end Go.Proofs.Ytdllpakdhnanbaa
