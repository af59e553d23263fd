/- NetNone: its walk. -/
import Derived.Test.YtdllpakdhnanbaaNetN
import Derived.Test.YtdllpakdhnanbaaLawC
namespace Go.Proofs.Ytdllpakdhnanbaa
set_option linter.unusedSimpArgs false
set_option linter.unusedVariables false
set_option linter.unnecessarySimpa false
open Go.RowKit

def net0 : Array Value := #[.int .i64 0, .int .i64 0, .pointer none, .int .i64 0, .map none]
theorem exec_build_net {w : World} {o : Oper} {act : Act} (ho : o.op = .build 72 #[]) : (execOp act.eval o).run Try.prog w = .ok (.value (.agg net0)) w := by
  unfold execOp
  simp only [ho]
  have h := run_build (P := Try.prog) w 72 #[] net0 (by kernel_rfl)
  have e : (Array.map (fun (x : Nat × Operand) => (x.1, act.eval x.2)) #[]) = #[] := by simp
  simp only [e, Sem.run_bind, h, Result.andThen_ok, Sem.run_pure]
theorem fill_ptr (b : Nat) : Instr.fill (fun i => some (i * 1, 1)) (Array.map (fun x => (Value.pointer none).cells[x % (Value.pointer none).cells.size]!) (Array.range (2 * 1))) [(0, .pointer none), (1, .pointer (some ⟨b, 0, none⟩))] = some #[.pointer none, .pointer (some ⟨b, 0, none⟩)] := by kernel_rfl
theorem wp_ptrs {o : Oper} {act : Act} {w : World} {K : Act → World → Prop} {Q : Exit → Act → World → Prop} (y : Operand) (b : Nat) (ho : o.op = .buildSlice 73 2 #[(0, .const (.pointer none)), (1, y)]) (hy : act.eval y = .pointer (some ⟨b, 0, none⟩))
    (h : ∀ w', w'.heap[w.heap.size]? = some (.cells #[.pointer none, .pointer (some ⟨b, 0, none⟩)] 23 (0, 0)) → Mod NoB w w' → w.heap.size < w'.heap.size → K (act.put o.dst (.slice (some ⟨w.heap.size, 0, none⟩) 2 2)) w') : o.wp Try.prog act w K Q := by
  obtain ⟨i, hi, hz⟩ : ∃ i, Try.prog.info? 23 = some i ∧ i.zero = some (.pointer none) ∧ i.size = 1 := by
    have h : (Try.prog.info? 23).map (fun i => (i.zero, i.size)) = some (some (.pointer none), 1) := by kernel_rfl
    cases hi : Try.prog.info? 23 with
    | none => simp [hi] at h
    | some i => simp [hi] at h; exact ⟨i, rfl, h⟩
  refine wp_buildSlice 73 23 2 _ ho #[.pointer none, .pointer (some ⟨b, 0, none⟩)] i (.pointer none) Try.underlying73 hi hz.1 (by rw [hz.2]; omega) (by rw [hz.2]; omega) ?_ ?_
  · simp only [hz.2]
    have hc : act.eval (.const (.pointer none)) = .pointer none := rfl
    have e : (Array.map (fun (x : Nat × Operand) => (x.1, act.eval x.2)) #[(0, .const (.pointer none)), (1, y)]) = #[(0, .pointer none), (1, .pointer (some ⟨b, 0, none⟩))] := by simp only [List.map_toArray, List.map_cons, List.map_nil, hy, hc]
    have e' : (Array.map (fun (ix : Nat × Operand) => match ix with | (i, x) => (i, act.eval x)) #[(0, .const (.pointer none)), (1, y)]) = #[(0, .pointer none), (1, .pointer (some ⟨b, 0, none⟩))] := e
    rw [e']
    exact fill_ptr b
  · exact h _ (heap_alloc_new _ _) (mod_alloc _ _) (by simp)

def NoneRel (w w0 : World) (i : Value) (w' : World) : Prop := ∃ k : Nat, k ≤ 2 ∧ i = .int .i64 k ∧ Mod NoB w0 w' ∧ Mod NoB w w'

set_option maxRecDepth 10000 in
set_option maxHeartbeats 4000000 in
theorem netNone_any (w : World) (own : Bool) (E G : Nat → Prop) (cs : Array Value) (l : Ltr) (h : LetR own w E G cs l) (a b : Int) : Calls Try.prog 7 #[.agg cs, .int .i64 a, .int .i64 b] w (RetM (.bool true) w) := by
  have hsz := h.size
  go_enter Try.func7, Try.ntmps7
  go_upto_region 0 with (fail)
  refine wp_region_seq [1, 3] (fun _ => True) (by rfl) (by rfl) trivial ?_
  simp only [List.zip_cons_cons, List.zip_nil_right]
  refine wpPi_do rfl (fun K hK => ?_)
  refine wp_box 38 _ _ (by rfl) (by rfl) (fun w1 hB0 hM hs1 => ?_)
  replace hB0 : w1.heap[w.heap.size]? = some (.cells cs 38 (0, 0)) := hB0
  refine hK _ _ trivial ?_
  clear hK K
  try simp only [pl, pn, el, ec, sz, ss, gz, gs, if_true, if_false, Bool.false_eq_true, Bool.not_true, Bool.not_false, Nat.add_zero, Nat.zero_add, Nat.reduceAdd]
  refine wpPi_assign _ rfl rfl ?_
  simp only [pl, pn, el, ec, sz, ss, gz, gs, if_true, if_false, Bool.false_eq_true, Bool.not_true, Bool.not_false, Nat.add_zero, Nat.zero_add, Nat.reduceAdd]
  refine wpPi_nil ?_
  go_upto_region 1 with (fail)
  refine wp_region_seq [1, 1] (fun _ => True) (by rfl) (by rfl) trivial ?_
  simp only [List.zip_cons_cons, List.zip_nil_right]
  refine wpPi_do rfl (fun K hK => ?_)
  refine wp_exec (exec_loadA 38 _ (by rfl) w.heap.size 0 (by rfl) _ (CellsAt.whole hB0) _ Try.underlying38 rfl 40 (by kernel_rfl) hsz) ?_
  refine hK _ _ trivial ?_
  clear hK K
  try simp only [pl, pn, el, ec, sz, ss, gz, gs, if_true, if_false, Bool.false_eq_true, Bool.not_true, Bool.not_false, Nat.add_zero, Nat.zero_add, Nat.reduceAdd]
  refine wpPi_do rfl (fun K hK => ?_)
  go_wp2_with (go_at_call 38; refine (longLetter_any own E G cs l w1 (h.keep0 hM)).mono ?_; rintro _ w2 ⟨t, rfl, hm2, hsm⟩)
  refine hK _ _ trivial ?_
  clear hK K
  try simp only [pl, pn, el, ec, sz, ss, gz, gs, if_true, if_false, Bool.false_eq_true, Bool.not_true, Bool.not_false, Nat.add_zero, Nat.zero_add, Nat.reduceAdd]
  refine wpPi_nil ?_
  have hM2 := hM.trans0 hm2
  replace hB0 := hm2.obj id hB0
  cases t
  · have hok : LtrOk l := hsm rfl
    clear hsm
    go_upto_region 3 with (fail)
    refine wp_region_seq [1, 1, 1, 3] (fun _ => True) (by rfl) (by rfl) trivial ?_
    simp only [List.zip_cons_cons, List.zip_nil_right]
    refine wpPi_do rfl (fun K hK => ?_)
    refine wp_exec (exec_build_net (by rfl)) ?_
    refine hK _ _ trivial ?_
    clear hK K
    try simp only [pl, pn, el, ec, sz, ss, gz, gs, if_true, if_false, Bool.false_eq_true, Bool.not_true, Bool.not_false, Nat.add_zero, Nat.zero_add, Nat.reduceAdd]
    refine wpPi_do rfl (fun K hK => ?_)
    refine wp_box 72 _ _ (by rfl) (by rfl) (fun w3 hB3 hm3 hs3 => ?_)
    replace hB3 : w3.heap[w2.heap.size]? = some (.cells net0 72 (0, 0)) := hB3
    refine hK _ _ trivial ?_
    clear hK K
    try simp only [pl, pn, el, ec, sz, ss, gz, gs, if_true, if_false, Bool.false_eq_true, Bool.not_true, Bool.not_false, Nat.add_zero, Nat.zero_add, Nat.reduceAdd]
    refine wpPi_do rfl (fun K hK => ?_)
    refine wp_ptrs _ w2.heap.size (by rfl) (by rfl) (fun w4 hB4 hm4 hs4 => ?_)
    replace hB3 := hm4.obj id hB3
    refine hK _ _ trivial ?_
    clear hK K
    try simp only [pl, pn, el, ec, sz, ss, gz, gs, if_true, if_false, Bool.false_eq_true, Bool.not_true, Bool.not_false, Nat.add_zero, Nat.zero_add, Nat.reduceAdd]
    refine wpPi_assign _ rfl rfl ?_
    simp only [pl, pn, el, ec, sz, ss, gz, gs, if_true, if_false, Bool.false_eq_true, Bool.not_true, Bool.not_false, Nat.add_zero, Nat.zero_add, Nat.reduceAdd]
    refine wpPi_nil ?_
    have hM4 := (hM2.trans0 hm3).trans0 hm4
    replace hB0 := (hm3.trans0 hm4).obj id hB0
    have hnc : w4.cell? ⟨w2.heap.size, 0, none⟩ = some (.int .i64 0) := by rw [cell_of_row _ _ _ _ _ _ hB3]; rfl
    have hp0 : w4.cell? ⟨w3.heap.size, 0, none⟩ = some (.pointer none) := by rw [cell_of_row _ _ _ _ _ _ hB4]; rfl
    have hp1 : w4.cell? ⟨w3.heap.size, 1, none⟩ = some (.pointer (some ⟨w2.heap.size, 0, none⟩)) := by rw [cell_of_row _ _ _ _ _ _ hB4]; rfl
    clear hB3 hB4 hm3 hm4 hM2 hM hm2
    go_wp2
    go_loopw [8] (NoneRel w w4) (fun i _ => 2 - (intOf i).toNat)
    case atStart => exact ⟨0, by omega, rfl, Mod.refl _ _, hM4⟩
    case round =>
      obtain ⟨k, hk, rfl, hMr, hMw⟩ := hrel
      rename_i wr
      by_cases hlt : k < 2
      · obtain ⟨p, hp, hN⟩ : ∃ p, wr.cell? ⟨w3.heap.size, k * 1, none⟩ = some p ∧ NoneW wr p := by
          match k, hlt with
          | 0, _ => exact ⟨_, hMr.cell id hp0, .inl rfl⟩
          | 1, _ => exact ⟨_, hMr.cell id hp1, .inr ⟨_, rfl, hMr.cell id hnc⟩⟩
        have hB0r := hMr.obj id hB0
        have hz : zeroLet.size = 40 := (ltrCells_spec ltr0 _ _ _ (by rfl)).size
        have hzo : ∀ c ∈ zeroLet, c.oneCell' = true := ltrCells_one _ _ _ _ rfl rfl rfl
        go_upto_region 7 with (fail)
        refine wp_region_seq [3, 3, 3, 1, 3] (fun _ => True) (by rfl) (by rfl) trivial ?_
        simp only [List.zip_cons_cons, List.zip_nil_right]
        refine wpPi_move _ rfl rfl ?_
        simp only [pl, pn, el, ec, sz, ss, gz, gs, if_true, if_false, Bool.false_eq_true, Bool.not_true, Bool.not_false, Nat.add_zero, Nat.zero_add, Nat.reduceAdd]
        refine wpPi_move _ rfl rfl ?_
        simp only [pl, pn, el, ec, sz, ss, gz, gs, if_true, if_false, Bool.false_eq_true, Bool.not_true, Bool.not_false, Nat.add_zero, Nat.zero_add, Nat.reduceAdd]
        refine wpPi_index _ _ _ _ _ _ _ _ _ rfl rfl rfl rfl Try.underlying73 (n := 1) (by kernel_rfl) hlt ?_
        simp only [pl, pn, el, ec, sz, ss, gz, gs, if_true, if_false, Bool.false_eq_true, Bool.not_true, Bool.not_false, Nat.add_zero, Nat.zero_add, Nat.reduceAdd]
        refine wpPi_do rfl (fun K hK => ?_)
        refine wp_exec (exec_load1 23 _ (by rfl) _ _ (by rfl) _ hp _ Try.underlying23 rfl) ?_
        refine hK _ _ trivial ?_
        clear hK K
        try simp only [pl, pn, el, ec, sz, ss, gz, gs, if_true, if_false, Bool.false_eq_true, Bool.not_true, Bool.not_false, Nat.add_zero, Nat.zero_add, Nat.reduceAdd]
        refine wpPi_assign _ rfl rfl ?_
        simp only [pl, pn, el, ec, sz, ss, gz, gs, if_true, if_false, Bool.false_eq_true, Bool.not_true, Bool.not_false, Nat.add_zero, Nat.zero_add, Nat.reduceAdd]
        refine wpPi_nil ?_
        go_upto_region 8 with (fail)
        refine wp_region_seq [3, 1, 1, 3, 1, 1, 3, 3] (fun _ => True) (by rfl) (by rfl) trivial ?_
        simp only [List.zip_cons_cons, List.zip_nil_right]
        refine wpPi_move _ rfl rfl ?_
        simp only [pl, pn, el, ec, sz, ss, gz, gs, if_true, if_false, Bool.false_eq_true, Bool.not_true, Bool.not_false, Nat.add_zero, Nat.zero_add, Nat.reduceAdd]
        refine wpPi_do rfl (fun K hK => ?_)
        refine wp_exec (exec_loadA 38 _ (by rfl) w.heap.size 0 (by rfl) _ (CellsAt.whole hB0r) _ Try.underlying38 rfl 40 (by kernel_rfl) hsz) ?_
        refine hK _ _ trivial ?_
        clear hK K
        try simp only [pl, pn, el, ec, sz, ss, gz, gs, if_true, if_false, Bool.false_eq_true, Bool.not_true, Bool.not_false, Nat.add_zero, Nat.zero_add, Nat.reduceAdd]
        refine wpPi_do rfl (fun K hK => ?_)
        go_wp2_with (go_at_call 12; refine (send_no hN cs).mono ?_; rintro _ w5 ⟨rfl, hm5⟩)
        have hN5 := hN.keep0 hm5
        clear hN
        refine hK _ _ trivial ?_
        clear hK K
        try simp only [pl, pn, el, ec, sz, ss, gz, gs, if_true, if_false, Bool.false_eq_true, Bool.not_true, Bool.not_false, Nat.add_zero, Nat.zero_add, Nat.reduceAdd]
        refine wpPi_move _ rfl rfl ?_
        simp only [pl, pn, el, ec, sz, ss, gz, gs, if_true, if_false, Bool.false_eq_true, Bool.not_true, Bool.not_false, Nat.add_zero, Nat.zero_add, Nat.reduceAdd]
        refine wpPi_do rfl (fun K hK => ?_)
        go_wp2
        refine hK _ _ trivial ?_
        clear hK K
        try simp only [pl, pn, el, ec, sz, ss, gz, gs, if_true, if_false, Bool.false_eq_true, Bool.not_true, Bool.not_false, Nat.add_zero, Nat.zero_add, Nat.reduceAdd]
        refine wpPi_do rfl (fun K hK => ?_)
        go_wp2
        refine hK _ _ trivial ?_
        clear hK K
        try simp only [pl, pn, el, ec, sz, ss, gz, gs, if_true, if_false, Bool.false_eq_true, Bool.not_true, Bool.not_false, Nat.add_zero, Nat.zero_add, Nat.reduceAdd]
        refine wpPi_assign _ rfl rfl ?_
        simp only [pl, pn, el, ec, sz, ss, gz, gs, if_true, if_false, Bool.false_eq_true, Bool.not_true, Bool.not_false, Nat.add_zero, Nat.zero_add, Nat.reduceAdd]
        refine wpPi_assign _ rfl rfl ?_
        simp only [pl, pn, el, ec, sz, ss, gz, gs, if_true, if_false, Bool.false_eq_true, Bool.not_true, Bool.not_false, Nat.add_zero, Nat.zero_add, Nat.reduceAdd]
        refine wpPi_nil ?_
        go_upto_region 9 with (fail)
        refine wp_region_seq [3, 3, 1, 3, 1, 1, 1, 1, 3] (fun _ => True) (by rfl) (by rfl) trivial ?_
        simp only [List.zip_cons_cons, List.zip_nil_right]
        refine wpPi_move _ rfl rfl ?_
        simp only [pl, pn, el, ec, sz, ss, gz, gs, if_true, if_false, Bool.false_eq_true, Bool.not_true, Bool.not_false, Nat.add_zero, Nat.zero_add, Nat.reduceAdd]
        refine wpPi_move _ rfl rfl ?_
        simp only [pl, pn, el, ec, sz, ss, gz, gs, if_true, if_false, Bool.false_eq_true, Bool.not_true, Bool.not_false, Nat.add_zero, Nat.zero_add, Nat.reduceAdd]
        refine wpPi_do rfl (fun K hK => ?_)
        go_wp2_with (go_at_call 18; refine (take_no hN5 a).mono ?_; rintro _ wt ⟨rfl, hm6⟩)
        have hN6 := hN5.keep0 hm6
        clear hN5
        refine hK _ _ trivial ?_
        clear hK K
        try simp only [pl, pn, el, ec, sz, ss, gz, gs, if_true, if_false, Bool.false_eq_true, Bool.not_true, Bool.not_false, Nat.add_zero, Nat.zero_add, Nat.reduceAdd]
        refine wpPi_move _ rfl rfl ?_
        simp only [pl, pn, el, ec, sz, ss, gz, gs, if_true, if_false, Bool.false_eq_true, Bool.not_true, Bool.not_false, Nat.add_zero, Nat.zero_add, Nat.reduceAdd]
        refine wpPi_do rfl (fun K hK => ?_)
        go_wp2
        refine hK _ _ trivial ?_
        clear hK K
        try simp only [pl, pn, el, ec, sz, ss, gz, gs, if_true, if_false, Bool.false_eq_true, Bool.not_true, Bool.not_false, Nat.add_zero, Nat.zero_add, Nat.reduceAdd]
        refine wpPi_do rfl (fun K hK => ?_)
        go_wp2
        refine hK _ _ trivial ?_
        clear hK K
        try simp only [pl, pn, el, ec, sz, ss, gz, gs, if_true, if_false, Bool.false_eq_true, Bool.not_true, Bool.not_false, Nat.add_zero, Nat.zero_add, Nat.reduceAdd]
        refine wpPi_do rfl (fun K hK => ?_)
        refine wp_alloc 38 ltrZero (by rfl) zero38 (fun w7 hB7 hm7 hs7 => ?_)
        replace hB7 : w7.heap[wt.heap.size]? = some (.cells zeroLet 38 (0, 0)) := hB7
        refine hK _ _ trivial ?_
        clear hK K
        try simp only [pl, pn, el, ec, sz, ss, gz, gs, if_true, if_false, Bool.false_eq_true, Bool.not_true, Bool.not_false, Nat.add_zero, Nat.zero_add, Nat.reduceAdd]
        refine wpPi_do rfl (fun K hK => ?_)
        refine wp_storeA 38 _ _ wt.heap.size 0 zeroLet (by rfl) (by rfl) (by rfl) hzo 40 (by kernel_rfl) hz _ _ hB7 (by omega) (fun w8 hB6 hm8 => ?_)
        rw [putRow_whole rfl] at hB6
        have hmt : Mod NoB wt w8 := hm7.transB hm8 (by omega)
        have hN := hN6.keep0 hmt
        have hM : Mod NoB wr w8 := (hm5.trans0 hm6).trans0 hmt
        clear hN6 hmt hm7 hm8 hm5 hm6 hB7
        refine hK _ _ trivial ?_
        clear hK K
        try simp only [pl, pn, el, ec, sz, ss, gz, gs, if_true, if_false, Bool.false_eq_true, Bool.not_true, Bool.not_false, Nat.add_zero, Nat.zero_add, Nat.reduceAdd]
        refine wpPi_assign _ rfl rfl ?_
        simp only [pl, pn, el, ec, sz, ss, gz, gs, if_true, if_false, Bool.false_eq_true, Bool.not_true, Bool.not_false, Nat.add_zero, Nat.zero_add, Nat.reduceAdd]
        refine wpPi_nil ?_
        go_upto_region 10 with (fail)
        refine wp_region_seq [3, 3, 3, 3, 3, 3, 1, 1, 1, 3, 3, 3, 3, 3, 3, 3, 3, 3, 1, 3, 3, 3, 3, 3, 1, 3, 3, 3, 3, 3, 3, 1, 3, 3, 3, 3, 3, 3, 1, 3, 3, 3, 3, 3, 3, 1, 3, 3, 3, 1, 3, 3, 3, 3, 1, 3, 3, 3, 3, 1, 3, 3, 3] (fun _ => True) (by rfl) (by rfl) trivial ?_
        simp only [List.zip_cons_cons, List.zip_nil_right]
        refine wpPi_move _ rfl rfl ?_
        simp only [pl, pn, el, ec, sz, ss, gz, gs, if_true, if_false, Bool.false_eq_true, Bool.not_true, Bool.not_false, Nat.add_zero, Nat.zero_add, Nat.reduceAdd]
        refine wpPi_move _ rfl rfl ?_
        simp only [pl, pn, el, ec, sz, ss, gz, gs, if_true, if_false, Bool.false_eq_true, Bool.not_true, Bool.not_false, Nat.add_zero, Nat.zero_add, Nat.reduceAdd]
        refine wpPi_move _ rfl rfl ?_
        simp only [pl, pn, el, ec, sz, ss, gz, gs, if_true, if_false, Bool.false_eq_true, Bool.not_true, Bool.not_false, Nat.add_zero, Nat.zero_add, Nat.reduceAdd]
        refine wpPi_cmp _ _ _ _ _ _ _ _ rfl rfl rfl rfl rfl false (by rfl) ?_
        simp only [pl, pn, el, ec, sz, ss, gz, gs, if_true, if_false, Bool.false_eq_true, Bool.not_true, Bool.not_false, Nat.add_zero, Nat.zero_add, Nat.reduceAdd]
        refine wpPi_pick _ _ _ _ rfl rfl rfl ?_
        simp only [pl, pn, el, ec, sz, ss, gz, gs, if_true, if_false, Bool.false_eq_true, Bool.not_true, Bool.not_false, Nat.add_zero, Nat.zero_add, Nat.reduceAdd]
        refine wpPi_move _ rfl rfl ?_
        simp only [pl, pn, el, ec, sz, ss, gz, gs, if_true, if_false, Bool.false_eq_true, Bool.not_true, Bool.not_false, Nat.add_zero, Nat.zero_add, Nat.reduceAdd]
        refine wpPi_do rfl (fun K hK => ?_)
        refine wp_exec (exec_loadA 38 _ (by rfl) wt.heap.size 0 (by rfl) _ (CellsAt.whole hB6) _ Try.underlying38 rfl 40 (by kernel_rfl) hz) ?_
        refine hK _ _ trivial ?_
        clear hK K
        try simp only [pl, pn, el, ec, sz, ss, gz, gs, if_true, if_false, Bool.false_eq_true, Bool.not_true, Bool.not_false, Nat.add_zero, Nat.zero_add, Nat.reduceAdd]
        refine wpPi_do rfl (fun K hK => ?_)
        refine wp_exec (exec_build_zero (by rfl)) ?_
        refine hK _ _ trivial ?_
        clear hK K
        try simp only [pl, pn, el, ec, sz, ss, gz, gs, if_true, if_false, Bool.false_eq_true, Bool.not_true, Bool.not_false, Nat.add_zero, Nat.zero_add, Nat.reduceAdd]
        refine wpPi_do rfl (fun K hK => ?_)
        go_wp2_with (go_at_call 20; refine (sameLetter_any true true NoB NoB NoB NoB zeroLet zeroLet ltr0 ltr0 _ (LetR.zero _ _ _ _) (LetR.zero _ _ _ _)).mono ?_; rintro _ w9 ⟨rfl, hm9⟩; rw [decide_eq_true (rfl : ltr0 = ltr0)])
        have hN9 := hN.keep0 hm9
        have hM9 := hM.trans0 hm9
        clear hN hM hB6
        have hN := hN9
        have hM := hM9
        clear hN9 hM9 hm9
        refine hK _ _ trivial ?_
        clear hK K
        try simp only [pl, pn, el, ec, sz, ss, gz, gs, if_true, if_false, Bool.false_eq_true, Bool.not_true, Bool.not_false, Nat.add_zero, Nat.zero_add, Nat.reduceAdd]
        refine wpPi_not _ _ _ rfl rfl rfl ?_
        simp only [pl, pn, el, ec, sz, ss, gz, gs, if_true, if_false, Bool.false_eq_true, Bool.not_true, Bool.not_false, Nat.add_zero, Nat.zero_add, Nat.reduceAdd]
        refine wpPi_pick _ _ _ _ rfl rfl rfl ?_
        simp only [pl, pn, el, ec, sz, ss, gz, gs, if_true, if_false, Bool.false_eq_true, Bool.not_true, Bool.not_false, Nat.add_zero, Nat.zero_add, Nat.reduceAdd]
        refine wpPi_move _ rfl rfl ?_
        simp only [pl, pn, el, ec, sz, ss, gz, gs, if_true, if_false, Bool.false_eq_true, Bool.not_true, Bool.not_false, Nat.add_zero, Nat.zero_add, Nat.reduceAdd]
        refine wpPi_move _ rfl rfl ?_
        simp only [pl, pn, el, ec, sz, ss, gz, gs, if_true, if_false, Bool.false_eq_true, Bool.not_true, Bool.not_false, Nat.add_zero, Nat.zero_add, Nat.reduceAdd]
        refine wpPi_cmp _ _ _ _ _ _ _ _ rfl rfl rfl rfl rfl false (by rfl) ?_
        simp only [pl, pn, el, ec, sz, ss, gz, gs, if_true, if_false, Bool.false_eq_true, Bool.not_true, Bool.not_false, Nat.add_zero, Nat.zero_add, Nat.reduceAdd]
        refine wpPi_pick _ _ _ _ rfl rfl rfl ?_
        simp only [pl, pn, el, ec, sz, ss, gz, gs, if_true, if_false, Bool.false_eq_true, Bool.not_true, Bool.not_false, Nat.add_zero, Nat.zero_add, Nat.reduceAdd]
        refine wpPi_move _ rfl rfl ?_
        simp only [pl, pn, el, ec, sz, ss, gz, gs, if_true, if_false, Bool.false_eq_true, Bool.not_true, Bool.not_false, Nat.add_zero, Nat.zero_add, Nat.reduceAdd]
        refine wpPi_move _ rfl rfl ?_
        simp only [pl, pn, el, ec, sz, ss, gz, gs, if_true, if_false, Bool.false_eq_true, Bool.not_true, Bool.not_false, Nat.add_zero, Nat.zero_add, Nat.reduceAdd]
        refine wpPi_move _ rfl rfl ?_
        simp only [pl, pn, el, ec, sz, ss, gz, gs, if_true, if_false, Bool.false_eq_true, Bool.not_true, Bool.not_false, Nat.add_zero, Nat.zero_add, Nat.reduceAdd]
        refine wpPi_do rfl (fun K hK => ?_)
        go_wp2_with (go_at_call 28; refine (drop_no hN a).mono ?_; rintro _ w9 ⟨rfl, hw9⟩; obtain rfl := hw9.symm)
        refine hK _ _ trivial ?_
        clear hK K
        try simp only [pl, pn, el, ec, sz, ss, gz, gs, if_true, if_false, Bool.false_eq_true, Bool.not_true, Bool.not_false, Nat.add_zero, Nat.zero_add, Nat.reduceAdd]
        refine wpPi_cmp _ _ _ _ _ _ _ _ rfl rfl rfl rfl rfl false (by rfl) ?_
        simp only [pl, pn, el, ec, sz, ss, gz, gs, if_true, if_false, Bool.false_eq_true, Bool.not_true, Bool.not_false, Nat.add_zero, Nat.zero_add, Nat.reduceAdd]
        refine wpPi_pick _ _ _ _ rfl rfl rfl ?_
        simp only [pl, pn, el, ec, sz, ss, gz, gs, if_true, if_false, Bool.false_eq_true, Bool.not_true, Bool.not_false, Nat.add_zero, Nat.zero_add, Nat.reduceAdd]
        refine wpPi_move _ rfl rfl ?_
        simp only [pl, pn, el, ec, sz, ss, gz, gs, if_true, if_false, Bool.false_eq_true, Bool.not_true, Bool.not_false, Nat.add_zero, Nat.zero_add, Nat.reduceAdd]
        refine wpPi_move _ rfl rfl ?_
        simp only [pl, pn, el, ec, sz, ss, gz, gs, if_true, if_false, Bool.false_eq_true, Bool.not_true, Bool.not_false, Nat.add_zero, Nat.zero_add, Nat.reduceAdd]
        refine wpPi_move _ rfl rfl ?_
        simp only [pl, pn, el, ec, sz, ss, gz, gs, if_true, if_false, Bool.false_eq_true, Bool.not_true, Bool.not_false, Nat.add_zero, Nat.zero_add, Nat.reduceAdd]
        refine wpPi_do rfl (fun K hK => ?_)
        go_wp2_with (go_at_call 14; refine (copy_no hN a).mono ?_; rintro _ w9 ⟨rfl, hw9⟩; obtain rfl := hw9.symm)
        refine hK _ _ trivial ?_
        clear hK K
        try simp only [pl, pn, el, ec, sz, ss, gz, gs, if_true, if_false, Bool.false_eq_true, Bool.not_true, Bool.not_false, Nat.add_zero, Nat.zero_add, Nat.reduceAdd]
        refine wpPi_cmp _ _ _ _ _ _ _ _ rfl rfl rfl rfl rfl false (by rfl) ?_
        simp only [pl, pn, el, ec, sz, ss, gz, gs, if_true, if_false, Bool.false_eq_true, Bool.not_true, Bool.not_false, Nat.add_zero, Nat.zero_add, Nat.reduceAdd]
        refine wpPi_pick _ _ _ _ rfl rfl rfl ?_
        simp only [pl, pn, el, ec, sz, ss, gz, gs, if_true, if_false, Bool.false_eq_true, Bool.not_true, Bool.not_false, Nat.add_zero, Nat.zero_add, Nat.reduceAdd]
        refine wpPi_move _ rfl rfl ?_
        simp only [pl, pn, el, ec, sz, ss, gz, gs, if_true, if_false, Bool.false_eq_true, Bool.not_true, Bool.not_false, Nat.add_zero, Nat.zero_add, Nat.reduceAdd]
        refine wpPi_move _ rfl rfl ?_
        simp only [pl, pn, el, ec, sz, ss, gz, gs, if_true, if_false, Bool.false_eq_true, Bool.not_true, Bool.not_false, Nat.add_zero, Nat.zero_add, Nat.reduceAdd]
        refine wpPi_move _ rfl rfl ?_
        simp only [pl, pn, el, ec, sz, ss, gz, gs, if_true, if_false, Bool.false_eq_true, Bool.not_true, Bool.not_false, Nat.add_zero, Nat.zero_add, Nat.reduceAdd]
        refine wpPi_move _ rfl rfl ?_
        simp only [pl, pn, el, ec, sz, ss, gz, gs, if_true, if_false, Bool.false_eq_true, Bool.not_true, Bool.not_false, Nat.add_zero, Nat.zero_add, Nat.reduceAdd]
        refine wpPi_do rfl (fun K hK => ?_)
        go_wp2_with (go_at_call 25; refine (cut_no hN a b).mono ?_; rintro _ w9 ⟨rfl, hm9⟩)
        have hN9 := hN.keep0 hm9
        have hM9 := hM.trans0 hm9
        clear hN hM
        have hN := hN9
        have hM := hM9
        clear hN9 hM9 hm9
        refine hK _ _ trivial ?_
        clear hK K
        try simp only [pl, pn, el, ec, sz, ss, gz, gs, if_true, if_false, Bool.false_eq_true, Bool.not_true, Bool.not_false, Nat.add_zero, Nat.zero_add, Nat.reduceAdd]
        refine wpPi_cmp _ _ _ _ _ _ _ _ rfl rfl rfl rfl rfl false (by rfl) ?_
        simp only [pl, pn, el, ec, sz, ss, gz, gs, if_true, if_false, Bool.false_eq_true, Bool.not_true, Bool.not_false, Nat.add_zero, Nat.zero_add, Nat.reduceAdd]
        refine wpPi_pick _ _ _ _ rfl rfl rfl ?_
        simp only [pl, pn, el, ec, sz, ss, gz, gs, if_true, if_false, Bool.false_eq_true, Bool.not_true, Bool.not_false, Nat.add_zero, Nat.zero_add, Nat.reduceAdd]
        refine wpPi_move _ rfl rfl ?_
        simp only [pl, pn, el, ec, sz, ss, gz, gs, if_true, if_false, Bool.false_eq_true, Bool.not_true, Bool.not_false, Nat.add_zero, Nat.zero_add, Nat.reduceAdd]
        refine wpPi_move _ rfl rfl ?_
        simp only [pl, pn, el, ec, sz, ss, gz, gs, if_true, if_false, Bool.false_eq_true, Bool.not_true, Bool.not_false, Nat.add_zero, Nat.zero_add, Nat.reduceAdd]
        refine wpPi_move _ rfl rfl ?_
        simp only [pl, pn, el, ec, sz, ss, gz, gs, if_true, if_false, Bool.false_eq_true, Bool.not_true, Bool.not_false, Nat.add_zero, Nat.zero_add, Nat.reduceAdd]
        refine wpPi_move _ rfl rfl ?_
        simp only [pl, pn, el, ec, sz, ss, gz, gs, if_true, if_false, Bool.false_eq_true, Bool.not_true, Bool.not_false, Nat.add_zero, Nat.zero_add, Nat.reduceAdd]
        refine wpPi_do rfl (fun K hK => ?_)
        go_wp2_with (go_at_call 27; refine (heal_no hN a b).mono ?_; rintro _ w9 ⟨rfl, hm9⟩)
        have hN9 := hN.keep0 hm9
        have hM9 := hM.trans0 hm9
        clear hN hM
        have hN := hN9
        have hM := hM9
        clear hN9 hM9 hm9
        refine hK _ _ trivial ?_
        clear hK K
        try simp only [pl, pn, el, ec, sz, ss, gz, gs, if_true, if_false, Bool.false_eq_true, Bool.not_true, Bool.not_false, Nat.add_zero, Nat.zero_add, Nat.reduceAdd]
        refine wpPi_cmp _ _ _ _ _ _ _ _ rfl rfl rfl rfl rfl false (by rfl) ?_
        simp only [pl, pn, el, ec, sz, ss, gz, gs, if_true, if_false, Bool.false_eq_true, Bool.not_true, Bool.not_false, Nat.add_zero, Nat.zero_add, Nat.reduceAdd]
        refine wpPi_pick _ _ _ _ rfl rfl rfl ?_
        simp only [pl, pn, el, ec, sz, ss, gz, gs, if_true, if_false, Bool.false_eq_true, Bool.not_true, Bool.not_false, Nat.add_zero, Nat.zero_add, Nat.reduceAdd]
        refine wpPi_move _ rfl rfl ?_
        simp only [pl, pn, el, ec, sz, ss, gz, gs, if_true, if_false, Bool.false_eq_true, Bool.not_true, Bool.not_false, Nat.add_zero, Nat.zero_add, Nat.reduceAdd]
        refine wpPi_move _ rfl rfl ?_
        simp only [pl, pn, el, ec, sz, ss, gz, gs, if_true, if_false, Bool.false_eq_true, Bool.not_true, Bool.not_false, Nat.add_zero, Nat.zero_add, Nat.reduceAdd]
        refine wpPi_move _ rfl rfl ?_
        simp only [pl, pn, el, ec, sz, ss, gz, gs, if_true, if_false, Bool.false_eq_true, Bool.not_true, Bool.not_false, Nat.add_zero, Nat.zero_add, Nat.reduceAdd]
        refine wpPi_move _ rfl rfl ?_
        simp only [pl, pn, el, ec, sz, ss, gz, gs, if_true, if_false, Bool.false_eq_true, Bool.not_true, Bool.not_false, Nat.add_zero, Nat.zero_add, Nat.reduceAdd]
        refine wpPi_do rfl (fun K hK => ?_)
        go_wp2_with (go_at_call 26; refine (open_no hN a b).mono ?_; rintro _ w9 ⟨rfl, hw9⟩; obtain rfl := hw9.symm)
        refine hK _ _ trivial ?_
        clear hK K
        try simp only [pl, pn, el, ec, sz, ss, gz, gs, if_true, if_false, Bool.false_eq_true, Bool.not_true, Bool.not_false, Nat.add_zero, Nat.zero_add, Nat.reduceAdd]
        refine wpPi_pick _ _ _ _ rfl rfl rfl ?_
        simp only [pl, pn, el, ec, sz, ss, gz, gs, if_true, if_false, Bool.false_eq_true, Bool.not_true, Bool.not_false, Nat.add_zero, Nat.zero_add, Nat.reduceAdd]
        refine wpPi_move _ rfl rfl ?_
        simp only [pl, pn, el, ec, sz, ss, gz, gs, if_true, if_false, Bool.false_eq_true, Bool.not_true, Bool.not_false, Nat.add_zero, Nat.zero_add, Nat.reduceAdd]
        refine wpPi_move _ rfl rfl ?_
        simp only [pl, pn, el, ec, sz, ss, gz, gs, if_true, if_false, Bool.false_eq_true, Bool.not_true, Bool.not_false, Nat.add_zero, Nat.zero_add, Nat.reduceAdd]
        refine wpPi_do rfl (fun K hK => ?_)
        go_wp2_with (go_at_call 16; refine (len_no hN).mono ?_; rintro _ w9 ⟨rfl, hw9⟩; obtain rfl := hw9.symm)
        refine hK _ _ trivial ?_
        clear hK K
        try simp only [pl, pn, el, ec, sz, ss, gz, gs, if_true, if_false, Bool.false_eq_true, Bool.not_true, Bool.not_false, Nat.add_zero, Nat.zero_add, Nat.reduceAdd]
        refine wpPi_cmp _ _ _ _ _ _ _ _ rfl rfl rfl rfl rfl false (by rfl) ?_
        simp only [pl, pn, el, ec, sz, ss, gz, gs, if_true, if_false, Bool.false_eq_true, Bool.not_true, Bool.not_false, Nat.add_zero, Nat.zero_add, Nat.reduceAdd]
        refine wpPi_pick _ _ _ _ rfl rfl rfl ?_
        simp only [pl, pn, el, ec, sz, ss, gz, gs, if_true, if_false, Bool.false_eq_true, Bool.not_true, Bool.not_false, Nat.add_zero, Nat.zero_add, Nat.reduceAdd]
        refine wpPi_move _ rfl rfl ?_
        simp only [pl, pn, el, ec, sz, ss, gz, gs, if_true, if_false, Bool.false_eq_true, Bool.not_true, Bool.not_false, Nat.add_zero, Nat.zero_add, Nat.reduceAdd]
        refine wpPi_move _ rfl rfl ?_
        simp only [pl, pn, el, ec, sz, ss, gz, gs, if_true, if_false, Bool.false_eq_true, Bool.not_true, Bool.not_false, Nat.add_zero, Nat.zero_add, Nat.reduceAdd]
        refine wpPi_do rfl (fun K hK => ?_)
        go_wp2_with (go_at_call 17; refine (lost_no hN).mono ?_; rintro _ w9 ⟨rfl, hw9⟩; obtain rfl := hw9.symm)
        refine hK _ _ trivial ?_
        clear hK K
        try simp only [pl, pn, el, ec, sz, ss, gz, gs, if_true, if_false, Bool.false_eq_true, Bool.not_true, Bool.not_false, Nat.add_zero, Nat.zero_add, Nat.reduceAdd]
        refine wpPi_cmp _ _ _ _ _ _ _ _ rfl rfl rfl rfl rfl false (by rfl) ?_
        simp only [pl, pn, el, ec, sz, ss, gz, gs, if_true, if_false, Bool.false_eq_true, Bool.not_true, Bool.not_false, Nat.add_zero, Nat.zero_add, Nat.reduceAdd]
        refine wpPi_pick _ _ _ _ rfl rfl rfl ?_
        simp only [pl, pn, el, ec, sz, ss, gz, gs, if_true, if_false, Bool.false_eq_true, Bool.not_true, Bool.not_false, Nat.add_zero, Nat.zero_add, Nat.reduceAdd]
        refine wpPi_move _ rfl rfl ?_
        simp only [pl, pn, el, ec, sz, ss, gz, gs, if_true, if_false, Bool.false_eq_true, Bool.not_true, Bool.not_false, Nat.add_zero, Nat.zero_add, Nat.reduceAdd]
        refine wpPi_move _ rfl rfl ?_
        simp only [pl, pn, el, ec, sz, ss, gz, gs, if_true, if_false, Bool.false_eq_true, Bool.not_true, Bool.not_false, Nat.add_zero, Nat.zero_add, Nat.reduceAdd]
        refine wpPi_do rfl (fun K hK => ?_)
        go_wp2_with (go_at_call 35; refine (list_no hN).mono ?_; rintro _ w9 ⟨rfl, hw9⟩; obtain rfl := hw9.symm)
        refine hK _ _ trivial ?_
        clear hK K
        try simp only [pl, pn, el, ec, sz, ss, gz, gs, if_true, if_false, Bool.false_eq_true, Bool.not_true, Bool.not_false, Nat.add_zero, Nat.zero_add, Nat.reduceAdd]
        refine wpPi_len _ _ _ _ _ rfl rfl rfl (by kernel_rfl) ?_
        simp only [pl, pn, el, ec, sz, ss, gz, gs, if_true, if_false, Bool.false_eq_true, Bool.not_true, Bool.not_false, Nat.add_zero, Nat.zero_add, Nat.reduceAdd]
        refine wpPi_cmp _ _ _ _ _ _ _ _ rfl rfl rfl rfl rfl false (by rfl) ?_
        simp only [pl, pn, el, ec, sz, ss, gz, gs, if_true, if_false, Bool.false_eq_true, Bool.not_true, Bool.not_false, Nat.add_zero, Nat.zero_add, Nat.reduceAdd]
        refine wpPi_pick _ _ _ _ rfl rfl rfl ?_
        simp only [pl, pn, el, ec, sz, ss, gz, gs, if_true, if_false, Bool.false_eq_true, Bool.not_true, Bool.not_false, Nat.add_zero, Nat.zero_add, Nat.reduceAdd]
        refine wpPi_nil ?_
        go_wp2
        go_roundw
        case rel => exact ⟨k + 1, by omega, by go_num, hMr.trans0 hM, hMw.trans0 hM⟩
        case measure => simp [intOf]; omega
      · have hk2 : k = 2 := by omega
        subst hk2
        go_wp2_with (go_at_call 21; refine (awake_any wr).mono ?_; rintro _ w5 ⟨rfl, hm5⟩)
        try go_wp2
        go_ret
        exact ⟨rfl, hMw.trans0 hm5⟩
  · clear hsm
    go_wp2_with (go_at_call 21; refine (awake_any w2).mono ?_; rintro _ w3 ⟨rfl, hm3⟩)
    try go_wp2
    go_ret
    exact ⟨rfl, hM2.trans0 hm3⟩
end Go.Proofs.Ytdllpakdhnanbaa
