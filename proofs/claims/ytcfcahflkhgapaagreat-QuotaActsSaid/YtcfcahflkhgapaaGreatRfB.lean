/- The document's names: its walk. -/
import Derived.Test.YtcfcahflkhgapaaGreatNameR
import Derived.Test.YtcfcahflkhgapaaGreatNumZ
import Derived.Lib.RuneCountTail
namespace Go.Proofs.YtcfcahflkhgapaaGreat
set_option linter.unusedSimpArgs false
set_option linter.unusedVariables false
set_option linter.unnecessarySimpa false
set_option linter.unusedSectionVars false
open Go.RowKit

theorem fo_83_0 : fieldOff Tryz.prog 83 0 = some 0 := by kernel_rfl
theorem head_size {s : ByteArray} {n : Nat} (h : n ≤ s.size) : (s.extract 0 n).size = n := by
  rw [Lib.size_eq, Lib.extract_data, List.length_take, List.length_drop, ← Lib.size_eq]; omega
theorem head_get {s : ByteArray} {n j : Nat} (h : j < n) : (s.extract 0 n).get! j = s.get! j := by
  rw [← Lib.getD_get!', ← Lib.getD_get!', Lib.extract_data]
  simp [List.getD, List.getElem?_take, h]
theorem head_back {s : ByteArray} {n k : Nat} (h : n ≤ s.size) (hk : 1 ≤ k) : backB (s.extract 0 n) (s.extract 0 n).size k = backB s n k := by
  unfold backB
  rw [head_size h]
  split
  · rw [head_get (by omega)]
  · rfl
theorem backB_byte (s : ByteArray) (n k : Nat) : 0 ≤ backB s n k ∧ backB s n k ≤ 255 := by
  unfold backB
  split
  · have := (s.get! (n - k)).toNat_lt; omega
  · omega
theorem get_bang {s : ByteArray} {i : Nat} (h : i < s.size) : s.get! i = s[i] := by
  cases s with
  | mk d =>
    show d[i]! = d[i]
    rw [getElem!_pos d i h]
theorem exec_index_str {P : Program} {w : World} {o : Oper} {a : Act} (t : TypeId) (x y : Operand) (s : ByteArray) (i : Nat) (ho : o.op = .index t x y) (hx : a.eval x = .string s) (hy : a.eval y = .int .i64 (i : Int)) (ht : P.underlying t = some .string) (h : i < s.size)
    (v : Int) (hv : ((s.get! i).toNat : Int) = v) : (execOp a.eval o).run P w = .ok (.value (.int .u8 v)) w := by
  subst hv
  unfold execOp
  simp only [ho, hx, hy]
  have h1 := run_index_string (P := P) w t s .i64 (i : Int) ht
  rw [dif_pos (by omega)] at h1
  rw [Sem.run_bind, h1, get_bang h]
  rfl
theorem exec_head_str {P : Program} {w : World} {o : Oper} {a : Act} (t : TypeId) (x y : Operand) (s : ByteArray) (i : Nat) (ho : o.op = .slice t x none (some y) none) (hx : a.eval x = .string s) (hy : a.eval y = .int .i64 (i : Int)) (ht : P.underlying t = some .string) (h : i ≤ s.size) :
    (execOp a.eval o).run P w = .ok (.value (.string (s.extract 0 i))) w := by
  unfold execOp
  simp only [ho, hx, hy, Option.map_none, Option.map_some]
  have h1 := run_slice_string_h (P := P) w t s ht .i64 (i : Int) (by omega) (by omega)
  have h2 := run_sliceAt_string (P := P) w t (.string s) none (some (.int .i64 (i : Int))) none ht
  simp only [Sem.run_bind, h2, h1, Result.andThen_ok, Sem.run_pure, Int.toNat_natCast]
theorem exec_conv_rune {P : Program} {w : World} {o : Oper} {a : Act} (t u : TypeId) (x : Operand) (n : Int) (ho : o.op = .convert t u x) (hx : a.eval x = .int .u8 n) (ht : (P.underlying t).isSome = true) (hu : P.underlying u = some (.int .i32)) (h : 0 ≤ n ∧ n ≤ 255) :
    (execOp a.eval o).run P w = .ok (.value (.int .i32 n)) w := by
  unfold execOp
  simp only [ho, hx]
  have hk : P.intKind u = .i32 := by simp [Program.intKind, hu]
  have h1 := run_convert_int (P := P) w t u .u8 n ht (by rw [hk]; exact hu)
  rw [hk] at h1
  have h2 : IntKind.i32.wrap n = n := by simp [IntKind.wrap, IntKind.bits, IntKind.signed]; omega
  rw [h2] at h1
  rw [Sem.run_bind, h1]
  rfl
set_option maxHeartbeats 400000 in
theorem refLow_any (c : Int) (w : World) : Calls Tryz.prog 57 #[.int .i32 c] w (RetE (.bool (wordB c)) w) := by
  go_enter Tryz.func57, Tryz.ntmps57
  by_cases h1 : 97 ≤ c <;> by_cases h2 : c ≤ 122 <;> by_cases h3 : 48 ≤ c <;> by_cases h4 : c ≤ 57
  all_goals
    go_wp2
    go_ret
    exact ⟨ret_bool (by simp [wordB, h1, h2, h3, h4]), rfl⟩
set_option maxRecDepth 10000 in
theorem refEnds_any (e p : Int) (w : World) : Calls Tryz.prog 55 #[.int .i64 e, .int .i64 p] w (RetM (.agg #[.int .i64 e, .int .i64 p]) w) := by
  go_enter Tryz.func55, Tryz.ntmps55
  go_upto_region 0 with (fail)
  refine wp_region_seq [1] (fun _ => True) (by rfl) (by rfl) trivial ?_
  simp only [List.zip_cons_cons, List.zip_nil_right]
  refine wpPi_do rfl (fun K hK => ?_)
  refine wp_alloc 83 (.agg #[.int .i64 0, .int .i64 0]) (by rfl) (by kernel_rfl) (fun w1 hB1 hm1 hs1 => ?_)
  replace hB1 : w1.heap[w.heap.size]? = some (.cells #[.int .i64 0, .int .i64 0] 83 (0, 0)) := hB1
  refine hK _ _ trivial ?_
  clear hK K
  try simp only [pl, pn, el, ec, sz, ss, gz, gs, if_true, if_false, Bool.false_eq_true, Bool.not_true, Bool.not_false, Nat.add_zero, Nat.zero_add, Nat.reduceAdd]
  refine wpPi_nil ?_
  go_upto_region 1 with (fail)
  refine wp_region_seq [3, 3, 3, 1] (fun _ => True) (by rfl) (by rfl) trivial ?_
  simp only [List.zip_cons_cons, List.zip_nil_right]
  refine wpPi_move _ rfl rfl ?_
  simp only [pl, pn, el, ec, sz, ss, gz, gs, if_true, if_false, Bool.false_eq_true, Bool.not_true, Bool.not_false, Nat.add_zero, Nat.zero_add, Nat.reduceAdd]
  refine wpPi_move _ rfl rfl ?_
  simp only [pl, pn, el, ec, sz, ss, gz, gs, if_true, if_false, Bool.false_eq_true, Bool.not_true, Bool.not_false, Nat.add_zero, Nat.zero_add, Nat.reduceAdd]
  refine wpPi_any (v := ?_) rfl (fun w' => ?_) ?_; rotate_left; · (go_simp; try with_reducible rfl)
  simp only [pl, pn, el, ec, sz, ss, gz, gs, if_true, if_false, Bool.false_eq_true, Bool.not_true, Bool.not_false, Nat.add_zero, Nat.zero_add, Nat.reduceAdd]
  refine wpPi_do rfl (fun K hK => ?_)
  refine wp_storeA 83 _ _ w.heap.size 0 #[.int .i64 e, .int .i64 p] (by rfl) (by rfl) (by rfl) (by simp [Value.oneCell']) 2 (by kernel_rfl) rfl _ _ hB1 (by simp) (fun w2 hB2 hm2 => ?_)
  refine hK _ _ trivial ?_
  clear hK K
  try simp only [pl, pn, el, ec, sz, ss, gz, gs, if_true, if_false, Bool.false_eq_true, Bool.not_true, Bool.not_false, Nat.add_zero, Nat.zero_add, Nat.reduceAdd]
  refine wpPi_nil ?_
  go_wp2
  refine bodyPost_ret (results_cell_row rfl _ _ w.heap.size _ _ _ _ (by rfl) hB2 Tryz.underlying83 rfl (by kernel_rfl)) rfl ?_
  exact ⟨rfl, hm1.transB hm2 (Nat.le_refl _)⟩
set_option maxRecDepth 10000 in
set_option maxHeartbeats 1000000 in
theorem refGoes_any (b : ByteArray) (c : Int) (w : World) (hb : b.size ≤ 1000000) : Calls Tryz.prog 56 #[.string b, .int .i32 c] w (RetE (.bool (goesB (backB b b.size 1) (backB b b.size 2) c)) w) := by
  obtain ⟨L, hL⟩ : ∃ L, backB b b.size 1 = L := ⟨_, rfl⟩
  obtain ⟨A, hA⟩ : ∃ A, backB b b.size 2 = A := ⟨_, rfl⟩
  have hLb := backB_byte b b.size 1
  rw [hL] at hLb
  rw [hL, hA]
  have hL0 : ¬ (0 : Int) < (b.size : Int) → L = 47 := fun h => by rw [← hL]; unfold backB; rw [if_neg (by omega)]
  have hL1 : 0 < b.size → ((b.get! (b.size - 1)).toNat : Int) = L := fun h => by rw [← hL]; unfold backB; rw [if_pos (by omega)]
  have hA0 : ¬ (1 : Int) < (b.size : Int) → A = 47 := fun h => by rw [← hA]; unfold backB; rw [if_neg (by omega)]
  have hA1 : 1 < b.size → ((b.get! (b.size - 2)).toNat : Int) = A := fun h => by rw [← hA]; unfold backB; rw [if_pos (by omega)]
  clear hL hA
  go_enter Tryz.func56, Tryz.ntmps56
  go_upto_if 11 with (fail)
  go_cut [6] (fun l wx => l = .int .u8 L ∧ wx = w)
  case first =>
    by_cases h0 : (0 : Int) < (b.size : Int)
    · have h1 : b.size - 1 < b.size := by omega
      go_upto_region 4 with (fail)
      refine wp_region_seq [3, 3, 3, 0, 3] (fun _ => True) (by rfl) (by rfl) trivial ?_
      simp only [List.zip_cons_cons, List.zip_nil_right]
      refine wpPi_move _ rfl rfl ?_
      simp only [pl, pn, el, ec, sz, ss, gz, gs, if_true, if_false, Bool.false_eq_true, Bool.not_true, Bool.not_false, Nat.add_zero, Nat.zero_add, Nat.reduceAdd]
      refine wpPi_move _ rfl rfl ?_
      simp only [pl, pn, el, ec, sz, ss, gz, gs, if_true, if_false, Bool.false_eq_true, Bool.not_true, Bool.not_false, Nat.add_zero, Nat.zero_add, Nat.reduceAdd]
      refine wpPi_subR _ _ _ _ (b.size : Int) 1 ((b.size - 1 : Nat) : Int) rfl rfl rfl rfl (by omega) (by omega) (by omega) ?_
      simp only [pl, pn, el, ec, sz, ss, gz, gs, if_true, if_false, Bool.false_eq_true, Bool.not_true, Bool.not_false, Nat.add_zero, Nat.zero_add, Nat.reduceAdd]
      refine wpPi_val rfl (fun w' hS => exec_index_str 9 _ _ b (b.size - 1) rfl rfl rfl Tryz.underlying9 h1 L (hL1 (by omega))) ?_
      simp only [pl, pn, el, ec, sz, ss, gz, gs, if_true, if_false, Bool.false_eq_true, Bool.not_true, Bool.not_false, Nat.add_zero, Nat.zero_add, Nat.reduceAdd]
      refine wpPi_assign _ rfl rfl ?_
      simp only [pl, pn, el, ec, sz, ss, gz, gs, if_true, if_false, Bool.false_eq_true, Bool.not_true, Bool.not_false, Nat.add_zero, Nat.zero_add, Nat.reduceAdd]
      refine wpPi_nil ?_
      go_wp2
      go_meet
      case rel => exact ⟨rfl, rfl⟩
    · go_wp2
      go_meet
      case rel => exact ⟨by rw [hL0 h0], rfl⟩
  case rest =>
    obtain ⟨rfl, hw⟩ := hcut
    obtain rfl := hw.symm
    go_upto_if 17 with (fail)
    go_cut [7] (fun l wx => l = .int .u8 A ∧ wx = w)
    case first =>
      by_cases h0 : (1 : Int) < (b.size : Int)
      · have h1 : b.size - 2 < b.size := by omega
        go_upto_region 6 with (fail)
        refine wp_region_seq [3, 3, 3, 0, 3] (fun _ => True) (by rfl) (by rfl) trivial ?_
        simp only [List.zip_cons_cons, List.zip_nil_right]
        refine wpPi_move _ rfl rfl ?_
        simp only [pl, pn, el, ec, sz, ss, gz, gs, if_true, if_false, Bool.false_eq_true, Bool.not_true, Bool.not_false, Nat.add_zero, Nat.zero_add, Nat.reduceAdd]
        refine wpPi_move _ rfl rfl ?_
        simp only [pl, pn, el, ec, sz, ss, gz, gs, if_true, if_false, Bool.false_eq_true, Bool.not_true, Bool.not_false, Nat.add_zero, Nat.zero_add, Nat.reduceAdd]
        refine wpPi_subR _ _ _ _ (b.size : Int) 2 ((b.size - 2 : Nat) : Int) rfl rfl rfl rfl (by omega) (by omega) (by omega) ?_
        simp only [pl, pn, el, ec, sz, ss, gz, gs, if_true, if_false, Bool.false_eq_true, Bool.not_true, Bool.not_false, Nat.add_zero, Nat.zero_add, Nat.reduceAdd]
        refine wpPi_val rfl (fun w' hS => exec_index_str 9 _ _ b (b.size - 2) rfl rfl rfl Tryz.underlying9 h1 A (hA1 (by omega))) ?_
        simp only [pl, pn, el, ec, sz, ss, gz, gs, if_true, if_false, Bool.false_eq_true, Bool.not_true, Bool.not_false, Nat.add_zero, Nat.zero_add, Nat.reduceAdd]
        refine wpPi_assign _ rfl rfl ?_
        simp only [pl, pn, el, ec, sz, ss, gz, gs, if_true, if_false, Bool.false_eq_true, Bool.not_true, Bool.not_false, Nat.add_zero, Nat.zero_add, Nat.reduceAdd]
        refine wpPi_nil ?_
        go_wp2
        go_meet
        case rel => exact ⟨rfl, rfl⟩
      · go_wp2
        go_meet
        case rel => exact ⟨by rw [hA0 h0], rfl⟩
    case rest =>
      obtain ⟨rfl, hw⟩ := hcut
      obtain rfl := hw.symm
      by_cases hc : wordB c = true
      · go_wp2_with (go_at_call 57; refine (refLow_any c _).mono ?_; rintro _ wq ⟨rfl, hw⟩; obtain rfl := hw.symm; rw [hc])
        go_ret
        exact ⟨ret_bool (by simp [goesB, hc]), rfl⟩
      have hc' : wordB c = false := by simpa using hc
      by_cases h1 : L = 47
      · go_wp2_with (go_at_call 57; refine (refLow_any c _).mono ?_; rintro _ wq ⟨rfl, hw⟩; obtain rfl := hw.symm; rw [hc'])
        go_ret
        exact ⟨ret_bool (by simp [goesB, hc', h1]), rfl⟩
      by_cases h2 : L = 46
      · go_wp2_with (go_at_call 57; refine (refLow_any c _).mono ?_; rintro _ wq ⟨rfl, hw⟩; obtain rfl := hw.symm; rw [hc'])
        go_ret
        exact ⟨ret_bool (by simp [goesB, hc', h2]), rfl⟩
      obtain ⟨t, ht⟩ : ∃ t, wordB L = t := ⟨_, rfl⟩
      have HT := Lib.hid ht
      clear ht
      go_upto_region 9 with (go_at_call 57; refine (refLow_any c _).mono ?_; rintro _ wq ⟨rfl, hw⟩; obtain rfl := hw.symm; rw [hc'])
      refine wp_region_seq [3, 3, 3, 3, 3, 3, 3] (fun _ => True) (by rfl) (by rfl) trivial ?_
      simp only [List.zip_cons_cons, List.zip_nil_right]
      refine wpPi_move _ rfl rfl ?_
      simp only [pl, pn, el, ec, sz, ss, gz, gs, if_true, if_false, Bool.false_eq_true, Bool.not_true, Bool.not_false, Nat.add_zero, Nat.zero_add, Nat.reduceAdd]
      refine wpPi_cmp _ _ _ _ _ _ _ _ rfl rfl rfl rfl rfl false (decide_eq_false h1) ?_
      simp only [pl, pn, el, ec, sz, ss, gz, gs, if_true, if_false, Bool.false_eq_true, Bool.not_true, Bool.not_false, Nat.add_zero, Nat.zero_add, Nat.reduceAdd]
      refine wpPi_move _ rfl rfl ?_
      simp only [pl, pn, el, ec, sz, ss, gz, gs, if_true, if_false, Bool.false_eq_true, Bool.not_true, Bool.not_false, Nat.add_zero, Nat.zero_add, Nat.reduceAdd]
      refine wpPi_move _ rfl rfl ?_
      simp only [pl, pn, el, ec, sz, ss, gz, gs, if_true, if_false, Bool.false_eq_true, Bool.not_true, Bool.not_false, Nat.add_zero, Nat.zero_add, Nat.reduceAdd]
      refine wpPi_cmp _ _ _ _ _ _ _ _ rfl rfl rfl rfl rfl false (decide_eq_false h2) ?_
      simp only [pl, pn, el, ec, sz, ss, gz, gs, if_true, if_false, Bool.false_eq_true, Bool.not_true, Bool.not_false, Nat.add_zero, Nat.zero_add, Nat.reduceAdd]
      refine wpPi_pick _ _ _ _ rfl rfl rfl ?_
      simp only [pl, pn, el, ec, sz, ss, gz, gs, if_true, if_false, Bool.false_eq_true, Bool.not_true, Bool.not_false, Nat.add_zero, Nat.zero_add, Nat.reduceAdd]
      refine wpPi_assign _ rfl rfl ?_
      simp only [pl, pn, el, ec, sz, ss, gz, gs, if_true, if_false, Bool.false_eq_true, Bool.not_true, Bool.not_false, Nat.add_zero, Nat.zero_add, Nat.reduceAdd]
      refine wpPi_nil ?_
      go_upto_region 11 with (fail)
      refine wp_region_seq [3, 0, 1, 3] (fun _ => True) (by rfl) (by rfl) trivial ?_
      simp only [List.zip_cons_cons, List.zip_nil_right]
      refine wpPi_move _ rfl rfl ?_
      simp only [pl, pn, el, ec, sz, ss, gz, gs, if_true, if_false, Bool.false_eq_true, Bool.not_true, Bool.not_false, Nat.add_zero, Nat.zero_add, Nat.reduceAdd]
      refine wpPi_val rfl (fun w' hS => exec_conv_rune 5 21 _ L rfl rfl (by kernel_rfl) Tryz.underlying21 hLb) ?_
      simp only [pl, pn, el, ec, sz, ss, gz, gs, if_true, if_false, Bool.false_eq_true, Bool.not_true, Bool.not_false, Nat.add_zero, Nat.zero_add, Nat.reduceAdd]
      refine wpPi_do rfl (fun K hK => ?_)
      go_wp2_with (go_at_call 57; refine (refLow_any L _).mono ?_; rintro _ wq ⟨rfl, hw⟩; obtain rfl := hw.symm; rw [HT.out])
      refine hK _ _ trivial ?_
      clear hK K
      try simp only [pl, pn, el, ec, sz, ss, gz, gs, if_true, if_false, Bool.false_eq_true, Bool.not_true, Bool.not_false, Nat.add_zero, Nat.zero_add, Nat.reduceAdd]
      refine wpPi_assign _ rfl rfl ?_
      simp only [pl, pn, el, ec, sz, ss, gz, gs, if_true, if_false, Bool.false_eq_true, Bool.not_true, Bool.not_false, Nat.add_zero, Nat.zero_add, Nat.reduceAdd]
      refine wpPi_nil ?_
      cases t
      · have ht := HT.out
        clear HT
        have h95 : wordB 95 = false := rfl
        by_cases h3 : L = 95
        · by_cases h4 : c = 95
          · by_cases h5 : A = 95
            · go_wp2
              go_ret
              exact ⟨ret_bool (by simp [goesB, hc', h1, h2, h95, h3, h4, h5]), rfl⟩
            · go_wp2
              go_ret
              exact ⟨ret_bool (by simp [goesB, hc', h1, h2, h95, h3, h4, h5]), rfl⟩
          · go_wp2
            go_ret
            exact ⟨ret_bool (by simp [goesB, hc', h1, h2, h95, h3, h4]), rfl⟩
        · by_cases h4 : c = 45
          · go_wp2
            go_ret
            exact ⟨ret_bool (by simp [goesB, hc', h1, h2, ht, h3, h4]), rfl⟩
          · go_wp2
            go_ret
            exact ⟨ret_bool (by simp [goesB, hc', h1, h2, ht, h3, h4]), rfl⟩
      · have ht := HT.out
        clear HT
        by_cases h3 : c = 46 <;> by_cases h4 : c = 95 <;> by_cases h5 : c = 45 <;> by_cases h6 : c = 47
        all_goals
          go_wp2
          go_ret
          exact ⟨ret_bool (by simp [goesB, hc', h1, h2, ht, h3, h4, h5, h6]), rfl⟩
/-- What the loop of Repo holds. -/
def RefRel (s : ByteArray) (r : Bool) (rb it : Nat) (w0 : World) (v : Value) (w : World) : Prop :=
  ∃ f pos, ∃ parts : Int, v = .int .i64 parts ∧ w.heap[it]? = some (.stringIter s pos) ∧ r = refRun s f pos parts ∧ s.size ≤ pos + f ∧ (0 ≤ parts ∧ parts ≤ 8) ∧ Mod NoB w0 w ∧ w.heap[rb]? = some (.cells #[.int .i64 0, .int .i64 0] 83 (0, 0))
set_option maxRecDepth 10000 in
set_option maxHeartbeats 2000000 in
theorem refRepo_any (s : ByteArray) (w : World) (hs : s.size ≤ maxLen) : Calls Tryz.prog 44 #[.string s] w (FaultR (refNameB s) w) := by
  unfold maxLen at hs
  obtain ⟨t, ht⟩ : ∃ t, refNameB s = t := ⟨_, rfl⟩
  rw [ht]
  have HT := Lib.hid ht; clear ht
  go_enter Tryz.func44, Tryz.ntmps44
  go_upto_region 0 with (fail)
  refine wp_region_seq [1] (fun _ => True) (by rfl) (by rfl) trivial ?_
  simp only [List.zip_cons_cons, List.zip_nil_right]
  refine wpPi_do rfl (fun K hK => ?_)
  refine wp_alloc 83 (.agg #[.int .i64 0, .int .i64 0]) (by rfl) (by kernel_rfl) (fun w1 hB1 hm1 hs1 => ?_)
  replace hB1 : w1.heap[w.heap.size]? = some (.cells #[.int .i64 0, .int .i64 0] 83 (0, 0)) := hB1
  refine hK _ _ trivial ?_
  clear hK K
  try simp only [pl, pn, el, ec, sz, ss, gz, gs, if_true, if_false, Bool.false_eq_true, Bool.not_true, Bool.not_false, Nat.add_zero, Nat.zero_add, Nat.reduceAdd]
  refine wpPi_nil ?_
  by_cases hlen : s.size ≤ 128
  · have hz : ¬ (128 : Int) < (s.size : Int) := by omega
    go_upto_region 4 with (fail)
    refine wp_region_seq [3, 1] (fun _ => True) (by rfl) (by rfl) trivial ?_
    simp only [List.zip_cons_cons, List.zip_nil_right]
    refine wpPi_move _ rfl rfl ?_
    simp only [pl, pn, el, ec, sz, ss, gz, gs, if_true, if_false, Bool.false_eq_true, Bool.not_true, Bool.not_false, Nat.add_zero, Nat.zero_add, Nat.reduceAdd]
    refine wpPi_do rfl (fun K hK => ?_)
    refine wp_rangeS 9 _ s (by rfl) (by rfl) Tryz.underlying9 (fun w2 hB2 hm2 hs2 => ?_)
    replace hB1 := hm2.obj id hB1
    refine hK _ _ trivial ?_
    clear hK K
    try simp only [pl, pn, el, ec, sz, ss, gz, gs, if_true, if_false, Bool.false_eq_true, Bool.not_true, Bool.not_false, Nat.add_zero, Nat.zero_add, Nat.reduceAdd]
    refine wpPi_nil ?_
    obtain ⟨r, hr⟩ : ∃ r, refRun s s.size 0 1 = r := ⟨_, rfl⟩
    have hst : RefRel s r w.heap.size w1.heap.size w (.int .i64 1) w2 :=
      ⟨s.size, 0, 1, rfl, hB2, hr.symm, by omega, by omega, hm1.trans0 hm2, hB1⟩
    have hft : t = (r && (decide (s.size ≠ 0) && wordB (backB s s.size 1))) := by rw [← HT.out, ← hr]; unfold refNameB; rw [decide_eq_true hlen]; rfl
    have HFT := Lib.hid hft
    clear hB1 hB2 hm1 hm2 hs2 hft HT hr hz
    go_wp2
    go_loopw [3] (RefRel s r w.heap.size w1.heap.size w) (fun _ wx => leftOf w1.heap.size wx)
    case atStart => exact hst
    case round =>
      rename World => wr
      clear hst
      obtain ⟨f, pos, parts, rfl, hit, hr, hf, hpt, hM, hrb⟩ := hrel
      by_cases hp : pos < s.size
      · obtain ⟨f, rfl⟩ : ∃ f', f = f' + 1 := ⟨f - 1, by omega⟩
        go_upto_region 5 with (fail)
        refine wp_region_seq [1, 3] (fun _ => True) (by rfl) (by rfl) trivial ?_
        simp only [List.zip_cons_cons, List.zip_nil_right]
        refine wpPi_do rfl (fun K hK => ?_)
        refine wp_nextS _ w1.heap.size s pos (by rfl) (by rfl) hit hp (fun w3 hit3 hm3 hs3 => ?_)
        refine hK _ _ trivial ?_
        clear hK K
        try simp only [pl, pn, el, ec, sz, ss, gz, gs, if_true, if_false, Bool.false_eq_true, Bool.not_true, Bool.not_false, Nat.add_zero, Nat.zero_add, Nat.reduceAdd]
        refine wpPi_any (v := ?_) rfl (fun w' => ?_) ?_; rotate_left; · (go_simp; try with_reducible rfl)
        simp only [pl, pn, el, ec, sz, ss, gz, gs, if_true, if_false, Bool.false_eq_true, Bool.not_true, Bool.not_false, Nat.add_zero, Nat.zero_add, Nat.reduceAdd]
        refine wpPi_nil ?_
        replace hrb := hm3.obj (b := w.heap.size) (by omega) hrb
        have hM3 : Mod NoB w w3 := hM.transB hm3 (by omega)
        have hpos := decode_pos s pos
        have hgo : s.size - (pos + (Utf8.decode s pos).2) < leftOf w1.heap.size wr := by rw [leftOf_eq hit]; omega
        simp only [refRun, if_pos hp] at hr
        generalize hcc : (Utf8.decode s pos).1 = c at *
        generalize hww : (Utf8.decode s pos).2 = wd at *
        have hg := refGoes_any (s.extract 0 pos) c
        rw [head_back (by omega) (by omega), head_back (by omega) (by omega), head_size (by omega)] at hg
        obtain ⟨g, hgg⟩ : ∃ g, goesB (backB s pos 1) (backB s pos 2) c = g := ⟨_, rfl⟩
        obtain ⟨q, hq⟩ : ∃ q : Int, (if (c : Int) = 47 then parts + 1 else parts) = q := ⟨_, rfl⟩
        rw [hgg] at hg
        rw [hgg, hq] at hr
        have hqb : 0 ≤ q ∧ q ≤ 9 := by rw [← hq]; split <;> omega
        have HR := Lib.hid hr
        have HG := Lib.hid hgo
        have HS := Lib.hid hs3
        have HGO := Lib.hid hg
        clear hr hcc hww hgo hs3 hit hgg hg
        go_upto_if 17 with (fail)
        go_cut [3] (fun v wx => v = .int .i64 q ∧ wx = w3)
        case first =>
          by_cases h47 : (c : Int) = 47
          · rw [if_pos h47] at hq
            go_wp2
            go_meet
            case rel => exact ⟨by rw [← hq], rfl⟩
          · rw [if_neg h47] at hq
            go_wp2
            go_meet
            case rel => exact ⟨by rw [← hq], rfl⟩
        case rest =>
          obtain ⟨rfl, hw⟩ := hcut
          obtain rfl := hw.symm
          clear hq
          cases g
          · go_upto_region 9 with (fail)
            refine wp_region_seq [3, 3, 0, 3, 1, 3, 3, 3, 3, 3] (fun _ => True) (by rfl) (by rfl) trivial ?_
            simp only [List.zip_cons_cons, List.zip_nil_right]
            refine wpPi_move _ rfl rfl ?_
            simp only [pl, pn, el, ec, sz, ss, gz, gs, if_true, if_false, Bool.false_eq_true, Bool.not_true, Bool.not_false, Nat.add_zero, Nat.zero_add, Nat.reduceAdd]
            refine wpPi_move _ rfl rfl ?_
            simp only [pl, pn, el, ec, sz, ss, gz, gs, if_true, if_false, Bool.false_eq_true, Bool.not_true, Bool.not_false, Nat.add_zero, Nat.zero_add, Nat.reduceAdd]
            refine wpPi_val rfl (fun w' hS => exec_head_str 9 _ _ s pos rfl rfl rfl Tryz.underlying9 (by omega)) ?_
            simp only [pl, pn, el, ec, sz, ss, gz, gs, if_true, if_false, Bool.false_eq_true, Bool.not_true, Bool.not_false, Nat.add_zero, Nat.zero_add, Nat.reduceAdd]
            refine wpPi_move _ rfl rfl ?_
            simp only [pl, pn, el, ec, sz, ss, gz, gs, if_true, if_false, Bool.false_eq_true, Bool.not_true, Bool.not_false, Nat.add_zero, Nat.zero_add, Nat.reduceAdd]
            refine wpPi_do rfl (fun K hK => ?_)
            go_wp2_with (go_at_call 56; refine (HGO.out _ (by omega)).mono ?_; rintro _ wq ⟨rfl, hw⟩; obtain rfl := hw.symm)
            refine hK _ _ trivial ?_
            clear hK K
            try simp only [pl, pn, el, ec, sz, ss, gz, gs, if_true, if_false, Bool.false_eq_true, Bool.not_true, Bool.not_false, Nat.add_zero, Nat.zero_add, Nat.reduceAdd]
            refine wpPi_not _ _ _ rfl rfl rfl ?_
            simp only [pl, pn, el, ec, sz, ss, gz, gs, if_true, if_false, Bool.false_eq_true, Bool.not_true, Bool.not_false, Nat.add_zero, Nat.zero_add, Nat.reduceAdd]
            refine wpPi_move _ rfl rfl ?_
            simp only [pl, pn, el, ec, sz, ss, gz, gs, if_true, if_false, Bool.false_eq_true, Bool.not_true, Bool.not_false, Nat.add_zero, Nat.zero_add, Nat.reduceAdd]
            refine wpPi_skip rfl ?_
            simp only [pl, pn, el, ec, sz, ss, gz, gs, if_true, if_false, Bool.false_eq_true, Bool.not_true, Bool.not_false, Nat.add_zero, Nat.zero_add, Nat.reduceAdd]
            refine wpPi_skip rfl ?_
            simp only [pl, pn, el, ec, sz, ss, gz, gs, if_true, if_false, Bool.false_eq_true, Bool.not_true, Bool.not_false, Nat.add_zero, Nat.zero_add, Nat.reduceAdd]
            refine wpPi_pick _ _ _ _ rfl rfl rfl ?_
            simp only [pl, pn, el, ec, sz, ss, gz, gs, if_true, if_false, Bool.false_eq_true, Bool.not_true, Bool.not_false, Nat.add_zero, Nat.zero_add, Nat.reduceAdd]
            refine wpPi_nil ?_
            go_upto_region 10 with (fail)
            refine wp_region_seq [3, 1, 1] (fun _ => True) (by rfl) (by rfl) trivial ?_
            simp only [List.zip_cons_cons, List.zip_nil_right]
            refine wpPi_move _ rfl rfl ?_
            simp only [pl, pn, el, ec, sz, ss, gz, gs, if_true, if_false, Bool.false_eq_true, Bool.not_true, Bool.not_false, Nat.add_zero, Nat.zero_add, Nat.reduceAdd]
            refine wpPi_do rfl (fun K hK => ?_)
            go_wp2_with (go_at_call 55; refine (refEnds_any 7 pos _).mono ?_; rintro _ w4 ⟨rfl, hm4⟩)
            replace hrb := hm4.obj id hrb
            refine hK _ _ trivial ?_
            clear hK K
            try simp only [pl, pn, el, ec, sz, ss, gz, gs, if_true, if_false, Bool.false_eq_true, Bool.not_true, Bool.not_false, Nat.add_zero, Nat.zero_add, Nat.reduceAdd]
            refine wpPi_do rfl (fun K hK => ?_)
            refine wp_storeA 83 _ _ w.heap.size 0 #[.int .i64 7, .int .i64 pos] (by rfl) (by rfl) (by rfl) (by simp [Value.oneCell']) 2 (by kernel_rfl) rfl _ _ hrb (by simp) (fun w5 hrb5 hm5 => ?_)
            refine hK _ _ trivial ?_
            clear hK K
            try simp only [pl, pn, el, ec, sz, ss, gz, gs, if_true, if_false, Bool.false_eq_true, Bool.not_true, Bool.not_false, Nat.add_zero, Nat.zero_add, Nat.reduceAdd]
            refine wpPi_nil ?_
            go_wp2
            refine bodyPost_ret (results_cell_row rfl _ _ w.heap.size _ _ _ _ (by rfl) hrb5 Tryz.underlying83 rfl (by kernel_rfl)) rfl ?_
            rw [HFT.out, HR.out]
            exact ⟨7, pos, rfl, by simp, (hM3.trans0 hm4).transB hm5 (Nat.le_refl _)⟩
          · by_cases hq8 : 8 < q
            · go_upto_region 9 with (fail)
              refine wp_region_seq [3, 3, 0, 3, 1, 3, 3, 3, 3, 3] (fun _ => True) (by rfl) (by rfl) trivial ?_
              simp only [List.zip_cons_cons, List.zip_nil_right]
              refine wpPi_move _ rfl rfl ?_
              simp only [pl, pn, el, ec, sz, ss, gz, gs, if_true, if_false, Bool.false_eq_true, Bool.not_true, Bool.not_false, Nat.add_zero, Nat.zero_add, Nat.reduceAdd]
              refine wpPi_move _ rfl rfl ?_
              simp only [pl, pn, el, ec, sz, ss, gz, gs, if_true, if_false, Bool.false_eq_true, Bool.not_true, Bool.not_false, Nat.add_zero, Nat.zero_add, Nat.reduceAdd]
              refine wpPi_val rfl (fun w' hS => exec_head_str 9 _ _ s pos rfl rfl rfl Tryz.underlying9 (by omega)) ?_
              simp only [pl, pn, el, ec, sz, ss, gz, gs, if_true, if_false, Bool.false_eq_true, Bool.not_true, Bool.not_false, Nat.add_zero, Nat.zero_add, Nat.reduceAdd]
              refine wpPi_move _ rfl rfl ?_
              simp only [pl, pn, el, ec, sz, ss, gz, gs, if_true, if_false, Bool.false_eq_true, Bool.not_true, Bool.not_false, Nat.add_zero, Nat.zero_add, Nat.reduceAdd]
              refine wpPi_do rfl (fun K hK => ?_)
              go_wp2_with (go_at_call 56; refine (HGO.out _ (by omega)).mono ?_; rintro _ wq ⟨rfl, hw⟩; obtain rfl := hw.symm)
              refine hK _ _ trivial ?_
              clear hK K
              try simp only [pl, pn, el, ec, sz, ss, gz, gs, if_true, if_false, Bool.false_eq_true, Bool.not_true, Bool.not_false, Nat.add_zero, Nat.zero_add, Nat.reduceAdd]
              refine wpPi_not _ _ _ rfl rfl rfl ?_
              simp only [pl, pn, el, ec, sz, ss, gz, gs, if_true, if_false, Bool.false_eq_true, Bool.not_true, Bool.not_false, Nat.add_zero, Nat.zero_add, Nat.reduceAdd]
              refine wpPi_move _ rfl rfl ?_
              simp only [pl, pn, el, ec, sz, ss, gz, gs, if_true, if_false, Bool.false_eq_true, Bool.not_true, Bool.not_false, Nat.add_zero, Nat.zero_add, Nat.reduceAdd]
              refine wpPi_move _ rfl rfl ?_
              simp only [pl, pn, el, ec, sz, ss, gz, gs, if_true, if_false, Bool.false_eq_true, Bool.not_true, Bool.not_false, Nat.add_zero, Nat.zero_add, Nat.reduceAdd]
              refine wpPi_cmp _ _ _ _ _ _ _ _ rfl rfl rfl rfl rfl true (decide_eq_true hq8) ?_
              simp only [pl, pn, el, ec, sz, ss, gz, gs, if_true, if_false, Bool.false_eq_true, Bool.not_true, Bool.not_false, Nat.add_zero, Nat.zero_add, Nat.reduceAdd]
              refine wpPi_pick _ _ _ _ rfl rfl rfl ?_
              simp only [pl, pn, el, ec, sz, ss, gz, gs, if_true, if_false, Bool.false_eq_true, Bool.not_true, Bool.not_false, Nat.add_zero, Nat.zero_add, Nat.reduceAdd]
              refine wpPi_nil ?_
              go_upto_region 10 with (fail)
              refine wp_region_seq [3, 1, 1] (fun _ => True) (by rfl) (by rfl) trivial ?_
              simp only [List.zip_cons_cons, List.zip_nil_right]
              refine wpPi_move _ rfl rfl ?_
              simp only [pl, pn, el, ec, sz, ss, gz, gs, if_true, if_false, Bool.false_eq_true, Bool.not_true, Bool.not_false, Nat.add_zero, Nat.zero_add, Nat.reduceAdd]
              refine wpPi_do rfl (fun K hK => ?_)
              go_wp2_with (go_at_call 55; refine (refEnds_any 7 pos _).mono ?_; rintro _ w4 ⟨rfl, hm4⟩)
              replace hrb := hm4.obj id hrb
              refine hK _ _ trivial ?_
              clear hK K
              try simp only [pl, pn, el, ec, sz, ss, gz, gs, if_true, if_false, Bool.false_eq_true, Bool.not_true, Bool.not_false, Nat.add_zero, Nat.zero_add, Nat.reduceAdd]
              refine wpPi_do rfl (fun K hK => ?_)
              refine wp_storeA 83 _ _ w.heap.size 0 #[.int .i64 7, .int .i64 pos] (by rfl) (by rfl) (by rfl) (by simp [Value.oneCell']) 2 (by kernel_rfl) rfl _ _ hrb (by simp) (fun w5 hrb5 hm5 => ?_)
              refine hK _ _ trivial ?_
              clear hK K
              try simp only [pl, pn, el, ec, sz, ss, gz, gs, if_true, if_false, Bool.false_eq_true, Bool.not_true, Bool.not_false, Nat.add_zero, Nat.zero_add, Nat.reduceAdd]
              refine wpPi_nil ?_
              go_wp2
              refine bodyPost_ret (results_cell_row rfl _ _ w.heap.size _ _ _ _ (by rfl) hrb5 Tryz.underlying83 rfl (by kernel_rfl)) rfl ?_
              rw [HFT.out, HR.out]
              have hd : decide (q ≤ 8) = false := decide_eq_false (by omega)
              exact ⟨7, pos, rfl, by simp [hd], (hM3.trans0 hm4).transB hm5 (Nat.le_refl _)⟩
            · have hd : decide (q ≤ 8) = true := decide_eq_true (by omega)
              go_upto_region 9 with (fail)
              refine wp_region_seq [3, 3, 0, 3, 1, 3, 3, 3, 3, 3] (fun _ => True) (by rfl) (by rfl) trivial ?_
              simp only [List.zip_cons_cons, List.zip_nil_right]
              refine wpPi_move _ rfl rfl ?_
              simp only [pl, pn, el, ec, sz, ss, gz, gs, if_true, if_false, Bool.false_eq_true, Bool.not_true, Bool.not_false, Nat.add_zero, Nat.zero_add, Nat.reduceAdd]
              refine wpPi_move _ rfl rfl ?_
              simp only [pl, pn, el, ec, sz, ss, gz, gs, if_true, if_false, Bool.false_eq_true, Bool.not_true, Bool.not_false, Nat.add_zero, Nat.zero_add, Nat.reduceAdd]
              refine wpPi_val rfl (fun w' hS => exec_head_str 9 _ _ s pos rfl rfl rfl Tryz.underlying9 (by omega)) ?_
              simp only [pl, pn, el, ec, sz, ss, gz, gs, if_true, if_false, Bool.false_eq_true, Bool.not_true, Bool.not_false, Nat.add_zero, Nat.zero_add, Nat.reduceAdd]
              refine wpPi_move _ rfl rfl ?_
              simp only [pl, pn, el, ec, sz, ss, gz, gs, if_true, if_false, Bool.false_eq_true, Bool.not_true, Bool.not_false, Nat.add_zero, Nat.zero_add, Nat.reduceAdd]
              refine wpPi_do rfl (fun K hK => ?_)
              go_wp2_with (go_at_call 56; refine (HGO.out _ (by omega)).mono ?_; rintro _ wq ⟨rfl, hw⟩; obtain rfl := hw.symm)
              refine hK _ _ trivial ?_
              clear hK K
              try simp only [pl, pn, el, ec, sz, ss, gz, gs, if_true, if_false, Bool.false_eq_true, Bool.not_true, Bool.not_false, Nat.add_zero, Nat.zero_add, Nat.reduceAdd]
              refine wpPi_not _ _ _ rfl rfl rfl ?_
              simp only [pl, pn, el, ec, sz, ss, gz, gs, if_true, if_false, Bool.false_eq_true, Bool.not_true, Bool.not_false, Nat.add_zero, Nat.zero_add, Nat.reduceAdd]
              refine wpPi_move _ rfl rfl ?_
              simp only [pl, pn, el, ec, sz, ss, gz, gs, if_true, if_false, Bool.false_eq_true, Bool.not_true, Bool.not_false, Nat.add_zero, Nat.zero_add, Nat.reduceAdd]
              refine wpPi_move _ rfl rfl ?_
              simp only [pl, pn, el, ec, sz, ss, gz, gs, if_true, if_false, Bool.false_eq_true, Bool.not_true, Bool.not_false, Nat.add_zero, Nat.zero_add, Nat.reduceAdd]
              refine wpPi_cmp _ _ _ _ _ _ _ _ rfl rfl rfl rfl rfl false (decide_eq_false (by omega)) ?_
              simp only [pl, pn, el, ec, sz, ss, gz, gs, if_true, if_false, Bool.false_eq_true, Bool.not_true, Bool.not_false, Nat.add_zero, Nat.zero_add, Nat.reduceAdd]
              refine wpPi_pick _ _ _ _ rfl rfl rfl ?_
              simp only [pl, pn, el, ec, sz, ss, gz, gs, if_true, if_false, Bool.false_eq_true, Bool.not_true, Bool.not_false, Nat.add_zero, Nat.zero_add, Nat.reduceAdd]
              refine wpPi_nil ?_
              have hr2 : r = refRun s f (pos + wd) q := by have h := HR.out; rw [hd] at h; simpa using h
              have HR2 := Lib.hid hr2
              clear hr2 hd
              go_wp2
              go_roundw
              case rel => exact ⟨f, pos + wd, q, rfl, hit3, HR2.out, by omega, by omega, hM3, hrb⟩
              case measure => rw [leftOf_eq hit3]; exact HG.out
      · have hrt : r = true := by rw [hr]; cases f <;> simp [refRun, hp]
        have hft : t = (decide (s.size ≠ 0) && wordB (backB s s.size 1)) := by rw [HFT.out, hrt]; rfl
        have HF := Lib.hid hft
        clear hr hrt hft HFT hf
        go_upto_region 5 with (fail)
        refine wp_region_seq [1, 3] (fun _ => True) (by rfl) (by rfl) trivial ?_
        simp only [List.zip_cons_cons, List.zip_nil_right]
        refine wpPi_do rfl (fun K hK => ?_)
        refine wp_nextS_end _ w1.heap.size s pos (by rfl) (by rfl) hit hp ?_
        refine hK _ _ trivial ?_
        clear hK K
        try simp only [pl, pn, el, ec, sz, ss, gz, gs, if_true, if_false, Bool.false_eq_true, Bool.not_true, Bool.not_false, Nat.add_zero, Nat.zero_add, Nat.reduceAdd]
        refine wpPi_any (v := ?_) rfl (fun w' => ?_) ?_; rotate_left; · (go_simp; try with_reducible rfl)
        simp only [pl, pn, el, ec, sz, ss, gz, gs, if_true, if_false, Bool.false_eq_true, Bool.not_true, Bool.not_false, Nat.add_zero, Nat.zero_add, Nat.reduceAdd]
        refine wpPi_nil ?_
        go_upto_region 11 with (fail)
        by_cases h0 : s.size = 0
        · have hse : s = ⟨#[]⟩ := by
            cases s with
            | mk d => have : d = #[] := Array.eq_empty_of_size_eq_zero h0; rw [this]
          have hd : decide (s = ⟨#[]⟩) = true := decide_eq_true hse
          have hft : t = false := by rw [HF.out, h0]; rfl
          refine wp_region_seq [3, 0, 3, 3, 3, 3, 3, 3, 3, 1, 3, 3] (fun _ => True) (by rfl) (by rfl) trivial ?_
          simp only [List.zip_cons_cons, List.zip_nil_right]
          refine wpPi_move _ rfl rfl ?_
          simp only [pl, pn, el, ec, sz, ss, gz, gs, if_true, if_false, Bool.false_eq_true, Bool.not_true, Bool.not_false, Nat.add_zero, Nat.zero_add, Nat.reduceAdd]
          refine wpPi_val rfl (fun w' hS => exec_eql_str _ _ _ _ rfl _ _ rfl rfl true hd) ?_
          simp only [pl, pn, el, ec, sz, ss, gz, gs, if_true, if_false, Bool.false_eq_true, Bool.not_true, Bool.not_false, Nat.add_zero, Nat.zero_add, Nat.reduceAdd]
          refine wpPi_move _ rfl rfl ?_
          simp only [pl, pn, el, ec, sz, ss, gz, gs, if_true, if_false, Bool.false_eq_true, Bool.not_true, Bool.not_false, Nat.add_zero, Nat.zero_add, Nat.reduceAdd]
          refine wpPi_skip rfl ?_
          simp only [pl, pn, el, ec, sz, ss, gz, gs, if_true, if_false, Bool.false_eq_true, Bool.not_true, Bool.not_false, Nat.add_zero, Nat.zero_add, Nat.reduceAdd]
          refine wpPi_skip rfl ?_
          simp only [pl, pn, el, ec, sz, ss, gz, gs, if_true, if_false, Bool.false_eq_true, Bool.not_true, Bool.not_false, Nat.add_zero, Nat.zero_add, Nat.reduceAdd]
          refine wpPi_skip rfl ?_
          simp only [pl, pn, el, ec, sz, ss, gz, gs, if_true, if_false, Bool.false_eq_true, Bool.not_true, Bool.not_false, Nat.add_zero, Nat.zero_add, Nat.reduceAdd]
          refine wpPi_skip rfl ?_
          simp only [pl, pn, el, ec, sz, ss, gz, gs, if_true, if_false, Bool.false_eq_true, Bool.not_true, Bool.not_false, Nat.add_zero, Nat.zero_add, Nat.reduceAdd]
          refine wpPi_skip rfl ?_
          simp only [pl, pn, el, ec, sz, ss, gz, gs, if_true, if_false, Bool.false_eq_true, Bool.not_true, Bool.not_false, Nat.add_zero, Nat.zero_add, Nat.reduceAdd]
          refine wpPi_skip rfl ?_
          simp only [pl, pn, el, ec, sz, ss, gz, gs, if_true, if_false, Bool.false_eq_true, Bool.not_true, Bool.not_false, Nat.add_zero, Nat.zero_add, Nat.reduceAdd]
          refine wpPi_do_skip rfl trivial ?_
          simp only [pl, pn, el, ec, sz, ss, gz, gs, if_true, if_false, Bool.false_eq_true, Bool.not_true, Bool.not_false, Nat.add_zero, Nat.zero_add, Nat.reduceAdd]
          refine wpPi_skip rfl ?_
          simp only [pl, pn, el, ec, sz, ss, gz, gs, if_true, if_false, Bool.false_eq_true, Bool.not_true, Bool.not_false, Nat.add_zero, Nat.zero_add, Nat.reduceAdd]
          refine wpPi_pick _ _ _ _ rfl rfl rfl ?_
          simp only [pl, pn, el, ec, sz, ss, gz, gs, if_true, if_false, Bool.false_eq_true, Bool.not_true, Bool.not_false, Nat.add_zero, Nat.zero_add, Nat.reduceAdd]
          refine wpPi_nil ?_
          clear hse hd h0
          go_upto_region 12 with (fail)
          refine wp_region_seq [3, 3, 1, 1] (fun _ => True) (by rfl) (by rfl) trivial ?_
          simp only [List.zip_cons_cons, List.zip_nil_right]
          refine wpPi_move _ rfl rfl ?_
          simp only [pl, pn, el, ec, sz, ss, gz, gs, if_true, if_false, Bool.false_eq_true, Bool.not_true, Bool.not_false, Nat.add_zero, Nat.zero_add, Nat.reduceAdd]
          refine wpPi_lenS _ _ s rfl rfl rfl Tryz.underlying9 ?_
          simp only [pl, pn, el, ec, sz, ss, gz, gs, if_true, if_false, Bool.false_eq_true, Bool.not_true, Bool.not_false, Nat.add_zero, Nat.zero_add, Nat.reduceAdd]
          refine wpPi_do rfl (fun K hK => ?_)
          go_wp2_with (go_at_call 55; refine (refEnds_any 7 s.size _).mono ?_; rintro _ w4 ⟨rfl, hm4⟩)
          replace hrb := hm4.obj id hrb
          refine hK _ _ trivial ?_
          clear hK K
          try simp only [pl, pn, el, ec, sz, ss, gz, gs, if_true, if_false, Bool.false_eq_true, Bool.not_true, Bool.not_false, Nat.add_zero, Nat.zero_add, Nat.reduceAdd]
          refine wpPi_do rfl (fun K hK => ?_)
          refine wp_storeA 83 _ _ w.heap.size 0 #[.int .i64 7, .int .i64 s.size] (by rfl) (by rfl) (by rfl) (by simp [Value.oneCell']) 2 (by kernel_rfl) rfl _ _ hrb (by simp) (fun w5 hrb5 hm5 => ?_)
          refine hK _ _ trivial ?_
          clear hK K
          try simp only [pl, pn, el, ec, sz, ss, gz, gs, if_true, if_false, Bool.false_eq_true, Bool.not_true, Bool.not_false, Nat.add_zero, Nat.zero_add, Nat.reduceAdd]
          refine wpPi_nil ?_
          go_wp2
          refine bodyPost_ret (results_cell_row rfl _ _ w.heap.size _ _ _ _ (by rfl) hrb5 Tryz.underlying83 rfl (by kernel_rfl)) rfl ?_
          rw [hft]
          exact ⟨7, s.size, rfl, by simp, (hM.trans0 hm4).transB hm5 (Nat.le_refl _)⟩
        · have hse : s ≠ ⟨#[]⟩ := fun e => h0 (by rw [e]; rfl)
          have hd : decide (s = ⟨#[]⟩) = false := decide_eq_false hse
          obtain ⟨L, hL⟩ : ∃ L, backB s s.size 1 = L := ⟨_, rfl⟩
          have hLb := backB_byte s s.size 1
          have hget : ((s.get! (s.size - 1)).toNat : Int) = L := by rw [← hL]; unfold backB; rw [if_pos (by omega)]
          obtain ⟨u, hu⟩ : ∃ u, wordB L = u := ⟨_, rfl⟩
          have hft : t = u := by rw [HF.out, hL, hu, decide_eq_true h0]; rfl
          rw [hL] at hLb
          have HU := Lib.hid hu
          have HT := Lib.hid hft
          have h1 : s.size - 1 < s.size := by omega
          have h63 : s.size ≤ 1000000 := by omega
          clear hse hL hu hft HF hs
          refine wp_region_seq [3, 0, 3, 3, 3, 3, 3, 0, 0, 1, 3, 3] (fun _ => True) (by rfl) (by rfl) trivial ?_
          simp only [List.zip_cons_cons, List.zip_nil_right]
          refine wpPi_move _ rfl rfl ?_
          simp only [pl, pn, el, ec, sz, ss, gz, gs, if_true, if_false, Bool.false_eq_true, Bool.not_true, Bool.not_false, Nat.add_zero, Nat.zero_add, Nat.reduceAdd]
          refine wpPi_val rfl (fun w' hS => exec_eql_str _ _ _ _ rfl _ _ rfl rfl false hd) ?_
          simp only [pl, pn, el, ec, sz, ss, gz, gs, if_true, if_false, Bool.false_eq_true, Bool.not_true, Bool.not_false, Nat.add_zero, Nat.zero_add, Nat.reduceAdd]
          refine wpPi_move _ rfl rfl ?_
          simp only [pl, pn, el, ec, sz, ss, gz, gs, if_true, if_false, Bool.false_eq_true, Bool.not_true, Bool.not_false, Nat.add_zero, Nat.zero_add, Nat.reduceAdd]
          refine wpPi_move _ rfl rfl ?_
          simp only [pl, pn, el, ec, sz, ss, gz, gs, if_true, if_false, Bool.false_eq_true, Bool.not_true, Bool.not_false, Nat.add_zero, Nat.zero_add, Nat.reduceAdd]
          refine wpPi_move _ rfl rfl ?_
          simp only [pl, pn, el, ec, sz, ss, gz, gs, if_true, if_false, Bool.false_eq_true, Bool.not_true, Bool.not_false, Nat.add_zero, Nat.zero_add, Nat.reduceAdd]
          refine wpPi_lenS _ _ s rfl rfl rfl Tryz.underlying9 ?_
          simp only [pl, pn, el, ec, sz, ss, gz, gs, if_true, if_false, Bool.false_eq_true, Bool.not_true, Bool.not_false, Nat.add_zero, Nat.zero_add, Nat.reduceAdd]
          refine wpPi_subR _ _ _ _ (s.size : Int) 1 ((s.size - 1 : Nat) : Int) rfl rfl rfl rfl (by omega) (by omega) (by omega) ?_
          simp only [pl, pn, el, ec, sz, ss, gz, gs, if_true, if_false, Bool.false_eq_true, Bool.not_true, Bool.not_false, Nat.add_zero, Nat.zero_add, Nat.reduceAdd]
          refine wpPi_val rfl (fun w' hS => exec_index_str 9 _ _ s (s.size - 1) rfl rfl rfl Tryz.underlying9 h1 L hget) ?_
          simp only [pl, pn, el, ec, sz, ss, gz, gs, if_true, if_false, Bool.false_eq_true, Bool.not_true, Bool.not_false, Nat.add_zero, Nat.zero_add, Nat.reduceAdd]
          refine wpPi_val rfl (fun w' hS => exec_conv_rune 5 21 _ L rfl rfl (by kernel_rfl) Tryz.underlying21 hLb) ?_
          simp only [pl, pn, el, ec, sz, ss, gz, gs, if_true, if_false, Bool.false_eq_true, Bool.not_true, Bool.not_false, Nat.add_zero, Nat.zero_add, Nat.reduceAdd]
          refine wpPi_do rfl (fun K hK => ?_)
          go_wp2_with (go_at_call 57; refine (refLow_any L _).mono ?_; rintro _ wq ⟨rfl, hw⟩; obtain rfl := hw.symm; rw [HU.out])
          refine hK _ _ trivial ?_
          clear hK K
          try simp only [pl, pn, el, ec, sz, ss, gz, gs, if_true, if_false, Bool.false_eq_true, Bool.not_true, Bool.not_false, Nat.add_zero, Nat.zero_add, Nat.reduceAdd]
          refine wpPi_not _ _ _ rfl rfl rfl ?_
          simp only [pl, pn, el, ec, sz, ss, gz, gs, if_true, if_false, Bool.false_eq_true, Bool.not_true, Bool.not_false, Nat.add_zero, Nat.zero_add, Nat.reduceAdd]
          refine wpPi_pick _ _ _ _ rfl rfl rfl ?_
          simp only [pl, pn, el, ec, sz, ss, gz, gs, if_true, if_false, Bool.false_eq_true, Bool.not_true, Bool.not_false, Nat.add_zero, Nat.zero_add, Nat.reduceAdd]
          refine wpPi_nil ?_
          clear hd hget HU
          cases u
          · go_upto_region 12 with (fail)
            refine wp_region_seq [3, 3, 1, 1] (fun _ => True) (by rfl) (by rfl) trivial ?_
            simp only [List.zip_cons_cons, List.zip_nil_right]
            refine wpPi_move _ rfl rfl ?_
            simp only [pl, pn, el, ec, sz, ss, gz, gs, if_true, if_false, Bool.false_eq_true, Bool.not_true, Bool.not_false, Nat.add_zero, Nat.zero_add, Nat.reduceAdd]
            refine wpPi_lenS _ _ s rfl rfl rfl Tryz.underlying9 ?_
            simp only [pl, pn, el, ec, sz, ss, gz, gs, if_true, if_false, Bool.false_eq_true, Bool.not_true, Bool.not_false, Nat.add_zero, Nat.zero_add, Nat.reduceAdd]
            refine wpPi_do rfl (fun K hK => ?_)
            go_wp2_with (go_at_call 55; refine (refEnds_any 7 s.size _).mono ?_; rintro _ w4 ⟨rfl, hm4⟩)
            replace hrb := hm4.obj id hrb
            refine hK _ _ trivial ?_
            clear hK K
            try simp only [pl, pn, el, ec, sz, ss, gz, gs, if_true, if_false, Bool.false_eq_true, Bool.not_true, Bool.not_false, Nat.add_zero, Nat.zero_add, Nat.reduceAdd]
            refine wpPi_do rfl (fun K hK => ?_)
            refine wp_storeA 83 _ _ w.heap.size 0 #[.int .i64 7, .int .i64 s.size] (by rfl) (by rfl) (by rfl) (by simp [Value.oneCell']) 2 (by kernel_rfl) rfl _ _ hrb (by simp) (fun w5 hrb5 hm5 => ?_)
            refine hK _ _ trivial ?_
            clear hK K
            try simp only [pl, pn, el, ec, sz, ss, gz, gs, if_true, if_false, Bool.false_eq_true, Bool.not_true, Bool.not_false, Nat.add_zero, Nat.zero_add, Nat.reduceAdd]
            refine wpPi_nil ?_
            go_wp2
            refine bodyPost_ret (results_cell_row rfl _ _ w.heap.size _ _ _ _ (by rfl) hrb5 Tryz.underlying83 rfl (by kernel_rfl)) rfl ?_
            rw [HT.out]
            exact ⟨7, s.size, rfl, by simp, (hM.trans0 hm4).transB hm5 (Nat.le_refl _)⟩
          · go_upto_region 13 with (fail)
            refine wp_region_seq [3, 1] (fun _ => True) (by rfl) (by rfl) trivial ?_
            simp only [List.zip_cons_cons, List.zip_nil_right]
            refine wpPi_any (v := ?_) rfl (fun w' => ?_) ?_; rotate_left; · (go_simp; try with_reducible rfl)
            simp only [pl, pn, el, ec, sz, ss, gz, gs, if_true, if_false, Bool.false_eq_true, Bool.not_true, Bool.not_false, Nat.add_zero, Nat.zero_add, Nat.reduceAdd]
            refine wpPi_do rfl (fun K hK => ?_)
            refine wp_storeA 83 _ _ w.heap.size 0 #[.int .i64 0, .int .i64 0] (by rfl) (by rfl) (by rfl) (by simp [Value.oneCell']) 2 (by kernel_rfl) rfl _ _ hrb (by simp) (fun w5 hrb5 hm5 => ?_)
            refine hK _ _ trivial ?_
            clear hK K
            try simp only [pl, pn, el, ec, sz, ss, gz, gs, if_true, if_false, Bool.false_eq_true, Bool.not_true, Bool.not_false, Nat.add_zero, Nat.zero_add, Nat.reduceAdd]
            refine wpPi_nil ?_
            go_wp2
            refine bodyPost_ret (results_cell_row rfl _ _ w.heap.size _ _ _ _ (by rfl) hrb5 Tryz.underlying83 rfl (by kernel_rfl)) rfl ?_
            rw [HT.out]
            exact ⟨0, 0, rfl, by simp, hM.transB hm5 (Nat.le_refl _)⟩
  · have hz : (128 : Int) < (s.size : Int) := by omega
    have hf : t = false := by rw [← HT.out]; unfold refNameB; rw [decide_eq_false hlen]; rfl
    have HF := Lib.hid hf
    clear hf HT
    go_upto_region 2 with (fail)
    refine wp_region_seq [1, 1] (fun _ => True) (by rfl) (by rfl) trivial ?_
    simp only [List.zip_cons_cons, List.zip_nil_right]
    refine wpPi_do rfl (fun K hK => ?_)
    go_wp2_with (go_at_call 55; refine (refEnds_any 4 128 _).mono ?_; rintro _ w4 ⟨rfl, hm4⟩)
    replace hB1 := hm4.obj id hB1
    refine hK _ _ trivial ?_
    clear hK K
    try simp only [pl, pn, el, ec, sz, ss, gz, gs, if_true, if_false, Bool.false_eq_true, Bool.not_true, Bool.not_false, Nat.add_zero, Nat.zero_add, Nat.reduceAdd]
    refine wpPi_do rfl (fun K hK => ?_)
    refine wp_storeA 83 _ _ w.heap.size 0 #[.int .i64 4, .int .i64 128] (by rfl) (by rfl) (by rfl) (by simp [Value.oneCell']) 2 (by kernel_rfl) rfl _ _ hB1 (by simp) (fun w5 hrb5 hm5 => ?_)
    refine hK _ _ trivial ?_
    clear hK K
    try simp only [pl, pn, el, ec, sz, ss, gz, gs, if_true, if_false, Bool.false_eq_true, Bool.not_true, Bool.not_false, Nat.add_zero, Nat.zero_add, Nat.reduceAdd]
    refine wpPi_nil ?_
    go_wp2
    refine bodyPost_ret (results_cell_row rfl _ _ w.heap.size _ _ _ _ (by rfl) hrb5 Tryz.underlying83 rfl (by kernel_rfl)) rfl ?_
    rw [HF.out]
    exact ⟨4, 128, rfl, by simp, (hm1.trans0 hm4).transB hm5 (Nat.le_refl _)⟩
set_option maxRecDepth 10000 in
theorem refNamed_any (s : ByteArray) (w : World) (hs : s.size ≤ maxLen) : Calls Tryz.prog 29 #[.string s] w (RetM (.bool (nameB s)) w) := by
  rw [← refName_eq]
  obtain ⟨t, ht⟩ : ∃ t, refNameB s = t := ⟨_, rfl⟩
  rw [ht]
  have HT := Lib.hid ht; clear ht
  go_enter Tryz.func29, Tryz.ntmps29
  go_upto_region 1 with (fail)
  refine wp_region_seq [3, 1, 1, 1] (fun _ => True) (by rfl) (by rfl) trivial ?_
  simp only [List.zip_cons_cons, List.zip_nil_right]
  refine wpPi_move _ rfl rfl ?_
  simp only [pl, pn, el, ec, sz, ss, gz, gs, if_true, if_false, Bool.false_eq_true, Bool.not_true, Bool.not_false, Nat.add_zero, Nat.zero_add, Nat.reduceAdd]
  refine wpPi_do rfl (fun K hK => ?_)
  go_wp2_with (go_at_call 44; refine (refRepo_any s _ hs).mono ?_; rintro _ w1 ⟨x, at', rfl, hx, hm⟩; rw [HT.out] at hx)
  refine hK _ _ trivial ?_
  clear hK K
  try simp only [pl, pn, el, ec, sz, ss, gz, gs, if_true, if_false, Bool.false_eq_true, Bool.not_true, Bool.not_false, Nat.add_zero, Nat.zero_add, Nat.reduceAdd]
  refine wpPi_do rfl (fun K hK => ?_)
  refine wp_alloc 83 (.agg #[.int .i64 0, .int .i64 0]) (by rfl) (by kernel_rfl) (fun w3 hB3 hm3 hs3 => ?_)
  replace hB3 : w3.heap[w1.heap.size]? = some (.cells #[.int .i64 0, .int .i64 0] 83 (0, 0)) := hB3
  refine hK _ _ trivial ?_
  clear hK K
  try simp only [pl, pn, el, ec, sz, ss, gz, gs, if_true, if_false, Bool.false_eq_true, Bool.not_true, Bool.not_false, Nat.add_zero, Nat.zero_add, Nat.reduceAdd]
  refine wpPi_do rfl (fun K hK => ?_)
  refine wp_storeA 83 _ _ w1.heap.size 0 #[.int .i64 x, .int .i64 at'] (by rfl) (by rfl) (by rfl) (by simp [Value.oneCell']) 2 (by kernel_rfl) rfl _ _ hB3 (by simp) (fun w4 hB4 hm4 => ?_)
  refine hK _ _ trivial ?_
  clear hK K
  try simp only [pl, pn, el, ec, sz, ss, gz, gs, if_true, if_false, Bool.false_eq_true, Bool.not_true, Bool.not_false, Nat.add_zero, Nat.zero_add, Nat.reduceAdd]
  refine wpPi_nil ?_
  have hc : w4.cell? ⟨w1.heap.size, 0, none⟩ = some (.int .i64 x) := by rw [cell_of_row _ _ _ _ _ _ hB4]; rfl
  have hM4 : Mod NoB w w4 := (hm.trans0 hm3).transB hm4 (by have := hm.size; omega)
  go_upto_region 2 with (fail)
  obtain ⟨e, he⟩ : ∃ e, cmpB .eql x 0 = e := ⟨_, rfl⟩
  have HE := Lib.hid he
  clear he
  refine wp_region_seq [3, 1, 3, 3] (fun _ => True) (by rfl) (by rfl) trivial ?_
  simp only [List.zip_cons_cons, List.zip_nil_right]
  refine wpPi_field _ _ _ _ _ _ rfl rfl rfl fo_83_0 ?_
  simp only [pl, pn, el, ec, sz, ss, gz, gs, if_true, if_false, Bool.false_eq_true, Bool.not_true, Bool.not_false, Nat.add_zero, Nat.zero_add, Nat.reduceAdd]
  refine wpPi_do rfl (fun K hK => ?_)
  refine wp_exec (exec_load1 24 _ (by rfl) w1.heap.size 0 (by rfl) _ hc _ Tryz.underlying24 rfl) ?_
  refine hK _ _ trivial ?_
  clear hK K
  try simp only [pl, pn, el, ec, sz, ss, gz, gs, if_true, if_false, Bool.false_eq_true, Bool.not_true, Bool.not_false, Nat.add_zero, Nat.zero_add, Nat.reduceAdd]
  refine wpPi_cmp _ _ _ _ _ _ _ _ rfl rfl rfl rfl rfl e HE.out ?_
  simp only [pl, pn, el, ec, sz, ss, gz, gs, if_true, if_false, Bool.false_eq_true, Bool.not_true, Bool.not_false, Nat.add_zero, Nat.zero_add, Nat.reduceAdd]
  refine wpPi_assign _ rfl rfl ?_
  simp only [pl, pn, el, ec, sz, ss, gz, gs, if_true, if_false, Bool.false_eq_true, Bool.not_true, Bool.not_false, Nat.add_zero, Nat.zero_add, Nat.reduceAdd]
  refine wpPi_nil ?_
  go_wp2
  go_ret
  refine ⟨ret_bool ?_, hM4⟩
  have h := HE.out
  cases t
  · simp only [Bool.false_eq_true, if_false] at hx
    rw [← h]; simp [cmpB, hx]
  · simp only [if_true] at hx
    rw [← h]; simp [cmpB, hx.1]
end Go.Proofs.YtcfcahflkhgapaaGreat
