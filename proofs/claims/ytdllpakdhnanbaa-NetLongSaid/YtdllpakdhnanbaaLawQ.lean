/- NetLong: its walk. -/
import Derived.Test.YtdllpakdhnanbaaTwoA
import Derived.Test.YtdllpakdhnanbaaLawD
namespace Go.Proofs.Ytdllpakdhnanbaa
set_option linter.unusedSimpArgs false
set_option linter.unusedVariables false
set_option linter.unnecessarySimpa false
open Go.RowKit

def longL (i : Int) : Ltr := ⟨2, 1, 2, [i, 0], [], 0, 0, List.replicate 32 0, []⟩
theorem longL_ok (i : Int) : LtrOk (longL i) := ⟨by simp [longL], by simp [longL], by simp [longL], by simp [longL]⟩

def LongNRel (w : World) (p q : Value) (i : Value) (w' : World) : Prop :=
  ∃ (k : Nat) (N : Ns), i = .int .i64 k ∧ TwoNow w w' p q N N ∧ 0 ≤ N.lost ∧ N.lost ≤ k ∧ k ≤ 4101

set_option maxRecDepth 10000 in
set_option maxHeartbeats 8000000 in
theorem netLong_any (w : World) (n0 a0 : Int) (hn0 : -9223372036854775808 ≤ n0 ∧ n0 ≤ 9223372036854775807) (ha0 : -9223372036854775808 ≤ a0 ∧ a0 ≤ 9223372036854775807) :
    Calls Try.prog 3 #[.int .i64 n0, .int .i64 a0] w (RetM (.bool true) w) := by
  obtain ⟨k1, hk1⟩ : ∃ k, k = pickZ n0 11 := ⟨_, rfl⟩
  have hk1b := pickZ_lt n0 11 (by omega)
  rw [← hk1] at hk1b
  obtain ⟨k2, hk2⟩ : ∃ k, k = pickZ a0 4090 := ⟨_, rfl⟩
  have hk2b := pickZ_lt a0 4090 (by omega)
  rw [← hk2] at hk2b
  have HK1 := Lib.hid hk1; have HK2 := Lib.hid hk2; clear hk1 hk2
  go_enter Try.func3, Try.ntmps3
  go_upto_region 1 with (fail)
  refine wp_region_seq [3, 1, 3, 3] (fun _ => True) (by rfl) (by rfl) trivial ?_
  simp only [List.zip_cons_cons, List.zip_nil_right]
  refine wpPi_move _ rfl rfl ?_
  simp only [pl, pn, el, ec, sz, ss, gz, gs, if_true, if_false, Bool.false_eq_true, Bool.not_true, Bool.not_false, Nat.add_zero, Nat.zero_add, Nat.reduceAdd]
  refine wpPi_do rfl (fun K hK => ?_)
  go_wp2_with (go_at_call 9; refine (pick_any n0 11 hn0 (by omega) w).mono ?_; rintro _ w3 ⟨rfl, hw3⟩; obtain rfl := hw3.symm; rw [← HK1.out])
  refine hK _ _ trivial ?_
  clear hK K
  try simp only [pl, pn, el, ec, sz, ss, gz, gs, if_true, if_false, Bool.false_eq_true, Bool.not_true, Bool.not_false, Nat.add_zero, Nat.zero_add, Nat.reduceAdd]
  refine wpPi_add _ _ _ _ _ _ rfl rfl rfl rfl (by omega) (by omega) ?_
  simp only [pl, pn, el, ec, sz, ss, gz, gs, if_true, if_false, Bool.false_eq_true, Bool.not_true, Bool.not_false, Nat.add_zero, Nat.zero_add, Nat.reduceAdd]
  refine wpPi_assign _ rfl rfl ?_
  simp only [pl, pn, el, ec, sz, ss, gz, gs, if_true, if_false, Bool.false_eq_true, Bool.not_true, Bool.not_false, Nat.add_zero, Nat.zero_add, Nat.reduceAdd]
  refine wpPi_nil ?_
  obtain ⟨nn, hnn⟩ : ∃ t, t = 4090 + k1 := ⟨_, rfl⟩
  rw [← hnn]
  have hnb : 4090 ≤ nn ∧ nn ≤ 4100 := by omega
  clear HK1 hnn
  go_upto_region 2 with (fail)
  refine wp_region_seq [1, 3, 1, 1, 3, 3] (fun _ => True) (by rfl) (by rfl) trivial ?_
  simp only [List.zip_cons_cons, List.zip_nil_right]
  refine wpPi_do rfl (fun K hK => ?_)
  go_wp2_with (go_at_call 10; refine (new_at 2 w (by omega) w (Mod.refl _ _)).mono ?_; rintro _ w1 ⟨bp, F0, rfl, hN, hm1, hF0⟩)
  refine hK _ _ trivial ?_
  clear hK K
  try simp only [pl, pn, el, ec, sz, ss, gz, gs, if_true, if_false, Bool.false_eq_true, Bool.not_true, Bool.not_false, Nat.add_zero, Nat.zero_add, Nat.reduceAdd]
  refine wpPi_move _ rfl rfl ?_
  simp only [pl, pn, el, ec, sz, ss, gz, gs, if_true, if_false, Bool.false_eq_true, Bool.not_true, Bool.not_false, Nat.add_zero, Nat.zero_add, Nat.reduceAdd]
  refine wpPi_do rfl (fun K hK => ?_)
  go_wp2
  refine hK _ _ trivial ?_
  clear hK K
  try simp only [pl, pn, el, ec, sz, ss, gz, gs, if_true, if_false, Bool.false_eq_true, Bool.not_true, Bool.not_false, Nat.add_zero, Nat.zero_add, Nat.reduceAdd]
  refine wpPi_do rfl (fun K hK => ?_)
  go_wp2
  refine hK _ _ trivial ?_
  clear hK K
  try simp only [pl, pn, el, ec, sz, ss, gz, gs, if_true, if_false, Bool.false_eq_true, Bool.not_true, Bool.not_false, Nat.add_zero, Nat.zero_add, Nat.reduceAdd]
  refine wpPi_assign _ rfl rfl ?_
  simp only [pl, pn, el, ec, sz, ss, gz, gs, if_true, if_false, Bool.false_eq_true, Bool.not_true, Bool.not_false, Nat.add_zero, Nat.zero_add, Nat.reduceAdd]
  refine wpPi_assign _ rfl rfl ?_
  simp only [pl, pn, el, ec, sz, ss, gz, gs, if_true, if_false, Bool.false_eq_true, Bool.not_true, Bool.not_false, Nat.add_zero, Nat.zero_add, Nat.reduceAdd]
  refine wpPi_nil ?_
  go_upto_region 3 with (fail)
  refine wp_region_seq [1, 3, 1, 1, 3, 3] (fun _ => True) (by rfl) (by rfl) trivial ?_
  simp only [List.zip_cons_cons, List.zip_nil_right]
  refine wpPi_do rfl (fun K hK => ?_)
  go_wp2_with (go_at_call 11; refine (refNew_at 2 w (by omega) w1 hN.mod).mono ?_; rintro _ w2 ⟨bq, R0, rfl, hR, hm2, hR0⟩)
  refine hK _ _ trivial ?_
  clear hK K
  try simp only [pl, pn, el, ec, sz, ss, gz, gs, if_true, if_false, Bool.false_eq_true, Bool.not_true, Bool.not_false, Nat.add_zero, Nat.zero_add, Nat.reduceAdd]
  refine wpPi_move _ rfl rfl ?_
  simp only [pl, pn, el, ec, sz, ss, gz, gs, if_true, if_false, Bool.false_eq_true, Bool.not_true, Bool.not_false, Nat.add_zero, Nat.zero_add, Nat.reduceAdd]
  refine wpPi_do rfl (fun K hK => ?_)
  go_wp2
  refine hK _ _ trivial ?_
  clear hK K
  try simp only [pl, pn, el, ec, sz, ss, gz, gs, if_true, if_false, Bool.false_eq_true, Bool.not_true, Bool.not_false, Nat.add_zero, Nat.zero_add, Nat.reduceAdd]
  refine wpPi_do rfl (fun K hK => ?_)
  go_wp2
  refine hK _ _ trivial ?_
  clear hK K
  try simp only [pl, pn, el, ec, sz, ss, gz, gs, if_true, if_false, Bool.false_eq_true, Bool.not_true, Bool.not_false, Nat.add_zero, Nat.zero_add, Nat.reduceAdd]
  refine wpPi_assign _ rfl rfl ?_
  simp only [pl, pn, el, ec, sz, ss, gz, gs, if_true, if_false, Bool.false_eq_true, Bool.not_true, Bool.not_false, Nat.add_zero, Nat.zero_add, Nat.reduceAdd]
  refine wpPi_assign _ rfl rfl ?_
  simp only [pl, pn, el, ec, sz, ss, gz, gs, if_true, if_false, Bool.false_eq_true, Bool.not_true, Bool.not_false, Nat.add_zero, Nat.zero_add, Nat.reduceAdd]
  refine wpPi_nil ?_
  have hT : TwoNow w w2 (.pointer (some ⟨bp, 0, none⟩)) (.pointer (some ⟨bq, 0, none⟩)) ⟨2, 0, fun _ => false, []⟩ ⟨2, 0, fun _ => false, []⟩ :=
    ⟨F0, R0, hN.keep0 hm2, hR, fun k h1 h2 => by have h3 := hN.lt k h1; have h4 := hR0 k h2; omega⟩
  clear hN hR hF0 hR0 hm1 hm2
  go_wp2
  go_loopw [10] (LongNRel w (.pointer (some ⟨bp, 0, none⟩)) (.pointer (some ⟨bq, 0, none⟩))) (fun i _ => 4200 - (intOf i).toNat)
  case atStart => exact ⟨0, _, rfl, hT, by simp, by simp, by omega⟩
  case round =>
    clear hT
    obtain ⟨k, N, rfl, hT, hl0, hl1, hk1⟩ := hrel
    rename_i wr
    by_cases hlt : (k : Int) < nn
    · obtain ⟨F, R, hT⟩ := hT
      have hltF := hT.lt
      obtain ⟨cs, hcs⟩ : ∃ cs, cs = ltrCells (longL k) (.slice (some ⟨wr.heap.size, 0, none⟩) 2 2) (.slice none 0 0) (.slice none 0 0) := ⟨_, rfl⟩
      have HC := Lib.hid hcs
      have hsz : cs.size = 40 := by rw [hcs]; exact (ltrCells_spec _ _ _ _ (by simp [longL])).size
      have hone := ltrCells_one (longL k) (.slice (some ⟨wr.heap.size, 0, none⟩) 2 2) (.slice none 0 0) (.slice none 0 0) rfl rfl rfl
      rw [← hcs] at hone
      clear hcs
      go_upto_region 9 with (fail)
      refine wp_region_seq [3, 1, 1, 1, 1] (fun _ => True) (by rfl) (by rfl) trivial ?_
      simp only [List.zip_cons_cons, List.zip_nil_right]
      refine wpPi_move _ rfl rfl ?_
      simp only [pl, pn, el, ec, sz, ss, gz, gs, if_true, if_false, Bool.false_eq_true, Bool.not_true, Bool.not_false, Nat.add_zero, Nat.zero_add, Nat.reduceAdd]
      refine wpPi_do rfl (fun K hK => ?_)
      refine wp_two _ _ (k : Int) 0 (by rfl) (by rfl) (by rfl) (fun w3 hB2 hm3 hs3 => ?_)
      refine hK _ _ trivial ?_
      clear hK K
      try simp only [pl, pn, el, ec, sz, ss, gz, gs, if_true, if_false, Bool.false_eq_true, Bool.not_true, Bool.not_false, Nat.add_zero, Nat.zero_add, Nat.reduceAdd]
      refine wpPi_do rfl (fun K hK => ?_)
      refine wp_exec (v := .agg cs) (by rw [HC.out]; exact exec_build_from _ _ _ 1 2 wr.heap.size rfl rfl rfl rfl) ?_
      refine hK _ _ trivial ?_
      clear hK K
      try simp only [pl, pn, el, ec, sz, ss, gz, gs, if_true, if_false, Bool.false_eq_true, Bool.not_true, Bool.not_false, Nat.add_zero, Nat.zero_add, Nat.reduceAdd]
      refine wpPi_do rfl (fun K hK => ?_)
      refine wp_alloc 38 ltrZero (by rfl) zero38 (fun w4 hB3 hm4 hs4 => ?_)
      replace hB2 := hm4.obj id hB2
      refine hK _ _ trivial ?_
      clear hK K
      try simp only [pl, pn, el, ec, sz, ss, gz, gs, if_true, if_false, Bool.false_eq_true, Bool.not_true, Bool.not_false, Nat.add_zero, Nat.zero_add, Nat.reduceAdd]
      refine wpPi_do rfl (fun K hK => ?_)
      refine wp_storeA 38 _ _ w3.heap.size 0 cs (by rfl) (by rfl) (by rfl) hone 40 (by kernel_rfl) hsz _ _ hB3 (by rw [hsz]; exact Nat.le_refl 40) (fun w5 hB5 hm5 => ?_)
      rw [putRow_whole (by rw [hsz]; rfl)] at hB5
      replace hB2 := hm5.objB (by omega) hB2
      have hm35 : Mod NoB wr w5 := hm3.trans0 (hm4.transB hm5 (Nat.le_refl _))
      have hs5 := hm5.size
      refine hK _ _ trivial ?_
      clear hK K
      try simp only [pl, pn, el, ec, sz, ss, gz, gs, if_true, if_false, Bool.false_eq_true, Bool.not_true, Bool.not_false, Nat.add_zero, Nat.zero_add, Nat.reduceAdd]
      refine wpPi_nil ?_
      have hlet : LetR true w5 NoB (fun j => j = wr.heap.size) cs (longL k) := ⟨_, _, _, HC.out, by simp [longL], Sl.two hB2, Sl.nil _ _ _ _ _, Sl.nil _ _ _ _ _⟩
      replace hT := hT.keep0 hm35
      clear hB3 hB2
      obtain ⟨sb, hsb⟩ : ∃ t, t = sendB N (longL k) := ⟨_, rfl⟩
      obtain ⟨se, hse⟩ : ∃ t, t = sendE N (longL k) := ⟨_, rfl⟩
      have HSB := Lib.hid hsb; have HSE := Lib.hid hse; clear hsb hse
      go_upto_region 10 with (fail)
      refine wp_region_seq [3, 1, 1, 3, 1, 1, 3, 3] (fun _ => True) (by rfl) (by rfl) trivial ?_
      simp only [List.zip_cons_cons, List.zip_nil_right]
      refine wpPi_move _ rfl rfl ?_
      simp only [pl, pn, el, ec, sz, ss, gz, gs, if_true, if_false, Bool.false_eq_true, Bool.not_true, Bool.not_false, Nat.add_zero, Nat.zero_add, Nat.reduceAdd]
      refine wpPi_do rfl (fun K hK => ?_)
      refine wp_exec (exec_loadA 38 _ (by rfl) w3.heap.size 0 (by rfl) _ (CellsAt.whole hB5) _ Try.underlying38 rfl 40 (by kernel_rfl) hsz) ?_
      refine hK _ _ trivial ?_
      clear hK K
      try simp only [pl, pn, el, ec, sz, ss, gz, gs, if_true, if_false, Bool.false_eq_true, Bool.not_true, Bool.not_false, Nat.add_zero, Nat.zero_add, Nat.reduceAdd]
      refine wpPi_do rfl (fun K hK => ?_)
      go_wp2_with (go_at_call 12; refine (send_at hT.net ⟨hl0, by omega⟩ true _ _ _ _ hlet (longL_ok _)).mono ?_; rintro _ w6 ⟨rfl, hst⟩; rw [← HSB.out, ← HSE.out])
      obtain ⟨F6, hT6, hm6, hF6⟩ := hT.stepN hst
      have hlet6 := hlet.keep hm6 (fun j hj => False.elim hj) (fun j hj e => by have e' : j = wr.heap.size := hj; have := hltF j (.inl e); omega)
      have hB6 := hm6.obj (fun e => by have := hltF _ (.inl e); omega) hB5
      refine hK _ _ trivial ?_
      clear hK K hst
      try simp only [pl, pn, el, ec, sz, ss, gz, gs, if_true, if_false, Bool.false_eq_true, Bool.not_true, Bool.not_false, Nat.add_zero, Nat.zero_add, Nat.reduceAdd]
      refine wpPi_move _ rfl rfl ?_
      simp only [pl, pn, el, ec, sz, ss, gz, gs, if_true, if_false, Bool.false_eq_true, Bool.not_true, Bool.not_false, Nat.add_zero, Nat.zero_add, Nat.reduceAdd]
      refine wpPi_do rfl (fun K hK => ?_)
      go_wp2
      refine hK _ _ trivial ?_
      clear hK K
      try simp only [pl, pn, el, ec, sz, ss, gz, gs, if_true, if_false, Bool.false_eq_true, Bool.not_true, Bool.not_false, Nat.add_zero, Nat.zero_add, Nat.reduceAdd]
      refine wpPi_do rfl (fun K hK => ?_)
      go_wp2
      refine hK _ _ trivial ?_
      clear hK K
      try simp only [pl, pn, el, ec, sz, ss, gz, gs, if_true, if_false, Bool.false_eq_true, Bool.not_true, Bool.not_false, Nat.add_zero, Nat.zero_add, Nat.reduceAdd]
      refine wpPi_assign _ rfl rfl ?_
      simp only [pl, pn, el, ec, sz, ss, gz, gs, if_true, if_false, Bool.false_eq_true, Bool.not_true, Bool.not_false, Nat.add_zero, Nat.zero_add, Nat.reduceAdd]
      refine wpPi_assign _ rfl rfl ?_
      simp only [pl, pn, el, ec, sz, ss, gz, gs, if_true, if_false, Bool.false_eq_true, Bool.not_true, Bool.not_false, Nat.add_zero, Nat.zero_add, Nat.reduceAdd]
      refine wpPi_nil ?_
      go_upto_region 11 with (fail)
      refine wp_region_seq [3, 1, 1, 3, 1, 1, 3, 3] (fun _ => True) (by rfl) (by rfl) trivial ?_
      simp only [List.zip_cons_cons, List.zip_nil_right]
      refine wpPi_move _ rfl rfl ?_
      simp only [pl, pn, el, ec, sz, ss, gz, gs, if_true, if_false, Bool.false_eq_true, Bool.not_true, Bool.not_false, Nat.add_zero, Nat.zero_add, Nat.reduceAdd]
      refine wpPi_do rfl (fun K hK => ?_)
      refine wp_exec (exec_loadA 38 _ (by rfl) w3.heap.size 0 (by rfl) _ (CellsAt.whole hB6) _ Try.underlying38 rfl 40 (by kernel_rfl) hsz) ?_
      refine hK _ _ trivial ?_
      clear hK K
      try simp only [pl, pn, el, ec, sz, ss, gz, gs, if_true, if_false, Bool.false_eq_true, Bool.not_true, Bool.not_false, Nat.add_zero, Nat.zero_add, Nat.reduceAdd]
      refine wpPi_do rfl (fun K hK => ?_)
      go_wp2_with (go_at_call 13; refine (refSend_at hT6.ref ⟨hl0, by omega⟩ true _ _ _ _ hlet6 (longL_ok _)).mono ?_; rintro _ w7 ⟨rfl, hst⟩; rw [← HSB.out, ← HSE.out])
      have hT7 := (hT6.stepM hst).now
      refine hK _ _ trivial ?_
      clear hK K hst
      try simp only [pl, pn, el, ec, sz, ss, gz, gs, if_true, if_false, Bool.false_eq_true, Bool.not_true, Bool.not_false, Nat.add_zero, Nat.zero_add, Nat.reduceAdd]
      refine wpPi_move _ rfl rfl ?_
      simp only [pl, pn, el, ec, sz, ss, gz, gs, if_true, if_false, Bool.false_eq_true, Bool.not_true, Bool.not_false, Nat.add_zero, Nat.zero_add, Nat.reduceAdd]
      refine wpPi_do rfl (fun K hK => ?_)
      go_wp2
      refine hK _ _ trivial ?_
      clear hK K
      try simp only [pl, pn, el, ec, sz, ss, gz, gs, if_true, if_false, Bool.false_eq_true, Bool.not_true, Bool.not_false, Nat.add_zero, Nat.zero_add, Nat.reduceAdd]
      refine wpPi_do rfl (fun K hK => ?_)
      go_wp2
      refine hK _ _ trivial ?_
      clear hK K
      try simp only [pl, pn, el, ec, sz, ss, gz, gs, if_true, if_false, Bool.false_eq_true, Bool.not_true, Bool.not_false, Nat.add_zero, Nat.zero_add, Nat.reduceAdd]
      refine wpPi_assign _ rfl rfl ?_
      simp only [pl, pn, el, ec, sz, ss, gz, gs, if_true, if_false, Bool.false_eq_true, Bool.not_true, Bool.not_false, Nat.add_zero, Nat.zero_add, Nat.reduceAdd]
      refine wpPi_assign _ rfl rfl ?_
      simp only [pl, pn, el, ec, sz, ss, gz, gs, if_true, if_false, Bool.false_eq_true, Bool.not_true, Bool.not_false, Nat.add_zero, Nat.zero_add, Nat.reduceAdd]
      refine wpPi_nil ?_
      clear hT6 hT hF6 hltF hlet6 hB6 hB5 hlet
      obtain ⟨hb1, hb2⟩ := send_lost N (longL k) hl0
      cases sb
      all_goals
        go_upto_region 12 with (fail)
        refine wp_region_seq [3, 3, 3, 3, 3, 3, 3, 3] (fun _ => True) (by rfl) (by rfl) trivial ?_
        simp only [List.zip_cons_cons, List.zip_nil_right]
        refine wpPi_move _ rfl rfl ?_
        simp only [pl, pn, el, ec, sz, ss, gz, gs, if_true, if_false, Bool.false_eq_true, Bool.not_true, Bool.not_false, Nat.add_zero, Nat.zero_add, Nat.reduceAdd]
        refine wpPi_move _ rfl rfl ?_
        simp only [pl, pn, el, ec, sz, ss, gz, gs, if_true, if_false, Bool.false_eq_true, Bool.not_true, Bool.not_false, Nat.add_zero, Nat.zero_add, Nat.reduceAdd]
        refine wpPi_any (v := ?_) rfl (fun w' => ?_) ?_; rotate_left; · (go_simp; try with_reducible rfl)
        simp only [pl, pn, el, ec, sz, ss, gz, gs, if_true, if_false, Bool.false_eq_true, Bool.not_true, Bool.not_false, Nat.add_zero, Nat.zero_add, Nat.reduceAdd]
        refine wpPi_move _ rfl rfl ?_
        simp only [pl, pn, el, ec, sz, ss, gz, gs, if_true, if_false, Bool.false_eq_true, Bool.not_true, Bool.not_false, Nat.add_zero, Nat.zero_add, Nat.reduceAdd]
        refine wpPi_move _ rfl rfl ?_
        simp only [pl, pn, el, ec, sz, ss, gz, gs, if_true, if_false, Bool.false_eq_true, Bool.not_true, Bool.not_false, Nat.add_zero, Nat.zero_add, Nat.reduceAdd]
        refine wpPi_move _ rfl rfl ?_
        simp only [pl, pn, el, ec, sz, ss, gz, gs, if_true, if_false, Bool.false_eq_true, Bool.not_true, Bool.not_false, Nat.add_zero, Nat.zero_add, Nat.reduceAdd]
        refine wpPi_cmp _ _ _ _ _ _ _ _ rfl rfl rfl rfl rfl false (by simp only [cmpB]; simp) ?_
        simp only [pl, pn, el, ec, sz, ss, gz, gs, if_true, if_false, Bool.false_eq_true, Bool.not_true, Bool.not_false, Nat.add_zero, Nat.zero_add, Nat.reduceAdd]
        refine wpPi_pick _ _ _ _ rfl rfl rfl ?_
        simp only [pl, pn, el, ec, sz, ss, gz, gs, if_true, if_false, Bool.false_eq_true, Bool.not_true, Bool.not_false, Nat.add_zero, Nat.zero_add, Nat.reduceAdd]
        refine wpPi_nil ?_
        go_wp2
        go_roundw
        case rel => exact ⟨k + 1, _, by go_num, hT7, hb1, by omega, by omega⟩
        case measure => simp [intOf]; omega
    · go_upto_region 14 with (fail)
      refine wp_region_seq [3, 1, 3] (fun _ => True) (by rfl) (by rfl) trivial ?_
      simp only [List.zip_cons_cons, List.zip_nil_right]
      refine wpPi_move _ rfl rfl ?_
      simp only [pl, pn, el, ec, sz, ss, gz, gs, if_true, if_false, Bool.false_eq_true, Bool.not_true, Bool.not_false, Nat.add_zero, Nat.zero_add, Nat.reduceAdd]
      refine wpPi_do rfl (fun K hK => ?_)
      go_wp2_with (go_at_call 9; refine (pick_any a0 4090 ha0 (by omega) wr).mono ?_; rintro _ w3 ⟨rfl, hw3⟩; obtain rfl := hw3.symm; rw [← HK2.out])
      refine hK _ _ trivial ?_
      clear hK K
      try simp only [pl, pn, el, ec, sz, ss, gz, gs, if_true, if_false, Bool.false_eq_true, Bool.not_true, Bool.not_false, Nat.add_zero, Nat.zero_add, Nat.reduceAdd]
      refine wpPi_assign _ rfl rfl ?_
      simp only [pl, pn, el, ec, sz, ss, gz, gs, if_true, if_false, Bool.false_eq_true, Bool.not_true, Bool.not_false, Nat.add_zero, Nat.zero_add, Nat.reduceAdd]
      refine wpPi_nil ?_
      clear HK2
      obtain ⟨ce, hce⟩ : ∃ t, t = copyE N k2 := ⟨_, rfl⟩
      obtain ⟨N1, hN1⟩ : ∃ t, t = copyN N k2 := ⟨_, rfl⟩
      obtain ⟨le, hle⟩ : ∃ t : Int, t = N1.ls.length := ⟨_, rfl⟩
      obtain ⟨lo, hlo⟩ : ∃ t, t = N1.lost := ⟨_, rfl⟩
      have HCE := Lib.hid hce; have HN1 := Lib.hid hN1; have HLE := Lib.hid hle; have HLO := Lib.hid hlo; clear hce hN1 hle hlo
      go_upto_region 15 with (fail)
      refine wp_region_pi [(0, 3), (1, 3), (3, 3), (4, 3), (2, 1), (5, 1), (6, 3), (7, 3), (8, 3), (10, 3), (11, 3), (12, 3), (13, 0), (14, 3), (9, 1), (15, 3), (16, 3), (17, 3), (18, 3), (20, 3), (21, 3), (22, 3), (23, 0), (19, 1), (24, 3), (25, 3)] [] (fun _ => True) (by kernel_rfl) (by kernel_rfl) (by kernel_rfl) (by kernel_rfl) (fun _ _ _ _ hd h => ⟨hd.trans h.1, h.2⟩) trivial ?_
      simp only [List.map_cons, List.map_nil, List.getD_cons_zero, List.getD_cons_succ]
      refine wpPi_move _ rfl rfl ?_
      simp only [pl, pn, el, ec, sz, ss, gz, gs, if_true, if_false, Bool.false_eq_true, Bool.not_true, Bool.not_false, Nat.add_zero, Nat.zero_add, Nat.reduceAdd]
      refine wpPi_move _ rfl rfl ?_
      simp only [pl, pn, el, ec, sz, ss, gz, gs, if_true, if_false, Bool.false_eq_true, Bool.not_true, Bool.not_false, Nat.add_zero, Nat.zero_add, Nat.reduceAdd]
      refine wpPi_move _ rfl rfl ?_
      simp only [pl, pn, el, ec, sz, ss, gz, gs, if_true, if_false, Bool.false_eq_true, Bool.not_true, Bool.not_false, Nat.add_zero, Nat.zero_add, Nat.reduceAdd]
      refine wpPi_move _ rfl rfl ?_
      simp only [pl, pn, el, ec, sz, ss, gz, gs, if_true, if_false, Bool.false_eq_true, Bool.not_true, Bool.not_false, Nat.add_zero, Nat.zero_add, Nat.reduceAdd]
      refine wpPi_do rfl (fun K hK => ?_)
      go_wp2_with (go_at_call 14; refine (copy_two (hT.keep0 (Mod.refl _ _).drew) k2 ce HCE.out.symm).mono ?_; rintro _ w3 ⟨rfl, hT3⟩)
      refine hK _ _ trivial ?_
      clear hK K
      try simp only [pl, pn, el, ec, sz, ss, gz, gs, if_true, if_false, Bool.false_eq_true, Bool.not_true, Bool.not_false, Nat.add_zero, Nat.zero_add, Nat.reduceAdd]
      refine wpPi_do_to rfl (fun K hK => ?_)
      go_wp2_with (go_at_call 15; refine (refCopy_two hT3 k2 ce HCE.out.symm).mono ?_; rintro _ w4 ⟨rfl, hT4⟩)
      rw [← HN1.out] at hT4
      obtain ⟨hg1, sa, sc, hg2⟩ := hT4.cells bq rfl
      rw [← HLO.out] at hg1
      refine hK (fun w' => w'.cell? ⟨bq, 1, none⟩ = some (.int .i64 lo) ∧ w'.cell? ⟨bq, 2, none⟩ = some (.slice sa N1.ls.length sc)) _ _ (fun _ _ => trivial) ⟨hg1, hg2⟩ ?_
      clear hK K
      try simp only [pl, pn, el, ec, sz, ss, gz, gs, if_true, if_false, Bool.false_eq_true, Bool.not_true, Bool.not_false, Nat.add_zero, Nat.zero_add, Nat.reduceAdd]
      refine wpPi_cmp _ _ _ _ _ _ _ _ rfl rfl rfl rfl rfl false (by simp only [cmpB]; simp) ?_
      simp only [pl, pn, el, ec, sz, ss, gz, gs, if_true, if_false, Bool.false_eq_true, Bool.not_true, Bool.not_false, Nat.add_zero, Nat.zero_add, Nat.reduceAdd]
      refine wpPi_move _ rfl rfl ?_
      simp only [pl, pn, el, ec, sz, ss, gz, gs, if_true, if_false, Bool.false_eq_true, Bool.not_true, Bool.not_false, Nat.add_zero, Nat.zero_add, Nat.reduceAdd]
      refine wpPi_move _ rfl rfl ?_
      simp only [pl, pn, el, ec, sz, ss, gz, gs, if_true, if_false, Bool.false_eq_true, Bool.not_true, Bool.not_false, Nat.add_zero, Nat.zero_add, Nat.reduceAdd]
      refine wpPi_move _ rfl rfl ?_
      simp only [pl, pn, el, ec, sz, ss, gz, gs, if_true, if_false, Bool.false_eq_true, Bool.not_true, Bool.not_false, Nat.add_zero, Nat.zero_add, Nat.reduceAdd]
      refine wpPi_nilCheck _ _ rfl rfl rfl ?_
      simp only [pl, pn, el, ec, sz, ss, gz, gs, if_true, if_false, Bool.false_eq_true, Bool.not_true, Bool.not_false, Nat.add_zero, Nat.zero_add, Nat.reduceAdd]
      refine wpPi_field _ _ _ _ _ _ rfl rfl rfl fo_46_2 ?_
      simp only [pl, pn, el, ec, sz, ss, gz, gs, if_true, if_false, Bool.false_eq_true, Bool.not_true, Bool.not_false, Nat.add_zero, Nat.zero_add, Nat.reduceAdd]
      refine wpPi_val rfl (fun w' hS => exec_load1 _ _ rfl _ _ rfl _ hS.2 _ Try.underlying43 rfl) ?_
      simp only [pl, pn, el, ec, sz, ss, gz, gs, if_true, if_false, Bool.false_eq_true, Bool.not_true, Bool.not_false, Nat.add_zero, Nat.zero_add, Nat.reduceAdd]
      refine wpPi_len _ _ _ _ _ rfl rfl rfl (by kernel_rfl) ?_
      simp only [pl, pn, el, ec, sz, ss, gz, gs, if_true, if_false, Bool.false_eq_true, Bool.not_true, Bool.not_false, Nat.add_zero, Nat.zero_add, Nat.reduceAdd]
      refine wpPi_do rfl (fun K hK => ?_)
      go_wp2_with (go_at_call 16; refine (len_same hT4 le HLE.out.symm).mono ?_; rintro _ w5 ⟨rfl, hw5⟩; obtain rfl := hw5.symm)
      refine hK _ _ ⟨hg1, hg2⟩ ?_
      clear hK K
      try simp only [pl, pn, el, ec, sz, ss, gz, gs, if_true, if_false, Bool.false_eq_true, Bool.not_true, Bool.not_false, Nat.add_zero, Nat.zero_add, Nat.reduceAdd]
      refine wpPi_cmp _ _ _ _ _ _ _ _ rfl rfl rfl rfl rfl false (by simp only [cmpB]; simp [HLE.out]) ?_
      simp only [pl, pn, el, ec, sz, ss, gz, gs, if_true, if_false, Bool.false_eq_true, Bool.not_true, Bool.not_false, Nat.add_zero, Nat.zero_add, Nat.reduceAdd]
      refine wpPi_pick _ _ _ _ rfl rfl rfl ?_
      simp only [pl, pn, el, ec, sz, ss, gz, gs, if_true, if_false, Bool.false_eq_true, Bool.not_true, Bool.not_false, Nat.add_zero, Nat.zero_add, Nat.reduceAdd]
      refine wpPi_move _ rfl rfl ?_
      simp only [pl, pn, el, ec, sz, ss, gz, gs, if_true, if_false, Bool.false_eq_true, Bool.not_true, Bool.not_false, Nat.add_zero, Nat.zero_add, Nat.reduceAdd]
      refine wpPi_move _ rfl rfl ?_
      simp only [pl, pn, el, ec, sz, ss, gz, gs, if_true, if_false, Bool.false_eq_true, Bool.not_true, Bool.not_false, Nat.add_zero, Nat.zero_add, Nat.reduceAdd]
      refine wpPi_move _ rfl rfl ?_
      simp only [pl, pn, el, ec, sz, ss, gz, gs, if_true, if_false, Bool.false_eq_true, Bool.not_true, Bool.not_false, Nat.add_zero, Nat.zero_add, Nat.reduceAdd]
      refine wpPi_nilCheck _ _ rfl rfl rfl ?_
      simp only [pl, pn, el, ec, sz, ss, gz, gs, if_true, if_false, Bool.false_eq_true, Bool.not_true, Bool.not_false, Nat.add_zero, Nat.zero_add, Nat.reduceAdd]
      refine wpPi_field _ _ _ _ _ _ rfl rfl rfl fo_46_1 ?_
      simp only [pl, pn, el, ec, sz, ss, gz, gs, if_true, if_false, Bool.false_eq_true, Bool.not_true, Bool.not_false, Nat.add_zero, Nat.zero_add, Nat.reduceAdd]
      refine wpPi_val rfl (fun w' hS => exec_load1 _ _ rfl _ _ rfl _ hS.1 _ Try.underlying3 rfl) ?_
      simp only [pl, pn, el, ec, sz, ss, gz, gs, if_true, if_false, Bool.false_eq_true, Bool.not_true, Bool.not_false, Nat.add_zero, Nat.zero_add, Nat.reduceAdd]
      refine wpPi_do rfl (fun K hK => ?_)
      go_wp2_with (go_at_call 17; refine (lost_same hT4 lo HLO.out.symm).mono ?_; rintro _ w5 ⟨rfl, hw5⟩; obtain rfl := hw5.symm)
      refine hK _ _ ⟨hg1, hg2⟩ ?_
      clear hK K
      try simp only [pl, pn, el, ec, sz, ss, gz, gs, if_true, if_false, Bool.false_eq_true, Bool.not_true, Bool.not_false, Nat.add_zero, Nat.zero_add, Nat.reduceAdd]
      refine wpPi_cmp _ _ _ _ _ _ _ _ rfl rfl rfl rfl rfl false (by simp only [cmpB]; simp) ?_
      simp only [pl, pn, el, ec, sz, ss, gz, gs, if_true, if_false, Bool.false_eq_true, Bool.not_true, Bool.not_false, Nat.add_zero, Nat.zero_add, Nat.reduceAdd]
      refine wpPi_pick _ _ _ _ rfl rfl rfl ?_
      simp only [pl, pn, el, ec, sz, ss, gz, gs, if_true, if_false, Bool.false_eq_true, Bool.not_true, Bool.not_false, Nat.add_zero, Nat.zero_add, Nat.reduceAdd]
      refine wpPi_nil ?_
      clear hT hT3 hg1 hg2 HCE HN1 HLE HLO hlt
      obtain ⟨F, R, hT⟩ := hT4
      obtain ⟨te, hte⟩ : ∃ t, t = takeE N1 k2 := ⟨_, rfl⟩
      obtain ⟨tl, htl⟩ : ∃ t, t = takeL N1 k2 := ⟨_, rfl⟩
      have HTE := Lib.hid hte; have HTL := Lib.hid htl; clear hte htl
      go_upto_region 17 with (fail)
      refine wp_region_seq [3, 3, 1, 3, 1, 1, 1, 1, 3] (fun _ => True) (by rfl) (by rfl) trivial ?_
      simp only [List.zip_cons_cons, List.zip_nil_right]
      refine wpPi_move _ rfl rfl ?_
      simp only [pl, pn, el, ec, sz, ss, gz, gs, if_true, if_false, Bool.false_eq_true, Bool.not_true, Bool.not_false, Nat.add_zero, Nat.zero_add, Nat.reduceAdd]
      refine wpPi_move _ rfl rfl ?_
      simp only [pl, pn, el, ec, sz, ss, gz, gs, if_true, if_false, Bool.false_eq_true, Bool.not_true, Bool.not_false, Nat.add_zero, Nat.zero_add, Nat.reduceAdd]
      refine wpPi_do rfl (fun K hK => ?_)
      go_wp2_with (go_at_call 18; refine (take_apart hT.net k2 te HTE.out.symm).mono ?_; rintro _ w5 ⟨cs5, E5, G5, F5, rfl, hl5, hN5, hm5, hF5, hEF, hEF5⟩)
      have hT5 : Two w w5 _ _ (takeN N1 k2) N1 F5 R := ⟨hN5, hT.ref.keep hm5 (fun j hj hF => hT.dis j hF hj) (fun j hj hF => by have := hT.net.old j hF; omega), fun j hj => hT.dis j (hF5 j hj)⟩
      rw [← HTL.out] at hl5
      have hER : ∀ j, E5 j ∨ G5 j → ¬ R j := fun j hj => hT.dis j (hEF j hj)
      refine hK _ _ trivial ?_
      clear hK K hN5 hm5 hF5 hEF hEF5
      try simp only [pl, pn, el, ec, sz, ss, gz, gs, if_true, if_false, Bool.false_eq_true, Bool.not_true, Bool.not_false, Nat.add_zero, Nat.zero_add, Nat.reduceAdd]
      refine wpPi_move _ rfl rfl ?_
      simp only [pl, pn, el, ec, sz, ss, gz, gs, if_true, if_false, Bool.false_eq_true, Bool.not_true, Bool.not_false, Nat.add_zero, Nat.zero_add, Nat.reduceAdd]
      refine wpPi_do rfl (fun K hK => ?_)
      go_wp2
      refine hK _ _ trivial ?_
      clear hK K
      try simp only [pl, pn, el, ec, sz, ss, gz, gs, if_true, if_false, Bool.false_eq_true, Bool.not_true, Bool.not_false, Nat.add_zero, Nat.zero_add, Nat.reduceAdd]
      refine wpPi_do rfl (fun K hK => ?_)
      go_wp2
      refine hK _ _ trivial ?_
      clear hK K
      try simp only [pl, pn, el, ec, sz, ss, gz, gs, if_true, if_false, Bool.false_eq_true, Bool.not_true, Bool.not_false, Nat.add_zero, Nat.zero_add, Nat.reduceAdd]
      refine wpPi_do rfl (fun K hK => ?_)
      refine wp_alloc 38 ltrZero (by rfl) zero38 (fun w6 hB6 hm6 hs6 => ?_)
      refine hK _ _ trivial ?_
      clear hK K
      try simp only [pl, pn, el, ec, sz, ss, gz, gs, if_true, if_false, Bool.false_eq_true, Bool.not_true, Bool.not_false, Nat.add_zero, Nat.zero_add, Nat.reduceAdd]
      refine wpPi_do rfl (fun K hK => ?_)
      refine wp_storeA 38 _ _ w5.heap.size 0 cs5 (by rfl) (by rfl) (by rfl) hl5.one 40 (by kernel_rfl) hl5.size _ _ hB6 (by rw [hl5.size]; exact Nat.le_refl 40) (fun w7 hB7 hm7 => ?_)
      rw [putRow_whole (by rw [hl5.size]; rfl)] at hB7
      have hm57 : Mod NoB w5 w7 := hm6.transB hm7 (Nat.le_refl _)
      have hl7 := hl5.keep0 hm57
      have hlt5 := hT5.lt
      have hT7 := hT5.keep0 hm57
      have hs57 : w5.heap.size < w7.heap.size := by have := hm7.size; omega
      refine hK _ _ trivial ?_
      clear hK K
      try simp only [pl, pn, el, ec, sz, ss, gz, gs, if_true, if_false, Bool.false_eq_true, Bool.not_true, Bool.not_false, Nat.add_zero, Nat.zero_add, Nat.reduceAdd]
      refine wpPi_assign _ rfl rfl ?_
      simp only [pl, pn, el, ec, sz, ss, gz, gs, if_true, if_false, Bool.false_eq_true, Bool.not_true, Bool.not_false, Nat.add_zero, Nat.zero_add, Nat.reduceAdd]
      refine wpPi_nil ?_
      clear hT hT5 hl5 hB6 hm6 hm7 hm57
      go_upto_region 18 with (fail)
      refine wp_region_seq [3, 3, 1, 3, 1, 1, 1, 1, 3] (fun _ => True) (by rfl) (by rfl) trivial ?_
      simp only [List.zip_cons_cons, List.zip_nil_right]
      refine wpPi_move _ rfl rfl ?_
      simp only [pl, pn, el, ec, sz, ss, gz, gs, if_true, if_false, Bool.false_eq_true, Bool.not_true, Bool.not_false, Nat.add_zero, Nat.zero_add, Nat.reduceAdd]
      refine wpPi_move _ rfl rfl ?_
      simp only [pl, pn, el, ec, sz, ss, gz, gs, if_true, if_false, Bool.false_eq_true, Bool.not_true, Bool.not_false, Nat.add_zero, Nat.zero_add, Nat.reduceAdd]
      refine wpPi_do rfl (fun K hK => ?_)
      go_wp2_with (go_at_call 19; refine (refTake_at hT7.ref k2).mono ?_; rintro _ w8 ⟨cs8, E8, G8, rfl, hl8, hst⟩; rw [← HTE.out])
      rw [← HTL.out] at hl8
      obtain ⟨R8, hT8, hm8, hR8⟩ := hT7.stepM hst
      have hl78 := hl7.keep hm8 (fun j hj => hER j (.inl hj)) (fun j hj => hER j (.inr hj))
      have hB8 := hm8.obj (fun e => by have := hlt5 _ (.inr e); omega) hB7
      have hnF : ∀ j, F5 j ∨ R8 j → j ≠ w5.heap.size ∧ j < w8.heap.size := fun j hj => by
        refine ⟨?_, hT8.lt j hj⟩
        rcases hj with hj | hj
        · have := hlt5 j (.inl hj); omega
        · rcases hR8 j hj with h1 | h1
          · have := hlt5 j (.inr h1); omega
          · have := h1.1; omega
      have hs8 := hm8.size
      refine hK _ _ trivial ?_
      clear hK K hst
      try simp only [pl, pn, el, ec, sz, ss, gz, gs, if_true, if_false, Bool.false_eq_true, Bool.not_true, Bool.not_false, Nat.add_zero, Nat.zero_add, Nat.reduceAdd]
      refine wpPi_move _ rfl rfl ?_
      simp only [pl, pn, el, ec, sz, ss, gz, gs, if_true, if_false, Bool.false_eq_true, Bool.not_true, Bool.not_false, Nat.add_zero, Nat.zero_add, Nat.reduceAdd]
      refine wpPi_do rfl (fun K hK => ?_)
      go_wp2
      refine hK _ _ trivial ?_
      clear hK K
      try simp only [pl, pn, el, ec, sz, ss, gz, gs, if_true, if_false, Bool.false_eq_true, Bool.not_true, Bool.not_false, Nat.add_zero, Nat.zero_add, Nat.reduceAdd]
      refine wpPi_do rfl (fun K hK => ?_)
      go_wp2
      refine hK _ _ trivial ?_
      clear hK K
      try simp only [pl, pn, el, ec, sz, ss, gz, gs, if_true, if_false, Bool.false_eq_true, Bool.not_true, Bool.not_false, Nat.add_zero, Nat.zero_add, Nat.reduceAdd]
      refine wpPi_do rfl (fun K hK => ?_)
      refine wp_alloc 38 ltrZero (by rfl) zero38 (fun w9 hB9 hm9 hs9 => ?_)
      refine hK _ _ trivial ?_
      clear hK K
      try simp only [pl, pn, el, ec, sz, ss, gz, gs, if_true, if_false, Bool.false_eq_true, Bool.not_true, Bool.not_false, Nat.add_zero, Nat.zero_add, Nat.reduceAdd]
      refine wpPi_do rfl (fun K hK => ?_)
      refine wp_storeA 38 _ _ w8.heap.size 0 cs8 (by rfl) (by rfl) (by rfl) hl8.one 40 (by kernel_rfl) hl8.size _ _ hB9 (by rw [hl8.size]; exact Nat.le_refl 40) (fun w10 hB10 hm10 => ?_)
      rw [putRow_whole (by rw [hl8.size]; rfl)] at hB10
      have hm810 : Mod NoB w8 w10 := hm9.transB hm10 (Nat.le_refl _)
      have hl10 := hl8.keep0 hm810
      have hl11 := hl78.keep0 hm810
      have hT10 := hT8.keep0 hm810
      have hB11 := hm810.obj id hB8
      refine hK _ _ trivial ?_
      clear hK K
      try simp only [pl, pn, el, ec, sz, ss, gz, gs, if_true, if_false, Bool.false_eq_true, Bool.not_true, Bool.not_false, Nat.add_zero, Nat.zero_add, Nat.reduceAdd]
      refine wpPi_assign _ rfl rfl ?_
      simp only [pl, pn, el, ec, sz, ss, gz, gs, if_true, if_false, Bool.false_eq_true, Bool.not_true, Bool.not_false, Nat.add_zero, Nat.zero_add, Nat.reduceAdd]
      refine wpPi_nil ?_
      clear hl7 hl78 hl8 hB7 hB8 hB9 hT7 hT8 hm8 hm9 hm10 hR8 hlt5 hER
      obtain ⟨N2, hN2⟩ : ∃ t, t = takeN N1 k2 := ⟨_, rfl⟩
      rw [← hN2] at hT10
      obtain ⟨ce, hce⟩ : ∃ t, t = copyE N2 0 := ⟨_, rfl⟩
      obtain ⟨N3, hN3⟩ : ∃ t, t = copyN N2 0 := ⟨_, rfl⟩
      obtain ⟨le, hle⟩ : ∃ t : Int, t = N3.ls.length := ⟨_, rfl⟩
      have HN2 := Lib.hid hN2; have HCE := Lib.hid hce; have HN3 := Lib.hid hN3; have HLE := Lib.hid hle; clear hN2 hce hN3 hle
      have hc16 := CellsAt.whole hB11
      have hc18 := CellsAt.whole hB10
      have hz1 := hl11.size; have hz2 := hl10.size
      go_upto_region 19 with (fail)
      have hS : CellsAt w10.drew w5.heap.size 0 cs5 ∧ CellsAt w10.drew w8.heap.size 0 cs8 := ⟨hc16, hc18⟩
      refine wp_region_pi [(0, 0), (1, 0), (2, 1), (3, 3), (4, 3), (5, 3), (6, 3), (7, 3), (8, 3), (9, 3), (11, 3), (10, 1), (12, 1), (13, 3), (14, 3), (15, 3), (16, 3), (18, 3), (19, 3), (20, 3), (21, 0), (22, 3), (17, 1), (23, 3), (24, 3), (25, 3), (26, 1), (27, 3), (28, 3)] [] (fun w' => CellsAt w' w5.heap.size 0 cs5 ∧ CellsAt w' w8.heap.size 0 cs8) (by kernel_rfl) (by kernel_rfl) (by kernel_rfl) (by kernel_rfl) (fun _ _ _ _ hd h => ⟨hd.trans h.1, h.2⟩) hS ?_
      simp only [List.map_cons, List.map_nil, List.getD_cons_zero, List.getD_cons_succ]
      refine wpPi_val rfl (fun w' hS => exec_loadA _ _ rfl _ _ rfl _ hS.1 _ Try.underlying38 rfl 40 (by kernel_rfl) hz1) ?_
      simp only [pl, pn, el, ec, sz, ss, gz, gs, if_true, if_false, Bool.false_eq_true, Bool.not_true, Bool.not_false, Nat.add_zero, Nat.zero_add, Nat.reduceAdd]
      refine wpPi_val rfl (fun w' hS => exec_loadA _ _ rfl _ _ rfl _ hS.2 _ Try.underlying38 rfl 40 (by kernel_rfl) hz2) ?_
      simp only [pl, pn, el, ec, sz, ss, gz, gs, if_true, if_false, Bool.false_eq_true, Bool.not_true, Bool.not_false, Nat.add_zero, Nat.zero_add, Nat.reduceAdd]
      refine wpPi_do rfl (fun K hK => ?_)
      go_wp2_with (go_at_call 20; refine (sameLetter_any _ _ _ _ _ _ _ _ _ _ _ (hl11.keep0 (Mod.refl NoB w10).drew) (hl10.keep0 (Mod.refl NoB w10).drew)).mono ?_; rintro _ w11 ⟨rfl, hm11⟩; simp only [decide_true])
      have hm := (Mod.refl NoB w10).drew.trans0 hm11
      have hT11 := hT10.keep0 hm
      replace hS := And.intro (hc16.keep hm id) (hc18.keep hm id)
      refine hK _ _ hS ?_
      clear hK K hm11
      try simp only [pl, pn, el, ec, sz, ss, gz, gs, if_true, if_false, Bool.false_eq_true, Bool.not_true, Bool.not_false, Nat.add_zero, Nat.zero_add, Nat.reduceAdd]
      refine wpPi_move _ rfl rfl ?_
      simp only [pl, pn, el, ec, sz, ss, gz, gs, if_true, if_false, Bool.false_eq_true, Bool.not_true, Bool.not_false, Nat.add_zero, Nat.zero_add, Nat.reduceAdd]
      refine wpPi_move _ rfl rfl ?_
      simp only [pl, pn, el, ec, sz, ss, gz, gs, if_true, if_false, Bool.false_eq_true, Bool.not_true, Bool.not_false, Nat.add_zero, Nat.zero_add, Nat.reduceAdd]
      refine wpPi_move _ rfl rfl ?_
      simp only [pl, pn, el, ec, sz, ss, gz, gs, if_true, if_false, Bool.false_eq_true, Bool.not_true, Bool.not_false, Nat.add_zero, Nat.zero_add, Nat.reduceAdd]
      refine wpPi_cmp _ _ _ _ _ _ _ _ rfl rfl rfl rfl rfl true (by simp only [cmpB]; simp) ?_
      simp only [pl, pn, el, ec, sz, ss, gz, gs, if_true, if_false, Bool.false_eq_true, Bool.not_true, Bool.not_false, Nat.add_zero, Nat.zero_add, Nat.reduceAdd]
      refine wpPi_pick _ _ _ _ rfl rfl rfl ?_
      simp only [pl, pn, el, ec, sz, ss, gz, gs, if_true, if_false, Bool.false_eq_true, Bool.not_true, Bool.not_false, Nat.add_zero, Nat.zero_add, Nat.reduceAdd]
      refine wpPi_move _ rfl rfl ?_
      simp only [pl, pn, el, ec, sz, ss, gz, gs, if_true, if_false, Bool.false_eq_true, Bool.not_true, Bool.not_false, Nat.add_zero, Nat.zero_add, Nat.reduceAdd]
      refine wpPi_move _ rfl rfl ?_
      simp only [pl, pn, el, ec, sz, ss, gz, gs, if_true, if_false, Bool.false_eq_true, Bool.not_true, Bool.not_false, Nat.add_zero, Nat.zero_add, Nat.reduceAdd]
      refine wpPi_move _ rfl rfl ?_
      simp only [pl, pn, el, ec, sz, ss, gz, gs, if_true, if_false, Bool.false_eq_true, Bool.not_true, Bool.not_false, Nat.add_zero, Nat.zero_add, Nat.reduceAdd]
      refine wpPi_do rfl (fun K hK => ?_)
      go_wp2_with (go_at_call 14; refine (copy_at hT11.net 0).mono ?_; rintro _ w12 ⟨rfl, hst⟩; rw [← HCE.out])
      obtain ⟨F12, hT12, hm12, hF12⟩ := hT11.stepN hst
      replace hS := And.intro (hS.1.keep hm12 (fun e => (hnF _ (.inl e)).1 rfl)) (hS.2.keep hm12 (fun e => by have := (hnF _ (.inl e)).2; omega))
      refine hK _ _ hS ?_
      clear hK K hst
      try simp only [pl, pn, el, ec, sz, ss, gz, gs, if_true, if_false, Bool.false_eq_true, Bool.not_true, Bool.not_false, Nat.add_zero, Nat.zero_add, Nat.reduceAdd]
      refine wpPi_do_to rfl (fun K hK => ?_)
      go_wp2_with (go_at_call 15; refine (refCopy_at hT12.ref 0).mono ?_; rintro _ w13 ⟨rfl, hst⟩; rw [← HCE.out])
      obtain ⟨R13, hT13, hm13, hR13⟩ := hT12.stepM hst
      replace hS := And.intro (hS.1.keep hm13 (fun e => (hnF _ (.inr e)).1 rfl)) (hS.2.keep hm13 (fun e => by have := (hnF _ (.inr e)).2; omega))
      rw [← HN3.out] at hT13
      have hTT : TwoNow w w13 (.pointer (some ⟨bp, 0, none⟩)) (.pointer (some ⟨bq, 0, none⟩)) N3 N3 := ⟨_, _, hT13⟩
      obtain ⟨-, sa, sc, hg2⟩ := hTT.cells bq rfl
      refine hK (fun w' => (CellsAt w' w5.heap.size 0 cs5 ∧ CellsAt w' w8.heap.size 0 cs8) ∧ w'.cell? ⟨bq, 2, none⟩ = some (.slice sa N3.ls.length sc)) _ _ (fun _ h => h.1) ⟨hS, hg2⟩ ?_
      clear hK K hst
      try simp only [pl, pn, el, ec, sz, ss, gz, gs, if_true, if_false, Bool.false_eq_true, Bool.not_true, Bool.not_false, Nat.add_zero, Nat.zero_add, Nat.reduceAdd]
      refine wpPi_cmp _ _ _ _ _ _ _ _ rfl rfl rfl rfl rfl true (by simp only [cmpB]; simp) ?_
      simp only [pl, pn, el, ec, sz, ss, gz, gs, if_true, if_false, Bool.false_eq_true, Bool.not_true, Bool.not_false, Nat.add_zero, Nat.zero_add, Nat.reduceAdd]
      refine wpPi_pick _ _ _ _ rfl rfl rfl ?_
      simp only [pl, pn, el, ec, sz, ss, gz, gs, if_true, if_false, Bool.false_eq_true, Bool.not_true, Bool.not_false, Nat.add_zero, Nat.zero_add, Nat.reduceAdd]
      refine wpPi_move _ rfl rfl ?_
      simp only [pl, pn, el, ec, sz, ss, gz, gs, if_true, if_false, Bool.false_eq_true, Bool.not_true, Bool.not_false, Nat.add_zero, Nat.zero_add, Nat.reduceAdd]
      refine wpPi_move _ rfl rfl ?_
      simp only [pl, pn, el, ec, sz, ss, gz, gs, if_true, if_false, Bool.false_eq_true, Bool.not_true, Bool.not_false, Nat.add_zero, Nat.zero_add, Nat.reduceAdd]
      refine wpPi_move _ rfl rfl ?_
      simp only [pl, pn, el, ec, sz, ss, gz, gs, if_true, if_false, Bool.false_eq_true, Bool.not_true, Bool.not_false, Nat.add_zero, Nat.zero_add, Nat.reduceAdd]
      refine wpPi_nilCheck _ _ rfl rfl rfl ?_
      simp only [pl, pn, el, ec, sz, ss, gz, gs, if_true, if_false, Bool.false_eq_true, Bool.not_true, Bool.not_false, Nat.add_zero, Nat.zero_add, Nat.reduceAdd]
      refine wpPi_field _ _ _ _ _ _ rfl rfl rfl fo_46_2 ?_
      simp only [pl, pn, el, ec, sz, ss, gz, gs, if_true, if_false, Bool.false_eq_true, Bool.not_true, Bool.not_false, Nat.add_zero, Nat.zero_add, Nat.reduceAdd]
      refine wpPi_val rfl (fun w' hS => exec_load1 _ _ rfl _ _ rfl _ hS.2 _ Try.underlying43 rfl) ?_
      simp only [pl, pn, el, ec, sz, ss, gz, gs, if_true, if_false, Bool.false_eq_true, Bool.not_true, Bool.not_false, Nat.add_zero, Nat.zero_add, Nat.reduceAdd]
      refine wpPi_len _ _ _ _ _ rfl rfl rfl (by kernel_rfl) ?_
      simp only [pl, pn, el, ec, sz, ss, gz, gs, if_true, if_false, Bool.false_eq_true, Bool.not_true, Bool.not_false, Nat.add_zero, Nat.zero_add, Nat.reduceAdd]
      refine wpPi_do rfl (fun K hK => ?_)
      go_wp2_with (go_at_call 16; refine (len_same hTT le HLE.out.symm).mono ?_; rintro _ w14 ⟨rfl, hw14⟩; obtain rfl := hw14.symm)
      refine hK _ _ ⟨hS, hg2⟩ ?_
      clear hK K
      try simp only [pl, pn, el, ec, sz, ss, gz, gs, if_true, if_false, Bool.false_eq_true, Bool.not_true, Bool.not_false, Nat.add_zero, Nat.zero_add, Nat.reduceAdd]
      refine wpPi_cmp _ _ _ _ _ _ _ _ rfl rfl rfl rfl rfl true (by simp only [cmpB]; simp [HLE.out]) ?_
      simp only [pl, pn, el, ec, sz, ss, gz, gs, if_true, if_false, Bool.false_eq_true, Bool.not_true, Bool.not_false, Nat.add_zero, Nat.zero_add, Nat.reduceAdd]
      refine wpPi_pick _ _ _ _ rfl rfl rfl ?_
      simp only [pl, pn, el, ec, sz, ss, gz, gs, if_true, if_false, Bool.false_eq_true, Bool.not_true, Bool.not_false, Nat.add_zero, Nat.zero_add, Nat.reduceAdd]
      refine wpPi_move _ rfl rfl ?_
      simp only [pl, pn, el, ec, sz, ss, gz, gs, if_true, if_false, Bool.false_eq_true, Bool.not_true, Bool.not_false, Nat.add_zero, Nat.zero_add, Nat.reduceAdd]
      refine wpPi_do rfl (fun K hK => ?_)
      go_wp2_with (go_at_call 21; refine (awake_any w13).mono ?_; rintro _ w14 ⟨rfl, hm14⟩)
      refine hK _ _ ⟨And.intro (hS.1.keep hm14 id) (hS.2.keep hm14 id), hm14.cell id hg2⟩ ?_
      clear hK K
      try simp only [pl, pn, el, ec, sz, ss, gz, gs, if_true, if_false, Bool.false_eq_true, Bool.not_true, Bool.not_false, Nat.add_zero, Nat.zero_add, Nat.reduceAdd]
      refine wpPi_pick _ _ _ _ rfl rfl rfl ?_
      simp only [pl, pn, el, ec, sz, ss, gz, gs, if_true, if_false, Bool.false_eq_true, Bool.not_true, Bool.not_false, Nat.add_zero, Nat.zero_add, Nat.reduceAdd]
      refine wpPi_assign _ rfl rfl ?_
      simp only [pl, pn, el, ec, sz, ss, gz, gs, if_true, if_false, Bool.false_eq_true, Bool.not_true, Bool.not_false, Nat.add_zero, Nat.zero_add, Nat.reduceAdd]
      refine wpPi_nil ?_
      have hend := hTT.mod.trans0 hm14
      go_wp2
      go_ret
      exact ⟨rfl, hend⟩
end Go.Proofs.Ytdllpakdhnanbaa
