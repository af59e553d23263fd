/- Copies of letters: the kit's and the net's. -/
import Derived.Test.YtdllpakdhnanbaaCopy2
namespace Go.Proofs.Ytdllpakdhnanbaa
set_option linter.unusedSimpArgs false
set_option linter.unusedVariables false
set_option linter.unnecessarySimpa false
open Go.RowKit

/-- A letter that is small enough to be copied. -/
def LtrOk (l : Ltr) : Prop := l.seen.length ≤ 1048576 ∧ l.events.length ≤ 1048576 ∧ (∀ e ∈ l.events, EvOk e) ∧ l.b.length ≤ 1048576

/-- What a copy of a letter is. -/
def IsCopy (w : World) (l : Ltr) (v' : Value) (w' : World) : Prop :=
  ∃ cs' E G, v' = .agg cs' ∧ LetR true w' E G cs' l ∧ (∀ k, E k → New w w' k) ∧ (∀ k, G k → New w w' k) ∧ ∀ k, E k → ¬ G k

set_option maxRecDepth 10000 in
set_option maxHeartbeats 400000 in
theorem copyLetter_any (own : Bool) (E G : Nat → Prop) (cs : Array Value) (l : Ltr) (w : World) (hl : LetR own w E G cs l) (hok : LtrOk l) :
    Calls Try.prog 30 #[.agg cs] w (RetN w (IsCopy w l)) := by
  obtain ⟨sv, ev, bv, hca, hi, hsv, hev, hbv⟩ := hl
  have cA := ltrCells_spec l sv ev bv hi; rw [← hca] at cA
  go_enter Try.func30, Try.ntmps30
  go_upto_region 0 with (fail)
  refine wp_region_seq [1, 1] (fun _ => True) (by rfl) (by rfl) trivial ?_
  simp only [List.zip_cons_cons, List.zip_nil_right]
  refine wpPi_do rfl (fun K hK => ?_)
  refine wp_box 38 _ _ (by rfl) (by rfl) (fun w1 hB0 hM hs1 => ?_)
  replace hB0 : w1.heap[w.heap.size]? = some (.cells cs 38 (0, 0)) := hB0
  refine hK _ _ trivial ?_
  clear hK K
  try simp only [pl, pn, el, ec, sz, ss, gz, gs, if_true, if_false, Bool.false_eq_true, Bool.not_true, Bool.not_false, Nat.add_zero, Nat.zero_add, Nat.reduceAdd]
  refine wpPi_do rfl (fun K hK => ?_)
  refine wp_alloc 38 ltrZero (by rfl) zero38 (fun w2 hB1 hm2 hs2 => ?_)
  replace hB0 := hm2.obj id hB0
  replace hM := hM.trans0 hm2
  refine hK _ _ trivial ?_
  clear hK K hm2
  try simp only [pl, pn, el, ec, sz, ss, gz, gs, if_true, if_false, Bool.false_eq_true, Bool.not_true, Bool.not_false, Nat.add_zero, Nat.zero_add, Nat.reduceAdd]
  refine wpPi_nil ?_
  go_upto_region 1 with (fail)
  refine wp_region_seq [3, 1, 1, 3, 1] (fun _ => True) (by rfl) (by rfl) trivial ?_
  simp only [List.zip_cons_cons, List.zip_nil_right]
  refine wpPi_field _ _ _ _ _ _ rfl rfl rfl fo_38_3 ?_
  simp only [pl, pn, el, ec, sz, ss, gz, gs, if_true, if_false, Bool.false_eq_true, Bool.not_true, Bool.not_false, Nat.add_zero, Nat.zero_add, Nat.reduceAdd]
  refine wpPi_do rfl (fun K hK => ?_)
  refine wp_exec (exec_load1 30 _ (by rfl) w.heap.size 3 (by rfl) sv ((CellsAt.whole hB0).cell cA.c3) _ Try.underlying30 rfl) ?_
  refine hK _ _ trivial ?_
  clear hK K
  try simp only [pl, pn, el, ec, sz, ss, gz, gs, if_true, if_false, Bool.false_eq_true, Bool.not_true, Bool.not_false, Nat.add_zero, Nat.zero_add, Nat.reduceAdd]
  refine wpPi_do rfl (fun K hK => ?_)
  go_wp2_with (go_at_call 56; refine (copyInts_any own G _ _ _ (hsv.keep0 hM) hok.1).mono ?_; rintro _ w3 ⟨sv', rfl, hm3, hsv'⟩)
  replace hB0 := hm3.obj id hB0
  replace hB1 := hm3.obj id hB1
  replace hM := hM.trans0 hm3
  have hs3 := hm3.size
  refine hK _ _ trivial ?_
  clear hK K hm3
  try simp only [pl, pn, el, ec, sz, ss, gz, gs, if_true, if_false, Bool.false_eq_true, Bool.not_true, Bool.not_false, Nat.add_zero, Nat.zero_add, Nat.reduceAdd]
  refine wpPi_field _ _ _ _ _ _ rfl rfl rfl fo_38_3 ?_
  simp only [pl, pn, el, ec, sz, ss, gz, gs, if_true, if_false, Bool.false_eq_true, Bool.not_true, Bool.not_false, Nat.add_zero, Nat.zero_add, Nat.reduceAdd]
  refine wpPi_do rfl (fun K hK => ?_)
  refine wp_store1 30 _ _ w.heap.size 3 sv' (by rfl) (by rfl) (by rfl) hsv'.one (by kernel_rfl) _ _ hB0 (by rw [cA.size]; omega) (fun w4 hB0' hm4 => ?_)
  clear hB0
  replace hB1 := hm4.objB (by omega) hB1
  replace hsv' := hsv'.keepB hm4 (fun k hk => by have h1 := hk.1; have h2 := hk.2; omega)
  replace hM := hM.transB hm4 (by omega)
  have hs4 := hm4.size
  refine hK _ _ trivial ?_
  clear hK K hm4
  try simp only [pl, pn, el, ec, sz, ss, gz, gs, if_true, if_false, Bool.false_eq_true, Bool.not_true, Bool.not_false, Nat.add_zero, Nat.zero_add, Nat.reduceAdd]
  refine wpPi_nil ?_
  rw [hca, ltrCells_set3] at hB0'
  have cB := ltrCells_spec l sv' ev bv hi
  go_upto_region 2 with (fail)
  refine wp_region_seq [3, 1, 1, 3, 1] (fun _ => True) (by rfl) (by rfl) trivial ?_
  simp only [List.zip_cons_cons, List.zip_nil_right]
  refine wpPi_field _ _ _ _ _ _ rfl rfl rfl fo_38_4 ?_
  simp only [pl, pn, el, ec, sz, ss, gz, gs, if_true, if_false, Bool.false_eq_true, Bool.not_true, Bool.not_false, Nat.add_zero, Nat.zero_add, Nat.reduceAdd]
  refine wpPi_do rfl (fun K hK => ?_)
  refine wp_exec (exec_load1 31 _ (by rfl) w.heap.size 4 (by rfl) ev ((CellsAt.whole hB0').cell cB.c4) _ Try.underlying31 rfl) ?_
  refine hK _ _ trivial ?_
  clear hK K
  try simp only [pl, pn, el, ec, sz, ss, gz, gs, if_true, if_false, Bool.false_eq_true, Bool.not_true, Bool.not_false, Nat.add_zero, Nat.zero_add, Nat.reduceAdd]
  refine wpPi_do rfl (fun K hK => ?_)
  go_wp2_with (go_at_call 57; refine (copyEvents_any own E G _ _ _ (SlEv.keep0 hev hM) hok.2.1 hok.2.2.1).mono ?_; rintro _ w5 ⟨ev', rfl, hm5, hev'⟩)
  replace hB0' := hm5.obj id hB0'
  replace hB1 := hm5.obj id hB1
  replace hsv' := hsv'.keep0 hm5
  replace hM := hM.trans0 hm5
  have hs5 := hm5.size
  refine hK _ _ trivial ?_
  clear hK K hm5
  try simp only [pl, pn, el, ec, sz, ss, gz, gs, if_true, if_false, Bool.false_eq_true, Bool.not_true, Bool.not_false, Nat.add_zero, Nat.zero_add, Nat.reduceAdd]
  refine wpPi_field _ _ _ _ _ _ rfl rfl rfl fo_38_4 ?_
  simp only [pl, pn, el, ec, sz, ss, gz, gs, if_true, if_false, Bool.false_eq_true, Bool.not_true, Bool.not_false, Nat.add_zero, Nat.zero_add, Nat.reduceAdd]
  refine wpPi_do rfl (fun K hK => ?_)
  refine wp_store1 31 _ _ w.heap.size 4 ev' (by rfl) (by rfl) (by rfl) hev'.one (by kernel_rfl) _ _ hB0' (by rw [cB.size]; omega) (fun w6 hB0 hm6 => ?_)
  clear hB0'
  replace hB1 := hm6.objB (by omega) hB1
  replace hsv' := hsv'.keepB hm6 (fun k hk => by have h1 := hk.1; have h2 := hk.2; omega)
  replace hM := hM.transB hm6 (by omega)
  replace hev' := SlEv.keepB hev' hm6 (fun k hk => by have h1 := hk.1.1; omega) (fun k hk => by have h1 := hk.1.1; omega)
  have hs6 := hm6.size
  refine hK _ _ trivial ?_
  clear hK K hm6
  try simp only [pl, pn, el, ec, sz, ss, gz, gs, if_true, if_false, Bool.false_eq_true, Bool.not_true, Bool.not_false, Nat.add_zero, Nat.zero_add, Nat.reduceAdd]
  refine wpPi_nil ?_
  rw [ltrCells_set4] at hB0
  have cC := ltrCells_spec l sv' ev' bv hi
  go_upto_region 3 with (fail)
  refine wp_region_seq [3, 1, 1, 3, 1] (fun _ => True) (by rfl) (by rfl) trivial ?_
  simp only [List.zip_cons_cons, List.zip_nil_right]
  refine wpPi_field _ _ _ _ _ _ rfl rfl rfl fo_38_7 ?_
  simp only [pl, pn, el, ec, sz, ss, gz, gs, if_true, if_false, Bool.false_eq_true, Bool.not_true, Bool.not_false, Nat.add_zero, Nat.zero_add, Nat.reduceAdd]
  refine wpPi_do rfl (fun K hK => ?_)
  refine wp_exec (exec_load1 36 _ (by rfl) w.heap.size 39 (by rfl) bv ((CellsAt.whole hB0).cell cC.c39) _ Try.underlying36 rfl) ?_
  refine hK _ _ trivial ?_
  clear hK K
  try simp only [pl, pn, el, ec, sz, ss, gz, gs, if_true, if_false, Bool.false_eq_true, Bool.not_true, Bool.not_false, Nat.add_zero, Nat.zero_add, Nat.reduceAdd]
  refine wpPi_do rfl (fun K hK => ?_)
  go_wp2_with (go_at_call 58; refine (copyBytes_any own G _ _ _ (hbv.keep0 hM) hok.2.2.2).mono ?_; rintro _ w7 ⟨bv', rfl, hm7, hbv'⟩)
  replace hB0 := hm7.obj id hB0
  replace hB1 := hm7.obj id hB1
  replace hsv' := hsv'.keep0 hm7
  replace hM := hM.trans0 hm7
  replace hev' := SlEv.keep0 hev' hm7
  have hs7 := hm7.size
  refine hK _ _ trivial ?_
  clear hK K hm7
  try simp only [pl, pn, el, ec, sz, ss, gz, gs, if_true, if_false, Bool.false_eq_true, Bool.not_true, Bool.not_false, Nat.add_zero, Nat.zero_add, Nat.reduceAdd]
  refine wpPi_field _ _ _ _ _ _ rfl rfl rfl fo_38_7 ?_
  simp only [pl, pn, el, ec, sz, ss, gz, gs, if_true, if_false, Bool.false_eq_true, Bool.not_true, Bool.not_false, Nat.add_zero, Nat.zero_add, Nat.reduceAdd]
  refine wpPi_do rfl (fun K hK => ?_)
  refine wp_store1 36 _ _ w.heap.size 39 bv' (by rfl) (by rfl) (by rfl) hbv'.one (by kernel_rfl) _ _ hB0 (by rw [cC.size]; omega) (fun w8 hB0' hm8 => ?_)
  clear hB0
  replace hB1 := hm8.objB (by omega) hB1
  replace hsv' := hsv'.keepB hm8 (fun k hk => by have h1 := hk.1; have h2 := hk.2; omega)
  replace hbv' := hbv'.keepB hm8 (fun k hk => by have h1 := hk.1; have h2 := hk.2; omega)
  replace hM := hM.transB hm8 (by omega)
  replace hev' := SlEv.keepB hev' hm8 (fun k hk => by have h1 := hk.1.1; omega) (fun k hk => by have h1 := hk.1.1; omega)
  have hs8 := hm8.size
  refine hK _ _ trivial ?_
  clear hK K hm8
  try simp only [pl, pn, el, ec, sz, ss, gz, gs, if_true, if_false, Bool.false_eq_true, Bool.not_true, Bool.not_false, Nat.add_zero, Nat.zero_add, Nat.reduceAdd]
  refine wpPi_nil ?_
  rw [ltrCells_set39 _ _ _ _ _ hi] at hB0'
  have cD := ltrCells_spec l sv' ev' bv' hi
  go_upto_region 4 with (fail)
  refine wp_region_seq [1, 1] (fun _ => True) (by rfl) (by rfl) trivial ?_
  simp only [List.zip_cons_cons, List.zip_nil_right]
  refine wpPi_do rfl (fun K hK => ?_)
  refine wp_exec (exec_loadA 38 _ (by rfl) w.heap.size 0 (by rfl) _ (CellsAt.whole hB0') _ Try.underlying38 rfl 40 (by kernel_rfl) cD.size) ?_
  refine hK _ _ trivial ?_
  clear hK K
  try simp only [pl, pn, el, ec, sz, ss, gz, gs, if_true, if_false, Bool.false_eq_true, Bool.not_true, Bool.not_false, Nat.add_zero, Nat.zero_add, Nat.reduceAdd]
  refine wpPi_do rfl (fun K hK => ?_)
  refine wp_storeA 38 _ _ w1.heap.size 0 (ltrCells l sv' ev' bv') (by rfl) (by rfl) (by rfl) (ltrCells_one _ _ _ _ hsv'.one hev'.one hbv'.one) 40 (by kernel_rfl) cD.size _ _ hB1 (by rw [cD.size]; exact Nat.le_refl 40) (fun w9 hB1' hm9 => ?_)
  rw [putRow_whole (by rw [cD.size]; rfl)] at hB1'
  clear hB1
  replace hsv' := hsv'.keepB hm9 (fun k hk => by have h1 := hk.1; have h2 := hk.2; omega)
  replace hbv' := hbv'.keepB hm9 (fun k hk => by have h1 := hk.1; have h2 := hk.2; omega)
  replace hM := hM.transB hm9 (by omega)
  replace hev' := SlEv.keepB hev' hm9 (fun k hk => by have h1 := hk.1.1; omega) (fun k hk => by have h1 := hk.1.1; omega)
  have hs9 := hm9.size
  refine hK _ _ trivial ?_
  clear hK K hm9
  try simp only [pl, pn, el, ec, sz, ss, gz, gs, if_true, if_false, Bool.false_eq_true, Bool.not_true, Bool.not_false, Nat.add_zero, Nat.zero_add, Nat.reduceAdd]
  refine wpPi_nil ?_
  go_wp2
  refine bodyPost_ret (results_cell_row rfl _ _ w1.heap.size _ _ _ _ (by rfl) hB1' Try.underlying38 rfl (by rw [cD.size]; kernel_rfl)) rfl ?_
  refine ⟨_, rfl, hM, _, fun k => New w4 w5 k ∧ ev'.ownBlock = some k, fun k => New w w9 k ∧ ¬ (New w4 w5 k ∧ ev'.ownBlock = some k), rfl, ⟨sv', ev', bv', rfl, hi, ?_, ?_, ?_⟩, ?_, ?_, ?_⟩
  · exact hsv'.mono (fun k hk => ⟨⟨by have := hk.1; omega, by have := hk.2; omega⟩, fun h => by have := h.1.1; have := hk.2; omega⟩) fun _ _ h => h
  · exact hev'.mono (fun k hk => hk) fun _ _ h => h.mono fun k hk => ⟨⟨by have := hk.1.1; omega, by have := hk.1.2; omega⟩, fun h => hk.2 h.2⟩
  · exact hbv'.mono (fun k hk => ⟨⟨by have := hk.1; omega, by have := hk.2; omega⟩, fun h => by have := h.1.2; have := hk.1; omega⟩) fun _ _ h => h
  · exact fun k hk => ⟨by have := hk.1.1; omega, by have := hk.1.2; omega⟩
  · exact fun k hk => hk.1
  · exact fun k hk h => h.2 hk


set_option maxRecDepth 10000 in
set_option maxHeartbeats 1000000 in
theorem copied_any (own : Bool) (E G : Nat → Prop) (cs : Array Value) (l : Ltr) (w : World) (hl : LetR own w E G cs l) (hok : LtrOk l) :
    Calls Try.prog 43 #[.agg cs] w (RetN w (IsCopy w l)) := by
  obtain ⟨sv, ev, bv, hca, hi, hsv, hev, hbv⟩ := hl
  have cA := ltrCells_spec l sv ev bv hi; rw [← hca] at cA
  go_enter Try.func43, Try.ntmps43
  go_upto_region 0 with (fail)
  refine wp_region_seq [1, 1] (fun _ => True) (by rfl) (by rfl) trivial ?_
  simp only [List.zip_cons_cons, List.zip_nil_right]
  refine wpPi_do rfl (fun K hK => ?_)
  refine wp_box 38 _ _ (by rfl) (by rfl) (fun w1 hB0 hM hs1 => ?_)
  replace hB0 : w1.heap[w.heap.size]? = some (.cells cs 38 (0, 0)) := hB0
  refine hK _ _ trivial ?_
  clear hK K
  try simp only [pl, pn, el, ec, sz, ss, gz, gs, if_true, if_false, Bool.false_eq_true, Bool.not_true, Bool.not_false, Nat.add_zero, Nat.zero_add, Nat.reduceAdd]
  refine wpPi_do rfl (fun K hK => ?_)
  refine wp_alloc 38 ltrZero (by rfl) zero38 (fun w2 hB1 hm2 hs2 => ?_)
  replace hB0 := hm2.obj id hB0
  replace hM := hM.trans0 hm2
  refine hK _ _ trivial ?_
  clear hK K hm2
  try simp only [pl, pn, el, ec, sz, ss, gz, gs, if_true, if_false, Bool.false_eq_true, Bool.not_true, Bool.not_false, Nat.add_zero, Nat.zero_add, Nat.reduceAdd]
  refine wpPi_nil ?_
  go_upto_region 1 with (fail)
  have hS : Mod NoB w2 w2.drew := (Mod.refl _ _).drew
  refine wp_region_pi [(0, 3), (1, 0), (3, 3), (4, 0), (2, 1), (6, 3), (5, 1), (7, 2), (8, 3), (9, 2)] [7, 9] (fun w' => Mod NoB w2 w') (by kernel_rfl) (by kernel_rfl) (by kernel_rfl) (by kernel_rfl) (fun _ _ _ _ hd h => ⟨hd.trans h.1, h.2⟩) hS ?_
  simp only [List.map_cons, List.map_nil, List.getD_cons_zero, List.getD_cons_succ]
  refine wpPi_field _ _ _ _ _ _ rfl rfl rfl fo_38_3 ?_
  simp only [pl, pn, el, ec, sz, ss, gz, gs, if_true, if_false, Bool.false_eq_true, Bool.not_true, Bool.not_false, Nat.add_zero, Nat.zero_add, Nat.reduceAdd]
  refine wpPi_val rfl (fun w' hS => exec_load1 _ _ rfl _ _ rfl _ (hS.cell id ((CellsAt.whole hB0).cell cA.c3)) _ Try.underlying30 rfl) ?_
  simp only [pl, pn, el, ec, sz, ss, gz, gs, if_true, if_false, Bool.false_eq_true, Bool.not_true, Bool.not_false, Nat.add_zero, Nat.zero_add, Nat.reduceAdd]
  refine wpPi_field _ _ _ _ _ _ rfl rfl rfl fo_38_7 ?_
  simp only [pl, pn, el, ec, sz, ss, gz, gs, if_true, if_false, Bool.false_eq_true, Bool.not_true, Bool.not_false, Nat.add_zero, Nat.zero_add, Nat.reduceAdd]
  refine wpPi_val rfl (fun w' hS => exec_load1 _ _ rfl _ _ rfl _ (hS.cell id ((CellsAt.whole hB0).cell cA.c39)) _ Try.underlying36 rfl) ?_
  simp only [pl, pn, el, ec, sz, ss, gz, gs, if_true, if_false, Bool.false_eq_true, Bool.not_true, Bool.not_false, Nat.add_zero, Nat.zero_add, Nat.reduceAdd]
  refine wpPi_do rfl (fun K hK => ?_)
  go_wp2_with (go_at_call 65; refine (cloneInts_any own G _ _ _ (hsv.keep0 (hM.trans0 hS)) hok.1).mono ?_; rintro _ w3 ⟨sv', rfl, hm3, hsv'⟩)
  have hs3 := hm3.size
  have hs3' : w2.heap.size ≤ w2.drew.heap.size := hS.size
  replace hS := hS.trans0 hm3
  refine hK _ _ hS ?_
  clear hK K hm3
  try simp only [pl, pn, el, ec, sz, ss, gz, gs, if_true, if_false, Bool.false_eq_true, Bool.not_true, Bool.not_false, Nat.add_zero, Nat.zero_add, Nat.reduceAdd]
  refine wpPi_field _ _ _ _ _ _ rfl rfl rfl fo_38_3 ?_
  simp only [pl, pn, el, ec, sz, ss, gz, gs, if_true, if_false, Bool.false_eq_true, Bool.not_true, Bool.not_false, Nat.add_zero, Nat.zero_add, Nat.reduceAdd]
  refine wpPi_do rfl (fun K hK => ?_)
  go_wp2_with (go_at_call 66; refine (cloneBytes_any own G _ _ _ (hbv.keep0 (hM.trans0 hS)) hok.2.2.2).mono ?_; rintro _ w4 ⟨bv', rfl, hm4, hbv'⟩)
  replace hsv' := hsv'.keep0 hm4
  have hs4 := hm4.size
  replace hS := hS.trans0 hm4
  refine hK _ _ hS ?_
  clear hK K hm4
  try simp only [pl, pn, el, ec, sz, ss, gz, gs, if_true, if_false, Bool.false_eq_true, Bool.not_true, Bool.not_false, Nat.add_zero, Nat.zero_add, Nat.reduceAdd]
  refine wpPi_last rfl (fun K hK => ?_)
  replace hM := hM.trans0 hS
  replace hB0 := hS.obj id hB0
  replace hB1 := hS.obj id hB1
  refine wp_store1 30 _ _ w.heap.size 3 sv' (by rfl) (by rfl) (by rfl) hsv'.one (by kernel_rfl) _ _ hB0 (by rw [cA.size]; omega) (fun w5 hB0' hm5 => ?_)
  clear hB0
  replace hB1 := hm5.objB (by omega) hB1
  replace hsv' := hsv'.keepB hm5 (fun k hk => by have h1 := hk.1; have h2 := hk.2; omega)
  replace hbv' := hbv'.keepB hm5 (fun k hk => by have h1 := hk.1; have h2 := hk.2; omega)
  replace hM := hM.transB hm5 (by omega)
  have hs5 := hm5.size
  refine hK _ _ ?_
  clear hK K hm5
  try simp only [pl, pn, el, ec, sz, ss, gz, gs, if_true, if_false, Bool.false_eq_true, Bool.not_true, Bool.not_false, Nat.add_zero, Nat.zero_add, Nat.reduceAdd]
  refine wpPi_field _ _ _ _ _ _ rfl rfl rfl fo_38_7 ?_
  simp only [pl, pn, el, ec, sz, ss, gz, gs, if_true, if_false, Bool.false_eq_true, Bool.not_true, Bool.not_false, Nat.add_zero, Nat.zero_add, Nat.reduceAdd]
  refine wpPi_last rfl (fun K hK => ?_)
  refine wp_store1 36 _ _ w.heap.size 39 bv' (by rfl) (by rfl) (by rfl) hbv'.one (by kernel_rfl) _ _ hB0' (by rw [Array.size_setIfInBounds, cA.size]; omega) (fun w6 hB0 hm6 => ?_)
  clear hB0'
  replace hB1 := hm6.objB (by omega) hB1
  replace hsv' := hsv'.keepB hm6 (fun k hk => by have h1 := hk.1; have h2 := hk.2; omega)
  replace hbv' := hbv'.keepB hm6 (fun k hk => by have h1 := hk.1; have h2 := hk.2; omega)
  replace hM := hM.transB hm6 (by omega)
  have hs6 := hm6.size
  refine hK _ _ ?_
  clear hK K hm6 hS
  try simp only [pl, pn, el, ec, sz, ss, gz, gs, if_true, if_false, Bool.false_eq_true, Bool.not_true, Bool.not_false, Nat.add_zero, Nat.zero_add, Nat.reduceAdd]
  refine wpPi_nil ?_
  rw [hca, ltrCells_set3, ltrCells_set39 _ _ _ _ _ hi] at hB0
  have cB := ltrCells_spec l sv' ev bv' hi
  replace hev := SlEv.keep0 hev hM
  obtain ⟨ea, ecap, rfl, hlm, hat⟩ := hev.at
  have HA := Lib.hid hat; clear hat
  have hB0c := (CellsAt.whole hB0).cell cB.c4
  go_upto_region 4 with (fail)
  clear hB0c cA hca
  go_loopw [3, 17] (CopyRel w6 l.events) (fun _ i _ => l.events.length - (intOf i).toNat)
  case atStart => exact ⟨0, by omega, rfl, EvAcc.nil _ _ _, Mod.refl _ _⟩
  case round =>
    obtain ⟨k, hk, rfl, hacc, hM6⟩ := hrel
    rename_i wr
    by_cases hlt : k < l.events.length
    · obtain ⟨b, off, rfl, -, -, hat⟩ := HA.out k hlt
      obtain ⟨ce, hce, hee, hcells⟩ := hat k hlt
      have HS := Lib.hid hce; clear hce HA
      obtain ⟨dv, rv, hcev, hi5, hd, hr, hszs⟩ := hee
      have cE := evCells_spec l.events[k] dv rv hi5; rw [← hcev] at cE
      have hok' : EvOk l.events[k] := hok.2.2.1 _ (List.getElem_mem _)
      have HE : ∃ e, e = l.events[k] := ⟨_, rfl⟩
      obtain ⟨e, he⟩ := HE
      rw [← he] at hcev hi5 hd hr hszs cE hok'
      have HEE := Lib.hid he; clear he
      have HCE := Lib.hid hcev; clear hcev
      have hMr : Mod NoB wr wr := Mod.refl _ _
      have hsr := hM6.size
      go_upto_region 5 with (fail)
      refine wp_region_seq [3, 1, 1, 1] (fun _ => True) (by rfl) (by rfl) trivial ?_
      simp only [List.zip_cons_cons, List.zip_nil_right]
      refine wpPi_index _ _ _ _ _ _ _ _ _ rfl rfl rfl rfl Try.underlying31 (n := 39) (by kernel_rfl) hlt ?_
      simp only [pl, pn, el, ec, sz, ss, gz, gs, if_true, if_false, Bool.false_eq_true, Bool.not_true, Bool.not_false, Nat.add_zero, Nat.zero_add, Nat.reduceAdd]
      refine wpPi_do rfl (fun K hK => ?_)
      refine wp_exec (exec_loadA 104 _ (by rfl) b (off + k * 39) (by rfl) _ (hcells.keep hM6 id) _ Try.underlying104 rfl 39 (by kernel_rfl) HS.out) ?_
      refine hK _ _ trivial ?_
      clear hK K
      try simp only [pl, pn, el, ec, sz, ss, gz, gs, if_true, if_false, Bool.false_eq_true, Bool.not_true, Bool.not_false, Nat.add_zero, Nat.zero_add, Nat.reduceAdd]
      refine wpPi_do rfl (fun K hK => ?_)
      refine wp_alloc 104 evZero (by rfl) zero104 (fun w7 hB5 hm7 hs7 => ?_)
      replace hMr := hMr.trans0 hm7
      refine hK _ _ trivial ?_
      clear hK K
      try simp only [pl, pn, el, ec, sz, ss, gz, gs, if_true, if_false, Bool.false_eq_true, Bool.not_true, Bool.not_false, Nat.add_zero, Nat.zero_add, Nat.reduceAdd]
      refine wpPi_do rfl (fun K hK => ?_)
      refine wp_storeA 104 _ _ wr.heap.size 0 ce (by rfl) (by rfl) (by rfl) (by rw [HCE.out]; exact evCells_one _ _ _ hd.one hr.one) 39 (by kernel_rfl) HS.out _ _ hB5 (by rw [HS.out]; exact Nat.le_refl 39) (fun w8 hB5' hm8 => ?_)
      rw [putRow_whole (by rw [HS.out]; rfl)] at hB5'
      clear hB5
      replace hMr := hMr.transB hm8 (by omega)
      have hs8 := hm8.size
      refine hK _ _ trivial ?_
      clear hK K hm8
      try simp only [pl, pn, el, ec, sz, ss, gz, gs, if_true, if_false, Bool.false_eq_true, Bool.not_true, Bool.not_false, Nat.add_zero, Nat.zero_add, Nat.reduceAdd]
      refine wpPi_nil ?_
      have hM8 := hM6.trans0 hMr
      go_upto_region 6 with (fail)
      have hS : Mod NoB w8 w8.drew := (Mod.refl _ _).drew
      have hsd : w8.drew.heap.size = w8.heap.size := rfl
      refine wp_region_pi [(0, 3), (1, 0), (3, 3), (4, 0), (2, 1), (6, 3), (5, 1), (7, 2), (8, 3), (9, 2)] [7, 9] (fun w' => Mod NoB w8 w') (by kernel_rfl) (by kernel_rfl) (by kernel_rfl) (by kernel_rfl) (fun _ _ _ _ hd h => ⟨hd.trans h.1, h.2⟩) hS ?_
      simp only [List.map_cons, List.map_nil, List.getD_cons_zero, List.getD_cons_succ]
      refine wpPi_field _ _ _ _ _ _ rfl rfl rfl fo_104_1 ?_
      simp only [pl, pn, el, ec, sz, ss, gz, gs, if_true, if_false, Bool.false_eq_true, Bool.not_true, Bool.not_false, Nat.add_zero, Nat.zero_add, Nat.reduceAdd]
      refine wpPi_val rfl (fun w' hS => exec_load1 _ _ rfl _ _ rfl _ (hS.cell id ((CellsAt.whole hB5').cell cE.c2)) _ Try.underlying30 rfl) ?_
      simp only [pl, pn, el, ec, sz, ss, gz, gs, if_true, if_false, Bool.false_eq_true, Bool.not_true, Bool.not_false, Nat.add_zero, Nat.zero_add, Nat.reduceAdd]
      refine wpPi_field _ _ _ _ _ _ rfl rfl rfl fo_104_6 ?_
      simp only [pl, pn, el, ec, sz, ss, gz, gs, if_true, if_false, Bool.false_eq_true, Bool.not_true, Bool.not_false, Nat.add_zero, Nat.zero_add, Nat.reduceAdd]
      refine wpPi_val rfl (fun w' hS => exec_load1 _ _ rfl _ _ rfl _ (hS.cell id ((CellsAt.whole hB5').cell cE.c38)) _ Try.underlying102 rfl) ?_
      simp only [pl, pn, el, ec, sz, ss, gz, gs, if_true, if_false, Bool.false_eq_true, Bool.not_true, Bool.not_false, Nat.add_zero, Nat.zero_add, Nat.reduceAdd]
      refine wpPi_do rfl (fun K hK => ?_)
      go_wp2_with (go_at_call 65; refine (cloneInts_any own G _ _ _ (hd.keep0 (hM8.trans0 hS)) hok'.1).mono ?_; rintro _ w9 ⟨dv', rfl, hm9, hd'⟩)
      have hs9 := hm9.size
      replace hS := hS.trans0 hm9
      refine hK _ _ hS ?_
      clear hK K hm9
      try simp only [pl, pn, el, ec, sz, ss, gz, gs, if_true, if_false, Bool.false_eq_true, Bool.not_true, Bool.not_false, Nat.add_zero, Nat.zero_add, Nat.reduceAdd]
      refine wpPi_field _ _ _ _ _ _ rfl rfl rfl fo_104_1 ?_
      simp only [pl, pn, el, ec, sz, ss, gz, gs, if_true, if_false, Bool.false_eq_true, Bool.not_true, Bool.not_false, Nat.add_zero, Nat.zero_add, Nat.reduceAdd]
      refine wpPi_do rfl (fun K hK => ?_)
      go_wp2_with (go_at_call 67; refine (cloneIDs_any own G _ _ _ (hr.keep0 (hM8.trans0 hS)) hok'.2).mono ?_; rintro _ w10 ⟨rv', rfl, hm10, hr'⟩)
      replace hd' := hd'.keep0 hm10
      have hs10 := hm10.size
      replace hS := hS.trans0 hm10
      refine hK _ _ hS ?_
      clear hK K hm10
      try simp only [pl, pn, el, ec, sz, ss, gz, gs, if_true, if_false, Bool.false_eq_true, Bool.not_true, Bool.not_false, Nat.add_zero, Nat.zero_add, Nat.reduceAdd]
      refine wpPi_last rfl (fun K hK => ?_)
      replace hMr := hMr.trans0 hS
      replace hB5' := hS.obj id hB5'
      refine wp_store1 30 _ _ wr.heap.size 2 dv' (by rfl) (by rfl) (by rfl) hd'.one (by kernel_rfl) _ _ hB5' (by rw [HS.out]; omega) (fun w11 hB5 hm11 => ?_)
      clear hB5'
      replace hd' := hd'.keepB hm11 (fun k hk => by have h1 := hk.1; have h2 := hk.2; omega)
      replace hr' := hr'.keepB hm11 (fun k hk => by have h1 := hk.1; have h2 := hk.2; omega)
      replace hMr := hMr.transB hm11 (by omega)
      have hs11 := hm11.size
      refine hK _ _ ?_
      clear hK K hm11
      try simp only [pl, pn, el, ec, sz, ss, gz, gs, if_true, if_false, Bool.false_eq_true, Bool.not_true, Bool.not_false, Nat.add_zero, Nat.zero_add, Nat.reduceAdd]
      refine wpPi_field _ _ _ _ _ _ rfl rfl rfl fo_104_6 ?_
      simp only [pl, pn, el, ec, sz, ss, gz, gs, if_true, if_false, Bool.false_eq_true, Bool.not_true, Bool.not_false, Nat.add_zero, Nat.zero_add, Nat.reduceAdd]
      refine wpPi_last rfl (fun K hK => ?_)
      refine wp_store1 102 _ _ wr.heap.size 38 rv' (by rfl) (by rfl) (by rfl) hr'.one (by kernel_rfl) _ _ hB5 (by rw [Array.size_setIfInBounds, HS.out]; omega) (fun w12 hB5' hm12 => ?_)
      clear hB5
      replace hd' := hd'.keepB hm12 (fun k hk => by have h1 := hk.1; have h2 := hk.2; omega)
      replace hr' := hr'.keepB hm12 (fun k hk => by have h1 := hk.1; have h2 := hk.2; omega)
      replace hMr := hMr.transB hm12 (by omega)
      have hs12 := hm12.size
      refine hK _ _ ?_
      clear hK K hm12 hS
      try simp only [pl, pn, el, ec, sz, ss, gz, gs, if_true, if_false, Bool.false_eq_true, Bool.not_true, Bool.not_false, Nat.add_zero, Nat.zero_add, Nat.reduceAdd]
      refine wpPi_nil ?_
      rw [HCE.out, evCells_set2, evCells_set38 _ _ _ _ hi5] at hB5'
      have cF := evCells_spec e dv' rv' hi5
      go_upto_region 7 with (fail)
      refine wp_region_seq [3, 1, 1, 1, 3] (fun _ => True) (by rfl) (by rfl) trivial ?_
      simp only [List.zip_cons_cons, List.zip_nil_right]
      refine wpPi_move _ rfl rfl ?_
      simp only [pl, pn, el, ec, sz, ss, gz, gs, if_true, if_false, Bool.false_eq_true, Bool.not_true, Bool.not_false, Nat.add_zero, Nat.zero_add, Nat.reduceAdd]
      refine wpPi_do rfl (fun K hK => ?_)
      refine wp_exec (exec_loadA 104 _ (by rfl) wr.heap.size 0 (by rfl) _ (CellsAt.whole hB5') _ Try.underlying104 rfl 39 (by kernel_rfl) cF.size) ?_
      refine hK _ _ trivial ?_
      clear hK K
      try simp only [pl, pn, el, ec, sz, ss, gz, gs, if_true, if_false, Bool.false_eq_true, Bool.not_true, Bool.not_false, Nat.add_zero, Nat.zero_add, Nat.reduceAdd]
      refine wpPi_do rfl (fun K hK => ?_)
      refine wp_buildSlice1 31 104 _ (.agg (evCells e dv' rv')) evZero 39 (by rfl) (by rfl) Try.underlying31 (by kernel_rfl) (by omega) (by omega) cF.size (fun w13 hb hm13 hs13 => ?_)
      replace hb : w13.heap[w12.heap.size]? = some (.cells (evCells e dv' rv') 104 (0, 0)) := hb
      replace hd' := hd'.keep0 hm13
      replace hr' := hr'.keep0 hm13
      replace hMr := hMr.trans0 hm13
      refine hK _ _ trivial ?_
      clear hK K
      try simp only [pl, pn, el, ec, sz, ss, gz, gs, if_true, if_false, Bool.false_eq_true, Bool.not_true, Bool.not_false, Nat.add_zero, Nat.zero_add, Nat.reduceAdd]
      refine wpPi_do rfl (fun K hK => ?_)
      have hlacc := hacc
      replace hacc := hacc.keep0 hMr
      obtain ⟨css, h1, h2, h3⟩ := hacc
      have hlt1 : ∀ g, u3.ownBlock = some g → g < wr.heap.size := by
        obtain ⟨css', h1', _⟩ := hlacc
        exact fun g hg => (h1'.lt g hg).2
      have hevn : EvR true w13 (Inn w6.heap.size u3 w13) (evCells e dv' rv') l.events[k] := by
        rw [← HEE.out]
        refine ⟨dv', rv', rfl, hi5, hd'.mono (fun k hk => ?_) (fun _ _ h => h), hr'.mono (fun k hk => ?_) (fun _ _ h => h), hszs⟩
        · exact ⟨by have := hk.1; omega, by have := hk.2; omega, fun hh => by have h1 := hlt1 _ hh; have h2 := hk.1; omega⟩
        · exact ⟨by have := hk.1; omega, by have := hk.2; omega, fun hh => by have h1 := hlt1 _ hh; have h2 := hk.1; omega⟩
      refine wp_append _ _ 31 104 evZero 39 136 (by rfl) Try.underlying31 info104 (by rfl) (by omega) w6.heap.size u3 k (css.flatMap Array.toList) (by rfl) h1 _ 1 (evCells e dv' rv').toList (by rfl)
        (⟨by simp [cF.size], _, _, rfl, fun _ => ⟨_, _, rfl, fun j x hx => by rw [Nat.zero_add, cell_of_row w13 _ _ _ _ _ hb]; simpa using hx⟩⟩ : Src w13 39 _ 1 (evCells e dv' rv').toList)
        (fun c hc => hevn.one c (by simpa using hc)) (by have := hok.2.1; unfold maxLen; omega) (by have := hok.2.1; omega) (by have := hMr.size; omega) (fun v1 w14 hown hgrow hvv => ?_)
      have hacc := EvAcc.step h1 h2 h3 hlt hevn hown hgrow hvv
      have hMn : Mod NoB w6 w14 := (hM6.trans0 hMr).grown hgrow (fun k hk hlt => by have := (h1.lt k hk).1; omega)
      refine hK _ _ trivial ?_
      clear hK K
      try simp only [pl, pn, el, ec, sz, ss, gz, gs, if_true, if_false, Bool.false_eq_true, Bool.not_true, Bool.not_false, Nat.add_zero, Nat.zero_add, Nat.reduceAdd]
      refine wpPi_assign _ rfl rfl ?_
      simp only [pl, pn, el, ec, sz, ss, gz, gs, if_true, if_false, Bool.false_eq_true, Bool.not_true, Bool.not_false, Nat.add_zero, Nat.zero_add, Nat.reduceAdd]
      refine wpPi_nil ?_
      go_wp2
      go_roundw
      case rel => exact ⟨k + 1, by omega, by go_num, hacc, hMn⟩
      case measure => simp [intOf]; omega
    · have hkl : k = l.events.length := by omega
      rw [hkl] at hacc
      have hev' := hacc.done
      have hone := hev'.one
      have HK := Lib.hid hkl; clear hkl HA
      replace hsv' := hsv'.keep0 hM6
      replace hbv' := hbv'.keep0 hM6
      replace hB0 := hM6.obj id hB0
      replace hB1 := hM6.obj id hB1
      replace hM := hM.trans0 hM6
      have hs7 := hM6.size
      go_upto_region 9 with (fail)
      refine wp_region_seq [3, 3, 1] (fun _ => True) (by rfl) (by rfl) trivial ?_
      simp only [List.zip_cons_cons, List.zip_nil_right]
      refine wpPi_move _ rfl rfl ?_
      simp only [pl, pn, el, ec, sz, ss, gz, gs, if_true, if_false, Bool.false_eq_true, Bool.not_true, Bool.not_false, Nat.add_zero, Nat.zero_add, Nat.reduceAdd]
      refine wpPi_field _ _ _ _ _ _ rfl rfl rfl fo_38_4 ?_
      simp only [pl, pn, el, ec, sz, ss, gz, gs, if_true, if_false, Bool.false_eq_true, Bool.not_true, Bool.not_false, Nat.add_zero, Nat.zero_add, Nat.reduceAdd]
      refine wpPi_do rfl (fun K hK => ?_)
      refine wp_store1 31 _ _ w.heap.size 4 u3 (by rfl) (by rfl) (by rfl) hone (by kernel_rfl) _ _ hB0 (by rw [cB.size]; omega) (fun w7 hB0' hm7 => ?_)
      clear hB0
      replace hB1 := hm7.objB (by omega) hB1
      replace hsv' := hsv'.keepB hm7 (fun k hk => by have h1 := hk.1; have h2 := hk.2; omega)
      replace hbv' := hbv'.keepB hm7 (fun k hk => by have h1 := hk.1; have h2 := hk.2; omega)
      replace hM := hM.transB hm7 (by omega)
      replace hev' := SlEv.keepB hev' hm7 (fun k hk => by have h1 := hk.1; omega) (fun k hk => by have h1 := hk.1; omega)
      have hs8 := hm7.size
      refine hK _ _ trivial ?_
      clear hK K hm7
      try simp only [pl, pn, el, ec, sz, ss, gz, gs, if_true, if_false, Bool.false_eq_true, Bool.not_true, Bool.not_false, Nat.add_zero, Nat.zero_add, Nat.reduceAdd]
      refine wpPi_nil ?_
      rw [ltrCells_set4] at hB0'
      have cD := ltrCells_spec l sv' u3 bv' hi
      go_upto_region 10 with (fail)
      refine wp_region_seq [1, 1] (fun _ => True) (by rfl) (by rfl) trivial ?_
      simp only [List.zip_cons_cons, List.zip_nil_right]
      refine wpPi_do rfl (fun K hK => ?_)
      refine wp_exec (exec_loadA 38 _ (by rfl) w.heap.size 0 (by rfl) _ (CellsAt.whole hB0') _ Try.underlying38 rfl 40 (by kernel_rfl) cD.size) ?_
      refine hK _ _ trivial ?_
      clear hK K
      try simp only [pl, pn, el, ec, sz, ss, gz, gs, if_true, if_false, Bool.false_eq_true, Bool.not_true, Bool.not_false, Nat.add_zero, Nat.zero_add, Nat.reduceAdd]
      refine wpPi_do rfl (fun K hK => ?_)
      refine wp_storeA 38 _ _ w1.heap.size 0 (ltrCells l sv' u3 bv') (by rfl) (by rfl) (by rfl) (ltrCells_one _ _ _ _ hsv'.one hone hbv'.one) 40 (by kernel_rfl) cD.size _ _ hB1 (by rw [cD.size]; exact Nat.le_refl 40) (fun w9 hB1' hm9 => ?_)
      rw [putRow_whole (by rw [cD.size]; rfl)] at hB1'
      clear hB1
      replace hsv' := hsv'.keepB hm9 (fun k hk => by have h1 := hk.1; have h2 := hk.2; omega)
      replace hbv' := hbv'.keepB hm9 (fun k hk => by have h1 := hk.1; have h2 := hk.2; omega)
      replace hM := hM.transB hm9 (by omega)
      replace hev' := SlEv.keepB hev' hm9 (fun k hk => by have h1 := hk.1; omega) (fun k hk => by have h1 := hk.1; omega)
      have hs9 := hm9.size
      refine hK _ _ trivial ?_
      clear hK K hm9
      try simp only [pl, pn, el, ec, sz, ss, gz, gs, if_true, if_false, Bool.false_eq_true, Bool.not_true, Bool.not_false, Nat.add_zero, Nat.zero_add, Nat.reduceAdd]
      refine wpPi_nil ?_
      go_wp2
      refine bodyPost_ret (results_cell_row rfl _ _ w1.heap.size _ _ _ _ (by rfl) hB1' Try.underlying38 rfl (by rw [cD.size]; kernel_rfl)) rfl ?_
      refine ⟨_, rfl, hM, _, fun k => w6.heap.size ≤ k ∧ k < wr.heap.size ∧ u3.ownBlock = some k, fun k => New w w9 k ∧ ¬ (w6.heap.size ≤ k ∧ k < wr.heap.size ∧ u3.ownBlock = some k), rfl, ⟨sv', u3, bv', rfl, hi, ?_, ?_, ?_⟩, ?_, ?_, ?_⟩
      · exact hsv'.mono (fun k hk => ⟨⟨by have := hk.1; omega, by have := hk.2; omega⟩, fun h => by have := h.1; have := hk.2; omega⟩) fun _ _ h => h
      · exact hev'.mono (fun k hk => hk) fun _ _ h => h.mono fun k hk => ⟨⟨by have := hk.1; omega, by have := hk.2.1; omega⟩, fun h => hk.2.2 h.2.2⟩
      · exact hbv'.mono (fun k hk => ⟨⟨by have := hk.1; omega, by have := hk.2; omega⟩, fun h => by have := h.1; have := hk.2; omega⟩) fun _ _ h => h
      · exact fun k hk => ⟨by have := hk.1; omega, by have := hk.2.1; omega⟩
      · exact fun k hk => hk.1
      · exact fun k hk h => h.2 hk

end Go.Proofs.Ytdllpakdhnanbaa
