/- The document's links: Unlink, Add, Mount. -/
import Derived.Test.YtcfcahflkhgapaaGreatRfG
namespace Go.Proofs.YtcfcahflkhgapaaGreat
set_option linter.unusedSimpArgs false
set_option linter.unusedVariables false
set_option linter.unnecessarySimpa false
set_option linter.unusedSectionVars false
open Go.RowKit


section
variable {w0 w : World} {q : Value} {limit : Int} {r : LinkL} {R : Nat → Prop}
theorem posL_lt_of {k : Key} (h : isL k r = true) : posL k r < r.length := by
  unfold isL at h
  rcases Nat.lt_or_ge (posL k r) r.length with h1 | h1
  · exact h1
  · rw [List.getElem?_eq_none h1] at h; cases h
set_option maxRecDepth 10000 in
set_option maxHeartbeats 2000000 in
theorem refUnlink_at (h : RAt w0 w q limit r R) (hs : SortedL r) (k : Key) (hk : KeyOk k) : Calls Tryz.prog 13 #[q, .string k.1, .agg (idCells k.2)] w (fun e w' => e = .returned (.bool (getL k r).isSome) ∧ RfStep w0 w q limit R w' (r.filter fun p => decide (p.1 ≠ k))) := by
  have hk32 : k.2.length = 32 := hk
  have h0 := Lib.hid h
  obtain ⟨b, ra, rc, rfl, hbb, hown, hRb, hgb, hlc, hra⟩ := h.own
  have hat := fun w' (hm : Mod NoB w w') => refAt_any (h.keep0 hm) k hk
  have herase : (getL k r).isSome = true → r.eraseIdx (posL k r) = r.filter fun p => decide (p.1 ≠ k) := hs.erase
  have hpos : (getL k r).isSome = true → posL k r < r.length := fun e => posL_lt_of (by rw [hs.isSome]; exact e)
  have hnone : (getL k r).isSome = false → (r.filter fun p => decide (p.1 ≠ k)) = r := fun e => by
    refine List.filter_eq_self.2 fun p hp => ?_
    have hn : k ∉ r.map (·.1) := getL_none.1 (by cases hg : getL k r with | none => rfl | some x => rw [hg] at e; cases e)
    have : p.1 ≠ k := fun e => hn (e ▸ List.mem_map.2 ⟨p, hp, rfl⟩)
    simpa using this
  rw [hs.isSome] at hat
  obtain ⟨t, ht⟩ : ∃ t, (getL k r).isSome = t := ⟨_, rfl⟩
  rw [ht] at hat herase hpos hnone ⊢
  have hfk : ∀ p ∈ (r.filter fun p => decide (p.1 ≠ k)), KeyOk p.1 ∧ 0 ≤ p.2 ∧ p.2 ≤ 4096 := fun p hp => ⟨h.keys p (List.mem_filter.1 hp).1, h.vals p (List.mem_filter.1 hp).1⟩
  have hfl : (r.filter fun p => decide (p.1 ≠ k)).length ≤ r.length := List.length_filter_le _ _
  obtain ⟨rf, hrf⟩ : ∃ rf, (r.filter fun p => decide (p.1 ≠ k)) = rf := ⟨_, rfl⟩
  rw [hrf] at herase hnone hfk hfl ⊢
  have HFK := Lib.hid hfk
  obtain ⟨i, hi⟩ : ∃ i, posL k r = i := ⟨_, rfl⟩
  rw [hi] at hat herase hpos
  have hLb : w.cell? ⟨b, 1, none⟩ = some (.slice ra r.length rc) := by rw [cell_of_row _ _ _ _ _ _ hbb]; rfl
  have hfew := h.few
  have hkeys := h.keys
  have HER := Lib.hid herase; have HNO := Lib.hid hnone; have HG := Lib.hid hgb; have HRA := Lib.hid hra; have HKY := Lib.hid hkeys
  clear ht hi herase hnone hgb hra hkeys h hs hrf hfk
  go_enter Tryz.func13, Tryz.ntmps13
  go_upto_region 0 with (fail)
  refine wp_region_seq [1, 3] (fun _ => True) (by rfl) (by rfl) trivial ?_
  simp only [List.zip_cons_cons, List.zip_nil_right]
  refine wpPi_do rfl (fun K hK => ?_)
  refine wp_box 32 _ _ (by rfl) (by rfl) (fun w1 hB1 hm1 hs1 => ?_)
  replace hB1 : w1.heap[w.heap.size]? = some (.cells (idCells k.2) 32 (0, 0)) := hB1
  refine hK _ _ trivial ?_
  clear hK K
  try simp only [pl, pn, el, ec, sz, ss, gz, gs, if_true, if_false, Bool.false_eq_true, Bool.not_true, Bool.not_false, Nat.add_zero, Nat.zero_add, Nat.reduceAdd]
  refine wpPi_assign _ rfl rfl ?_
  simp only [pl, pn, el, ec, sz, ss, gz, gs, if_true, if_false, Bool.false_eq_true, Bool.not_true, Bool.not_false, Nat.add_zero, Nat.zero_add, Nat.reduceAdd]
  refine wpPi_nil ?_
  go_upto_region 1 with (fail)
  refine wp_region_seq [3, 3, 1, 1, 3, 3, 3, 3, 3] (fun _ => True) (by rfl) (by rfl) trivial ?_
  simp only [List.zip_cons_cons, List.zip_nil_right]
  refine wpPi_move _ rfl rfl ?_
  simp only [pl, pn, el, ec, sz, ss, gz, gs, if_true, if_false, Bool.false_eq_true, Bool.not_true, Bool.not_false, Nat.add_zero, Nat.zero_add, Nat.reduceAdd]
  refine wpPi_move _ rfl rfl ?_
  simp only [pl, pn, el, ec, sz, ss, gz, gs, if_true, if_false, Bool.false_eq_true, Bool.not_true, Bool.not_false, Nat.add_zero, Nat.zero_add, Nat.reduceAdd]
  refine wpPi_do rfl (fun K hK => ?_)
  refine wp_exec (exec_loadA 32 _ (by rfl) w.heap.size 0 (by rfl) (idCells k.2) (CellsAt.whole hB1) _ Tryz.underlying32 rfl 32 (by kernel_rfl) (by rw [idCells_size]; exact hk32)) ?_
  refine hK _ _ trivial ?_
  clear hK K
  try simp only [pl, pn, el, ec, sz, ss, gz, gs, if_true, if_false, Bool.false_eq_true, Bool.not_true, Bool.not_false, Nat.add_zero, Nat.zero_add, Nat.reduceAdd]
  refine wpPi_do rfl (fun K hK => ?_)
  go_wp2_with (go_at_call 28; refine (hat _ hm1).mono ?_; rintro _ w2 ⟨rfl, hm2⟩)
  refine hK _ _ trivial ?_
  clear hK K
  try simp only [pl, pn, el, ec, sz, ss, gz, gs, if_true, if_false, Bool.false_eq_true, Bool.not_true, Bool.not_false, Nat.add_zero, Nat.zero_add, Nat.reduceAdd]
  refine wpPi_move _ rfl rfl ?_
  simp only [pl, pn, el, ec, sz, ss, gz, gs, if_true, if_false, Bool.false_eq_true, Bool.not_true, Bool.not_false, Nat.add_zero, Nat.zero_add, Nat.reduceAdd]
  refine wpPi_any (v := ?_) rfl (fun w' => ?_) ?_; rotate_left; · (go_simp; try with_reducible rfl)
  simp only [pl, pn, el, ec, sz, ss, gz, gs, if_true, if_false, Bool.false_eq_true, Bool.not_true, Bool.not_false, Nat.add_zero, Nat.zero_add, Nat.reduceAdd]
  refine wpPi_any (v := ?_) rfl (fun w' => ?_) ?_; rotate_left; · (go_simp; try with_reducible rfl)
  simp only [pl, pn, el, ec, sz, ss, gz, gs, if_true, if_false, Bool.false_eq_true, Bool.not_true, Bool.not_false, Nat.add_zero, Nat.zero_add, Nat.reduceAdd]
  refine wpPi_assign _ rfl rfl ?_
  simp only [pl, pn, el, ec, sz, ss, gz, gs, if_true, if_false, Bool.false_eq_true, Bool.not_true, Bool.not_false, Nat.add_zero, Nat.zero_add, Nat.reduceAdd]
  refine wpPi_assign _ rfl rfl ?_
  simp only [pl, pn, el, ec, sz, ss, gz, gs, if_true, if_false, Bool.false_eq_true, Bool.not_true, Bool.not_false, Nat.add_zero, Nat.zero_add, Nat.reduceAdd]
  refine wpPi_nil ?_
  have hM := hm1.trans0 hm2
  have hLc := hM.cell id hLb
  clear hB1 hm1 hm2 hs1 hat hLb
  cases t
  · have HR : Hid (RfStep w0 w (.pointer (some ⟨b, 0, none⟩)) limit R w2 rf) := by rw [HNO.out rfl]; exact h0.out.step hM
    clear hM hown hbb
    go_wp2
    go_ret
    exact ⟨rfl, HR.out⟩
  · have hir := hpos rfl
    have her := HER.out rfl
    have hcap : i ≤ rc := by omega
    have hi1 : i + 1 ≤ r.length := by omega
    have hown2 := owns_keep hown hM (fun _ _ => id)
    have hbb2 := hM.obj id hbb
    have hM2 := hM.drew
    have hsz := h0.out.mod.size
    have hszM := hM2.size
    have HER2 := Lib.hid her
    clear hpos her hown hbb
    go_upto_region 3 with (fail)
    have hS : w2.drew.cell? ⟨b, 1, none⟩ = some (.slice ra r.length rc) := hLc
    replace hown2 := owns_keep (w' := w2.drew) hown2 (Mod.refl NoB _).drew (fun _ _ => id)
    replace hbb2 : w2.drew.heap[b]? = _ := hbb2
    have hsd : w2.drew.heap.size = w2.heap.size := rfl
    refine wp_region_pi [(0, 3), (1, 3), (2, 3), (3, 3), (4, 0), (5, 3), (6, 3), (7, 3), (8, 3), (9, 3), (10, 0), (11, 3), (12, 3), (13, 3), (14, 1), (15, 3), (16, 3), (17, 2)] [17] (fun w' => w'.cell? ⟨b, 1, none⟩ = some (.slice ra r.length rc)) (by kernel_rfl) (by kernel_rfl) (by kernel_rfl) (by kernel_rfl) (fun _ _ _ _ hd h => ⟨hd.trans h.1, h.2⟩) hS ?_
    simp only [List.map_cons, List.map_nil, List.getD_cons_zero, List.getD_cons_succ]
    refine wpPi_move _ rfl rfl ?_
    simp only [pl, pn, el, ec, sz, ss, gz, gs, if_true, if_false, Bool.false_eq_true, Bool.not_true, Bool.not_false, Nat.add_zero, Nat.zero_add, Nat.reduceAdd]
    refine wpPi_move _ rfl rfl ?_
    simp only [pl, pn, el, ec, sz, ss, gz, gs, if_true, if_false, Bool.false_eq_true, Bool.not_true, Bool.not_false, Nat.add_zero, Nat.zero_add, Nat.reduceAdd]
    refine wpPi_nilCheck _ _ rfl rfl rfl ?_
    simp only [pl, pn, el, ec, sz, ss, gz, gs, if_true, if_false, Bool.false_eq_true, Bool.not_true, Bool.not_false, Nat.add_zero, Nat.zero_add, Nat.reduceAdd]
    refine wpPi_field _ _ _ _ _ _ rfl rfl rfl fo_56_1 ?_
    simp only [pl, pn, el, ec, sz, ss, gz, gs, if_true, if_false, Bool.false_eq_true, Bool.not_true, Bool.not_false, Nat.add_zero, Nat.zero_add, Nat.reduceAdd]
    refine wpPi_val rfl (fun w' hS => exec_load1 54 _ (by rfl) b 1 (by rfl) _ hS _ Tryz.underlying54 rfl) ?_
    simp only [pl, pn, el, ec, sz, ss, gz, gs, if_true, if_false, Bool.false_eq_true, Bool.not_true, Bool.not_false, Nat.add_zero, Nat.zero_add, Nat.reduceAdd]
    refine wpPi_move _ rfl rfl ?_
    simp only [pl, pn, el, ec, sz, ss, gz, gs, if_true, if_false, Bool.false_eq_true, Bool.not_true, Bool.not_false, Nat.add_zero, Nat.zero_add, Nat.reduceAdd]
    refine wpPi_sliceTo 54 61 _ _ _ _ _ _ 34 rfl rfl rfl rfl Tryz.underlying54 (by kernel_rfl) hcap ?_
    simp only [pl, pn, el, ec, sz, ss, gz, gs, if_true, if_false, Bool.false_eq_true, Bool.not_true, Bool.not_false, Nat.add_zero, Nat.zero_add, Nat.reduceAdd]
    refine wpPi_move _ rfl rfl ?_
    simp only [pl, pn, el, ec, sz, ss, gz, gs, if_true, if_false, Bool.false_eq_true, Bool.not_true, Bool.not_false, Nat.add_zero, Nat.zero_add, Nat.reduceAdd]
    refine wpPi_nilCheck _ _ rfl rfl rfl ?_
    simp only [pl, pn, el, ec, sz, ss, gz, gs, if_true, if_false, Bool.false_eq_true, Bool.not_true, Bool.not_false, Nat.add_zero, Nat.zero_add, Nat.reduceAdd]
    refine wpPi_field _ _ _ _ _ _ rfl rfl rfl fo_56_1 ?_
    simp only [pl, pn, el, ec, sz, ss, gz, gs, if_true, if_false, Bool.false_eq_true, Bool.not_true, Bool.not_false, Nat.add_zero, Nat.zero_add, Nat.reduceAdd]
    refine wpPi_val rfl (fun w' hS => exec_load1 54 _ (by rfl) b 1 (by rfl) _ hS _ Tryz.underlying54 rfl) ?_
    simp only [pl, pn, el, ec, sz, ss, gz, gs, if_true, if_false, Bool.false_eq_true, Bool.not_true, Bool.not_false, Nat.add_zero, Nat.zero_add, Nat.reduceAdd]
    refine wpPi_move _ rfl rfl ?_
    simp only [pl, pn, el, ec, sz, ss, gz, gs, if_true, if_false, Bool.false_eq_true, Bool.not_true, Bool.not_false, Nat.add_zero, Nat.zero_add, Nat.reduceAdd]
    refine wpPi_addR _ _ _ _ (i : Int) 1 ((i + 1 : Nat) : Int) rfl rfl rfl rfl (by omega) (by omega) (by omega) ?_
    simp only [pl, pn, el, ec, sz, ss, gz, gs, if_true, if_false, Bool.false_eq_true, Bool.not_true, Bool.not_false, Nat.add_zero, Nat.zero_add, Nat.reduceAdd]
    refine wpPi_sliceFrom 54 61 _ _ _ _ _ _ 34 rfl rfl rfl rfl Tryz.underlying54 (by kernel_rfl) hi1 ?_
    simp only [pl, pn, el, ec, sz, ss, gz, gs, if_true, if_false, Bool.false_eq_true, Bool.not_true, Bool.not_false, Nat.add_zero, Nat.zero_add, Nat.reduceAdd]
    refine wpPi_do rfl (fun K hK => ?_)
    have hto := owns_to hown2 (Nat.le_of_lt hir)
    refine wp_append _ _ 54 61 (.agg (entCells ((⟨#[]⟩, List.replicate 32 0), 0))) 34 56 (by rfl) Tryz.underlying54 entry_i (by kernel_rfl) (by omega) w0.heap.size _ _ _ (by rfl) hto.1 _ (r.length - (i + 1)) _ (by rfl) ((owns_src hown2).drop hi1 hlc) (fun c hc => ents_one r c (List.mem_of_mem_drop hc)) (by unfold maxLen; omega) (by omega) (by omega) (fun v' w6 hrow6 hg6 hv6 => ?_)
    rw [hto.2] at hg6 hv6
    have hmo : Mod (fun k => (Value.slice ra r.length rc).ownBlock = some k) w2.drew w6 := (Mod.refl _ _).grown hg6 (fun k hk _ => hk)
    have hnb : (Value.slice ra r.length rc).ownBlock ≠ some b := fun e => (HG.out b e).2 rfl
    have hb6 := hmo.obj hnb hbb2
    replace hS := hmo.cell hnb hS
    refine hK _ _ hS ?_
    clear hK K
    try simp only [pl, pn, el, ec, sz, ss, gz, gs, if_true, if_false, Bool.false_eq_true, Bool.not_true, Bool.not_false, Nat.add_zero, Nat.zero_add, Nat.reduceAdd]
    refine wpPi_nilCheck _ _ rfl rfl rfl ?_
    simp only [pl, pn, el, ec, sz, ss, gz, gs, if_true, if_false, Bool.false_eq_true, Bool.not_true, Bool.not_false, Nat.add_zero, Nat.zero_add, Nat.reduceAdd]
    refine wpPi_field _ _ _ _ _ _ rfl rfl rfl fo_56_1 ?_
    simp only [pl, pn, el, ec, sz, ss, gz, gs, if_true, if_false, Bool.false_eq_true, Bool.not_true, Bool.not_false, Nat.add_zero, Nat.zero_add, Nat.reduceAdd]
    refine wpPi_last rfl (fun K hK => ?_)
    refine wp_store1 54 _ _ b 1 v' (by rfl) (by rfl) (by rfl) (owns_one hrow6) (by kernel_rfl) _ _ hb6 (by simp) (fun w7 hB7 hm7 => ?_)
    refine hK _ _ ?_
    clear hK K
    try simp only [pl, pn, el, ec, sz, ss, gz, gs, if_true, if_false, Bool.false_eq_true, Bool.not_true, Bool.not_false, Nat.add_zero, Nat.zero_add, Nat.reduceAdd]
    refine wpPi_nil ?_
    have hM6 : Mod (fun k => R k ∧ k ≠ b) w w6 := (hM2.mono (S' := fun k => R k ∧ k ≠ b) (fun _ _ h => h.elim)).trans hmo (fun k hk e => HG.out k e)
    rw [flat_take HKY.out, flat_drop HKY.out, ← List.flatMap_append, ← List.eraseIdx_eq_take_drop_succ, HER2.out] at hrow6
    have hlen : i + (r.length - (i + 1)) = rf.length := by rw [← HER2.out, List.length_eraseIdx, if_pos hir]; omega
    rw [hlen] at hrow6
    have HR : Hid (RfStep w0 w (.pointer (some ⟨b, 0, none⟩)) limit R w7 rf) := RfStep.mk h0.out hRb hrow6 (fun g e => by
        have h1 := hrow6.lt g e
        have h2 := h0.out.lt b hRb
        rcases hv6 with hv | hv
        · exact ⟨.inl (HG.out g (hv ▸ e)).1, (HG.out g (hv ▸ e)).2⟩
        · rw [hv] at e; cases e; exact ⟨.inr ⟨hszM, h1.2⟩, by omega⟩) hM6 (by simpa using hB7) hm7 (fun p hp => (HFK.out p hp).1) (by omega) (fun p hp => (HFK.out p hp).2)
    clear hM6 hrow6 hg6 hv6 hmo hB7 hm7 hS hown2 hbb2 hM hM2 hLc hb6 hto
    go_wp2
    all_goals
      go_ret
      exact ⟨rfl, HR.out⟩
end
end Go.Proofs.YtcfcahflkhgapaaGreat
