/- The document's links: Mount. -/
import Derived.Test.YtcfcahflkhgapaaGreatRfI
namespace Go.Proofs.YtcfcahflkhgapaaGreat
set_option linter.unusedSimpArgs false
set_option linter.unusedVariables false
set_option linter.unnecessarySimpa false
set_option linter.unusedSectionVars false
open Go.RowKit


section
variable {w0 w : World} {q : Value} {limit : Int} {r : LinkL} {R : Nat → Prop}
def RMountR (w0 w : World) (q : Value) (limit : Int) (r : LinkL) (R : Nat → Prop) (a c : ByteArray) (x : List UInt8) : Ending → World → Prop := fun e w' =>
  e = .returned (.tuple #[.bool (mountE limit r a c x).1, .int .i64 (mountE limit r a c x).2]) ∧ RfStep w0 w q limit R w' (mountR limit r a c x)
theorem RMountR.same {a c : ByteArray} {x : List UInt8} {n : Int} {w' : World} (h : RAt w0 w q limit r R) (hm : Mod NoB w w') (he : mountE limit r a c x = (false, n)) (hr : mountR limit r a c x = r) : RMountR w0 w q limit r R a c x (.returned (.tuple #[.bool false, .int .i64 n])) w' := by
  refine ⟨by rw [he], ?_⟩
  rw [hr]
  exact h.step hm
set_option maxRecDepth 10000 in
set_option maxHeartbeats 4000000 in
theorem refMount_at (h : RAt w0 w q limit r R) (hs : SortedL r) (a c : ByteArray) (x : List UInt8) (hx : x.length = 32) (ha : a.size ≤ maxLen) (hc : c.size ≤ maxLen) : Calls Tryz.prog 11 #[q, .string a, .string c, .agg (idCells x)] w (RMountR w0 w q limit r R a c x) := by
  have h0 := Lib.hid h
  obtain ⟨b, ra, rc, e0, hlim, hLc, -, hrd⟩ := h.read
  subst e0
  have hat := fun w' (hm : Mod NoB w w') => refAt_any (h.keep0 hm) (a, x) hx
  have hadd := fun w' (hm : Mod NoB w w') size => refAdd_at (h.keep0 hm) hs (c, x) hx hc size true
  rw [hs.isSome] at hat
  have hgat := hs.at (a, x)
  have hE1 : (nameB a && nameB c) = false → mountE limit r a c x = (false, 7) ∧ mountR limit r a c x = r := fun e => by unfold mountE mountR; rw [e]; exact ⟨rfl, rfl⟩
  have hE2 : (nameB a && nameB c) = true → getL (a, x) r = none → mountE limit r a c x = (false, 14) ∧ mountR limit r a c x = r := fun e hg => by unfold mountE mountR; rw [e, hg]; exact ⟨rfl, rfl⟩
  have hE3 : ∀ n, (nameB a && nameB c) = true → getL (a, x) r = some n → mountE limit r a c x = addE true limit r (c, x) n ∧ mountR limit r a c x = addR true limit r (c, x) n := fun n e hg => by unfold mountE mountR; rw [e, hg]; exact ⟨rfl, rfl⟩
  obtain ⟨i, hi⟩ : ∃ i, posL (a, x) r = i := ⟨_, rfl⟩
  rw [hi] at hat hgat
  have HGA := Lib.hid hgat; have HRD := Lib.hid hrd; have HA := Lib.hid hadd; have HE1 := Lib.hid hE1; have HE2 := Lib.hid hE2; have HE3 := Lib.hid hE3
  clear hi h hs hgat hrd hlim hadd hE1 hE2 hE3
  go_enter Tryz.func11, Tryz.ntmps11
  go_upto_region 0 with (fail)
  refine wp_region_seq [1, 3, 3] (fun _ => True) (by rfl) (by rfl) trivial ?_
  simp only [List.zip_cons_cons, List.zip_nil_right]
  refine wpPi_do rfl (fun K hK => ?_)
  refine wp_box 32 _ _ (by rfl) (by rfl) (fun w1 hB1 hm1 hs1 => ?_)
  replace hB1 : w1.heap[w.heap.size]? = some (.cells (idCells x) 32 (0, 0)) := hB1
  refine hK _ _ trivial ?_
  clear hK K
  try simp only [pl, pn, el, ec, sz, ss, gz, gs, if_true, if_false, Bool.false_eq_true, Bool.not_true, Bool.not_false, Nat.add_zero, Nat.zero_add, Nat.reduceAdd]
  refine wpPi_assign _ rfl rfl ?_
  simp only [pl, pn, el, ec, sz, ss, gz, gs, if_true, if_false, Bool.false_eq_true, Bool.not_true, Bool.not_false, Nat.add_zero, Nat.zero_add, Nat.reduceAdd]
  refine wpPi_assign _ rfl rfl ?_
  simp only [pl, pn, el, ec, sz, ss, gz, gs, if_true, if_false, Bool.false_eq_true, Bool.not_true, Bool.not_false, Nat.add_zero, Nat.zero_add, Nat.reduceAdd]
  refine wpPi_nil ?_
  go_upto_region 1 with (fail)
  refine wp_region_seq [3, 3, 1, 1, 3, 3, 3, 3, 3] (fun _ => True) (by rfl) (by rfl) trivial ?_
  simp only [List.zip_cons_cons, List.zip_nil_right]
  refine wpPi_move _ rfl rfl ?_
  simp only [pl, pn, el, ec, sz, ss, gz, gs, if_true, if_false, Bool.false_eq_true, Bool.not_true, Bool.not_false, Nat.add_zero, Nat.zero_add, Nat.reduceAdd]
  refine wpPi_move _ rfl rfl ?_
  simp only [pl, pn, el, ec, sz, ss, gz, gs, if_true, if_false, Bool.false_eq_true, Bool.not_true, Bool.not_false, Nat.add_zero, Nat.zero_add, Nat.reduceAdd]
  refine wpPi_do rfl (fun K hK => ?_)
  refine wp_exec (exec_loadA 32 _ (by rfl) w.heap.size 0 (by rfl) (idCells x) (CellsAt.whole hB1) _ Tryz.underlying32 rfl 32 (by kernel_rfl) (by rw [idCells_size]; exact hx)) ?_
  refine hK _ _ trivial ?_
  clear hK K
  try simp only [pl, pn, el, ec, sz, ss, gz, gs, if_true, if_false, Bool.false_eq_true, Bool.not_true, Bool.not_false, Nat.add_zero, Nat.zero_add, Nat.reduceAdd]
  refine wpPi_do rfl (fun K hK => ?_)
  go_wp2_with (go_at_call 28; refine (hat _ hm1).mono ?_; rintro _ w2 ⟨rfl, hm2⟩)
  refine hK _ _ trivial ?_
  clear hK K
  try simp only [pl, pn, el, ec, sz, ss, gz, gs, if_true, if_false, Bool.false_eq_true, Bool.not_true, Bool.not_false, Nat.add_zero, Nat.zero_add, Nat.reduceAdd]
  refine wpPi_move _ rfl rfl ?_
  simp only [pl, pn, el, ec, sz, ss, gz, gs, if_true, if_false, Bool.false_eq_true, Bool.not_true, Bool.not_false, Nat.add_zero, Nat.zero_add, Nat.reduceAdd]
  refine wpPi_any (v := ?_) rfl (fun w' => ?_) ?_; rotate_left; · (go_simp; try with_reducible rfl)
  simp only [pl, pn, el, ec, sz, ss, gz, gs, if_true, if_false, Bool.false_eq_true, Bool.not_true, Bool.not_false, Nat.add_zero, Nat.zero_add, Nat.reduceAdd]
  refine wpPi_any (v := ?_) rfl (fun w' => ?_) ?_; rotate_left; · (go_simp; try with_reducible rfl)
  simp only [pl, pn, el, ec, sz, ss, gz, gs, if_true, if_false, Bool.false_eq_true, Bool.not_true, Bool.not_false, Nat.add_zero, Nat.zero_add, Nat.reduceAdd]
  refine wpPi_assign _ rfl rfl ?_
  simp only [pl, pn, el, ec, sz, ss, gz, gs, if_true, if_false, Bool.false_eq_true, Bool.not_true, Bool.not_false, Nat.add_zero, Nat.zero_add, Nat.reduceAdd]
  refine wpPi_assign _ rfl rfl ?_
  simp only [pl, pn, el, ec, sz, ss, gz, gs, if_true, if_false, Bool.false_eq_true, Bool.not_true, Bool.not_false, Nat.add_zero, Nat.zero_add, Nat.reduceAdd]
  refine wpPi_nil ?_
  have hM := hm1.trans0 hm2
  have hB1 := hm2.obj id hB1
  clear hm1 hm2 hs1 hat
  obtain ⟨na, hna⟩ : ∃ t, nameB a = t := ⟨_, rfl⟩
  obtain ⟨nc, hnc⟩ : ∃ t, nameB c = t := ⟨_, rfl⟩
  have HNA := Lib.hid hna; have HNC := Lib.hid hnc
  clear hna hnc
  go_upto_region 2 with (fail)
  cases na
  · have hbad := HE1.out (by rw [HNA.out]; rfl)
    refine wp_region_seq [3, 1, 3, 3, 3, 1, 3, 3, 3] (fun _ => True) (by rfl) (by rfl) trivial ?_
    simp only [List.zip_cons_cons, List.zip_nil_right]
    refine wpPi_move _ rfl rfl ?_
    simp only [pl, pn, el, ec, sz, ss, gz, gs, if_true, if_false, Bool.false_eq_true, Bool.not_true, Bool.not_false, Nat.add_zero, Nat.zero_add, Nat.reduceAdd]
    refine wpPi_do rfl (fun K hK => ?_)
    go_wp2_with (go_at_call 29; refine (refNamed_any a _ ha).mono ?_; rintro _ w3 ⟨rfl, hm3⟩; rw [HNA.out])
    refine hK _ _ trivial ?_
    clear hK K
    try simp only [pl, pn, el, ec, sz, ss, gz, gs, if_true, if_false, Bool.false_eq_true, Bool.not_true, Bool.not_false, Nat.add_zero, Nat.zero_add, Nat.reduceAdd]
    refine wpPi_not _ _ _ rfl rfl rfl ?_
    simp only [pl, pn, el, ec, sz, ss, gz, gs, if_true, if_false, Bool.false_eq_true, Bool.not_true, Bool.not_false, Nat.add_zero, Nat.zero_add, Nat.reduceAdd]
    refine wpPi_move _ rfl rfl ?_
    simp only [pl, pn, el, ec, sz, ss, gz, gs, if_true, if_false, Bool.false_eq_true, Bool.not_true, Bool.not_false, Nat.add_zero, Nat.zero_add, Nat.reduceAdd]
    refine wpPi_skip rfl ?_
    simp only [pl, pn, el, ec, sz, ss, gz, gs, if_true, if_false, Bool.false_eq_true, Bool.not_true, Bool.not_false, Nat.add_zero, Nat.zero_add, Nat.reduceAdd]
    refine wpPi_do_skip rfl trivial ?_
    simp only [pl, pn, el, ec, sz, ss, gz, gs, if_true, if_false, Bool.false_eq_true, Bool.not_true, Bool.not_false, Nat.add_zero, Nat.zero_add, Nat.reduceAdd]
    refine wpPi_skip rfl ?_
    simp only [pl, pn, el, ec, sz, ss, gz, gs, if_true, if_false, Bool.false_eq_true, Bool.not_true, Bool.not_false, Nat.add_zero, Nat.zero_add, Nat.reduceAdd]
    refine wpPi_pick _ _ _ _ rfl rfl rfl ?_
    simp only [pl, pn, el, ec, sz, ss, gz, gs, if_true, if_false, Bool.false_eq_true, Bool.not_true, Bool.not_false, Nat.add_zero, Nat.zero_add, Nat.reduceAdd]
    refine wpPi_assign _ rfl rfl ?_
    simp only [pl, pn, el, ec, sz, ss, gz, gs, if_true, if_false, Bool.false_eq_true, Bool.not_true, Bool.not_false, Nat.add_zero, Nat.zero_add, Nat.reduceAdd]
    refine wpPi_nil ?_
    have HR2 : Hid (RMountR w0 w _ limit r R a c x _ w3) := RMountR.same h0.out (hM.trans0 hm3) hbad.1 hbad.2
    clear hM hm3 hbad hB1 hLc
    go_wp2
    all_goals
      go_ret2
      exact HR2.out
  · cases nc
    · have hbad := HE1.out (by rw [HNA.out, HNC.out]; rfl)
      refine wp_region_seq [3, 1, 3, 3, 3, 1, 3, 3, 3] (fun _ => True) (by rfl) (by rfl) trivial ?_
      simp only [List.zip_cons_cons, List.zip_nil_right]
      refine wpPi_move _ rfl rfl ?_
      simp only [pl, pn, el, ec, sz, ss, gz, gs, if_true, if_false, Bool.false_eq_true, Bool.not_true, Bool.not_false, Nat.add_zero, Nat.zero_add, Nat.reduceAdd]
      refine wpPi_do rfl (fun K hK => ?_)
      go_wp2_with (go_at_call 29; refine (refNamed_any a _ ha).mono ?_; rintro _ w3 ⟨rfl, hm3⟩; rw [HNA.out])
      refine hK _ _ trivial ?_
      clear hK K
      try simp only [pl, pn, el, ec, sz, ss, gz, gs, if_true, if_false, Bool.false_eq_true, Bool.not_true, Bool.not_false, Nat.add_zero, Nat.zero_add, Nat.reduceAdd]
      refine wpPi_not _ _ _ rfl rfl rfl ?_
      simp only [pl, pn, el, ec, sz, ss, gz, gs, if_true, if_false, Bool.false_eq_true, Bool.not_true, Bool.not_false, Nat.add_zero, Nat.zero_add, Nat.reduceAdd]
      refine wpPi_move _ rfl rfl ?_
      simp only [pl, pn, el, ec, sz, ss, gz, gs, if_true, if_false, Bool.false_eq_true, Bool.not_true, Bool.not_false, Nat.add_zero, Nat.zero_add, Nat.reduceAdd]
      refine wpPi_move _ rfl rfl ?_
      simp only [pl, pn, el, ec, sz, ss, gz, gs, if_true, if_false, Bool.false_eq_true, Bool.not_true, Bool.not_false, Nat.add_zero, Nat.zero_add, Nat.reduceAdd]
      refine wpPi_do rfl (fun K hK => ?_)
      go_wp2_with (go_at_call 29; refine (refNamed_any c _ hc).mono ?_; rintro _ w4 ⟨rfl, hm4⟩; rw [HNC.out])
      refine hK _ _ trivial ?_
      clear hK K
      try simp only [pl, pn, el, ec, sz, ss, gz, gs, if_true, if_false, Bool.false_eq_true, Bool.not_true, Bool.not_false, Nat.add_zero, Nat.zero_add, Nat.reduceAdd]
      refine wpPi_not _ _ _ rfl rfl rfl ?_
      simp only [pl, pn, el, ec, sz, ss, gz, gs, if_true, if_false, Bool.false_eq_true, Bool.not_true, Bool.not_false, Nat.add_zero, Nat.zero_add, Nat.reduceAdd]
      refine wpPi_pick _ _ _ _ rfl rfl rfl ?_
      simp only [pl, pn, el, ec, sz, ss, gz, gs, if_true, if_false, Bool.false_eq_true, Bool.not_true, Bool.not_false, Nat.add_zero, Nat.zero_add, Nat.reduceAdd]
      refine wpPi_assign _ rfl rfl ?_
      simp only [pl, pn, el, ec, sz, ss, gz, gs, if_true, if_false, Bool.false_eq_true, Bool.not_true, Bool.not_false, Nat.add_zero, Nat.zero_add, Nat.reduceAdd]
      refine wpPi_nil ?_
      have HR2 : Hid (RMountR w0 w _ limit r R a c x _ w4) := RMountR.same h0.out ((hM.trans0 hm3).trans0 hm4) hbad.1 hbad.2
      clear hM hm3 hm4 hbad hB1 hLc
      go_wp2
      all_goals
        go_ret2
        exact HR2.out
    · have hgood : (nameB a && nameB c) = true := by rw [HNA.out, HNC.out]; rfl
      refine wp_region_seq [3, 1, 3, 3, 3, 1, 3, 3, 3] (fun _ => True) (by rfl) (by rfl) trivial ?_
      simp only [List.zip_cons_cons, List.zip_nil_right]
      refine wpPi_move _ rfl rfl ?_
      simp only [pl, pn, el, ec, sz, ss, gz, gs, if_true, if_false, Bool.false_eq_true, Bool.not_true, Bool.not_false, Nat.add_zero, Nat.zero_add, Nat.reduceAdd]
      refine wpPi_do rfl (fun K hK => ?_)
      go_wp2_with (go_at_call 29; refine (refNamed_any a _ ha).mono ?_; rintro _ w3 ⟨rfl, hm3⟩; rw [HNA.out])
      refine hK _ _ trivial ?_
      clear hK K
      try simp only [pl, pn, el, ec, sz, ss, gz, gs, if_true, if_false, Bool.false_eq_true, Bool.not_true, Bool.not_false, Nat.add_zero, Nat.zero_add, Nat.reduceAdd]
      refine wpPi_not _ _ _ rfl rfl rfl ?_
      simp only [pl, pn, el, ec, sz, ss, gz, gs, if_true, if_false, Bool.false_eq_true, Bool.not_true, Bool.not_false, Nat.add_zero, Nat.zero_add, Nat.reduceAdd]
      refine wpPi_move _ rfl rfl ?_
      simp only [pl, pn, el, ec, sz, ss, gz, gs, if_true, if_false, Bool.false_eq_true, Bool.not_true, Bool.not_false, Nat.add_zero, Nat.zero_add, Nat.reduceAdd]
      refine wpPi_move _ rfl rfl ?_
      simp only [pl, pn, el, ec, sz, ss, gz, gs, if_true, if_false, Bool.false_eq_true, Bool.not_true, Bool.not_false, Nat.add_zero, Nat.zero_add, Nat.reduceAdd]
      refine wpPi_do rfl (fun K hK => ?_)
      go_wp2_with (go_at_call 29; refine (refNamed_any c _ hc).mono ?_; rintro _ w4 ⟨rfl, hm4⟩; rw [HNC.out])
      refine hK _ _ trivial ?_
      clear hK K
      try simp only [pl, pn, el, ec, sz, ss, gz, gs, if_true, if_false, Bool.false_eq_true, Bool.not_true, Bool.not_false, Nat.add_zero, Nat.zero_add, Nat.reduceAdd]
      refine wpPi_not _ _ _ rfl rfl rfl ?_
      simp only [pl, pn, el, ec, sz, ss, gz, gs, if_true, if_false, Bool.false_eq_true, Bool.not_true, Bool.not_false, Nat.add_zero, Nat.zero_add, Nat.reduceAdd]
      refine wpPi_pick _ _ _ _ rfl rfl rfl ?_
      simp only [pl, pn, el, ec, sz, ss, gz, gs, if_true, if_false, Bool.false_eq_true, Bool.not_true, Bool.not_false, Nat.add_zero, Nat.zero_add, Nat.reduceAdd]
      refine wpPi_assign _ rfl rfl ?_
      simp only [pl, pn, el, ec, sz, ss, gz, gs, if_true, if_false, Bool.false_eq_true, Bool.not_true, Bool.not_false, Nat.add_zero, Nat.zero_add, Nat.reduceAdd]
      refine wpPi_nil ?_
      have hM4 := (hM.trans0 hm3).trans0 hm4
      have hB4 := hm4.obj id (hm3.obj id hB1)
      have hLc4 := hM4.cell id hLc
      have HGD := Lib.hid hgood
      clear hM hm3 hm4 hB1 hLc hgood
      cases hg : getL (a, x) r with
      | none =>
        have hno := HE2.out HGD.out hg
        have HR2 : Hid (RMountR w0 w _ limit r R a c x _ w4) := RMountR.same h0.out hM4 hno.1 hno.2
        rw [hg] at *
        clear hM4 hno hB4 hLc4 hg
        go_wp2
        all_goals
          go_ret2
          exact HR2.out
      | some n =>
        have hyes := HE3.out n HGD.out hg
        have hq := (HGA.out n).1 hg
        obtain ⟨hlt, hp⟩ := List.getElem?_eq_some_iff.1 hq
        obtain ⟨g, off, rfl, hcells⟩ := HRD.out i hlt
        have hcl := hcells i hlt
        rw [hp] at hcl
        have hcs := (hcl.keep hM4 id).cell (entCells_id (p := ((a, x), n)) hx).2
        have HY := Lib.hid hyes
        clear hq hp hcl hcells hyes
        rw [hg] at *
        go_upto_region 6 with (fail)
        have hS : Mod NoB w4 w4.drew := (Mod.refl _ _).drew
        refine wp_region_pi [(0, 3), (1, 3), (2, 0), (3, 3), (4, 3), (5, 3), (7, 3), (6, 1), (8, 3), (9, 3), (10, 0), (11, 2), (12, 3), (13, 3), (14, 3), (15, 3)] [11] (fun w' => Mod NoB w4 w') (by kernel_rfl) (by kernel_rfl) (by kernel_rfl) (by kernel_rfl) (fun _ _ _ _ hd h => ⟨hd.trans h.1, h.2⟩) hS ?_
        simp only [List.map_cons, List.map_nil, List.getD_cons_zero, List.getD_cons_succ]
        refine wpPi_move _ rfl rfl ?_
        simp only [pl, pn, el, ec, sz, ss, gz, gs, if_true, if_false, Bool.false_eq_true, Bool.not_true, Bool.not_false, Nat.add_zero, Nat.zero_add, Nat.reduceAdd]
        refine wpPi_move _ rfl rfl ?_
        simp only [pl, pn, el, ec, sz, ss, gz, gs, if_true, if_false, Bool.false_eq_true, Bool.not_true, Bool.not_false, Nat.add_zero, Nat.zero_add, Nat.reduceAdd]
        refine wpPi_val rfl (fun w' hS => exec_loadA 32 _ (by rfl) w.heap.size 0 (by rfl) (idCells x) ((CellsAt.whole hB4).keep hS id) _ Tryz.underlying32 rfl 32 (by kernel_rfl) (by rw [idCells_size]; exact hx)) ?_
        simp only [pl, pn, el, ec, sz, ss, gz, gs, if_true, if_false, Bool.false_eq_true, Bool.not_true, Bool.not_false, Nat.add_zero, Nat.zero_add, Nat.reduceAdd]
        refine wpPi_move _ rfl rfl ?_
        simp only [pl, pn, el, ec, sz, ss, gz, gs, if_true, if_false, Bool.false_eq_true, Bool.not_true, Bool.not_false, Nat.add_zero, Nat.zero_add, Nat.reduceAdd]
        refine wpPi_nilCheck _ _ rfl rfl rfl ?_
        simp only [pl, pn, el, ec, sz, ss, gz, gs, if_true, if_false, Bool.false_eq_true, Bool.not_true, Bool.not_false, Nat.add_zero, Nat.zero_add, Nat.reduceAdd]
        refine wpPi_field _ _ _ _ _ _ rfl rfl rfl fo_56_1 ?_
        simp only [pl, pn, el, ec, sz, ss, gz, gs, if_true, if_false, Bool.false_eq_true, Bool.not_true, Bool.not_false, Nat.add_zero, Nat.zero_add, Nat.reduceAdd]
        refine wpPi_move _ rfl rfl ?_
        simp only [pl, pn, el, ec, sz, ss, gz, gs, if_true, if_false, Bool.false_eq_true, Bool.not_true, Bool.not_false, Nat.add_zero, Nat.zero_add, Nat.reduceAdd]
        refine wpPi_do rfl (fun K hK => ?_)
        refine wp_exec (exec_load1 54 _ (by rfl) b 1 (by rfl) _ (hS.cell id hLc4) _ Tryz.underlying54 rfl) ?_
        refine hK _ _ hS ?_
        clear hK K
        try simp only [pl, pn, el, ec, sz, ss, gz, gs, if_true, if_false, Bool.false_eq_true, Bool.not_true, Bool.not_false, Nat.add_zero, Nat.zero_add, Nat.reduceAdd]
        refine wpPi_index _ _ _ _ _ _ _ _ _ rfl rfl rfl rfl Tryz.underlying54 (n := 34) (by kernel_rfl) hlt ?_
        simp only [pl, pn, el, ec, sz, ss, gz, gs, if_true, if_false, Bool.false_eq_true, Bool.not_true, Bool.not_false, Nat.add_zero, Nat.zero_add, Nat.reduceAdd]
        refine wpPi_field _ _ _ _ _ _ rfl rfl rfl fo_61_2 ?_
        simp only [pl, pn, el, ec, sz, ss, gz, gs, if_true, if_false, Bool.false_eq_true, Bool.not_true, Bool.not_false, Nat.add_zero, Nat.zero_add, Nat.reduceAdd]
        refine wpPi_val rfl (fun w' hS => exec_load1 3 _ (by rfl) g (off + i * 34 + 33) (by rfl) _ (hS.cell id hcs) _ Tryz.underlying3 rfl) ?_
        simp only [pl, pn, el, ec, sz, ss, gz, gs, if_true, if_false, Bool.false_eq_true, Bool.not_true, Bool.not_false, Nat.add_zero, Nat.zero_add, Nat.reduceAdd]
        refine wpPi_last rfl (fun K hK => ?_)
        have HKL := Lib.hid hK; clear hK
        have hMS := hM4.trans0 hS
        go_wp2_with (go_at_call 8; refine (HA.out _ hMS n).mono ?_; rintro _ w5 ⟨rfl, hst⟩)
        refine HKL.out _ _ ?_
        clear HKL K
        try simp only [pl, pn, el, ec, sz, ss, gz, gs, if_true, if_false, Bool.false_eq_true, Bool.not_true, Bool.not_false, Nat.add_zero, Nat.zero_add, Nat.reduceAdd]
        refine wpPi_any (v := ?_) rfl (fun w' => ?_) ?_; rotate_left; · (go_simp; try with_reducible rfl)
        simp only [pl, pn, el, ec, sz, ss, gz, gs, if_true, if_false, Bool.false_eq_true, Bool.not_true, Bool.not_false, Nat.add_zero, Nat.zero_add, Nat.reduceAdd]
        refine wpPi_any (v := ?_) rfl (fun w' => ?_) ?_; rotate_left; · (go_simp; try with_reducible rfl)
        simp only [pl, pn, el, ec, sz, ss, gz, gs, if_true, if_false, Bool.false_eq_true, Bool.not_true, Bool.not_false, Nat.add_zero, Nat.zero_add, Nat.reduceAdd]
        refine wpPi_assign _ rfl rfl ?_
        simp only [pl, pn, el, ec, sz, ss, gz, gs, if_true, if_false, Bool.false_eq_true, Bool.not_true, Bool.not_false, Nat.add_zero, Nat.zero_add, Nat.reduceAdd]
        refine wpPi_assign _ rfl rfl ?_
        simp only [pl, pn, el, ec, sz, ss, gz, gs, if_true, if_false, Bool.false_eq_true, Bool.not_true, Bool.not_false, Nat.add_zero, Nat.zero_add, Nat.reduceAdd]
        refine wpPi_nil ?_
        have HR2 : Hid (RMountR w0 w _ limit r R a c x (.returned (.tuple #[.bool (addE true limit r (c, x) n).1, .int .i64 (addE true limit r (c, x) n).2])) w5) := ⟨by rw [HY.out.1], by rw [HY.out.2]; exact hst.trans0 hMS⟩
        clear hst hMS hS hM4 hB4 hLc4 hcs hg
        go_wp2
        all_goals
          go_ret2
          exact HR2.out
end
end Go.Proofs.YtcfcahflkhgapaaGreat
