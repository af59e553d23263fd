/- The document's links: Add, Mount. -/
import Derived.Test.YtcfcahflkhgapaaGreatRfH
namespace Go.Proofs.YtcfcahflkhgapaaGreat
set_option linter.unusedSimpArgs false
set_option linter.unusedVariables false
set_option linter.unnecessarySimpa false
set_option linter.unusedSectionVars false
open Go.RowKit

theorem fo_56_0 : fieldOff Tryz.prog 56 0 = some 0 := by kernel_rfl
section
variable {w0 w : World} {q : Value} {limit : Int} {r : LinkL} {R : Nat → Prop}
def RAddR (asked : Bool) (w0 w : World) (q : Value) (limit : Int) (r : LinkL) (R : Nat → Prop) (k : Key) (size : Int) : Ending → World → Prop := fun e w' =>
  e = .returned (.tuple #[.bool (addE asked limit r k size).1, .int .i64 (addE asked limit r k size).2]) ∧ RfStep w0 w q limit R w' (addR asked limit r k size)
theorem addE_bad {asked : Bool} {l : LinkL} {k : Key} {size : Int} (h : nameB k.1 = false) : addE asked limit l k size = (false, 7) := by unfold addE; rw [h]; rfl
theorem addE_range {asked : Bool} {l : LinkL} {k : Key} {size : Int} (h : nameB k.1 = true) (h2 : size < 0 ∨ 4096 < size) : addE asked limit l k size = (false, 3) := by unfold addE; rw [h, if_pos rfl, if_pos h2]
theorem addE_some {asked : Bool} {l : LinkL} {k : Key} {size old : Int} (h : nameB k.1 = true) (h2 : ¬ (size < 0 ∨ 4096 < size)) (hg : getL k l = some old) : addE asked limit l k size = if old = size then (false, 0) else (false, 17) := by unfold addE; rw [h, if_pos rfl, if_neg h2, hg]
theorem addE_new {asked : Bool} {l : LinkL} {k : Key} {size : Int} (h : nameB k.1 = true) (h2 : ¬ (size < 0 ∨ 4096 < size)) (hg : getL k l = none) : addE asked limit l k size = if holdB asked limit (useOf l k.1) size then (if 65536 ≤ l.length then (false, 10) else (true, 0)) else (false, 11) := by unfold addE; rw [h, if_pos rfl, if_neg h2, hg]
theorem RAddR.same {asked : Bool} {k : Key} {size : Int} {b : Bool} {n : Int} {w' : World} (h : RAt w0 w q limit r R) (hm : Mod NoB w w') (he : addE asked limit r k size = (false, n)) (hb : b = false) : RAddR asked w0 w q limit r R k size (.returned (.tuple #[.bool b, .int .i64 n])) w' := by
  subst hb
  refine ⟨by rw [he], ?_⟩
  have : addR asked limit r k size = r := by unfold addR; rw [he]; rfl
  rw [this]
  exact h.step hm
set_option maxRecDepth 10000 in
set_option maxHeartbeats 4000000 in
theorem refAdd_at (h : RAt w0 w q limit r R) (hs : SortedL r) (k : Key) (hk : KeyOk k) (hsz : k.1.size ≤ maxLen) (size : Int) (asked : Bool) : Calls Tryz.prog 8 #[q, .string k.1, .agg (idCells k.2), .int .i64 size, .bool asked] w (RAddR asked w0 w q limit r R k size) := by
  have hk32 : k.2.length = 32 := hk
  have h0 := Lib.hid h
  obtain ⟨b, ra, rc, rfl, hbb, hown, hRb, hgb, hlc, hra⟩ := h.own
  obtain ⟨_, _, _, e1, hlim, hLc, -, hrd⟩ := h.read
  cases e1
  have hat := fun w' (hm : Mod NoB w w') => refAt_any (h.keep0 hm) k hk
  have huse := fun w' (hm : Mod NoB w w') => refUse_any (h.keep0 hm) k.1
  have hub := useOf_le r k.1 h.vals
  rw [hs.isSome] at hat
  have hgat := hs.at k
  have hR : addR asked limit r k size = if (addE asked limit r k size).1 then insL k size r else r := rfl
  have hple := posL_le k r
  have hins : insL k size r = r.take (posL k r) ++ (k, size) :: r.drop (posL k r) := rfl
  obtain ⟨i, hi⟩ : ∃ i, posL k r = i := ⟨_, rfl⟩
  rw [hi] at hat hgat hple hins
  have hLb : w.cell? ⟨b, 1, none⟩ = some (.slice ra r.length rc) := by rw [cell_of_row _ _ _ _ _ _ hbb]; rfl
  rw [hLb] at hLc
  cases hLc
  have hfew := h.few
  have hkeys := h.keys
  have hvals := h.vals
  have hrold : w0.heap.size ≤ w.heap.size := h.mod.size
  have HR := Lib.hid hR; have HG := Lib.hid hgb; have HRA := Lib.hid hra; have HKY := Lib.hid hkeys; have HIN := Lib.hid hins; have HGA := Lib.hid hgat; have HRD := Lib.hid hrd; have HV := Lib.hid hvals
  clear hi hR hgb hra hkeys h hs hins hgat hrd hvals
  go_enter Tryz.func8, Tryz.ntmps8
  go_upto_region 0 with (fail)
  refine wp_region_seq [1, 3, 3] (fun _ => True) (by rfl) (by rfl) trivial ?_
  simp only [List.zip_cons_cons, List.zip_nil_right]
  refine wpPi_do rfl (fun K hK => ?_)
  refine wp_box 32 _ _ (by rfl) (by rfl) (fun w1 hB1 hm1 hs1 => ?_)
  replace hB1 : w1.heap[w.heap.size]? = some (.cells (idCells k.2) 32 (0, 0)) := hB1
  refine hK _ _ trivial ?_
  clear hK K
  try simp only [pl, pn, el, ec, sz, ss, gz, gs, if_true, if_false, Bool.false_eq_true, Bool.not_true, Bool.not_false, Nat.add_zero, Nat.zero_add, Nat.reduceAdd]
  refine wpPi_assign _ rfl rfl ?_
  simp only [pl, pn, el, ec, sz, ss, gz, gs, if_true, if_false, Bool.false_eq_true, Bool.not_true, Bool.not_false, Nat.add_zero, Nat.zero_add, Nat.reduceAdd]
  refine wpPi_assign _ rfl rfl ?_
  simp only [pl, pn, el, ec, sz, ss, gz, gs, if_true, if_false, Bool.false_eq_true, Bool.not_true, Bool.not_false, Nat.add_zero, Nat.zero_add, Nat.reduceAdd]
  refine wpPi_nil ?_
  go_upto_region 1 with (fail)
  refine wp_region_seq [3, 3, 1, 1, 3, 3, 3, 3, 3] (fun _ => True) (by rfl) (by rfl) trivial ?_
  simp only [List.zip_cons_cons, List.zip_nil_right]
  refine wpPi_move _ rfl rfl ?_
  simp only [pl, pn, el, ec, sz, ss, gz, gs, if_true, if_false, Bool.false_eq_true, Bool.not_true, Bool.not_false, Nat.add_zero, Nat.zero_add, Nat.reduceAdd]
  refine wpPi_move _ rfl rfl ?_
  simp only [pl, pn, el, ec, sz, ss, gz, gs, if_true, if_false, Bool.false_eq_true, Bool.not_true, Bool.not_false, Nat.add_zero, Nat.zero_add, Nat.reduceAdd]
  refine wpPi_do rfl (fun K hK => ?_)
  refine wp_exec (exec_loadA 32 _ (by rfl) w.heap.size 0 (by rfl) (idCells k.2) (CellsAt.whole hB1) _ Tryz.underlying32 rfl 32 (by kernel_rfl) (by rw [idCells_size]; exact hk32)) ?_
  refine hK _ _ trivial ?_
  clear hK K
  try simp only [pl, pn, el, ec, sz, ss, gz, gs, if_true, if_false, Bool.false_eq_true, Bool.not_true, Bool.not_false, Nat.add_zero, Nat.zero_add, Nat.reduceAdd]
  refine wpPi_do rfl (fun K hK => ?_)
  go_wp2_with (go_at_call 28; refine (hat _ hm1).mono ?_; rintro _ w2 ⟨rfl, hm2⟩)
  refine hK _ _ trivial ?_
  clear hK K
  try simp only [pl, pn, el, ec, sz, ss, gz, gs, if_true, if_false, Bool.false_eq_true, Bool.not_true, Bool.not_false, Nat.add_zero, Nat.zero_add, Nat.reduceAdd]
  refine wpPi_move _ rfl rfl ?_
  simp only [pl, pn, el, ec, sz, ss, gz, gs, if_true, if_false, Bool.false_eq_true, Bool.not_true, Bool.not_false, Nat.add_zero, Nat.zero_add, Nat.reduceAdd]
  refine wpPi_any (v := ?_) rfl (fun w' => ?_) ?_; rotate_left; · (go_simp; try with_reducible rfl)
  simp only [pl, pn, el, ec, sz, ss, gz, gs, if_true, if_false, Bool.false_eq_true, Bool.not_true, Bool.not_false, Nat.add_zero, Nat.zero_add, Nat.reduceAdd]
  refine wpPi_any (v := ?_) rfl (fun w' => ?_) ?_; rotate_left; · (go_simp; try with_reducible rfl)
  simp only [pl, pn, el, ec, sz, ss, gz, gs, if_true, if_false, Bool.false_eq_true, Bool.not_true, Bool.not_false, Nat.add_zero, Nat.zero_add, Nat.reduceAdd]
  refine wpPi_assign _ rfl rfl ?_
  simp only [pl, pn, el, ec, sz, ss, gz, gs, if_true, if_false, Bool.false_eq_true, Bool.not_true, Bool.not_false, Nat.add_zero, Nat.zero_add, Nat.reduceAdd]
  refine wpPi_assign _ rfl rfl ?_
  simp only [pl, pn, el, ec, sz, ss, gz, gs, if_true, if_false, Bool.false_eq_true, Bool.not_true, Bool.not_false, Nat.add_zero, Nat.zero_add, Nat.reduceAdd]
  refine wpPi_nil ?_
  have hM := hm1.trans0 hm2
  have hB1 := hm2.obj id hB1
  clear hm1 hm2 hs1 hat
  obtain ⟨nm, hnm⟩ : ∃ t, nameB k.1 = t := ⟨_, rfl⟩
  have HNM := Lib.hid hnm
  clear hnm
  go_upto_region 2 with (fail)
  refine wp_region_seq [3, 1, 3, 3] (fun _ => True) (by rfl) (by rfl) trivial ?_
  simp only [List.zip_cons_cons, List.zip_nil_right]
  refine wpPi_move _ rfl rfl ?_
  simp only [pl, pn, el, ec, sz, ss, gz, gs, if_true, if_false, Bool.false_eq_true, Bool.not_true, Bool.not_false, Nat.add_zero, Nat.zero_add, Nat.reduceAdd]
  refine wpPi_do rfl (fun K hK => ?_)
  go_wp2_with (go_at_call 29; refine (refNamed_any k.1 _ hsz).mono ?_; rintro _ w3 ⟨rfl, hm3⟩; rw [HNM.out])
  refine hK _ _ trivial ?_
  clear hK K
  try simp only [pl, pn, el, ec, sz, ss, gz, gs, if_true, if_false, Bool.false_eq_true, Bool.not_true, Bool.not_false, Nat.add_zero, Nat.zero_add, Nat.reduceAdd]
  refine wpPi_not _ _ _ rfl rfl rfl ?_
  simp only [pl, pn, el, ec, sz, ss, gz, gs, if_true, if_false, Bool.false_eq_true, Bool.not_true, Bool.not_false, Nat.add_zero, Nat.zero_add, Nat.reduceAdd]
  refine wpPi_assign _ rfl rfl ?_
  simp only [pl, pn, el, ec, sz, ss, gz, gs, if_true, if_false, Bool.false_eq_true, Bool.not_true, Bool.not_false, Nat.add_zero, Nat.zero_add, Nat.reduceAdd]
  refine wpPi_nil ?_
  have hM := hM.trans0 hm3
  have hB1 := hm3.obj id hB1
  clear hm3
  cases nm
  · have he : addE asked limit r k size = (false, 7) := addE_bad HNM.out
    have HR2 : Hid (RAddR asked w0 w _ limit r R k size _ w3) := RAddR.same h0.out hM he rfl
    clear hM hB1 hown hbb he hLb hlim
    go_wp2
    all_goals
      go_ret2
      exact HR2.out
  by_cases hbad : size < 0 ∨ 4096 < size
  · have he : addE asked limit r k size = (false, 3) := addE_range HNM.out hbad
    have HR2 : Hid (RAddR asked w0 w _ limit r R k size _ w3) := RAddR.same h0.out hM he rfl
    clear hM hB1 hown hbb he hLb hlim
    rcases hbad with hb | hb
    · go_wp2
      go_ret2
      exact HR2.out
    · have hb2 : ¬ size < 0 := by omega
      go_wp2
      go_ret2
      exact HR2.out
  have hb1 : ¬ size < 0 := by omega
  have hb2 : ¬ 4096 < size := by omega
  have HBAD := Lib.hid hbad
  clear hbad
  go_upto_region 6 with (fail)
  cases hg : getL k r with
  | some old =>
    have hE2 := addE_some (limit := limit) (asked := asked) HNM.out HBAD.out hg
    have hq := (HGA.out old).1 hg
    obtain ⟨hlt, hp⟩ := List.getElem?_eq_some_iff.1 hq
    obtain ⟨g, off, rfl, hcells⟩ := HRD.out i hlt
    have hc := hcells i hlt
    rw [hp] at hc
    have hcs := (hc.keep hM id).cell (entCells_id (p := (k, old)) hk).2
    have hLc := hM.cell id hLb
    have hlim2 := hM.cell id hlim
    rw [hg] at *
    clear hq hp hc hcells hg hown hbb
    obtain ⟨t, ht⟩ : ∃ t, cmpB .neq old size = t := ⟨_, rfl⟩
    have HT := Lib.hid ht
    clear ht
    refine wp_region_seq [3, 3, 3, 3, 3, 1, 3, 3, 3, 1, 3, 3, 3, 3] (fun _ => True) (by rfl) (by rfl) trivial ?_
    simp only [List.zip_cons_cons, List.zip_nil_right]
    refine wpPi_move _ rfl rfl ?_
    simp only [pl, pn, el, ec, sz, ss, gz, gs, if_true, if_false, Bool.false_eq_true, Bool.not_true, Bool.not_false, Nat.add_zero, Nat.zero_add, Nat.reduceAdd]
    refine wpPi_move _ rfl rfl ?_
    simp only [pl, pn, el, ec, sz, ss, gz, gs, if_true, if_false, Bool.false_eq_true, Bool.not_true, Bool.not_false, Nat.add_zero, Nat.zero_add, Nat.reduceAdd]
    refine wpPi_move _ rfl rfl ?_
    simp only [pl, pn, el, ec, sz, ss, gz, gs, if_true, if_false, Bool.false_eq_true, Bool.not_true, Bool.not_false, Nat.add_zero, Nat.zero_add, Nat.reduceAdd]
    refine wpPi_nilCheck _ _ rfl rfl rfl ?_
    simp only [pl, pn, el, ec, sz, ss, gz, gs, if_true, if_false, Bool.false_eq_true, Bool.not_true, Bool.not_false, Nat.add_zero, Nat.zero_add, Nat.reduceAdd]
    refine wpPi_field _ _ _ _ _ _ rfl rfl rfl fo_56_1 ?_
    simp only [pl, pn, el, ec, sz, ss, gz, gs, if_true, if_false, Bool.false_eq_true, Bool.not_true, Bool.not_false, Nat.add_zero, Nat.zero_add, Nat.reduceAdd]
    refine wpPi_do rfl (fun K hK => ?_)
    refine wp_exec (exec_load1 54 _ (by rfl) b 1 (by rfl) _ hLc _ Tryz.underlying54 rfl) ?_
    refine hK _ _ trivial ?_
    clear hK K
    try simp only [pl, pn, el, ec, sz, ss, gz, gs, if_true, if_false, Bool.false_eq_true, Bool.not_true, Bool.not_false, Nat.add_zero, Nat.zero_add, Nat.reduceAdd]
    refine wpPi_move _ rfl rfl ?_
    simp only [pl, pn, el, ec, sz, ss, gz, gs, if_true, if_false, Bool.false_eq_true, Bool.not_true, Bool.not_false, Nat.add_zero, Nat.zero_add, Nat.reduceAdd]
    refine wpPi_index _ _ _ _ _ _ _ _ _ rfl rfl rfl rfl Tryz.underlying54 (n := 34) (by kernel_rfl) hlt ?_
    simp only [pl, pn, el, ec, sz, ss, gz, gs, if_true, if_false, Bool.false_eq_true, Bool.not_true, Bool.not_false, Nat.add_zero, Nat.zero_add, Nat.reduceAdd]
    refine wpPi_field _ _ _ _ _ _ rfl rfl rfl fo_61_2 ?_
    simp only [pl, pn, el, ec, sz, ss, gz, gs, if_true, if_false, Bool.false_eq_true, Bool.not_true, Bool.not_false, Nat.add_zero, Nat.zero_add, Nat.reduceAdd]
    refine wpPi_do rfl (fun K hK => ?_)
    refine wp_exec (exec_load1 3 _ (by rfl) g (off + i * 34 + 33) (by rfl) _ hcs _ Tryz.underlying3 rfl) ?_
    refine hK _ _ trivial ?_
    clear hK K
    try simp only [pl, pn, el, ec, sz, ss, gz, gs, if_true, if_false, Bool.false_eq_true, Bool.not_true, Bool.not_false, Nat.add_zero, Nat.zero_add, Nat.reduceAdd]
    refine wpPi_move _ rfl rfl ?_
    simp only [pl, pn, el, ec, sz, ss, gz, gs, if_true, if_false, Bool.false_eq_true, Bool.not_true, Bool.not_false, Nat.add_zero, Nat.zero_add, Nat.reduceAdd]
    refine wpPi_cmp _ _ _ _ _ _ _ _ rfl rfl rfl rfl rfl t HT.out ?_
    simp only [pl, pn, el, ec, sz, ss, gz, gs, if_true, if_false, Bool.false_eq_true, Bool.not_true, Bool.not_false, Nat.add_zero, Nat.zero_add, Nat.reduceAdd]
    refine wpPi_pick _ _ _ _ rfl rfl rfl ?_
    simp only [pl, pn, el, ec, sz, ss, gz, gs, if_true, if_false, Bool.false_eq_true, Bool.not_true, Bool.not_false, Nat.add_zero, Nat.zero_add, Nat.reduceAdd]
    refine wpPi_assign _ rfl rfl ?_
    simp only [pl, pn, el, ec, sz, ss, gz, gs, if_true, if_false, Bool.false_eq_true, Bool.not_true, Bool.not_false, Nat.add_zero, Nat.zero_add, Nat.reduceAdd]
    refine wpPi_nil ?_
    cases t
    · have e : old = size := by have := HT.out; simpa [cmpB] using this
      rw [if_pos e] at hE2
      have HR2 : Hid (RAddR asked w0 w _ limit r R k size _ w3) := RAddR.same h0.out hM hE2 rfl
      clear hM hB1 hE2 hLb hlim hLc hlim2 hcs e HT
      go_wp2
      all_goals
        go_ret2
        exact HR2.out
    · have e : ¬ old = size := by have := HT.out; simpa [cmpB] using this
      rw [if_neg e] at hE2
      have HR2 : Hid (RAddR asked w0 w _ limit r R k size _ w3) := RAddR.same h0.out hM hE2 rfl
      clear hM hB1 hE2 hLb hlim hLc hlim2 hcs e HT
      go_wp2
      all_goals
        go_ret2
        exact HR2.out
  | none =>
    have hE2 := addE_new (limit := limit) (asked := asked) HNM.out HBAD.out hg
    have hLc := hM.cell id hLb
    have hlim2 := hM.cell id hlim
    have hbb2 := hM.obj id hbb
    have hown2 := owns_keep hown hM (fun _ _ => id)
    have hub2 : 0 ≤ useOf r k.1 ∧ useOf r k.1 ≤ 268435456 := by omega
    have HGN := Lib.hid hg
    clear hg hown hbb hub
    refine wp_region_seq [3, 3, 3, 3, 3, 0, 3, 3, 3, 0, 3, 3, 3, 3] (fun _ => True) (by rfl) (by rfl) trivial ?_
    simp only [List.zip_cons_cons, List.zip_nil_right]
    refine wpPi_move _ rfl rfl ?_
    simp only [pl, pn, el, ec, sz, ss, gz, gs, if_true, if_false, Bool.false_eq_true, Bool.not_true, Bool.not_false, Nat.add_zero, Nat.zero_add, Nat.reduceAdd]
    refine wpPi_move _ rfl rfl ?_
    simp only [pl, pn, el, ec, sz, ss, gz, gs, if_true, if_false, Bool.false_eq_true, Bool.not_true, Bool.not_false, Nat.add_zero, Nat.zero_add, Nat.reduceAdd]
    refine wpPi_skip rfl ?_
    simp only [pl, pn, el, ec, sz, ss, gz, gs, if_true, if_false, Bool.false_eq_true, Bool.not_true, Bool.not_false, Nat.add_zero, Nat.zero_add, Nat.reduceAdd]
    refine wpPi_skip rfl ?_
    simp only [pl, pn, el, ec, sz, ss, gz, gs, if_true, if_false, Bool.false_eq_true, Bool.not_true, Bool.not_false, Nat.add_zero, Nat.zero_add, Nat.reduceAdd]
    refine wpPi_skip rfl ?_
    simp only [pl, pn, el, ec, sz, ss, gz, gs, if_true, if_false, Bool.false_eq_true, Bool.not_true, Bool.not_false, Nat.add_zero, Nat.zero_add, Nat.reduceAdd]
    refine wpPi_skip0 rfl ?_
    simp only [pl, pn, el, ec, sz, ss, gz, gs, if_true, if_false, Bool.false_eq_true, Bool.not_true, Bool.not_false, Nat.add_zero, Nat.zero_add, Nat.reduceAdd]
    refine wpPi_skip rfl ?_
    simp only [pl, pn, el, ec, sz, ss, gz, gs, if_true, if_false, Bool.false_eq_true, Bool.not_true, Bool.not_false, Nat.add_zero, Nat.zero_add, Nat.reduceAdd]
    refine wpPi_skip rfl ?_
    simp only [pl, pn, el, ec, sz, ss, gz, gs, if_true, if_false, Bool.false_eq_true, Bool.not_true, Bool.not_false, Nat.add_zero, Nat.zero_add, Nat.reduceAdd]
    refine wpPi_skip rfl ?_
    simp only [pl, pn, el, ec, sz, ss, gz, gs, if_true, if_false, Bool.false_eq_true, Bool.not_true, Bool.not_false, Nat.add_zero, Nat.zero_add, Nat.reduceAdd]
    refine wpPi_skip0 rfl ?_
    simp only [pl, pn, el, ec, sz, ss, gz, gs, if_true, if_false, Bool.false_eq_true, Bool.not_true, Bool.not_false, Nat.add_zero, Nat.zero_add, Nat.reduceAdd]
    refine wpPi_skip rfl ?_
    simp only [pl, pn, el, ec, sz, ss, gz, gs, if_true, if_false, Bool.false_eq_true, Bool.not_true, Bool.not_false, Nat.add_zero, Nat.zero_add, Nat.reduceAdd]
    refine wpPi_skip rfl ?_
    simp only [pl, pn, el, ec, sz, ss, gz, gs, if_true, if_false, Bool.false_eq_true, Bool.not_true, Bool.not_false, Nat.add_zero, Nat.zero_add, Nat.reduceAdd]
    refine wpPi_pick _ _ _ _ rfl rfl rfl ?_
    simp only [pl, pn, el, ec, sz, ss, gz, gs, if_true, if_false, Bool.false_eq_true, Bool.not_true, Bool.not_false, Nat.add_zero, Nat.zero_add, Nat.reduceAdd]
    refine wpPi_assign _ rfl rfl ?_
    simp only [pl, pn, el, ec, sz, ss, gz, gs, if_true, if_false, Bool.false_eq_true, Bool.not_true, Bool.not_false, Nat.add_zero, Nat.zero_add, Nat.reduceAdd]
    refine wpPi_nil ?_
    go_upto_region 10 with (fail)
    obtain ⟨hd, hhd⟩ : ∃ t, holdB asked limit (useOf r k.1) size = t := ⟨_, rfl⟩
    rw [hhd] at hE2
    have hrest : ∀ wy : World, Mod NoB w wy → True := fun _ _ => trivial
    clear hrest
    go_cut [48] (fun v wx => v = .bool (!hd) ∧ Mod NoB w3 wx)
    case first =>
      have hS : Mod NoB w3 w3.drew := (Mod.refl _ _).drew
      cases asked
      · obtain rfl : hd = true := by rw [← hhd]; rfl
        refine wp_region_pi [(0, 3), (1, 3), (2, 3), (3, 3), (5, 3), (7, 3), (8, 3), (9, 3), (10, 0), (4, 1), (6, 3), (11, 3), (12, 3), (13, 3)] [] (fun w' => Mod NoB w3 w') (by kernel_rfl) (by kernel_rfl) (by kernel_rfl) (by kernel_rfl) (fun _ _ _ _ hd h => ⟨hd.trans h.1, h.2⟩) hS ?_
        simp only [List.map_cons, List.map_nil, List.getD_cons_zero, List.getD_cons_succ]
        refine wpPi_move _ rfl rfl ?_
        simp only [pl, pn, el, ec, sz, ss, gz, gs, if_true, if_false, Bool.false_eq_true, Bool.not_true, Bool.not_false, Nat.add_zero, Nat.zero_add, Nat.reduceAdd]
        refine wpPi_move _ rfl rfl ?_
        simp only [pl, pn, el, ec, sz, ss, gz, gs, if_true, if_false, Bool.false_eq_true, Bool.not_true, Bool.not_false, Nat.add_zero, Nat.zero_add, Nat.reduceAdd]
        refine wpPi_skip rfl ?_
        simp only [pl, pn, el, ec, sz, ss, gz, gs, if_true, if_false, Bool.false_eq_true, Bool.not_true, Bool.not_false, Nat.add_zero, Nat.zero_add, Nat.reduceAdd]
        refine wpPi_skip rfl ?_
        simp only [pl, pn, el, ec, sz, ss, gz, gs, if_true, if_false, Bool.false_eq_true, Bool.not_true, Bool.not_false, Nat.add_zero, Nat.zero_add, Nat.reduceAdd]
        refine wpPi_skip rfl ?_
        simp only [pl, pn, el, ec, sz, ss, gz, gs, if_true, if_false, Bool.false_eq_true, Bool.not_true, Bool.not_false, Nat.add_zero, Nat.zero_add, Nat.reduceAdd]
        refine wpPi_skip rfl ?_
        simp only [pl, pn, el, ec, sz, ss, gz, gs, if_true, if_false, Bool.false_eq_true, Bool.not_true, Bool.not_false, Nat.add_zero, Nat.zero_add, Nat.reduceAdd]
        refine wpPi_skip rfl ?_
        simp only [pl, pn, el, ec, sz, ss, gz, gs, if_true, if_false, Bool.false_eq_true, Bool.not_true, Bool.not_false, Nat.add_zero, Nat.zero_add, Nat.reduceAdd]
        refine wpPi_skip rfl ?_
        simp only [pl, pn, el, ec, sz, ss, gz, gs, if_true, if_false, Bool.false_eq_true, Bool.not_true, Bool.not_false, Nat.add_zero, Nat.zero_add, Nat.reduceAdd]
        refine wpPi_skip0 rfl ?_
        simp only [pl, pn, el, ec, sz, ss, gz, gs, if_true, if_false, Bool.false_eq_true, Bool.not_true, Bool.not_false, Nat.add_zero, Nat.zero_add, Nat.reduceAdd]
        refine wpPi_do_skip rfl hS ?_
        simp only [pl, pn, el, ec, sz, ss, gz, gs, if_true, if_false, Bool.false_eq_true, Bool.not_true, Bool.not_false, Nat.add_zero, Nat.zero_add, Nat.reduceAdd]
        refine wpPi_skip rfl ?_
        simp only [pl, pn, el, ec, sz, ss, gz, gs, if_true, if_false, Bool.false_eq_true, Bool.not_true, Bool.not_false, Nat.add_zero, Nat.zero_add, Nat.reduceAdd]
        refine wpPi_skip rfl ?_
        simp only [pl, pn, el, ec, sz, ss, gz, gs, if_true, if_false, Bool.false_eq_true, Bool.not_true, Bool.not_false, Nat.add_zero, Nat.zero_add, Nat.reduceAdd]
        refine wpPi_pick _ _ _ _ rfl rfl rfl ?_
        simp only [pl, pn, el, ec, sz, ss, gz, gs, if_true, if_false, Bool.false_eq_true, Bool.not_true, Bool.not_false, Nat.add_zero, Nat.zero_add, Nat.reduceAdd]
        refine wpPi_assign _ rfl rfl ?_
        simp only [pl, pn, el, ec, sz, ss, gz, gs, if_true, if_false, Bool.false_eq_true, Bool.not_true, Bool.not_false, Nat.add_zero, Nat.zero_add, Nat.reduceAdd]
        refine wpPi_nil ?_
        clear hhd huse
        go_wp2
        go_meet
        case rel => exact ⟨rfl, hS⟩
      · have hcmp : cmpB .gtr (useOf r k.1 + size) limit = !hd := by
          rw [← hhd]; simp only [cmpB, holdB, Bool.not_true, Bool.false_or]
          by_cases hle : useOf r k.1 + size ≤ limit
          · rw [decide_eq_true hle, decide_eq_false (by omega)]; rfl
          · rw [decide_eq_false hle, decide_eq_true (by omega)]; rfl
        generalize useOf r k.1 = u at *
        have HC := Lib.hid hcmp
        clear hcmp
        refine wp_region_pi [(0, 3), (1, 3), (2, 3), (3, 3), (5, 3), (7, 3), (8, 3), (9, 3), (10, 0), (4, 1), (6, 3), (11, 3), (12, 3), (13, 3)] [] (fun w' => Mod NoB w3 w') (by kernel_rfl) (by kernel_rfl) (by kernel_rfl) (by kernel_rfl) (fun _ _ _ _ hd h => ⟨hd.trans h.1, h.2⟩) hS ?_
        simp only [List.map_cons, List.map_nil, List.getD_cons_zero, List.getD_cons_succ]
        refine wpPi_move _ rfl rfl ?_
        simp only [pl, pn, el, ec, sz, ss, gz, gs, if_true, if_false, Bool.false_eq_true, Bool.not_true, Bool.not_false, Nat.add_zero, Nat.zero_add, Nat.reduceAdd]
        refine wpPi_move _ rfl rfl ?_
        simp only [pl, pn, el, ec, sz, ss, gz, gs, if_true, if_false, Bool.false_eq_true, Bool.not_true, Bool.not_false, Nat.add_zero, Nat.zero_add, Nat.reduceAdd]
        refine wpPi_move _ rfl rfl ?_
        simp only [pl, pn, el, ec, sz, ss, gz, gs, if_true, if_false, Bool.false_eq_true, Bool.not_true, Bool.not_false, Nat.add_zero, Nat.zero_add, Nat.reduceAdd]
        refine wpPi_move _ rfl rfl ?_
        simp only [pl, pn, el, ec, sz, ss, gz, gs, if_true, if_false, Bool.false_eq_true, Bool.not_true, Bool.not_false, Nat.add_zero, Nat.zero_add, Nat.reduceAdd]
        refine wpPi_move _ rfl rfl ?_
        simp only [pl, pn, el, ec, sz, ss, gz, gs, if_true, if_false, Bool.false_eq_true, Bool.not_true, Bool.not_false, Nat.add_zero, Nat.zero_add, Nat.reduceAdd]
        refine wpPi_move _ rfl rfl ?_
        simp only [pl, pn, el, ec, sz, ss, gz, gs, if_true, if_false, Bool.false_eq_true, Bool.not_true, Bool.not_false, Nat.add_zero, Nat.zero_add, Nat.reduceAdd]
        refine wpPi_nilCheck _ _ rfl rfl rfl ?_
        simp only [pl, pn, el, ec, sz, ss, gz, gs, if_true, if_false, Bool.false_eq_true, Bool.not_true, Bool.not_false, Nat.add_zero, Nat.zero_add, Nat.reduceAdd]
        refine wpPi_field _ _ _ _ _ _ rfl rfl rfl fo_56_0 ?_
        simp only [pl, pn, el, ec, sz, ss, gz, gs, if_true, if_false, Bool.false_eq_true, Bool.not_true, Bool.not_false, Nat.add_zero, Nat.zero_add, Nat.reduceAdd]
        refine wpPi_val rfl (fun w' hS => exec_load1 3 _ (by rfl) b 0 (by rfl) _ (hS.cell id hlim2) _ Tryz.underlying3 rfl) ?_
        simp only [pl, pn, el, ec, sz, ss, gz, gs, if_true, if_false, Bool.false_eq_true, Bool.not_true, Bool.not_false, Nat.add_zero, Nat.zero_add, Nat.reduceAdd]
        refine wpPi_do rfl (fun K hK => ?_)
        go_wp2_with (go_at_call 30; refine (huse _ (hM.trans0 hS)).mono ?_; rintro _ w4 ⟨rfl, hm4⟩)
        replace hS := hS.trans0 hm4
        refine hK _ _ hS ?_
        clear hK K
        try simp only [pl, pn, el, ec, sz, ss, gz, gs, if_true, if_false, Bool.false_eq_true, Bool.not_true, Bool.not_false, Nat.add_zero, Nat.zero_add, Nat.reduceAdd]
        refine wpPi_addR _ _ _ _ u size (u + size) rfl rfl rfl rfl rfl (by omega) (by omega) ?_
        simp only [pl, pn, el, ec, sz, ss, gz, gs, if_true, if_false, Bool.false_eq_true, Bool.not_true, Bool.not_false, Nat.add_zero, Nat.zero_add, Nat.reduceAdd]
        refine wpPi_cmp _ _ _ _ _ _ _ _ rfl rfl rfl rfl rfl (!hd) HC.out ?_
        simp only [pl, pn, el, ec, sz, ss, gz, gs, if_true, if_false, Bool.false_eq_true, Bool.not_true, Bool.not_false, Nat.add_zero, Nat.zero_add, Nat.reduceAdd]
        refine wpPi_pick _ _ _ _ rfl rfl rfl ?_
        simp only [pl, pn, el, ec, sz, ss, gz, gs, if_true, if_false, Bool.false_eq_true, Bool.not_true, Bool.not_false, Nat.add_zero, Nat.zero_add, Nat.reduceAdd]
        refine wpPi_assign _ rfl rfl ?_
        simp only [pl, pn, el, ec, sz, ss, gz, gs, if_true, if_false, Bool.false_eq_true, Bool.not_true, Bool.not_false, Nat.add_zero, Nat.zero_add, Nat.reduceAdd]
        refine wpPi_nil ?_
        clear hhd huse
        go_wp2
        go_meet
        case rel => exact ⟨rfl, hS⟩
    case rest =>
      obtain ⟨rfl, hm4⟩ := hcut
      rename World => w4
      have hM4 := hM.trans0 hm4
      have hLc4 := hm4.cell id hLc
      have hB14 := hm4.obj id hB1
      have hbb4 := hm4.obj id hbb2
      have hown4 := owns_keep hown2 hm4 (fun _ _ => id)
      clear hM hLc hlim2 hB1 hbb2 hown2 hm4 hLb hlim hhd huse
      cases hd
      · rw [if_neg (by simp)] at hE2
        have HR2 : Hid (RAddR asked w0 w _ limit r R k size _ w4) := RAddR.same h0.out hM4 hE2 rfl
        clear hM4 hE2 hLc4 hB14 hbb4 hown4
        go_wp2
        all_goals
          go_ret2
          exact HR2.out
      · rw [if_pos rfl] at hE2
        go_upto_region 12 with (fail)
        by_cases hfull : 65536 ≤ r.length
        · rw [if_pos hfull] at hE2
          have hz : (65536 : Int) ≤ (r.length : Int) := by omega
          have HR2 : Hid (RAddR asked w0 w _ limit r R k size _ w4) := RAddR.same h0.out hM4 hE2 rfl
          refine wp_region_seq [3, 3, 3, 1, 3, 3, 3] (fun _ => True) (by rfl) (by rfl) trivial ?_
          simp only [List.zip_cons_cons, List.zip_nil_right]
          refine wpPi_move _ rfl rfl ?_
          simp only [pl, pn, el, ec, sz, ss, gz, gs, if_true, if_false, Bool.false_eq_true, Bool.not_true, Bool.not_false, Nat.add_zero, Nat.zero_add, Nat.reduceAdd]
          refine wpPi_nilCheck _ _ rfl rfl rfl ?_
          simp only [pl, pn, el, ec, sz, ss, gz, gs, if_true, if_false, Bool.false_eq_true, Bool.not_true, Bool.not_false, Nat.add_zero, Nat.zero_add, Nat.reduceAdd]
          refine wpPi_field _ _ _ _ _ _ rfl rfl rfl fo_56_1 ?_
          simp only [pl, pn, el, ec, sz, ss, gz, gs, if_true, if_false, Bool.false_eq_true, Bool.not_true, Bool.not_false, Nat.add_zero, Nat.zero_add, Nat.reduceAdd]
          refine wpPi_do rfl (fun K hK => ?_)
          refine wp_exec (exec_load1 54 _ (by rfl) b 1 (by rfl) _ hLc4 _ Tryz.underlying54 rfl) ?_
          refine hK _ _ trivial ?_
          clear hK K
          try simp only [pl, pn, el, ec, sz, ss, gz, gs, if_true, if_false, Bool.false_eq_true, Bool.not_true, Bool.not_false, Nat.add_zero, Nat.zero_add, Nat.reduceAdd]
          refine wpPi_len _ _ _ _ _ rfl rfl rfl (by kernel_rfl) ?_
          simp only [pl, pn, el, ec, sz, ss, gz, gs, if_true, if_false, Bool.false_eq_true, Bool.not_true, Bool.not_false, Nat.add_zero, Nat.zero_add, Nat.reduceAdd]
          refine wpPi_cmp _ _ _ _ _ _ _ _ rfl rfl rfl rfl rfl true (decide_eq_true hz) ?_
          simp only [pl, pn, el, ec, sz, ss, gz, gs, if_true, if_false, Bool.false_eq_true, Bool.not_true, Bool.not_false, Nat.add_zero, Nat.zero_add, Nat.reduceAdd]
          refine wpPi_assign _ rfl rfl ?_
          simp only [pl, pn, el, ec, sz, ss, gz, gs, if_true, if_false, Bool.false_eq_true, Bool.not_true, Bool.not_false, Nat.add_zero, Nat.zero_add, Nat.reduceAdd]
          refine wpPi_nil ?_
          clear hM4 hE2 hLc4 hB14 hbb4 hown4
          go_wp2
          all_goals
            go_ret2
            exact HR2.out
        · rw [if_neg hfull] at hE2
          have hz : ¬ (65536 : Int) ≤ (r.length : Int) := by omega
          refine wp_region_seq [3, 3, 3, 1, 3, 3, 3] (fun _ => True) (by rfl) (by rfl) trivial ?_
          simp only [List.zip_cons_cons, List.zip_nil_right]
          refine wpPi_move _ rfl rfl ?_
          simp only [pl, pn, el, ec, sz, ss, gz, gs, if_true, if_false, Bool.false_eq_true, Bool.not_true, Bool.not_false, Nat.add_zero, Nat.zero_add, Nat.reduceAdd]
          refine wpPi_nilCheck _ _ rfl rfl rfl ?_
          simp only [pl, pn, el, ec, sz, ss, gz, gs, if_true, if_false, Bool.false_eq_true, Bool.not_true, Bool.not_false, Nat.add_zero, Nat.zero_add, Nat.reduceAdd]
          refine wpPi_field _ _ _ _ _ _ rfl rfl rfl fo_56_1 ?_
          simp only [pl, pn, el, ec, sz, ss, gz, gs, if_true, if_false, Bool.false_eq_true, Bool.not_true, Bool.not_false, Nat.add_zero, Nat.zero_add, Nat.reduceAdd]
          refine wpPi_do rfl (fun K hK => ?_)
          refine wp_exec (exec_load1 54 _ (by rfl) b 1 (by rfl) _ hLc4 _ Tryz.underlying54 rfl) ?_
          refine hK _ _ trivial ?_
          clear hK K
          try simp only [pl, pn, el, ec, sz, ss, gz, gs, if_true, if_false, Bool.false_eq_true, Bool.not_true, Bool.not_false, Nat.add_zero, Nat.zero_add, Nat.reduceAdd]
          refine wpPi_len _ _ _ _ _ rfl rfl rfl (by kernel_rfl) ?_
          simp only [pl, pn, el, ec, sz, ss, gz, gs, if_true, if_false, Bool.false_eq_true, Bool.not_true, Bool.not_false, Nat.add_zero, Nat.zero_add, Nat.reduceAdd]
          refine wpPi_cmp _ _ _ _ _ _ _ _ rfl rfl rfl rfl rfl false (decide_eq_false hz) ?_
          simp only [pl, pn, el, ec, sz, ss, gz, gs, if_true, if_false, Bool.false_eq_true, Bool.not_true, Bool.not_false, Nat.add_zero, Nat.zero_add, Nat.reduceAdd]
          refine wpPi_assign _ rfl rfl ?_
          simp only [pl, pn, el, ec, sz, ss, gz, gs, if_true, if_false, Bool.false_eq_true, Bool.not_true, Bool.not_false, Nat.add_zero, Nat.zero_add, Nat.reduceAdd]
          refine wpPi_nil ?_
          have hcap : i ≤ rc := by omega
          have hM5 := hM4.drew
          have hsd : w4.drew.heap.size = w4.heap.size := rfl
          have hown5 := owns_keep (w' := w4.drew) hown4 (Mod.refl NoB _).drew (fun _ _ => id)
          have hbb5 : w4.drew.heap[b]? = _ := hbb4
          have hsz5 := hM5.size
          have hblt : b < w.heap.size := h0.out.lt b hRb
          have hkr : KeyOk (k, size).1 := hk
          have HE2 := Lib.hid hE2
          clear hE2 hown4 hbb4 hM4
          go_upto_region 14 with (fail)
          have hS : w4.drew.cell? ⟨b, 1, none⟩ = some (.slice ra r.length rc) ∧ CellsAt w4.drew w.heap.size 0 (idCells k.2) := ⟨hLc4, CellsAt.whole hB14⟩
          have hbxlt := obj_lt hB14
          clear hB14 hLc4
          refine wp_region_pi [(0, 3), (1, 3), (2, 3), (3, 3), (4, 0), (5, 3), (6, 3), (7, 3), (8, 0), (9, 3), (10, 0), (12, 3), (13, 3), (14, 3), (15, 0), (16, 3), (17, 3), (11, 1), (18, 1), (19, 1), (20, 3), (21, 3), (22, 2)] [22] (fun w' => w'.cell? ⟨b, 1, none⟩ = some (.slice ra r.length rc) ∧ CellsAt w' w.heap.size 0 (idCells k.2)) (by kernel_rfl) (by kernel_rfl) (by kernel_rfl) (by kernel_rfl) (fun _ _ _ _ hd h => ⟨hd.trans h.1, h.2⟩) hS ?_
          simp only [List.map_cons, List.map_nil, List.getD_cons_zero, List.getD_cons_succ]
          refine wpPi_move _ rfl rfl ?_
          simp only [pl, pn, el, ec, sz, ss, gz, gs, if_true, if_false, Bool.false_eq_true, Bool.not_true, Bool.not_false, Nat.add_zero, Nat.zero_add, Nat.reduceAdd]
          refine wpPi_move _ rfl rfl ?_
          simp only [pl, pn, el, ec, sz, ss, gz, gs, if_true, if_false, Bool.false_eq_true, Bool.not_true, Bool.not_false, Nat.add_zero, Nat.zero_add, Nat.reduceAdd]
          refine wpPi_nilCheck _ _ rfl rfl rfl ?_
          simp only [pl, pn, el, ec, sz, ss, gz, gs, if_true, if_false, Bool.false_eq_true, Bool.not_true, Bool.not_false, Nat.add_zero, Nat.zero_add, Nat.reduceAdd]
          refine wpPi_field _ _ _ _ _ _ rfl rfl rfl fo_56_1 ?_
          simp only [pl, pn, el, ec, sz, ss, gz, gs, if_true, if_false, Bool.false_eq_true, Bool.not_true, Bool.not_false, Nat.add_zero, Nat.zero_add, Nat.reduceAdd]
          refine wpPi_val rfl (fun w' hS => exec_load1 54 _ (by rfl) b 1 (by rfl) _ hS.1 _ Tryz.underlying54 rfl) ?_
          simp only [pl, pn, el, ec, sz, ss, gz, gs, if_true, if_false, Bool.false_eq_true, Bool.not_true, Bool.not_false, Nat.add_zero, Nat.zero_add, Nat.reduceAdd]
          refine wpPi_move _ rfl rfl ?_
          simp only [pl, pn, el, ec, sz, ss, gz, gs, if_true, if_false, Bool.false_eq_true, Bool.not_true, Bool.not_false, Nat.add_zero, Nat.zero_add, Nat.reduceAdd]
          refine wpPi_sliceTo 54 61 _ _ _ _ _ _ 34 rfl rfl rfl rfl Tryz.underlying54 (by kernel_rfl) hcap ?_
          simp only [pl, pn, el, ec, sz, ss, gz, gs, if_true, if_false, Bool.false_eq_true, Bool.not_true, Bool.not_false, Nat.add_zero, Nat.zero_add, Nat.reduceAdd]
          refine wpPi_move _ rfl rfl ?_
          simp only [pl, pn, el, ec, sz, ss, gz, gs, if_true, if_false, Bool.false_eq_true, Bool.not_true, Bool.not_false, Nat.add_zero, Nat.zero_add, Nat.reduceAdd]
          refine wpPi_val rfl (fun w' hS => exec_loadA 32 _ (by rfl) w.heap.size 0 (by rfl) (idCells k.2) hS.2 _ Tryz.underlying32 rfl 32 (by kernel_rfl) (by rw [idCells_size]; exact hk32)) ?_
          simp only [pl, pn, el, ec, sz, ss, gz, gs, if_true, if_false, Bool.false_eq_true, Bool.not_true, Bool.not_false, Nat.add_zero, Nat.zero_add, Nat.reduceAdd]
          refine wpPi_move _ rfl rfl ?_
          simp only [pl, pn, el, ec, sz, ss, gz, gs, if_true, if_false, Bool.false_eq_true, Bool.not_true, Bool.not_false, Nat.add_zero, Nat.zero_add, Nat.reduceAdd]
          refine wpPi_val rfl (fun w' hS => exec_build_of 61 [(0, _), (1, _), (2, _)] [(0, .string k.1), (1, .agg (idCells k.2)), (2, .int .i64 size)] (entCells (k, size)) (by rfl) (by rfl) (built_ent (p := (k, size)) hk)) ?_
          simp only [pl, pn, el, ec, sz, ss, gz, gs, if_true, if_false, Bool.false_eq_true, Bool.not_true, Bool.not_false, Nat.add_zero, Nat.zero_add, Nat.reduceAdd]
          refine wpPi_move _ rfl rfl ?_
          simp only [pl, pn, el, ec, sz, ss, gz, gs, if_true, if_false, Bool.false_eq_true, Bool.not_true, Bool.not_false, Nat.add_zero, Nat.zero_add, Nat.reduceAdd]
          refine wpPi_nilCheck _ _ rfl rfl rfl ?_
          simp only [pl, pn, el, ec, sz, ss, gz, gs, if_true, if_false, Bool.false_eq_true, Bool.not_true, Bool.not_false, Nat.add_zero, Nat.zero_add, Nat.reduceAdd]
          refine wpPi_field _ _ _ _ _ _ rfl rfl rfl fo_56_1 ?_
          simp only [pl, pn, el, ec, sz, ss, gz, gs, if_true, if_false, Bool.false_eq_true, Bool.not_true, Bool.not_false, Nat.add_zero, Nat.zero_add, Nat.reduceAdd]
          refine wpPi_val rfl (fun w' hS => exec_load1 54 _ (by rfl) b 1 (by rfl) _ hS.1 _ Tryz.underlying54 rfl) ?_
          simp only [pl, pn, el, ec, sz, ss, gz, gs, if_true, if_false, Bool.false_eq_true, Bool.not_true, Bool.not_false, Nat.add_zero, Nat.zero_add, Nat.reduceAdd]
          refine wpPi_move _ rfl rfl ?_
          simp only [pl, pn, el, ec, sz, ss, gz, gs, if_true, if_false, Bool.false_eq_true, Bool.not_true, Bool.not_false, Nat.add_zero, Nat.zero_add, Nat.reduceAdd]
          refine wpPi_sliceFrom 54 61 _ _ _ _ _ _ 34 rfl rfl rfl rfl Tryz.underlying54 (by kernel_rfl) hple ?_
          simp only [pl, pn, el, ec, sz, ss, gz, gs, if_true, if_false, Bool.false_eq_true, Bool.not_true, Bool.not_false, Nat.add_zero, Nat.zero_add, Nat.reduceAdd]
          refine wpPi_do rfl (fun K hK => ?_)
          refine wp_buildSlice1 54 61 _ (.agg (entCells (k, size))) (.agg (entCells ((⟨#[]⟩, List.replicate 32 0), 0))) 34 (by rfl) (by rfl) Tryz.underlying54 (by kernel_rfl) (by omega) (by omega) (entCells_size hkr) (fun w6 hB6 hm6 hs6 => ?_)
          replace hB6 : w6.heap[w4.heap.size]? = some (.cells (entCells (k, size)) 61 (0, 0)) := hB6
          replace hS := And.intro (hm6.cell id hS.1) (hS.2.keep hm6 id)
          have hown6 := owns_keep hown5 hm6 (fun _ _ => id)
          have hbb6 := hm6.obj id hbb5
          have hsz6 := hm6.size
          refine hK _ _ hS ?_
          clear hK K
          try simp only [pl, pn, el, ec, sz, ss, gz, gs, if_true, if_false, Bool.false_eq_true, Bool.not_true, Bool.not_false, Nat.add_zero, Nat.zero_add, Nat.reduceAdd]
          refine wpPi_do rfl (fun K hK => ?_)
          have hnew : w6.ownsRow w.heap.size 61 34 (.slice (some ⟨w4.heap.size, 0, none⟩) 1 1) 1 (entL (k, size)) := ⟨by simp [entL, entCells_size hkr], .inr ⟨w4.heap.size, 1, _, rfl, by omega, hB6, Nat.le_refl _, by unfold maxLen; omega, by rw [entCells_size hkr], by rw [List.take_of_length_le (by simp [entCells_size hkr])]; rfl⟩⟩
          refine wp_append _ _ 54 61 (.agg (entCells ((⟨#[]⟩, List.replicate 32 0), 0))) 34 56 (by rfl) Tryz.underlying54 entry_i (by kernel_rfl) (by omega) w.heap.size _ _ _ (by rfl) hnew _ (r.length - i) _ (by rfl) ((owns_src hown6).drop hple hlc) (fun c hc => ents_one r c (List.mem_of_mem_drop hc)) (by unfold maxLen; omega) (by omega) (by omega) (fun v7 w7 hrow7 hg7 hv7 => ?_)
          have hm7 : Mod (fun j => some w4.heap.size = some j) w6 w7 := (Mod.refl _ _).grown hg7 (fun j hj _ => hj)
          have hm7' : Mod NoB w4.drew w7 := hm6.trans hm7 (fun j hj e => by cases e; omega)
          replace hS := And.intro (hm7.cell (fun e => by cases e; omega) hS.1) (hS.2.keep hm7 (fun e => by have e2 := Option.some.inj e; omega))
          have hown7 := owns_keep hown6 hm7 (fun g e e2 => by cases e2; have := h0.out.lt _ (HG.out _ e).1; omega)
          have hbb7 := hm7.obj (fun e => by cases e; omega) hbb6
          have hsz7 := hm7.size
          refine hK _ _ hS ?_
          clear hK K
          try simp only [pl, pn, el, ec, sz, ss, gz, gs, if_true, if_false, Bool.false_eq_true, Bool.not_true, Bool.not_false, Nat.add_zero, Nat.zero_add, Nat.reduceAdd]
          refine wpPi_do rfl (fun K hK => ?_)
          have hto := owns_to hown7 hple
          refine wp_append _ _ 54 61 (.agg (entCells ((⟨#[]⟩, List.replicate 32 0), 0))) 34 56 (by rfl) Tryz.underlying54 entry_i (by kernel_rfl) (by omega) w0.heap.size _ _ _ (by rfl) hto.1 _ (1 + (r.length - i)) _ (by rfl) (owns_src hrow7) (fun c hc => by
            rcases List.mem_append.1 hc with hc | hc
            · exact entL_one _ c hc
            · exact ents_one r c (List.mem_of_mem_drop hc)) (by unfold maxLen; omega) (by omega) (by omega) (fun v8 w8 hrow8 hg8 hv8 => ?_)
          rw [hto.2] at hg8 hv8
          have hmo : Mod (fun k => (Value.slice ra r.length rc).ownBlock = some k) w7 w8 := (Mod.refl _ _).grown hg8 (fun k hk _ => hk)
          have hnb : (Value.slice ra r.length rc).ownBlock ≠ some b := fun e => (HG.out b e).2 rfl
          have hnx : (Value.slice ra r.length rc).ownBlock ≠ some w.heap.size := fun e => by have := h0.out.lt _ (HG.out _ e).1; omega
          have hb8 := hmo.obj hnb hbb7
          replace hS := And.intro (hmo.cell hnb hS.1) (hS.2.keep hmo hnx)
          refine hK _ _ hS ?_
          clear hK K
          try simp only [pl, pn, el, ec, sz, ss, gz, gs, if_true, if_false, Bool.false_eq_true, Bool.not_true, Bool.not_false, Nat.add_zero, Nat.zero_add, Nat.reduceAdd]
          refine wpPi_nilCheck _ _ rfl rfl rfl ?_
          simp only [pl, pn, el, ec, sz, ss, gz, gs, if_true, if_false, Bool.false_eq_true, Bool.not_true, Bool.not_false, Nat.add_zero, Nat.zero_add, Nat.reduceAdd]
          refine wpPi_field _ _ _ _ _ _ rfl rfl rfl fo_56_1 ?_
          simp only [pl, pn, el, ec, sz, ss, gz, gs, if_true, if_false, Bool.false_eq_true, Bool.not_true, Bool.not_false, Nat.add_zero, Nat.zero_add, Nat.reduceAdd]
          refine wpPi_last rfl (fun K hK => ?_)
          refine wp_store1 54 _ _ b 1 v8 (by rfl) (by rfl) (by rfl) (owns_one hrow8) (by kernel_rfl) _ _ hb8 (by simp) (fun w9 hB9 hm9 => ?_)
          refine hK _ _ ?_
          clear hK K
          try simp only [pl, pn, el, ec, sz, ss, gz, gs, if_true, if_false, Bool.false_eq_true, Bool.not_true, Bool.not_false, Nat.add_zero, Nat.zero_add, Nat.reduceAdd]
          refine wpPi_nil ?_
          have hM7 : Mod NoB w w7 := hM5.trans0 hm7'
          have hM8 : Mod (fun k => R k ∧ k ≠ b) w w8 := (hM7.mono (S' := fun k => R k ∧ k ≠ b) (fun _ _ h => h.elim)).trans hmo (fun k hk e => HG.out k e)
          have hflat : (r.flatMap entL).take (i * 34) ++ (entL (k, size) ++ (r.flatMap entL).drop (i * 34)) = (insL k size r).flatMap entL := by
            rw [flat_take HKY.out, flat_drop HKY.out, HIN.out, List.flatMap_append, List.flatMap_cons]
          have hlen : i + (1 + (r.length - i)) = (insL k size r).length := by rw [HIN.out]; simp; omega
          rw [hflat, hlen] at hrow8
          have hmem : ∀ p ∈ insL k size r, p = (k, size) ∨ p ∈ r := fun p hp => by
            have := (ins_perm k size r).mem_iff.1 hp
            rcases List.mem_append.1 this with h1 | h1
            · exact .inr h1
            · exact .inl (by simpa using h1)
          have HR2 : Hid (RAddR asked w0 w (.pointer (some ⟨b, 0, none⟩)) limit r R k size (.returned (.tuple #[.bool true, .int .i64 0])) w9) := by
            refine ⟨by rw [HE2.out], ?_⟩
            rw [HR.out, HE2.out, if_pos rfl]
            refine RfStep.mk h0.out hRb hrow8 (fun g e => ?_) hM8 (by simpa using hB9) hm9 (fun p hp => ?_) (by omega) (fun p hp => ?_)
            · have h1 := hrow8.lt g e
              rcases hv8 with hv | hv
              · exact ⟨.inl (HG.out g (hv ▸ e)).1, (HG.out g (hv ▸ e)).2⟩
              · rw [hv] at e; cases e; exact ⟨.inr ⟨hM7.size, h1.2⟩, by omega⟩
            · rcases hmem p hp with rfl | h1
              · exact hk
              · exact HKY.out p h1
            · rcases hmem p hp with rfl | h1
              · exact ⟨by omega, by omega⟩
              · exact HV.out p h1
          clear hM7 hM8 hflat hlen hrow8 hmem hm7' hm7 hmo hB9 hm9 hS hown5 hown6 hown7 hbb5 hbb6 hbb7 hb8 hg7 hg8 hv7 hv8 hto hnew hrow7 hB6 hm6 hM5 hsd hnb hnx hz hfull hbxlt hblt hcap hsz5 hsz6 hsz7 hs6 hkr hlc hple hrold hsz hub2 hfew
          go_wp2
          all_goals
            go_ret2
            exact HR2.out
end
end Go.Proofs.YtcfcahflkhgapaaGreat
