/- Mount; the links' functions by what they are said to hold. -/
import Derived.Test.YtcfcahflkhgapaaGreatQH
namespace Go.Proofs.YtcfcahflkhgapaaGreat
set_option linter.unusedSimpArgs false
set_option linter.unusedVariables false
set_option linter.unnecessarySimpa false
set_option linter.unusedSectionVars false
open Go.RowKit Go.Shelf

def mountE (limit : Int) (l : LinkL) (a b : ByteArray) (x : List UInt8) : Bool × Int :=
  if nameB a && nameB b then (match getL (a, x) l with | some n => addE true limit l (b, x) n | none => (false, 14)) else (false, 7)
def mountL (limit : Int) (l : LinkL) (a b : ByteArray) (x : List UInt8) : LinkL :=
  if nameB a && nameB b then (match getL (a, x) l with | some n => addL true limit l (b, x) n | none => l) else l

section
variable {w : World} {bl ml mu : Nat} {limit : Int} {hold : Value} {l : LinkL} {us : List (ByteArray × Nat)}
theorem LkInv.stayH {w' : World} (h : LkInv w bl ml mu limit hold l us) (hm : Mod NoB w w') : LkedH w bl ml mu limit us w' l := ⟨hold, h.stay hm⟩

set_option maxRecDepth 10000 in
set_option maxHeartbeats 4000000 in
theorem mount_any (h : LkInv w bl ml mu limit hold l us) (a b : ByteArray) (x : List UInt8) (hx : x.length = 32) (ha : a.size ≤ maxLen) (hb : b.size ≤ maxLen) :
    Calls Tryz.prog 10 #[.pointer (some ⟨bl, 0, none⟩), .string a, .string b, .agg (idCells x)] w (fun e w' => e = .returned (.tuple #[.bool (mountE limit l a b x).1, .int .i64 (mountE limit l a b x).2]) ∧ LkedH w bl ml mu limit us w' (mountL limit l a b x)) := by
  obtain ⟨R, hR⟩ : ∃ R, mountE limit l a b x = R := ⟨_, rfl⟩
  have HR := Lib.hid hR
  obtain ⟨l', hl'⟩ : ∃ l', mountL limit l a b x = l' := ⟨_, rfl⟩
  have HL := Lib.hid hl'
  rw [hR, hl']
  clear hR hl'
  obtain ⟨g, hg⟩ : ∃ g, getL (a, x) l = g := ⟨_, rfl⟩
  have HG := Lib.hid hg
  clear hg
  go_enter Tryz.func10, Tryz.ntmps10
  go_upto_region 0 with (fail)
  refine wp_region_seq [1, 3, 3] (fun _ => True) (by rfl) (by rfl) trivial ?_
  simp only [List.zip_cons_cons, List.zip_nil_right]
  refine wpPi_do rfl (fun K hK => ?_)
  refine wp_box 32 _ _ (by rfl) (by rfl) (fun w1 hB1 hm1 hs1 => ?_)
  replace hB1 : w1.heap[w.heap.size]? = some (.cells (idCells x) 32 (0, 0)) := hB1
  refine hK _ _ trivial ?_
  clear hK K
  try simp only [pl, pn, el, ec, sz, ss, gz, gs, if_true, if_false, Bool.false_eq_true, Bool.not_true, Bool.not_false, Nat.add_zero, Nat.zero_add, Nat.reduceAdd]
  refine wpPi_assign _ rfl rfl ?_
  simp only [pl, pn, el, ec, sz, ss, gz, gs, if_true, if_false, Bool.false_eq_true, Bool.not_true, Bool.not_false, Nat.add_zero, Nat.zero_add, Nat.reduceAdd]
  refine wpPi_assign _ rfl rfl ?_
  simp only [pl, pn, el, ec, sz, ss, gz, gs, if_true, if_false, Bool.false_eq_true, Bool.not_true, Bool.not_false, Nat.add_zero, Nat.zero_add, Nat.reduceAdd]
  refine wpPi_nil ?_
  have h1 := h.keep0 hm1
  go_upto_region 3 with (go_at_call 25; refine h1.made.mono ?_; rintro _ w2 ⟨rfl, hw⟩; obtain rfl := hw.symm)
  have hS : Mod NoB w1 w1.drew := (Mod.refl _ _).drew
  refine wp_region_pi [(0, 3), (1, 3), (2, 3), (3, 0), (4, 3), (5, 0), (6, 3), (7, 0), (8, 3), (9, 3), (10, 3), (11, 1), (12, 1), (13, 3)] [] (fun w' => Mod NoB w1 w') (by kernel_rfl) (by kernel_rfl) (by kernel_rfl) (by kernel_rfl) (fun _ _ _ _ hd h => ⟨hd.trans h.1, h.2⟩) hS ?_
  simp only [List.map_cons, List.map_nil, List.getD_cons_zero, List.getD_cons_succ]
  refine wpPi_move _ rfl rfl ?_
  simp only [pl, pn, el, ec, sz, ss, gz, gs, if_true, if_false, Bool.false_eq_true, Bool.not_true, Bool.not_false, Nat.add_zero, Nat.zero_add, Nat.reduceAdd]
  refine wpPi_nilCheck _ _ rfl rfl rfl ?_
  simp only [pl, pn, el, ec, sz, ss, gz, gs, if_true, if_false, Bool.false_eq_true, Bool.not_true, Bool.not_false, Nat.add_zero, Nat.zero_add, Nat.reduceAdd]
  refine wpPi_field _ _ _ _ _ _ rfl rfl rfl fo_53_1 ?_
  simp only [pl, pn, el, ec, sz, ss, gz, gs, if_true, if_false, Bool.false_eq_true, Bool.not_true, Bool.not_false, Nat.add_zero, Nat.zero_add, Nat.reduceAdd]
  refine wpPi_val rfl (fun w' hS => exec_load1 49 _ (by rfl) bl 1 (by rfl) _ (h1.keep0 hS).cell.2.1 _ Tryz.underlying49 rfl) ?_
  simp only [pl, pn, el, ec, sz, ss, gz, gs, if_true, if_false, Bool.false_eq_true, Bool.not_true, Bool.not_false, Nat.add_zero, Nat.zero_add, Nat.reduceAdd]
  refine wpPi_move _ rfl rfl ?_
  simp only [pl, pn, el, ec, sz, ss, gz, gs, if_true, if_false, Bool.false_eq_true, Bool.not_true, Bool.not_false, Nat.add_zero, Nat.zero_add, Nat.reduceAdd]
  refine wpPi_val rfl (fun w' hS => exec_loadA 32 _ (by rfl) w.heap.size 0 (by rfl) (idCells x) (CellsAt.whole (hS.obj id hB1)) _ Tryz.underlying32 rfl 32 (by kernel_rfl) (by rw [idCells_size]; exact hx)) ?_
  simp only [pl, pn, el, ec, sz, ss, gz, gs, if_true, if_false, Bool.false_eq_true, Bool.not_true, Bool.not_false, Nat.add_zero, Nat.zero_add, Nat.reduceAdd]
  refine wpPi_any (v := keyV (a, x)) rfl (fun w' => exec_build_key _ _ (a, x) hx rfl rfl rfl) ?_
  simp only [pl, pn, el, ec, sz, ss, gz, gs, if_true, if_false, Bool.false_eq_true, Bool.not_true, Bool.not_false, Nat.add_zero, Nat.zero_add, Nat.reduceAdd]
  refine wpPi_val rfl (fun w' hS => (h1.keep0 hS).lookK _ _ (a, x) hx (by rfl) (by rfl) (by rfl)) ?_
  simp only [pl, pn, el, ec, sz, ss, gz, gs, if_true, if_false, Bool.false_eq_true, Bool.not_true, Bool.not_false, Nat.add_zero, Nat.zero_add, Nat.reduceAdd]
  refine wpPi_move _ rfl rfl ?_
  simp only [pl, pn, el, ec, sz, ss, gz, gs, if_true, if_false, Bool.false_eq_true, Bool.not_true, Bool.not_false, Nat.add_zero, Nat.zero_add, Nat.reduceAdd]
  refine wpPi_any (v := ?_) rfl (fun w' => ?_) ?_; rotate_left; · (go_simp; try with_reducible rfl)
  simp only [pl, pn, el, ec, sz, ss, gz, gs, if_true, if_false, Bool.false_eq_true, Bool.not_true, Bool.not_false, Nat.add_zero, Nat.zero_add, Nat.reduceAdd]
  refine wpPi_any (v := ?_) rfl (fun w' => ?_) ?_; rotate_left; · (go_simp; try with_reducible rfl)
  simp only [pl, pn, el, ec, sz, ss, gz, gs, if_true, if_false, Bool.false_eq_true, Bool.not_true, Bool.not_false, Nat.add_zero, Nat.zero_add, Nat.reduceAdd]
  refine wpPi_do rfl (fun K hK => ?_)
  refine wp_alloc 64 (linkV 0) (by rfl) linkZ (fun w3 hB3 hm3 hs3 => ?_)
  replace hB3 : w3.heap[w1.heap.size]? = some (.cells #[.int .i64 0] 64 (0, 0)) := hB3
  replace hm3 := hS.trans0 hm3
  refine hK _ _ hm3 ?_
  clear hK K
  try simp only [pl, pn, el, ec, sz, ss, gz, gs, if_true, if_false, Bool.false_eq_true, Bool.not_true, Bool.not_false, Nat.add_zero, Nat.zero_add, Nat.reduceAdd]
  refine wpPi_do rfl (fun K hK => ?_)
  refine wp_storeA 64 _ _ w1.heap.size 0 #[.int .i64 ((getL (a, x) l).getD 0)] (by rfl) (by rfl) (by rfl) (by simp [Value.oneCell']) 1 (by kernel_rfl) rfl _ _ hB3 (by simp) (fun w4 hB4 hm4 => ?_)
  have hM4 : Mod NoB w1 w4 := hm3.transB hm4 (Nat.le_refl _)
  refine hK _ _ hM4 ?_
  clear hK K
  try simp only [pl, pn, el, ec, sz, ss, gz, gs, if_true, if_false, Bool.false_eq_true, Bool.not_true, Bool.not_false, Nat.add_zero, Nat.zero_add, Nat.reduceAdd]
  refine wpPi_assign _ rfl rfl ?_
  simp only [pl, pn, el, ec, sz, ss, gz, gs, if_true, if_false, Bool.false_eq_true, Bool.not_true, Bool.not_false, Nat.add_zero, Nat.zero_add, Nat.reduceAdd]
  refine wpPi_nil ?_
  replace hB4 : w4.heap[w1.heap.size]? = some (.cells #[.int .i64 ((getL (a, x) l).getD 0)] 64 (0, 0)) := hB4
  rw [HG.out] at hB4 ⊢
  have hM := hm1.trans0 hM4
  replace hB1 := hM4.obj id hB1
  clear hm3 hB3 hs3 hm4 hS h1 hm1 hM4
  obtain ⟨ta, hta⟩ : ∃ ta, nameB a = ta := ⟨_, rfl⟩
  obtain ⟨tb, htb⟩ : ∃ tb, nameB b = tb := ⟨_, rfl⟩
  have HA := Lib.hid hta
  have HB := Lib.hid htb
  clear hta htb
  go_upto_region 4 with (fail)
  cases ta
  case false =>
    refine wp_region_seq [3, 1, 3, 3, 3, 1, 3, 3, 3] (fun _ => True) (by rfl) (by rfl) trivial ?_
    simp only [List.zip_cons_cons, List.zip_nil_right]
    refine wpPi_move _ rfl rfl ?_
    simp only [pl, pn, el, ec, sz, ss, gz, gs, if_true, if_false, Bool.false_eq_true, Bool.not_true, Bool.not_false, Nat.add_zero, Nat.zero_add, Nat.reduceAdd]
    refine wpPi_do rfl (fun K hK => ?_)
    go_wp2_with (go_at_call 32; refine (named_any a _ ha).mono ?_; rintro _ w5 ⟨rfl, hm5⟩; rw [HA.out])
    refine hK _ _ trivial ?_
    clear hK K
    try simp only [pl, pn, el, ec, sz, ss, gz, gs, if_true, if_false, Bool.false_eq_true, Bool.not_true, Bool.not_false, Nat.add_zero, Nat.zero_add, Nat.reduceAdd]
    refine wpPi_not _ _ _ rfl rfl rfl ?_
    simp only [pl, pn, el, ec, sz, ss, gz, gs, if_true, if_false, Bool.false_eq_true, Bool.not_true, Bool.not_false, Nat.add_zero, Nat.zero_add, Nat.reduceAdd]
    refine wpPi_move _ rfl rfl ?_
    simp only [pl, pn, el, ec, sz, ss, gz, gs, if_true, if_false, Bool.false_eq_true, Bool.not_true, Bool.not_false, Nat.add_zero, Nat.zero_add, Nat.reduceAdd]
    refine wpPi_skip rfl ?_
    simp only [pl, pn, el, ec, sz, ss, gz, gs, if_true, if_false, Bool.false_eq_true, Bool.not_true, Bool.not_false, Nat.add_zero, Nat.zero_add, Nat.reduceAdd]
    refine wpPi_do_skip rfl trivial ?_
    simp only [pl, pn, el, ec, sz, ss, gz, gs, if_true, if_false, Bool.false_eq_true, Bool.not_true, Bool.not_false, Nat.add_zero, Nat.zero_add, Nat.reduceAdd]
    refine wpPi_skip rfl ?_
    simp only [pl, pn, el, ec, sz, ss, gz, gs, if_true, if_false, Bool.false_eq_true, Bool.not_true, Bool.not_false, Nat.add_zero, Nat.zero_add, Nat.reduceAdd]
    refine wpPi_pick _ _ _ _ rfl rfl rfl ?_
    simp only [pl, pn, el, ec, sz, ss, gz, gs, if_true, if_false, Bool.false_eq_true, Bool.not_true, Bool.not_false, Nat.add_zero, Nat.zero_add, Nat.reduceAdd]
    refine wpPi_assign _ rfl rfl ?_
    simp only [pl, pn, el, ec, sz, ss, gz, gs, if_true, if_false, Bool.false_eq_true, Bool.not_true, Bool.not_false, Nat.add_zero, Nat.zero_add, Nat.reduceAdd]
    refine wpPi_nil ?_
    go_wp2
    go_ret2
    have e1 : R = (false, 7) := by rw [← HR.out]; simp [mountE, HA.out]
    have e2 : l' = l := by rw [← HL.out]; simp [mountL, HA.out]
    rw [e1, e2]
    exact ⟨rfl, h.stayH (hM.trans0 hm5)⟩
  case true =>
    refine wp_region_seq [3, 1, 3, 3, 3, 1, 3, 3, 3] (fun _ => True) (by rfl) (by rfl) trivial ?_
    simp only [List.zip_cons_cons, List.zip_nil_right]
    refine wpPi_move _ rfl rfl ?_
    simp only [pl, pn, el, ec, sz, ss, gz, gs, if_true, if_false, Bool.false_eq_true, Bool.not_true, Bool.not_false, Nat.add_zero, Nat.zero_add, Nat.reduceAdd]
    refine wpPi_do rfl (fun K hK => ?_)
    go_wp2_with (go_at_call 32; refine (named_any a _ ha).mono ?_; rintro _ w5 ⟨rfl, hm5⟩; rw [HA.out])
    replace hM := hM.trans0 hm5
    replace hB1 := hm5.obj id hB1
    replace hB4 := hm5.obj id hB4
    refine hK _ _ trivial ?_
    clear hK K
    try simp only [pl, pn, el, ec, sz, ss, gz, gs, if_true, if_false, Bool.false_eq_true, Bool.not_true, Bool.not_false, Nat.add_zero, Nat.zero_add, Nat.reduceAdd]
    refine wpPi_not _ _ _ rfl rfl rfl ?_
    simp only [pl, pn, el, ec, sz, ss, gz, gs, if_true, if_false, Bool.false_eq_true, Bool.not_true, Bool.not_false, Nat.add_zero, Nat.zero_add, Nat.reduceAdd]
    refine wpPi_move _ rfl rfl ?_
    simp only [pl, pn, el, ec, sz, ss, gz, gs, if_true, if_false, Bool.false_eq_true, Bool.not_true, Bool.not_false, Nat.add_zero, Nat.zero_add, Nat.reduceAdd]
    refine wpPi_move _ rfl rfl ?_
    simp only [pl, pn, el, ec, sz, ss, gz, gs, if_true, if_false, Bool.false_eq_true, Bool.not_true, Bool.not_false, Nat.add_zero, Nat.zero_add, Nat.reduceAdd]
    refine wpPi_do rfl (fun K hK => ?_)
    go_wp2_with (go_at_call 32; refine (named_any b _ hb).mono ?_; rintro _ w6 ⟨rfl, hm6⟩; rw [HB.out])
    replace hM := hM.trans0 hm6
    replace hB1 := hm6.obj id hB1
    replace hB4 := hm6.obj id hB4
    refine hK _ _ trivial ?_
    clear hK K
    try simp only [pl, pn, el, ec, sz, ss, gz, gs, if_true, if_false, Bool.false_eq_true, Bool.not_true, Bool.not_false, Nat.add_zero, Nat.zero_add, Nat.reduceAdd]
    refine wpPi_not _ _ _ rfl rfl rfl ?_
    simp only [pl, pn, el, ec, sz, ss, gz, gs, if_true, if_false, Bool.false_eq_true, Bool.not_true, Bool.not_false, Nat.add_zero, Nat.zero_add, Nat.reduceAdd]
    refine wpPi_pick _ _ _ _ rfl rfl rfl ?_
    simp only [pl, pn, el, ec, sz, ss, gz, gs, if_true, if_false, Bool.false_eq_true, Bool.not_true, Bool.not_false, Nat.add_zero, Nat.zero_add, Nat.reduceAdd]
    refine wpPi_assign _ rfl rfl ?_
    simp only [pl, pn, el, ec, sz, ss, gz, gs, if_true, if_false, Bool.false_eq_true, Bool.not_true, Bool.not_false, Nat.add_zero, Nat.zero_add, Nat.reduceAdd]
    refine wpPi_nil ?_
    cases tb
    · go_wp2
      go_ret2
      have e1 : R = (false, 7) := by rw [← HR.out]; simp [mountE, HB.out]
      have e2 : l' = l := by rw [← HL.out]; simp [mountL, HB.out]
      rw [e1, e2]
      exact ⟨rfl, h.stayH hM⟩
    cases g with
    | none =>
      go_wp2
      go_ret2
      have e1 : R = (false, 14) := by rw [← HR.out]; simp [mountE, HA.out, HB.out, HG.out]
      have e2 : l' = l := by rw [← HL.out]; simp [mountL, HA.out, HB.out, HG.out]
      rw [e1, e2]
      exact ⟨rfl, h.stayH hM⟩
    | some n =>
      replace hB4 : w6.heap[w1.heap.size]? = some (.cells #[.int .i64 n] 64 (0, 0)) := hB4
      have h6 := h.keep0 hM
      have hca : CellsAt w6 w.heap.size 0 (idCells x) := CellsAt.whole hB1
      have hcl : w6.cell? ⟨w1.heap.size, 0, none⟩ = some (.int .i64 n) := by simp [World.cell?, hB4]
      go_upto_region 8 with (fail)
      refine wp_region_seq [3, 3, 1, 3, 1, 1, 3, 3, 3, 3] (fun _ => True) (by rfl) (by rfl) trivial ?_
      simp only [List.zip_cons_cons, List.zip_nil_right]
      refine wpPi_move _ rfl rfl ?_
      simp only [pl, pn, el, ec, sz, ss, gz, gs, if_true, if_false, Bool.false_eq_true, Bool.not_true, Bool.not_false, Nat.add_zero, Nat.zero_add, Nat.reduceAdd]
      refine wpPi_move _ rfl rfl ?_
      simp only [pl, pn, el, ec, sz, ss, gz, gs, if_true, if_false, Bool.false_eq_true, Bool.not_true, Bool.not_false, Nat.add_zero, Nat.zero_add, Nat.reduceAdd]
      refine wpPi_do rfl (fun K hK => ?_)
      refine wp_exec (exec_loadA 32 _ (by rfl) w.heap.size 0 (by rfl) (idCells x) hca _ Tryz.underlying32 rfl 32 (by kernel_rfl) (by rw [idCells_size]; exact hx)) ?_
      refine hK _ _ trivial ?_
      clear hK K
      try simp only [pl, pn, el, ec, sz, ss, gz, gs, if_true, if_false, Bool.false_eq_true, Bool.not_true, Bool.not_false, Nat.add_zero, Nat.zero_add, Nat.reduceAdd]
      refine wpPi_field _ _ _ _ _ _ rfl rfl rfl fo_64_0 ?_
      simp only [pl, pn, el, ec, sz, ss, gz, gs, if_true, if_false, Bool.false_eq_true, Bool.not_true, Bool.not_false, Nat.add_zero, Nat.zero_add, Nat.reduceAdd]
      refine wpPi_do rfl (fun K hK => ?_)
      refine wp_exec (exec_load1 3 _ (by rfl) w1.heap.size 0 (by rfl) _ hcl _ Tryz.underlying3 rfl) ?_
      refine hK _ _ trivial ?_
      clear hK K
      try simp only [pl, pn, el, ec, sz, ss, gz, gs, if_true, if_false, Bool.false_eq_true, Bool.not_true, Bool.not_false, Nat.add_zero, Nat.zero_add, Nat.reduceAdd]
      refine wpPi_do rfl (fun K hK => ?_)
      go_wp2_with (go_at_call 7; refine (link_any h6 (b, x) hx hb n).mono ?_; rintro _ w7 ⟨rfl, hold', hL⟩)
      refine hK _ _ trivial ?_
      clear hK K
      try simp only [pl, pn, el, ec, sz, ss, gz, gs, if_true, if_false, Bool.false_eq_true, Bool.not_true, Bool.not_false, Nat.add_zero, Nat.zero_add, Nat.reduceAdd]
      refine wpPi_any (v := ?_) rfl (fun w' => ?_) ?_; rotate_left; · (go_simp; try with_reducible rfl)
      simp only [pl, pn, el, ec, sz, ss, gz, gs, if_true, if_false, Bool.false_eq_true, Bool.not_true, Bool.not_false, Nat.add_zero, Nat.zero_add, Nat.reduceAdd]
      refine wpPi_any (v := ?_) rfl (fun w' => ?_) ?_; rotate_left; · (go_simp; try with_reducible rfl)
      simp only [pl, pn, el, ec, sz, ss, gz, gs, if_true, if_false, Bool.false_eq_true, Bool.not_true, Bool.not_false, Nat.add_zero, Nat.zero_add, Nat.reduceAdd]
      refine wpPi_assign _ rfl rfl ?_
      simp only [pl, pn, el, ec, sz, ss, gz, gs, if_true, if_false, Bool.false_eq_true, Bool.not_true, Bool.not_false, Nat.add_zero, Nat.zero_add, Nat.reduceAdd]
      refine wpPi_assign _ rfl rfl ?_
      simp only [pl, pn, el, ec, sz, ss, gz, gs, if_true, if_false, Bool.false_eq_true, Bool.not_true, Bool.not_false, Nat.add_zero, Nat.zero_add, Nat.reduceAdd]
      refine wpPi_nil ?_
      go_wp2
      go_ret2
      have e1 : R = addE true limit l (b, x) n := by rw [← HR.out]; simp [mountE, HA.out, HB.out, HG.out]
      have e2 : l' = addL true limit l (b, x) n := by rw [← HL.out]; simp [mountL, HA.out, HB.out, HG.out]
      rw [e1, e2]
      exact ⟨rfl, hold', hL.after hM⟩
end

section
variable {w0 w : World} {p : Value} {limit : Int} {l : LinkL} {F : Nat → Prop}
theorem mount_at (h : LkAt w0 w p limit l F) (a b : ByteArray) (x : List UInt8) (hx : x.length = 32) (ha : a.size ≤ maxLen) (hb : b.size ≤ maxLen) :
    Calls Tryz.prog 10 #[p, .string a, .string b, .agg (idCells x)] w (fun e w' => e = .returned (.tuple #[.bool (mountE limit l a b x).1, .int .i64 (mountE limit l a b x).2]) ∧ LStep w0 w p limit F w' (mountL limit l a b x)) := by
  obtain ⟨_, ⟨bl, ml, mu, hold, us, rfl, hi, hF⟩, _, _⟩ := id h
  refine (mount_any hi a b x hx ha hb).mono ?_
  rintro e w' ⟨he, hold', hL⟩
  exact ⟨he, LStep.mk h hF hL⟩
theorem unlink_at (h : LkAt w0 w p limit l F) (k : Key) (hk : KeyOk k) :
    Calls Tryz.prog 12 #[p, .string k.1, .agg (idCells k.2)] w (fun e w' => e = .returned (.bool (getL k l).isSome) ∧ LStep w0 w p limit F w' (unL l k)) := by
  obtain ⟨_, ⟨bl, ml, mu, hold, us, rfl, hi, hF⟩, _, _⟩ := id h
  refine (unlink_any hi k hk).mono ?_
  rintro e w' ⟨he, hL⟩
  exact ⟨he, LStep.mk h hF hL⟩
end
end Go.Proofs.YtcfcahflkhgapaaGreat
