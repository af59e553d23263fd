/- The net's functions: Cut, Heal. -/
import Derived.Test.YtdllpakdhnanbaaNetH
namespace Go.Proofs.Ytdllpakdhnanbaa
set_option linter.unusedSimpArgs false
set_option linter.unusedVariables false
set_option linter.unnecessarySimpa false
open Go.RowKit

def cutP (cut : Int × Int → Bool) (p : Int × Int) : Int × Int → Bool := fun q => decide (q = p) || cut q
def healP (cut : Int × Int → Bool) (p : Int × Int) : Int × Int → Bool := fun q => !decide (q = p) && cut q

/-- What Cut and Heal do. -/
def TurnR (w : World) (bx mb : Nat) (n lost : Int) (cut cut' : Int × Int → Bool) (its : List It) (two : Bool) (e : Ending) (w' : World) : Prop :=
  (two = true ∧ e = .returned (.int .i64 0) ∧ NetInv w' bx mb n lost cut' its ∧ Mod (fun k => k = mb) w w') ∨
  (two = false ∧ e = .returned (.int .i64 2) ∧ NetInv w' bx mb n lost cut its ∧ Mod NoB w w')

section
variable {w : World} {bx mb : Nat} {n lost : Int} {cut : Int × Int → Bool} {its : List It}

theorem TurnR.out {w1 w2 : World} {cut' : Int × Int → Bool} {two : Bool} {e : Ending} (h : TurnR w1 bx mb n lost cut cut' its two e w2) :
    ∃ r, e = .returned r ∧ ∀ w, Mod NoB w w1 → TurnR w bx mb n lost cut cut' its two (.returned r) w2 := by
  rcases h with ⟨h1, rfl, h3, h4⟩ | ⟨h1, rfl, h3, h4⟩
  · exact ⟨_, rfl, fun w hM => .inl ⟨h1, rfl, h3, (hM.mono (S' := fun k => k = mb) (fun _ _ h => False.elim h)).trans h4 (fun _ _ h => h)⟩⟩
  · exact ⟨_, rfl, fun w hM => .inr ⟨h1, rfl, h3, hM.trans0 h4⟩⟩

theorem NetInv.turn {w' : World} {cut' : Int × Int → Bool} {ps : List (Int × Int)} (h : NetInv w bx mb n lost cut its) (hps : MapW w' mb ps) (hq : ∀ q, q ∈ ps ↔ cut' q = true) (hm : Mod (fun k => k = mb) w w') : NetInv w' bx mb n lost cut' its := by
  obtain ⟨h1, h2⟩ := h.lets_keep hm (fun k e => .inr (.inl e))
  refine ⟨h.net.keep hm (fun e => h.mb_ne.1 e.symm) (fun x hx e => ?_), ⟨ps, hps, hq⟩, h1, h2, h.apart, h.pw, h.few, h.hn⟩
  obtain ⟨y, hy, rfl⟩ := List.mem_map.1 hx
  exact h.mb_ne.2 y hy e.symm

set_option maxRecDepth 10000 in
set_option maxHeartbeats 800000 in
theorem cut53 (h : NetInv w bx mb n lost cut its) (B1 : Nat) (hB1 : w.heap[B1]? = some (.cells #[.pointer (some ⟨bx, 0, none⟩)] 23 (0, 0))) (p q : Int) :
    Calls Try.prog 53 #[wayV (p, q), .pointer (some ⟨B1, 0, none⟩)] w fun e w' => ∃ r, e = .returned r ∧ NetInv w' bx mb n lost (cutP cut (p, q)) its ∧ Mod (fun k => k = mb) w w' := by
  have hc := h.cell
  have hlt := h.lt
  go_enter Try.func53, Try.ntmps53
  go_upto_region 0 with (fail)
  refine wp_region_seq [1] (fun _ => True) (by rfl) (by rfl) trivial ?_
  simp only [List.zip_cons_cons, List.zip_nil_right]
  refine wpPi_do rfl (fun K hK => ?_)
  refine wp_box 84 _ _ (by rfl) (by rfl) (fun w1 hB2 hM hs1 => ?_)
  replace hB2 : w1.heap[w.heap.size]? = some (.cells #[.int .i64 p, .int .i64 q] 84 (0, 0)) := hB2
  replace hB1 := hM.obj id hB1
  refine hK _ _ trivial ?_
  clear hK K
  try simp only [pl, pn, el, ec, sz, ss, gz, gs, if_true, if_false, Bool.false_eq_true, Bool.not_true, Bool.not_false, Nat.add_zero, Nat.zero_add, Nat.reduceAdd]
  refine wpPi_nil ?_
  have h1 := h.keep0 hM
  obtain ⟨ps, hps, hq⟩ := h1.map
  have hB1c : w1.cell? ⟨B1, 0, none⟩ = some (.pointer (some ⟨bx, 0, none⟩)) := by rw [cell_of_row _ _ _ _ _ _ hB1]; rfl
  go_upto_region 1 with (fail)
  have hlm := h.lt_mb
  have hne3 : w.heap.size ≠ mb := by omega
  have hne2 : bx ≠ mb := fun e => h.mb_ne.1 e.symm
  have hne1 : B1 ≠ mb := fun e => by
    obtain ⟨ps, ⟨⟨es, clk, hb, _⟩, _⟩, _⟩ := h1.map
    rw [e, hb] at hB1; cases hB1
  have hS0 : Mod NoB w1 w1.drew := (Mod.refl _ _).drew
  have hS : Mod (NoB) w1 w1.drew := (Mod.refl _ _).drew
  refine wp_region_pi [(0, 0), (1, 3), (2, 3), (3, 0), (4, 0), (5, 1), (6, 2)] [6] (fun w' => Mod (NoB) w1 w') (by kernel_rfl) (by kernel_rfl) (by kernel_rfl) (by kernel_rfl) (fun _ _ _ _ hd h => ⟨hd.trans h.1, h.2⟩) hS ?_
  simp only [List.map_cons, List.map_nil, List.getD_cons_zero, List.getD_cons_succ]
  refine wpPi_val rfl (fun w' hS => exec_load1 _ _ rfl _ _ rfl _ (hS.cell id hB1c) _ Try.underlying23 rfl) ?_
  simp only [pl, pn, el, ec, sz, ss, gz, gs, if_true, if_false, Bool.false_eq_true, Bool.not_true, Bool.not_false, Nat.add_zero, Nat.zero_add, Nat.reduceAdd]
  refine wpPi_nilCheck _ _ rfl rfl rfl ?_
  simp only [pl, pn, el, ec, sz, ss, gz, gs, if_true, if_false, Bool.false_eq_true, Bool.not_true, Bool.not_false, Nat.add_zero, Nat.zero_add, Nat.reduceAdd]
  refine wpPi_field _ _ _ _ _ _ rfl rfl rfl fo_72_3 ?_
  simp only [pl, pn, el, ec, sz, ss, gz, gs, if_true, if_false, Bool.false_eq_true, Bool.not_true, Bool.not_false, Nat.add_zero, Nat.zero_add, Nat.reduceAdd]
  refine wpPi_val rfl (fun w' hS => exec_load1 _ _ rfl _ _ rfl _ (hS.cell id h1.cell.2.2.2) _ Try.underlying70 rfl) ?_
  simp only [pl, pn, el, ec, sz, ss, gz, gs, if_true, if_false, Bool.false_eq_true, Bool.not_true, Bool.not_false, Nat.add_zero, Nat.zero_add, Nat.reduceAdd]
  refine wpPi_val rfl (fun w' hS => exec_loadA _ _ rfl _ _ rfl _ ((CellsAt.whole hB2).keep hS id) _ Try.underlying84 rfl 2 (by kernel_rfl) rfl) ?_
  simp only [pl, pn, el, ec, sz, ss, gz, gs, if_true, if_false, Bool.false_eq_true, Bool.not_true, Bool.not_false, Nat.add_zero, Nat.zero_add, Nat.reduceAdd]
  refine wpPi_do rfl (fun K hK => ?_)
  go_wp2
  refine hK _ _ hS ?_
  clear hK K
  try simp only [pl, pn, el, ec, sz, ss, gz, gs, if_true, if_false, Bool.false_eq_true, Bool.not_true, Bool.not_false, Nat.add_zero, Nat.zero_add, Nat.reduceAdd]
  refine wpPi_last rfl (fun K hK => ?_)
  have h1' := h1.keep0 hS
  refine wp_mapUpdate _ _ _ mb (p, q) ps (by rfl) (by rfl) (by rfl) (by rfl) (hps.keep hS id) (fun w2 ps' hps' hq' hm2 => ?_)
  have h2 : NetInv w2 bx mb n lost (cutP cut (p, q)) its := h1'.turn hps' (fun x => by rw [hq' x, hq x]; simp [cutP]) hm2
  have hM2 : Mod (fun k => k = mb) w w2 := ((hM.trans0 hS).mono (S' := fun k => k = mb) (fun _ _ h => False.elim h)).trans hm2 (fun _ _ h => h)
  refine hK _ _ ?_
  clear hK K
  try simp only [pl, pn, el, ec, sz, ss, gz, gs, if_true, if_false, Bool.false_eq_true, Bool.not_true, Bool.not_false, Nat.add_zero, Nat.zero_add, Nat.reduceAdd]
  refine wpPi_nil ?_
  try go_wp2
  go_end0
  exact ⟨_, rfl, h2, hM2⟩

set_option maxRecDepth 10000 in
set_option maxHeartbeats 800000 in
theorem turn_53 (h : NetInv w bx mb n lost cut its) (B1 : Nat) (hB1 : w.heap[B1]? = some (.cells #[.pointer (some ⟨bx, 0, none⟩)] 23 (0, 0))) (p q : Int) :
    Calls Try.prog 52 #[.pointer (some ⟨bx, 0, none⟩), .int .i64 p, .int .i64 q, .func (.func 53) #[] #[.pointer (some ⟨B1, 0, none⟩)]] w (TurnR w bx mb n lost cut (cutP cut (p, q)) its (twoB n p q)) := by
  have hc := h.cell
  have hn := h.hn0
  have ht : ∃ t, t = twoB n p q := ⟨_, rfl⟩
  obtain ⟨t, ht⟩ := ht
  rw [← ht]
  have HT := Lib.hid ht; clear ht
  go_enter Try.func52, Try.ntmps52
  go_upto_region 3 with (go_at_call 40; refine (none_eq bx n w hc.1).mono ?_; rintro _ w1 ⟨rfl, hw1⟩; obtain rfl := hw1.symm; simp only [hn])
  cases t
  · go_wp2_with (go_at_call 41; refine (two_eq bx n p q w hc.1).mono ?_; rintro _ w3 ⟨rfl, hw3⟩; obtain rfl := hw3.symm; rw [← HT.out])
    try go_wp2
    go_ret
    exact .inr ⟨rfl, rfl, h, Mod.refl _ _⟩
  · go_upto_region 5 with (go_at_call 41; refine (two_eq bx n p q w hc.1).mono ?_; rintro _ w3 ⟨rfl, hw3⟩; obtain rfl := hw3.symm; rw [← HT.out])
    refine wp_region_seq [3, 3, 3, 1, 1] (fun _ => True) (by rfl) (by rfl) trivial ?_
    simp only [List.zip_cons_cons, List.zip_nil_right]
    refine wpPi_move _ rfl rfl ?_
    simp only [pl, pn, el, ec, sz, ss, gz, gs, if_true, if_false, Bool.false_eq_true, Bool.not_true, Bool.not_false, Nat.add_zero, Nat.zero_add, Nat.reduceAdd]
    refine wpPi_move _ rfl rfl ?_
    simp only [pl, pn, el, ec, sz, ss, gz, gs, if_true, if_false, Bool.false_eq_true, Bool.not_true, Bool.not_false, Nat.add_zero, Nat.zero_add, Nat.reduceAdd]
    refine wpPi_move _ rfl rfl ?_
    simp only [pl, pn, el, ec, sz, ss, gz, gs, if_true, if_false, Bool.false_eq_true, Bool.not_true, Bool.not_false, Nat.add_zero, Nat.zero_add, Nat.reduceAdd]
    refine wpPi_do rfl (fun K hK => ?_)
    refine wp_exec (exec_build_way _ _ p q (by rfl) (by rfl) (by rfl)) ?_
    refine hK _ _ trivial ?_
    clear hK K
    try simp only [pl, pn, el, ec, sz, ss, gz, gs, if_true, if_false, Bool.false_eq_true, Bool.not_true, Bool.not_false, Nat.add_zero, Nat.zero_add, Nat.reduceAdd]
    refine wpPi_do rfl (fun K hK => ?_)
    go_wp2_with (go_at_call 53; refine (cut53 h B1 hB1 p q).mono ?_; rintro _ w1 ⟨r, rfl, h1, hm1⟩)
    refine hK _ _ trivial ?_
    clear hK K
    try simp only [pl, pn, el, ec, sz, ss, gz, gs, if_true, if_false, Bool.false_eq_true, Bool.not_true, Bool.not_false, Nat.add_zero, Nat.zero_add, Nat.reduceAdd]
    refine wpPi_nil ?_
    go_wp2
    go_ret
    exact .inl ⟨rfl, rfl, h1, hm1⟩

set_option maxRecDepth 10000 in
set_option maxHeartbeats 800000 in
theorem cut_any (h : NetInv w bx mb n lost cut its) (p q : Int) :
    Calls Try.prog 25 #[.pointer (some ⟨bx, 0, none⟩), .int .i64 p, .int .i64 q] w (TurnR w bx mb n lost cut (cutP cut (p, q)) its (twoB n p q)) := by
  go_enter Try.func25, Try.ntmps25
  go_upto_region 0 with (fail)
  refine wp_region_seq [1, 3] (fun _ => True) (by rfl) (by rfl) trivial ?_
  simp only [List.zip_cons_cons, List.zip_nil_right]
  refine wpPi_do rfl (fun K hK => ?_)
  refine wp_box 23 _ _ (by rfl) (by rfl) (fun w1 hB1 hM hs1 => ?_)
  replace hB1 : w1.heap[w.heap.size]? = some (.cells #[.pointer (some ⟨bx, 0, none⟩)] 23 (0, 0)) := hB1
  refine hK _ _ trivial ?_
  clear hK K
  try simp only [pl, pn, el, ec, sz, ss, gz, gs, if_true, if_false, Bool.false_eq_true, Bool.not_true, Bool.not_false, Nat.add_zero, Nat.zero_add, Nat.reduceAdd]
  refine wpPi_assign _ rfl rfl ?_
  simp only [pl, pn, el, ec, sz, ss, gz, gs, if_true, if_false, Bool.false_eq_true, Bool.not_true, Bool.not_false, Nat.add_zero, Nat.zero_add, Nat.reduceAdd]
  refine wpPi_nil ?_
  have h1 := h.keep0 hM
  have hB1c : w1.cell? ⟨w.heap.size, 0, none⟩ = some (.pointer (some ⟨bx, 0, none⟩)) := by rw [cell_of_row _ _ _ _ _ _ hB1]; rfl
  go_upto_region 1 with (fail)
  refine wp_region_seq [1, 3, 3, 1, 1, 3] (fun _ => True) (by rfl) (by rfl) trivial ?_
  simp only [List.zip_cons_cons, List.zip_nil_right]
  refine wpPi_do rfl (fun K hK => ?_)
  refine wp_exec (exec_load1 23 _ (by rfl) w.heap.size 0 (by rfl) _ hB1c _ Try.underlying23 rfl) ?_
  refine hK _ _ trivial ?_
  clear hK K
  try simp only [pl, pn, el, ec, sz, ss, gz, gs, if_true, if_false, Bool.false_eq_true, Bool.not_true, Bool.not_false, Nat.add_zero, Nat.zero_add, Nat.reduceAdd]
  refine wpPi_move _ rfl rfl ?_
  simp only [pl, pn, el, ec, sz, ss, gz, gs, if_true, if_false, Bool.false_eq_true, Bool.not_true, Bool.not_false, Nat.add_zero, Nat.zero_add, Nat.reduceAdd]
  refine wpPi_move _ rfl rfl ?_
  simp only [pl, pn, el, ec, sz, ss, gz, gs, if_true, if_false, Bool.false_eq_true, Bool.not_true, Bool.not_false, Nat.add_zero, Nat.zero_add, Nat.reduceAdd]
  refine wpPi_do rfl (fun K hK => ?_)
  go_wp2
  refine hK _ _ trivial ?_
  clear hK K
  try simp only [pl, pn, el, ec, sz, ss, gz, gs, if_true, if_false, Bool.false_eq_true, Bool.not_true, Bool.not_false, Nat.add_zero, Nat.zero_add, Nat.reduceAdd]
  refine wpPi_do rfl (fun K hK => ?_)
  go_wp2_with (go_at_call 52; refine (turn_53 h1 _ hB1 p q).mono ?_; rintro _ w2 hr0; obtain ⟨r, rfl, hr⟩ := hr0.out; clear hr0)
  refine hK _ _ trivial ?_
  clear hK K
  try simp only [pl, pn, el, ec, sz, ss, gz, gs, if_true, if_false, Bool.false_eq_true, Bool.not_true, Bool.not_false, Nat.add_zero, Nat.zero_add, Nat.reduceAdd]
  refine wpPi_assign _ rfl rfl ?_
  simp only [pl, pn, el, ec, sz, ss, gz, gs, if_true, if_false, Bool.false_eq_true, Bool.not_true, Bool.not_false, Nat.add_zero, Nat.zero_add, Nat.reduceAdd]
  refine wpPi_nil ?_
  go_wp2
  go_ret
  exact hr w hM

set_option maxRecDepth 10000 in
set_option maxHeartbeats 800000 in
theorem heal54 (h : NetInv w bx mb n lost cut its) (B1 : Nat) (hB1 : w.heap[B1]? = some (.cells #[.pointer (some ⟨bx, 0, none⟩)] 23 (0, 0))) (p q : Int) :
    Calls Try.prog 54 #[wayV (p, q), .pointer (some ⟨B1, 0, none⟩)] w fun e w' => ∃ r, e = .returned r ∧ NetInv w' bx mb n lost (healP cut (p, q)) its ∧ Mod (fun k => k = mb) w w' := by
  have hc := h.cell
  have hlt := h.lt
  go_enter Try.func54, Try.ntmps54
  go_upto_region 0 with (fail)
  refine wp_region_seq [1] (fun _ => True) (by rfl) (by rfl) trivial ?_
  simp only [List.zip_cons_cons, List.zip_nil_right]
  refine wpPi_do rfl (fun K hK => ?_)
  refine wp_box 84 _ _ (by rfl) (by rfl) (fun w1 hB2 hM hs1 => ?_)
  replace hB2 : w1.heap[w.heap.size]? = some (.cells #[.int .i64 p, .int .i64 q] 84 (0, 0)) := hB2
  replace hB1 := hM.obj id hB1
  refine hK _ _ trivial ?_
  clear hK K
  try simp only [pl, pn, el, ec, sz, ss, gz, gs, if_true, if_false, Bool.false_eq_true, Bool.not_true, Bool.not_false, Nat.add_zero, Nat.zero_add, Nat.reduceAdd]
  refine wpPi_nil ?_
  have h1 := h.keep0 hM
  obtain ⟨ps, hps, hq⟩ := h1.map
  have hB1c : w1.cell? ⟨B1, 0, none⟩ = some (.pointer (some ⟨bx, 0, none⟩)) := by rw [cell_of_row _ _ _ _ _ _ hB1]; rfl
  go_upto_region 1 with (fail)
  have hlm := h.lt_mb
  have hne3 : w.heap.size ≠ mb := by omega
  have hne2 : bx ≠ mb := fun e => h.mb_ne.1 e.symm
  have hne1 : B1 ≠ mb := fun e => by
    obtain ⟨ps, ⟨⟨es, clk, hb, _⟩, _⟩, _⟩ := h1.map
    rw [e, hb] at hB1; cases hB1
  have hS0 : Mod NoB w1 w1.drew := (Mod.refl _ _).drew
  have hS : Mod (fun k => k = mb) w1 w1.drew := (Mod.refl _ _).drew
  refine wp_region_pi [(0, 0), (1, 3), (2, 3), (3, 0), (4, 0), (5, 1)] [] (fun w' => Mod (fun k => k = mb) w1 w') (by kernel_rfl) (by kernel_rfl) (by kernel_rfl) (by kernel_rfl) (fun _ _ _ _ hd h => ⟨hd.trans h.1, h.2⟩) hS ?_
  simp only [List.map_cons, List.map_nil, List.getD_cons_zero, List.getD_cons_succ]
  refine wpPi_val rfl (fun w' hS => exec_load1 _ _ rfl _ _ rfl _ (hS.cell hne1 hB1c) _ Try.underlying23 rfl) ?_
  simp only [pl, pn, el, ec, sz, ss, gz, gs, if_true, if_false, Bool.false_eq_true, Bool.not_true, Bool.not_false, Nat.add_zero, Nat.zero_add, Nat.reduceAdd]
  refine wpPi_nilCheck _ _ rfl rfl rfl ?_
  simp only [pl, pn, el, ec, sz, ss, gz, gs, if_true, if_false, Bool.false_eq_true, Bool.not_true, Bool.not_false, Nat.add_zero, Nat.zero_add, Nat.reduceAdd]
  refine wpPi_field _ _ _ _ _ _ rfl rfl rfl fo_72_3 ?_
  simp only [pl, pn, el, ec, sz, ss, gz, gs, if_true, if_false, Bool.false_eq_true, Bool.not_true, Bool.not_false, Nat.add_zero, Nat.zero_add, Nat.reduceAdd]
  refine wpPi_val rfl (fun w' hS => exec_load1 _ _ rfl _ _ rfl _ (hS.cell hne2 h1.cell.2.2.2) _ Try.underlying70 rfl) ?_
  simp only [pl, pn, el, ec, sz, ss, gz, gs, if_true, if_false, Bool.false_eq_true, Bool.not_true, Bool.not_false, Nat.add_zero, Nat.zero_add, Nat.reduceAdd]
  refine wpPi_val rfl (fun w' hS => exec_loadA _ _ rfl _ _ rfl _ ((CellsAt.whole hB2).keep hS hne3) _ Try.underlying84 rfl 2 (by kernel_rfl) rfl) ?_
  simp only [pl, pn, el, ec, sz, ss, gz, gs, if_true, if_false, Bool.false_eq_true, Bool.not_true, Bool.not_false, Nat.add_zero, Nat.zero_add, Nat.reduceAdd]
  refine wpPi_do rfl (fun K hK => ?_)
  have h1' := h1.keep0 hS0
  refine wp_delete _ _ mb (p, q) ps (by rfl) (by rfl) (by rfl) (hps.keep hS0 id) (fun w2 ps' hps' hq' hm2 => ?_)
  have h2 : NetInv w2 bx mb n lost (healP cut (p, q)) its := h1'.turn hps' (fun x => by rw [hq' x, hq x]; simp [healP]) hm2
  have hM2 : Mod (fun k => k = mb) w w2 := ((hM.trans0 hS0).mono (S' := fun k => k = mb) (fun _ _ h => False.elim h)).trans hm2 (fun _ _ h => h)
  refine hK _ _ (hS.trans hm2 (fun _ _ h => h)) ?_
  clear hK K
  try simp only [pl, pn, el, ec, sz, ss, gz, gs, if_true, if_false, Bool.false_eq_true, Bool.not_true, Bool.not_false, Nat.add_zero, Nat.zero_add, Nat.reduceAdd]
  refine wpPi_nil ?_
  try go_wp2
  go_end0
  exact ⟨_, rfl, h2, hM2⟩

set_option maxRecDepth 10000 in
set_option maxHeartbeats 800000 in
theorem turn_54 (h : NetInv w bx mb n lost cut its) (B1 : Nat) (hB1 : w.heap[B1]? = some (.cells #[.pointer (some ⟨bx, 0, none⟩)] 23 (0, 0))) (p q : Int) :
    Calls Try.prog 52 #[.pointer (some ⟨bx, 0, none⟩), .int .i64 p, .int .i64 q, .func (.func 54) #[] #[.pointer (some ⟨B1, 0, none⟩)]] w (TurnR w bx mb n lost cut (healP cut (p, q)) its (twoB n p q)) := by
  have hc := h.cell
  have hn := h.hn0
  have ht : ∃ t, t = twoB n p q := ⟨_, rfl⟩
  obtain ⟨t, ht⟩ := ht
  rw [← ht]
  have HT := Lib.hid ht; clear ht
  go_enter Try.func52, Try.ntmps52
  go_upto_region 3 with (go_at_call 40; refine (none_eq bx n w hc.1).mono ?_; rintro _ w1 ⟨rfl, hw1⟩; obtain rfl := hw1.symm; simp only [hn])
  cases t
  · go_wp2_with (go_at_call 41; refine (two_eq bx n p q w hc.1).mono ?_; rintro _ w3 ⟨rfl, hw3⟩; obtain rfl := hw3.symm; rw [← HT.out])
    try go_wp2
    go_ret
    exact .inr ⟨rfl, rfl, h, Mod.refl _ _⟩
  · go_upto_region 5 with (go_at_call 41; refine (two_eq bx n p q w hc.1).mono ?_; rintro _ w3 ⟨rfl, hw3⟩; obtain rfl := hw3.symm; rw [← HT.out])
    refine wp_region_seq [3, 3, 3, 1, 1] (fun _ => True) (by rfl) (by rfl) trivial ?_
    simp only [List.zip_cons_cons, List.zip_nil_right]
    refine wpPi_move _ rfl rfl ?_
    simp only [pl, pn, el, ec, sz, ss, gz, gs, if_true, if_false, Bool.false_eq_true, Bool.not_true, Bool.not_false, Nat.add_zero, Nat.zero_add, Nat.reduceAdd]
    refine wpPi_move _ rfl rfl ?_
    simp only [pl, pn, el, ec, sz, ss, gz, gs, if_true, if_false, Bool.false_eq_true, Bool.not_true, Bool.not_false, Nat.add_zero, Nat.zero_add, Nat.reduceAdd]
    refine wpPi_move _ rfl rfl ?_
    simp only [pl, pn, el, ec, sz, ss, gz, gs, if_true, if_false, Bool.false_eq_true, Bool.not_true, Bool.not_false, Nat.add_zero, Nat.zero_add, Nat.reduceAdd]
    refine wpPi_do rfl (fun K hK => ?_)
    refine wp_exec (exec_build_way _ _ p q (by rfl) (by rfl) (by rfl)) ?_
    refine hK _ _ trivial ?_
    clear hK K
    try simp only [pl, pn, el, ec, sz, ss, gz, gs, if_true, if_false, Bool.false_eq_true, Bool.not_true, Bool.not_false, Nat.add_zero, Nat.zero_add, Nat.reduceAdd]
    refine wpPi_do rfl (fun K hK => ?_)
    go_wp2_with (go_at_call 54; refine (heal54 h B1 hB1 p q).mono ?_; rintro _ w1 ⟨r, rfl, h1, hm1⟩)
    refine hK _ _ trivial ?_
    clear hK K
    try simp only [pl, pn, el, ec, sz, ss, gz, gs, if_true, if_false, Bool.false_eq_true, Bool.not_true, Bool.not_false, Nat.add_zero, Nat.zero_add, Nat.reduceAdd]
    refine wpPi_nil ?_
    go_wp2
    go_ret
    exact .inl ⟨rfl, rfl, h1, hm1⟩

set_option maxRecDepth 10000 in
set_option maxHeartbeats 800000 in
theorem heal_any (h : NetInv w bx mb n lost cut its) (p q : Int) :
    Calls Try.prog 27 #[.pointer (some ⟨bx, 0, none⟩), .int .i64 p, .int .i64 q] w (TurnR w bx mb n lost cut (healP cut (p, q)) its (twoB n p q)) := by
  go_enter Try.func27, Try.ntmps27
  go_upto_region 0 with (fail)
  refine wp_region_seq [1, 3] (fun _ => True) (by rfl) (by rfl) trivial ?_
  simp only [List.zip_cons_cons, List.zip_nil_right]
  refine wpPi_do rfl (fun K hK => ?_)
  refine wp_box 23 _ _ (by rfl) (by rfl) (fun w1 hB1 hM hs1 => ?_)
  replace hB1 : w1.heap[w.heap.size]? = some (.cells #[.pointer (some ⟨bx, 0, none⟩)] 23 (0, 0)) := hB1
  refine hK _ _ trivial ?_
  clear hK K
  try simp only [pl, pn, el, ec, sz, ss, gz, gs, if_true, if_false, Bool.false_eq_true, Bool.not_true, Bool.not_false, Nat.add_zero, Nat.zero_add, Nat.reduceAdd]
  refine wpPi_assign _ rfl rfl ?_
  simp only [pl, pn, el, ec, sz, ss, gz, gs, if_true, if_false, Bool.false_eq_true, Bool.not_true, Bool.not_false, Nat.add_zero, Nat.zero_add, Nat.reduceAdd]
  refine wpPi_nil ?_
  have h1 := h.keep0 hM
  have hB1c : w1.cell? ⟨w.heap.size, 0, none⟩ = some (.pointer (some ⟨bx, 0, none⟩)) := by rw [cell_of_row _ _ _ _ _ _ hB1]; rfl
  go_upto_region 1 with (fail)
  refine wp_region_seq [1, 3, 3, 1, 1, 3] (fun _ => True) (by rfl) (by rfl) trivial ?_
  simp only [List.zip_cons_cons, List.zip_nil_right]
  refine wpPi_do rfl (fun K hK => ?_)
  refine wp_exec (exec_load1 23 _ (by rfl) w.heap.size 0 (by rfl) _ hB1c _ Try.underlying23 rfl) ?_
  refine hK _ _ trivial ?_
  clear hK K
  try simp only [pl, pn, el, ec, sz, ss, gz, gs, if_true, if_false, Bool.false_eq_true, Bool.not_true, Bool.not_false, Nat.add_zero, Nat.zero_add, Nat.reduceAdd]
  refine wpPi_move _ rfl rfl ?_
  simp only [pl, pn, el, ec, sz, ss, gz, gs, if_true, if_false, Bool.false_eq_true, Bool.not_true, Bool.not_false, Nat.add_zero, Nat.zero_add, Nat.reduceAdd]
  refine wpPi_move _ rfl rfl ?_
  simp only [pl, pn, el, ec, sz, ss, gz, gs, if_true, if_false, Bool.false_eq_true, Bool.not_true, Bool.not_false, Nat.add_zero, Nat.zero_add, Nat.reduceAdd]
  refine wpPi_do rfl (fun K hK => ?_)
  go_wp2
  refine hK _ _ trivial ?_
  clear hK K
  try simp only [pl, pn, el, ec, sz, ss, gz, gs, if_true, if_false, Bool.false_eq_true, Bool.not_true, Bool.not_false, Nat.add_zero, Nat.zero_add, Nat.reduceAdd]
  refine wpPi_do rfl (fun K hK => ?_)
  go_wp2_with (go_at_call 52; refine (turn_54 h1 _ hB1 p q).mono ?_; rintro _ w2 hr0; obtain ⟨r, rfl, hr⟩ := hr0.out; clear hr0)
  refine hK _ _ trivial ?_
  clear hK K
  try simp only [pl, pn, el, ec, sz, ss, gz, gs, if_true, if_false, Bool.false_eq_true, Bool.not_true, Bool.not_false, Nat.add_zero, Nat.zero_add, Nat.reduceAdd]
  refine wpPi_assign _ rfl rfl ?_
  simp only [pl, pn, el, ec, sz, ss, gz, gs, if_true, if_false, Bool.false_eq_true, Bool.not_true, Bool.not_false, Nat.add_zero, Nat.zero_add, Nat.reduceAdd]
  refine wpPi_nil ?_
  go_wp2
  go_ret
  exact hr w hM
end
end Go.Proofs.Ytdllpakdhnanbaa
