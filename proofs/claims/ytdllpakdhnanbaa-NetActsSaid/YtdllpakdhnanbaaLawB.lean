/- The net as the statements' walks hold it; awake. -/
import Derived.Test.YtdllpakdhnanbaaLawA
namespace Go.Proofs.Ytdllpakdhnanbaa
set_option linter.unusedSimpArgs false
set_option linter.unusedVariables false
set_option linter.unnecessarySimpa false
open Go.RowKit

/-- The net is as N says; of what was in w0 nothing has turned. -/
def NetNow (w0 w : World) (p : Value) (N : Ns) : Prop := ∃ F, NetAt w0 w p N F
/-- Likewise, and a letter lies beside it. -/
def Fresh (w0 w : World) (p : Value) (N : Ns) (cs : Array Value) (l : Ltr) : Prop := ∃ F E G, NetAt w0 w p N F ∧ LetR true w E G cs l ∧ ∀ k, E k ∨ G k → ¬ F k

section
variable {w0 w : World} {p : Value} {N : Ns}

theorem Step.now {F : Nat → Prop} {w' : World} (h : Step w0 w p F w' N) : NetNow w0 w' p N := by
  obtain ⟨F', h1, _⟩ := h
  exact ⟨F', h1⟩
theorem NetNow.keep0 {w' : World} (h : NetNow w0 w p N) (hm : Mod NoB w w') : NetNow w0 w' p N := by
  obtain ⟨F, h⟩ := h
  exact ⟨F, h.keep0 hm⟩
theorem NetNow.mod (h : NetNow w0 w p N) : Mod NoB w0 w := by
  obtain ⟨F, h⟩ := h
  exact h.mod

theorem new_now (n : Int) (w0 : World) (hn : 1 ≤ n ∧ n ≤ 16) (w : World) (hM : Mod NoB w0 w) : Calls Try.prog 10 #[.int .i64 n] w fun e w' => ∃ b, e = .returned (.tuple #[.pointer (some ⟨b, 0, none⟩), .int .i64 0]) ∧ NetNow w0 w' (.pointer (some ⟨b, 0, none⟩)) ⟨n, 0, fun _ => false, []⟩ := by
  refine (new_at n w0 hn w hM).mono ?_
  rintro e w' ⟨b, F, rfl, h, _⟩
  exact ⟨b, rfl, F, h⟩
theorem from_now (h : NetNow w0 w p N) (a b : Int) : Calls Try.prog 23 #[.int .i64 a, .int .i64 b] w fun e w' => ∃ cs, e = .returned (.agg cs) ∧ Fresh w0 w' p N cs (fromL a b) := by
  obtain ⟨F, h⟩ := h
  refine (from_any a b w).mono ?_
  rintro e w' ⟨_, rfl, hm, cs, E, G, rfl, hl, hE, hG, _⟩
  refine ⟨cs, rfl, F, E, G, h.keep0 hm, hl, fun k hk hf => ?_⟩
  have h1 := h.lt k hf
  rcases hk with hk | hk
  · have h2 := (hE k hk).1; omega
  · have h2 := (hG k hk).1; omega
theorem zero_now (h : NetNow w0 w p N) : Fresh w0 w p N zeroLet ltr0 := by
  obtain ⟨F, h⟩ := h
  exact ⟨F, NoB, NoB, h, LetR.zero _ _ _ _, fun k hk => by rcases hk with hk | hk <;> exact False.elim hk⟩
theorem sends_now {cs : Array Value} {l : Ltr} (h : Fresh w0 w p N cs l) (hl : 0 ≤ N.lost ∧ N.lost ≤ 1000000000) (hok : LtrOk l) (want : Bool) (err : Int) (b : Bool) (hb : decide (sendB N l = want ∧ sendE N l = err) = b) :
    Calls Try.prog 22 #[p, .agg cs, .bool want, .int .i64 err] w fun e w' => e = .returned (.bool b) ∧ NetNow w0 w' p (sendN N l) := by
  obtain ⟨F, E, G, h1, h2, h3⟩ := h
  subst hb
  exact (sends_at h1 hl true E G cs l h2 hok want err).mono fun e w' ⟨he, hs⟩ => ⟨he, hs.now⟩
theorem takes_now {cs : Array Value} {l : Ltr} (h : Fresh w0 w p N cs l) (i err : Int) (b : Bool) (hb : decide (takeE N i = err ∧ takeL N i = l) = b) :
    Calls Try.prog 24 #[p, .int .i64 i, .agg cs, .int .i64 err] w fun e w' => e = .returned (.bool b) ∧ NetNow w0 w' p (takeN N i) := by
  obtain ⟨F, E, G, h1, h2, h3⟩ := h
  subst hb
  exact (takes_at h1 true E G cs l h2 h3 i err).mono fun e w' ⟨he, hs⟩ => ⟨he, hs.now⟩
theorem copy_now (h : NetNow w0 w p N) (i v : Int) (hv : copyE N i = v) : Calls Try.prog 14 #[p, .int .i64 i] w fun e w' => e = .returned (.int .i64 v) ∧ NetNow w0 w' p (copyN N i) := by
  obtain ⟨F, h⟩ := h
  subst hv
  exact (copy_at h i).mono fun e w' ⟨he, hs⟩ => ⟨he, hs.now⟩
theorem drop_now (h : NetNow w0 w p N) (hl : 0 ≤ N.lost ∧ N.lost ≤ 1000000000) (i v : Int) (hv : takeE N i = v) : Calls Try.prog 28 #[p, .int .i64 i] w fun e w' => e = .returned (.int .i64 v) ∧ NetNow w0 w' p (dropN N i) := by
  obtain ⟨F, h⟩ := h
  subst hv
  exact (drop_at h hl i).mono fun e w' ⟨he, hs⟩ => ⟨he, hs.now⟩
theorem cut_now (h : NetNow w0 w p N) (a b v : Int) (hv : turnE N a b = v) : Calls Try.prog 25 #[p, .int .i64 a, .int .i64 b] w fun e w' => e = .returned (.int .i64 v) ∧ NetNow w0 w' p (cutN N a b) := by
  obtain ⟨F, h⟩ := h
  subst hv
  exact (cut_at h a b).mono fun e w' ⟨he, hs⟩ => ⟨he, hs.now⟩
theorem heal_now (h : NetNow w0 w p N) (a b v : Int) (hv : turnE N a b = v) : Calls Try.prog 27 #[p, .int .i64 a, .int .i64 b] w fun e w' => e = .returned (.int .i64 v) ∧ NetNow w0 w' p (healN N a b) := by
  obtain ⟨F, h⟩ := h
  subst hv
  exact (heal_at h a b).mono fun e w' ⟨he, hs⟩ => ⟨he, hs.now⟩
theorem open_now (h : NetNow w0 w p N) (a b : Int) (v : Bool) (hv : openB N.n N.cut a b = v) : Calls Try.prog 26 #[p, .int .i64 a, .int .i64 b] w fun e w' => e = .returned (.bool v) ∧ NetNow w0 w' p N := by
  obtain ⟨F, h⟩ := h
  subst hv
  exact (open_at h a b).mono fun e w' ⟨he, hs⟩ => ⟨he, hs.now⟩
theorem len_now (h : NetNow w0 w p N) (v : Int) (hv : (N.ls.length : Int) = v) : Calls Try.prog 16 #[p] w fun e w' => e = .returned (.int .i64 v) ∧ NetNow w0 w' p N := by
  obtain ⟨F, h⟩ := h
  subst hv
  exact (len_at h).mono fun e w' ⟨he, hs⟩ => ⟨he, hs.now⟩
theorem lost_now (h : NetNow w0 w p N) (v : Int) (hv : N.lost = v) : Calls Try.prog 17 #[p] w fun e w' => e = .returned (.int .i64 v) ∧ NetNow w0 w' p N := by
  obtain ⟨F, h⟩ := h
  subst hv
  exact (lost_at h).mono fun e w' ⟨he, hs⟩ => ⟨he, hs.now⟩
end

-- AWAKE
set_option maxRecDepth 10000 in
set_option maxHeartbeats 1000000 in
theorem awake_any (w : World) : Calls Try.prog 21 #[] w (RetM (.bool true) w) := by
  go_enter Try.func21, Try.ntmps21
  go_upto_region 1 with (fail)
  refine wp_region_seq [1, 3, 1, 1, 3, 3] (fun _ => True) (by rfl) (by rfl) trivial ?_
  simp only [List.zip_cons_cons, List.zip_nil_right]
  refine wpPi_do rfl (fun K hK => ?_)
  go_wp2_with (go_at_call 10; refine (new_now 2 w ⟨by decide, by decide⟩ w (Mod.refl _ _)).mono ?_; rintro _ w1 ⟨b, rfl, hN⟩)
  refine hK _ _ trivial ?_
  clear hK K
  try simp only [pl, pn, el, ec, sz, ss, gz, gs, if_true, if_false, Bool.false_eq_true, Bool.not_true, Bool.not_false, Nat.add_zero, Nat.zero_add, Nat.reduceAdd]
  refine wpPi_move _ rfl rfl ?_
  simp only [pl, pn, el, ec, sz, ss, gz, gs, if_true, if_false, Bool.false_eq_true, Bool.not_true, Bool.not_false, Nat.add_zero, Nat.zero_add, Nat.reduceAdd]
  refine wpPi_do rfl (fun K hK => ?_)
  go_wp2
  refine hK _ _ trivial ?_
  clear hK K
  try simp only [pl, pn, el, ec, sz, ss, gz, gs, if_true, if_false, Bool.false_eq_true, Bool.not_true, Bool.not_false, Nat.add_zero, Nat.zero_add, Nat.reduceAdd]
  refine wpPi_do rfl (fun K hK => ?_)
  go_wp2
  refine hK _ _ trivial ?_
  clear hK K
  try simp only [pl, pn, el, ec, sz, ss, gz, gs, if_true, if_false, Bool.false_eq_true, Bool.not_true, Bool.not_false, Nat.add_zero, Nat.zero_add, Nat.reduceAdd]
  refine wpPi_assign _ rfl rfl ?_
  simp only [pl, pn, el, ec, sz, ss, gz, gs, if_true, if_false, Bool.false_eq_true, Bool.not_true, Bool.not_false, Nat.add_zero, Nat.zero_add, Nat.reduceAdd]
  refine wpPi_assign _ rfl rfl ?_
  simp only [pl, pn, el, ec, sz, ss, gz, gs, if_true, if_false, Bool.false_eq_true, Bool.not_true, Bool.not_false, Nat.add_zero, Nat.zero_add, Nat.reduceAdd]
  refine wpPi_nil ?_
  go_upto_region 2 with (fail)
  refine wp_region_seq [3, 3, 3, 3, 3, 3, 3, 3, 1, 1, 3, 3, 3, 1, 1, 3, 3, 3, 1, 3, 3, 3, 3, 1, 3, 3, 3, 3, 1, 1, 3, 3, 3, 1, 1, 3, 3] (fun _ => True) (by rfl) (by rfl) trivial ?_
  simp only [List.zip_cons_cons, List.zip_nil_right]
  refine wpPi_move _ rfl rfl ?_
  simp only [pl, pn, el, ec, sz, ss, gz, gs, if_true, if_false, Bool.false_eq_true, Bool.not_true, Bool.not_false, Nat.add_zero, Nat.zero_add, Nat.reduceAdd]
  refine wpPi_cmp _ _ _ _ _ _ _ _ rfl rfl rfl rfl rfl true (by rfl) ?_
  simp only [pl, pn, el, ec, sz, ss, gz, gs, if_true, if_false, Bool.false_eq_true, Bool.not_true, Bool.not_false, Nat.add_zero, Nat.zero_add, Nat.reduceAdd]
  refine wpPi_move _ rfl rfl ?_
  simp only [pl, pn, el, ec, sz, ss, gz, gs, if_true, if_false, Bool.false_eq_true, Bool.not_true, Bool.not_false, Nat.add_zero, Nat.zero_add, Nat.reduceAdd]
  refine wpPi_move _ rfl rfl ?_
  simp only [pl, pn, el, ec, sz, ss, gz, gs, if_true, if_false, Bool.false_eq_true, Bool.not_true, Bool.not_false, Nat.add_zero, Nat.zero_add, Nat.reduceAdd]
  refine wpPi_any (v := ?_) rfl (fun w' => ?_) ?_; rotate_left; · (go_simp; try with_reducible rfl)
  simp only [pl, pn, el, ec, sz, ss, gz, gs, if_true, if_false, Bool.false_eq_true, Bool.not_true, Bool.not_false, Nat.add_zero, Nat.zero_add, Nat.reduceAdd]
  refine wpPi_pick _ _ _ _ rfl rfl rfl ?_
  simp only [pl, pn, el, ec, sz, ss, gz, gs, if_true, if_false, Bool.false_eq_true, Bool.not_true, Bool.not_false, Nat.add_zero, Nat.zero_add, Nat.reduceAdd]
  refine wpPi_move _ rfl rfl ?_
  simp only [pl, pn, el, ec, sz, ss, gz, gs, if_true, if_false, Bool.false_eq_true, Bool.not_true, Bool.not_false, Nat.add_zero, Nat.zero_add, Nat.reduceAdd]
  refine wpPi_move _ rfl rfl ?_
  simp only [pl, pn, el, ec, sz, ss, gz, gs, if_true, if_false, Bool.false_eq_true, Bool.not_true, Bool.not_false, Nat.add_zero, Nat.zero_add, Nat.reduceAdd]
  refine wpPi_do rfl (fun K hK => ?_)
  go_wp2_with (go_at_call 23; refine (from_now hN 1 2).mono ?_; rintro _ w1 ⟨cs, rfl, hL⟩)
  clear hN
  refine hK _ _ trivial ?_
  clear hK K
  try simp only [pl, pn, el, ec, sz, ss, gz, gs, if_true, if_false, Bool.false_eq_true, Bool.not_true, Bool.not_false, Nat.add_zero, Nat.zero_add, Nat.reduceAdd]
  refine wpPi_do rfl (fun K hK => ?_)
  go_wp2_with (go_at_call 22; refine (sends_now hL ⟨by decide, by decide⟩ (fromL_ok _ _) true 0 true (by kernel_rfl)).mono ?_; rintro _ w1 ⟨rfl, hN⟩)
  clear hL
  refine hK _ _ trivial ?_
  clear hK K
  try simp only [pl, pn, el, ec, sz, ss, gz, gs, if_true, if_false, Bool.false_eq_true, Bool.not_true, Bool.not_false, Nat.add_zero, Nat.zero_add, Nat.reduceAdd]
  refine wpPi_pick _ _ _ _ rfl rfl rfl ?_
  simp only [pl, pn, el, ec, sz, ss, gz, gs, if_true, if_false, Bool.false_eq_true, Bool.not_true, Bool.not_false, Nat.add_zero, Nat.zero_add, Nat.reduceAdd]
  refine wpPi_move _ rfl rfl ?_
  simp only [pl, pn, el, ec, sz, ss, gz, gs, if_true, if_false, Bool.false_eq_true, Bool.not_true, Bool.not_false, Nat.add_zero, Nat.zero_add, Nat.reduceAdd]
  refine wpPi_move _ rfl rfl ?_
  simp only [pl, pn, el, ec, sz, ss, gz, gs, if_true, if_false, Bool.false_eq_true, Bool.not_true, Bool.not_false, Nat.add_zero, Nat.zero_add, Nat.reduceAdd]
  refine wpPi_do rfl (fun K hK => ?_)
  go_wp2_with (go_at_call 23; refine (from_now hN 2 1).mono ?_; rintro _ w1 ⟨cs, rfl, hL⟩)
  clear hN
  refine hK _ _ trivial ?_
  clear hK K
  try simp only [pl, pn, el, ec, sz, ss, gz, gs, if_true, if_false, Bool.false_eq_true, Bool.not_true, Bool.not_false, Nat.add_zero, Nat.zero_add, Nat.reduceAdd]
  refine wpPi_do rfl (fun K hK => ?_)
  go_wp2_with (go_at_call 22; refine (sends_now hL ⟨by decide, by decide⟩ (fromL_ok _ _) true 0 true (by kernel_rfl)).mono ?_; rintro _ w1 ⟨rfl, hN⟩)
  clear hL
  refine hK _ _ trivial ?_
  clear hK K
  try simp only [pl, pn, el, ec, sz, ss, gz, gs, if_true, if_false, Bool.false_eq_true, Bool.not_true, Bool.not_false, Nat.add_zero, Nat.zero_add, Nat.reduceAdd]
  refine wpPi_pick _ _ _ _ rfl rfl rfl ?_
  simp only [pl, pn, el, ec, sz, ss, gz, gs, if_true, if_false, Bool.false_eq_true, Bool.not_true, Bool.not_false, Nat.add_zero, Nat.zero_add, Nat.reduceAdd]
  refine wpPi_move _ rfl rfl ?_
  simp only [pl, pn, el, ec, sz, ss, gz, gs, if_true, if_false, Bool.false_eq_true, Bool.not_true, Bool.not_false, Nat.add_zero, Nat.zero_add, Nat.reduceAdd]
  refine wpPi_move _ rfl rfl ?_
  simp only [pl, pn, el, ec, sz, ss, gz, gs, if_true, if_false, Bool.false_eq_true, Bool.not_true, Bool.not_false, Nat.add_zero, Nat.zero_add, Nat.reduceAdd]
  refine wpPi_do rfl (fun K hK => ?_)
  go_wp2_with (go_at_call 14; refine (copy_now hN 0 0 (by kernel_rfl)).mono ?_; rintro _ w1 ⟨rfl, hN1⟩)
  clear hN; have hN := hN1; clear hN1
  refine hK _ _ trivial ?_
  clear hK K
  try simp only [pl, pn, el, ec, sz, ss, gz, gs, if_true, if_false, Bool.false_eq_true, Bool.not_true, Bool.not_false, Nat.add_zero, Nat.zero_add, Nat.reduceAdd]
  refine wpPi_cmp _ _ _ _ _ _ _ _ rfl rfl rfl rfl rfl true (by rfl) ?_
  simp only [pl, pn, el, ec, sz, ss, gz, gs, if_true, if_false, Bool.false_eq_true, Bool.not_true, Bool.not_false, Nat.add_zero, Nat.zero_add, Nat.reduceAdd]
  refine wpPi_pick _ _ _ _ rfl rfl rfl ?_
  simp only [pl, pn, el, ec, sz, ss, gz, gs, if_true, if_false, Bool.false_eq_true, Bool.not_true, Bool.not_false, Nat.add_zero, Nat.zero_add, Nat.reduceAdd]
  refine wpPi_move _ rfl rfl ?_
  simp only [pl, pn, el, ec, sz, ss, gz, gs, if_true, if_false, Bool.false_eq_true, Bool.not_true, Bool.not_false, Nat.add_zero, Nat.zero_add, Nat.reduceAdd]
  refine wpPi_move _ rfl rfl ?_
  simp only [pl, pn, el, ec, sz, ss, gz, gs, if_true, if_false, Bool.false_eq_true, Bool.not_true, Bool.not_false, Nat.add_zero, Nat.zero_add, Nat.reduceAdd]
  refine wpPi_do rfl (fun K hK => ?_)
  go_wp2_with (go_at_call 16; refine (len_now hN 3 (by kernel_rfl)).mono ?_; rintro _ w1 ⟨rfl, hN1⟩)
  clear hN; have hN := hN1; clear hN1
  refine hK _ _ trivial ?_
  clear hK K
  try simp only [pl, pn, el, ec, sz, ss, gz, gs, if_true, if_false, Bool.false_eq_true, Bool.not_true, Bool.not_false, Nat.add_zero, Nat.zero_add, Nat.reduceAdd]
  refine wpPi_cmp _ _ _ _ _ _ _ _ rfl rfl rfl rfl rfl true (by rfl) ?_
  simp only [pl, pn, el, ec, sz, ss, gz, gs, if_true, if_false, Bool.false_eq_true, Bool.not_true, Bool.not_false, Nat.add_zero, Nat.zero_add, Nat.reduceAdd]
  refine wpPi_pick _ _ _ _ rfl rfl rfl ?_
  simp only [pl, pn, el, ec, sz, ss, gz, gs, if_true, if_false, Bool.false_eq_true, Bool.not_true, Bool.not_false, Nat.add_zero, Nat.zero_add, Nat.reduceAdd]
  refine wpPi_move _ rfl rfl ?_
  simp only [pl, pn, el, ec, sz, ss, gz, gs, if_true, if_false, Bool.false_eq_true, Bool.not_true, Bool.not_false, Nat.add_zero, Nat.zero_add, Nat.reduceAdd]
  refine wpPi_move _ rfl rfl ?_
  simp only [pl, pn, el, ec, sz, ss, gz, gs, if_true, if_false, Bool.false_eq_true, Bool.not_true, Bool.not_false, Nat.add_zero, Nat.zero_add, Nat.reduceAdd]
  refine wpPi_do rfl (fun K hK => ?_)
  go_wp2_with (go_at_call 23; refine (from_now hN 2 1).mono ?_; rintro _ w1 ⟨cs, rfl, hL⟩)
  clear hN
  refine hK _ _ trivial ?_
  clear hK K
  try simp only [pl, pn, el, ec, sz, ss, gz, gs, if_true, if_false, Bool.false_eq_true, Bool.not_true, Bool.not_false, Nat.add_zero, Nat.zero_add, Nat.reduceAdd]
  refine wpPi_do rfl (fun K hK => ?_)
  go_wp2_with (go_at_call 24; refine (takes_now hL 1 0 true (by kernel_rfl)).mono ?_; rintro _ w1 ⟨rfl, hN⟩)
  clear hL
  refine hK _ _ trivial ?_
  clear hK K
  try simp only [pl, pn, el, ec, sz, ss, gz, gs, if_true, if_false, Bool.false_eq_true, Bool.not_true, Bool.not_false, Nat.add_zero, Nat.zero_add, Nat.reduceAdd]
  refine wpPi_pick _ _ _ _ rfl rfl rfl ?_
  simp only [pl, pn, el, ec, sz, ss, gz, gs, if_true, if_false, Bool.false_eq_true, Bool.not_true, Bool.not_false, Nat.add_zero, Nat.zero_add, Nat.reduceAdd]
  refine wpPi_move _ rfl rfl ?_
  simp only [pl, pn, el, ec, sz, ss, gz, gs, if_true, if_false, Bool.false_eq_true, Bool.not_true, Bool.not_false, Nat.add_zero, Nat.zero_add, Nat.reduceAdd]
  refine wpPi_move _ rfl rfl ?_
  simp only [pl, pn, el, ec, sz, ss, gz, gs, if_true, if_false, Bool.false_eq_true, Bool.not_true, Bool.not_false, Nat.add_zero, Nat.zero_add, Nat.reduceAdd]
  refine wpPi_do rfl (fun K hK => ?_)
  go_wp2_with (go_at_call 23; refine (from_now hN 1 2).mono ?_; rintro _ w1 ⟨cs, rfl, hL⟩)
  clear hN
  refine hK _ _ trivial ?_
  clear hK K
  try simp only [pl, pn, el, ec, sz, ss, gz, gs, if_true, if_false, Bool.false_eq_true, Bool.not_true, Bool.not_false, Nat.add_zero, Nat.zero_add, Nat.reduceAdd]
  refine wpPi_do rfl (fun K hK => ?_)
  go_wp2_with (go_at_call 24; refine (takes_now hL 0 0 true (by kernel_rfl)).mono ?_; rintro _ w1 ⟨rfl, hN⟩)
  clear hL
  refine hK _ _ trivial ?_
  clear hK K
  try simp only [pl, pn, el, ec, sz, ss, gz, gs, if_true, if_false, Bool.false_eq_true, Bool.not_true, Bool.not_false, Nat.add_zero, Nat.zero_add, Nat.reduceAdd]
  refine wpPi_pick _ _ _ _ rfl rfl rfl ?_
  simp only [pl, pn, el, ec, sz, ss, gz, gs, if_true, if_false, Bool.false_eq_true, Bool.not_true, Bool.not_false, Nat.add_zero, Nat.zero_add, Nat.reduceAdd]
  refine wpPi_assign _ rfl rfl ?_
  simp only [pl, pn, el, ec, sz, ss, gz, gs, if_true, if_false, Bool.false_eq_true, Bool.not_true, Bool.not_false, Nat.add_zero, Nat.zero_add, Nat.reduceAdd]
  refine wpPi_nil ?_
  go_wp2
  go_ret
  exact ⟨rfl, hN.mod⟩
end Go.Proofs.Ytdllpakdhnanbaa
