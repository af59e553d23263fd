/- The net's functions that go by a number: at. -/
import Derived.Test.YtdllpakdhnanbaaNetC
namespace Go.Proofs.Ytdllpakdhnanbaa
set_option linter.unusedSimpArgs false
set_option linter.unusedVariables false
set_option linter.unnecessarySimpa false
open Go.RowKit

def RetE (v : Value) (w : World) : Ending → World → Prop := fun e w' => e = .returned v ∧ w' = w

set_option maxHeartbeats 400000 in
theorem none_eq (b : Nat) (n : Int) (w : World) (h : w.cell? ⟨b, 0, none⟩ = some (.int .i64 n)) : Calls Try.prog 40 #[.pointer (some ⟨b, 0, none⟩)] w (RetE (.bool (n == 0)) w) := by
  go_enter Try.func40, Try.ntmps40
  go_wp2
  go_ret
  exact ⟨rfl, rfl⟩

set_option maxHeartbeats 400000 in
theorem two_eq (b : Nat) (n x y : Int) (w : World) (h : w.cell? ⟨b, 0, none⟩ = some (.int .i64 n)) :
    Calls Try.prog 41 #[.pointer (some ⟨b, 0, none⟩), .int .i64 x, .int .i64 y] w (RetE (.bool (twoB n x y)) w) := by
  have ht : ∃ t, t = twoB n x y := ⟨_, rfl⟩
  obtain ⟨t, ht⟩ := ht
  have HT := Lib.hid ht; clear ht
  rw [← HT.out]
  go_enter Try.func41, Try.ntmps41
  go_wp2
  all_goals
    go_ret
    refine ⟨ret_bool ?_, rfl⟩
    rw [HT.out]
    unfold twoB
    rw [Bool.eq_iff_iff]
    simp
    all_goals omega

set_option maxRecDepth 10000 in
set_option maxHeartbeats 400000 in
theorem at_47 (w : World) (b : Nat) (n i c : Int) (p q : Value) (h : w.cell? ⟨b, 0, none⟩ = some (.int .i64 n)) (hn : (n == 0) = false) (hc : w.cell? ⟨b, 3, none⟩ = some (.int .i64 c))
    (P : Value → World → Prop) (hf : 0 ≤ i → i < c → Calls Try.prog 47 #[.int .i64 i, p, q] w (fun e w' => ∃ r, e = .returned r ∧ P r w')) :
    Calls Try.prog 45 #[.pointer (some ⟨b, 0, none⟩), .int .i64 i, .func (.func 47) #[] #[p, q]] w fun e w' => ∃ r, e = .returned r ∧ ((0 ≤ i ∧ i < c ∧ P r w') ∨ (¬ (0 ≤ i ∧ i < c) ∧ r = .int .i64 26 ∧ w' = w)) := by
  go_enter Try.func45, Try.ntmps45
  go_wp2_with (first
    | (go_at_call 40; refine (none_eq b n w h).mono ?_; rintro _ w1 ⟨rfl, rfl⟩; simp only [hn])
    | (go_at_call 47; refine (hf (by omega) (by omega)).mono ?_; rintro _ w1 ⟨r, rfl, hp⟩))
  all_goals first
    | (go_wp2; go_ret; exact ⟨_, rfl, .inl ⟨by omega, by omega, hp⟩⟩)
    | (go_ret; exact ⟨_, rfl, .inr ⟨by omega, rfl, rfl⟩⟩)

set_option maxRecDepth 10000 in
set_option maxHeartbeats 400000 in
theorem at_55 (w : World) (b : Nat) (n i c : Int) (p : Value) (h : w.cell? ⟨b, 0, none⟩ = some (.int .i64 n)) (hn : (n == 0) = false) (hc : w.cell? ⟨b, 3, none⟩ = some (.int .i64 c))
    (P : Value → World → Prop) (hf : 0 ≤ i → i < c → Calls Try.prog 55 #[p, .int .i64 i] w (fun e w' => ∃ r, e = .returned r ∧ P r w')) :
    Calls Try.prog 45 #[.pointer (some ⟨b, 0, none⟩), .int .i64 i, .func (.func 55) #[p] #[]] w fun e w' => ∃ r, e = .returned r ∧ ((0 ≤ i ∧ i < c ∧ P r w') ∨ (¬ (0 ≤ i ∧ i < c) ∧ r = .int .i64 26 ∧ w' = w)) := by
  go_enter Try.func45, Try.ntmps45
  go_wp2_with (first
    | (go_at_call 40; refine (none_eq b n w h).mono ?_; rintro _ w1 ⟨rfl, rfl⟩; simp only [hn])
    | (go_at_call 55; refine (hf (by omega) (by omega)).mono ?_; rintro _ w1 ⟨r, rfl, hp⟩))
  all_goals first
    | (go_wp2; go_ret; exact ⟨_, rfl, .inl ⟨by omega, by omega, hp⟩⟩)
    | (go_ret; exact ⟨_, rfl, .inr ⟨by omega, rfl, rfl⟩⟩)

set_option maxRecDepth 10000 in
set_option maxHeartbeats 400000 in
theorem at_46 (w : World) (b : Nat) (n i c : Int) (p : Value) (h : w.cell? ⟨b, 0, none⟩ = some (.int .i64 n)) (hn : (n == 0) = false) (hc : w.cell? ⟨b, 3, none⟩ = some (.int .i64 c))
    (P : Value → World → Prop) (hf : 0 ≤ i → i < c → Calls Try.prog 46 #[p, .int .i64 i] w (fun e w' => ∃ r, e = .returned r ∧ P r w')) :
    Calls Try.prog 45 #[.pointer (some ⟨b, 0, none⟩), .int .i64 i, .func (.func 46) #[p] #[]] w fun e w' => ∃ r, e = .returned r ∧ ((0 ≤ i ∧ i < c ∧ P r w') ∨ (¬ (0 ≤ i ∧ i < c) ∧ r = .int .i64 26 ∧ w' = w)) := by
  go_enter Try.func45, Try.ntmps45
  go_wp2_with (first
    | (go_at_call 40; refine (none_eq b n w h).mono ?_; rintro _ w1 ⟨rfl, rfl⟩; simp only [hn])
    | (go_at_call 46; refine (hf (by omega) (by omega)).mono ?_; rintro _ w1 ⟨r, rfl, hp⟩))
  all_goals first
    | (go_wp2; go_ret; exact ⟨_, rfl, .inl ⟨by omega, by omega, hp⟩⟩)
    | (go_ret; exact ⟨_, rfl, .inr ⟨by omega, rfl, rfl⟩⟩)

end Go.Proofs.Ytdllpakdhnanbaa
