/- Pick. -/
import Derived.Test.YtdllpakdhnanbaaLawC
namespace Go.Proofs.Ytdllpakdhnanbaa
set_option linter.unusedSimpArgs false
set_option linter.unusedVariables false
set_option linter.unnecessarySimpa false
open Go.RowKit

/-- One of the numbers from 0 on below n. -/
def pickZ (x n : Int) : Int := if n ≤ 0 then 0 else x % n
theorem pickZ_lt (x n : Int) (h : 0 < n) : 0 ≤ pickZ x n ∧ pickZ x n < n := by
  unfold pickZ
  rw [if_neg (by omega)]
  exact ⟨Int.emod_nonneg _ (by omega), Int.emod_lt_of_pos _ h⟩

theorem tmod_up (x n : Int) (h : 0 < n) : (if x.tmod n < 0 then x.tmod n + n else x.tmod n) = x % n := by
  have h1 := Int.tmod_lt_of_pos x h
  have h2 := Int.lt_tmod_of_pos x h
  have h3 : x.tmod n = x - n * x.tdiv n := by have := Int.mul_tdiv_add_tmod x n; omega
  split
  · rw [h3, ← Int.emod_eq_of_lt (a := x - n * x.tdiv n + n) (b := n) (by omega) (by omega)]
    rw [show x - n * x.tdiv n + n = x + n * (1 - x.tdiv n) by rw [Int.mul_sub]; omega]
    rw [Int.add_mul_emod_self_left]
  · rw [← Int.emod_eq_of_lt (a := x.tmod n) (b := n) (by omega) (by omega), h3]
    rw [show x - n * x.tdiv n = x + n * (- x.tdiv n) by rw [Int.mul_neg]; omega]
    rw [Int.add_mul_emod_self_left]

set_option maxRecDepth 10000 in
set_option maxHeartbeats 400000 in
theorem pick_any (x n : Int) (hx : -9223372036854775808 ≤ x ∧ x ≤ 9223372036854775807) (hn : n ≤ 1000000) (w : World) : Calls Try.prog 9 #[.int .i64 x, .int .i64 n] w (RetE (.int .i64 (pickZ x n)) w) := by
  by_cases h0 : n ≤ 0
  · rw [show pickZ x n = 0 by simp [pickZ, h0]]
    go_enter Try.func9, Try.ntmps9
    go_wp2
    go_ret
    exact ⟨rfl, rfl⟩
  · have hp := tmod_up x n (by omega)
    have h1 := Int.tmod_lt_of_pos x (show 0 < n by omega)
    have h2 := Int.lt_tmod_of_pos x (show 0 < n by omega)
    rw [show pickZ x n = x % n by simp [pickZ, h0]]
    rw [← hp]
    clear hp
    go_enter Try.func9, Try.ntmps9
    go_wp2
    all_goals
      go_ret
      exact ⟨rfl, rfl⟩

theorem wpPi_rem {P : Program} {ops : Array Oper} {Q : Exit → Act → World → Prop} {S : World → Prop} {o : Oper} {r : List (Oper × Nat)} {a : Act} {w : World} (t : TypeId) (x y : Operand) (yt : TypeId) (m n : Int) (hw : Region.wanted o (yielded ops a.tmps) = true) (ho : o.op = .binOp .rem t x y yt) (hx : a.eval x = .int .i64 m) (hy : a.eval y = .int .i64 n)
    (h1 : 0 ≤ m) (h2 : 0 < n) (h : wpPi P ops Q S r (a.put o.dst (.int .i64 (m % n))) w) : wpPi P ops Q S ((o, 3) :: r) a w :=
  wpPi_any hw (fun w => by
    unfold execOp
    have e : m.tmod n = m % n := Int.tmod_eq_emod_of_nonneg h1
    have hn : n ≠ 0 := by omega
    simp [ho, hx, hy, eqGuard, binOp, Op.intDiv, e, hn]) h
theorem wpPi_quo {P : Program} {ops : Array Oper} {Q : Exit → Act → World → Prop} {S : World → Prop} {o : Oper} {r : List (Oper × Nat)} {a : Act} {w : World} (t : TypeId) (x y : Operand) (yt : TypeId) (m n : Int) (hw : Region.wanted o (yielded ops a.tmps) = true) (ho : o.op = .binOp .quo t x y yt) (hx : a.eval x = .int .i64 m) (hy : a.eval y = .int .i64 n)
    (h2 : n ≠ 0) (h3 : -9223372036854775808 ≤ m.tdiv n) (h4 : m.tdiv n ≤ 9223372036854775807) (h : wpPi P ops Q S r (a.put o.dst (.int .i64 (m.tdiv n))) w) : wpPi P ops Q S ((o, 3) :: r) a w :=
  wpPi_any hw (fun w => by
    unfold execOp
    have e := wrap_in h3 h4
    simp [ho, hx, hy, eqGuard, binOp, Op.intDiv, e, h2]) h
theorem quo_in (m : Int) (h1 : -9223372036854775808 ≤ m) (h2 : m ≤ 9223372036854775807) : -9223372036854775808 ≤ m.tdiv 16 ∧ m.tdiv 16 ≤ 9223372036854775807 := by
  rcases Int.le_total 0 m with h | h
  · rw [Int.tdiv_eq_ediv_of_nonneg h]; omega
  · have e : m.tdiv 16 = -((-m) / 16) := by rw [← Int.tdiv_eq_ediv_of_nonneg (by omega), Int.neg_tdiv]; omega
    omega
theorem way_ne (n a k : Int) (ha : 1 ≤ a ∧ a ≤ n) (hk : 0 ≤ k ∧ k < n - 1) : 1 ≤ 1 + (a + k) % n ∧ 1 + (a + k) % n ≤ n ∧ a ≠ 1 + (a + k) % n := by
  have h1 := Int.emod_nonneg (a + k) (show n ≠ 0 by omega)
  have h2 := Int.emod_lt_of_pos (a + k) (show 0 < n by omega)
  refine ⟨by omega, by omega, fun e => ?_⟩
  rcases Int.lt_or_le (a + k) n with h | h
  · rw [Int.emod_eq_of_lt (by omega) h] at e; omega
  · have e2 : (a + k) % n = a + k - n := by
      rw [← Int.emod_eq_of_lt (a := a + k - n) (b := n) (by omega) (by omega), show a + k - n = a + k + n * (-1) by omega, Int.add_mul_emod_self_left]
    rw [e2] at e; omega
end Go.Proofs.Ytdllpakdhnanbaa
