/- A repository's name, rune by rune: the states' functions. -/
import Derived.Test.YtcfcahflkhgapaaGreatEff
import Derived.Lib.OthersKept
namespace Go.Proofs.YtcfcahflkhgapaaGreat
set_option linter.unusedSimpArgs false
set_option linter.unusedVariables false
set_option linter.unnecessarySimpa false
set_option linter.unusedSectionVars false
open Go.RowKit

/-- The call returns v; the world is as it was. -/
def RetE (v : Value) (w : World) : Ending → World → Prop := fun e w' => e = .returned v ∧ w' = w

/-- a to z, 0 to 9. -/
def wordB (c : Int) : Bool := (decide (97 ≤ c) && decide (c ≤ 122)) || (decide (48 ≤ c) && decide (c ≤ 57))

set_option maxHeartbeats 400000 in
theorem letterWord_any (c : Int) (w : World) : Calls Tryz.prog 84 #[.int .i32 c] w (RetE (.bool (wordB c)) w) := by
  go_enter Tryz.func84, Tryz.ntmps84
  by_cases h1 : 97 ≤ c <;> by_cases h2 : c ≤ 122 <;> by_cases h3 : 48 ≤ c <;> by_cases h4 : c ≤ 57
  all_goals
    go_wp2
    go_ret
    exact ⟨ret_bool (by simp [wordB, h1, h2, h3, h4]), rfl⟩

/-- Where a name stands: a part begins; in a word; behind one _; behind dashes. -/
inductive Kd where
  | word | inside | second | dashes
deriving DecidableEq
def kdF : Kd → Nat
  | .word => 69
  | .inside => 85
  | .second => 99
  | .dashes => 100
def kdEnds : Kd → Bool
  | .inside => true
  | _ => false
def stCells (k : Kd) (n : Int) : Array Value := #[.func (.func (kdF k)) #[.agg #[.int .i64 n]] #[], .bool (kdEnds k)]
def StAt (w : World) (v : Value) (k : Kd) (n : Int) : Prop := ∃ b, v = .pointer (some ⟨b, 0, none⟩) ∧ w.heap[b]? = some (.cells (stCells k n) 115 (0, 0))
def StOk (w : World) (v : Value) : Option (Kd × Int) → Prop
  | none => v = .pointer none
  | some s => StAt w v s.1 s.2
/-- What a rune does. -/
def stepW (n c : Int) : Option (Kd × Int) := if wordB c then some (.inside, n) else none
def stepS : Kd → Int → Int → Option (Kd × Int)
  | .word, n, c => stepW n c
  | .inside, n, c => if c = 47 ∧ 0 < n then some (.word, n - 1) else if c = 46 then some (.word, n) else if c = 95 then some (.second, n) else if c = 45 then some (.dashes, n) else stepW n c
  | .second, n, c => if c = 95 then some (.word, n) else stepW n c
  | .dashes, n, c => if c = 45 then some (.dashes, n) else stepW n c
def StR (w : World) (r : Option (Kd × Int)) : Ending → World → Prop := fun e w' => ∃ v, e = .returned v ∧ Mod NoB w w' ∧ StOk w' v r

theorem makeFunc_run (fn : Fn) (first cap : Array Value) (w : World) : (Instr.makeFunc fn first cap).run Tryz.prog w = .ok (.func fn first cap) w := rfl
theorem st_new {w w1 : World} (hm : Mod NoB w w1) (k : Kd) (n : Int) (cs : Array Value) (hc : cs = stCells k n) : StR w (some (k, n)) (.returned (.pointer (some ⟨w1.heap.size, 0, none⟩))) (w1.alloc (.cells cs 115)) := by
  subst hc
  exact ⟨_, rfl, hm.alloc _, _, rfl, heap_alloc_new _ _⟩

set_option maxHeartbeats 400000 in
theorem repoPart_any (n : Int) (w : World) : Calls Tryz.prog 60 #[.agg #[.int .i64 n]] w (StR w (some (.word, n))) := by
  have hmf := makeFunc_run
  go_enter Tryz.func60, Tryz.ntmps60
  go_wp2
  go_ret
  rw [← World.size_alloc w (.cells #[.int .i64 n] 101)]
  exact st_new (mod_alloc _ _) _ _ _ rfl

set_option maxHeartbeats 400000 in
theorem repoWord_any (n c : Int) (w : World) : Calls Tryz.prog 69 #[.agg #[.int .i64 n], .int .i32 c] w (StR w (stepW n c)) := by
  have hmf := makeFunc_run
  obtain ⟨t, ht⟩ : ∃ t, t = wordB c := ⟨_, rfl⟩
  unfold stepW
  rw [← ht]
  have HT := Lib.hid ht; clear ht
  cases t
  all_goals
    go_enter Tryz.func69, Tryz.ntmps69
    go_wp2_with (go_at_call 84; refine (letterWord_any c _).mono ?_; rintro _ _ ⟨rfl, rfl⟩; rw [← HT.out])
    try go_wp2
    go_ret
  · exact ⟨_, rfl, mod_alloc _ _, rfl⟩
  · rw [← World.size_alloc w (.cells #[.int .i64 n] 101)]
    exact st_new (mod_alloc _ _) _ _ _ rfl
theorem stepW_carry {w w1 : World} (hm : Mod NoB w w1) {r : Option (Kd × Int)} {e : Ending} {w' : World} (h : StR w1 r e w') : StR w r e w' := by
  obtain ⟨v, h1, h2, h3⟩ := h
  exact ⟨v, h1, hm.trans0 h2, h3⟩

set_option maxHeartbeats 1000000 in
theorem repoSecond_any (n c : Int) (w : World) : Calls Tryz.prog 99 #[.agg #[.int .i64 n], .int .i32 c] w (StR w (stepS .second n c)) := by
  have hmf := makeFunc_run
  by_cases hc : c = 95
  · subst hc
    go_enter Tryz.func99, Tryz.ntmps99
    go_wp2
    go_ret
    rw [← World.size_alloc w (.cells #[.int .i64 n] 101)]
    exact st_new (mod_alloc _ _) _ _ _ rfl
  · simp only [stepS, if_neg hc]
    go_enter Tryz.func99, Tryz.ntmps99
    go_wp2_with (go_at_call 69; refine (repoWord_any n c _).mono ?_; rintro _ w1 ⟨v, rfl, hm, hs⟩)
    go_ret
    exact ⟨_, rfl, (mod_alloc _ _).trans0 hm, hs⟩

set_option maxHeartbeats 1000000 in
theorem repoDashes_any (n c : Int) (w : World) : Calls Tryz.prog 100 #[.agg #[.int .i64 n], .int .i32 c] w (StR w (stepS .dashes n c)) := by
  have hmf := makeFunc_run
  by_cases hc : c = 45
  · subst hc
    go_enter Tryz.func100, Tryz.ntmps100
    go_wp2
    go_ret
    rw [← World.size_alloc w (.cells #[.int .i64 n] 101)]
    exact st_new (mod_alloc _ _) _ _ _ rfl
  · simp only [stepS, if_neg hc]
    go_enter Tryz.func100, Tryz.ntmps100
    go_wp2_with (go_at_call 69; refine (repoWord_any n c _).mono ?_; rintro _ w1 ⟨v, rfl, hm, hs⟩)
    go_ret
    exact ⟨_, rfl, (mod_alloc _ _).trans0 hm, hs⟩

set_option maxHeartbeats 1000000 in
theorem repoInside_any (n c : Int) (w : World) (hn : 0 ≤ n ∧ n ≤ 7) : Calls Tryz.prog 85 #[.agg #[.int .i64 n], .int .i32 c] w (StR w (stepS .inside n c)) := by
  have hmf := makeFunc_run
  obtain ⟨hn0, hn7⟩ := hn
  by_cases h1 : c = 47 ∧ 0 < n
  · obtain ⟨rfl, hn1⟩ := h1
    rw [show stepS .inside n 47 = some (.word, n - 1) by simp [stepS, hn1]]
    go_enter Tryz.func85, Tryz.ntmps85
    go_wp2_with (go_at_call 60; refine (repoPart_any _ _).mono ?_; rintro _ w1 ⟨v, rfl, hm, hs⟩)
    go_ret
    exact ⟨_, rfl, (mod_alloc _ _).trans0 hm, hs⟩
  · rw [show stepS .inside n c = if c = 46 then some (.word, n) else if c = 95 then some (.second, n) else if c = 45 then some (.dashes, n) else stepW n c by simp [stepS, if_neg h1]]
    by_cases h2 : c = 46
    · subst h2
      go_enter Tryz.func85, Tryz.ntmps85
      go_wp2
      go_ret
      rw [← World.size_alloc w (.cells #[.int .i64 n] 101)]
      exact st_new (mod_alloc _ _) _ _ _ rfl
    · rw [if_neg h2]
      by_cases h3 : c = 95
      · subst h3
        go_enter Tryz.func85, Tryz.ntmps85
        go_wp2
        go_ret
        rw [← World.size_alloc w (.cells #[.int .i64 n] 101)]
        exact st_new (mod_alloc _ _) _ _ _ rfl
      · rw [if_neg h3]
        by_cases h4 : c = 45
        · subst h4
          go_enter Tryz.func85, Tryz.ntmps85
          go_wp2
          go_ret
          rw [← World.size_alloc w (.cells #[.int .i64 n] 101)]
          exact st_new (mod_alloc _ _) _ _ _ rfl
        · rw [if_neg h4]
          by_cases h5 : c = 47
          · subst h5
            have hn1 : ¬ 0 < n := fun h => h1 ⟨rfl, h⟩
            go_enter Tryz.func85, Tryz.ntmps85
            go_wp2_with (go_at_call 69; refine (repoWord_any n _ _).mono ?_; rintro _ w1 ⟨v, rfl, hm, hs⟩)
            go_ret
            exact ⟨_, rfl, (mod_alloc _ _).trans0 hm, hs⟩
          · go_enter Tryz.func85, Tryz.ntmps85
            go_wp2_with (go_at_call 69; refine (repoWord_any n _ _).mono ?_; rintro _ w1 ⟨v, rfl, hm, hs⟩)
            go_ret
            exact ⟨_, rfl, (mod_alloc _ _).trans0 hm, hs⟩
end Go.Proofs.YtcfcahflkhgapaaGreat
