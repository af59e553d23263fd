/- QuotaSums: what it says, without the program. -/
import Derived.Test.YtcfcahflkhgapaaPickA
import Derived.Test.YtcfcahflkhgapaaQN
namespace Go.Proofs.Ytcfcahflkhgapaa
set_option linter.unusedSimpArgs false
set_option linter.unusedVariables false
set_option linter.unnecessarySimpa false
set_option linter.unusedSectionVars false
open Go.RowKit

def dN : ByteArray := ⟨#[100]⟩
def nmS : List ByteArray := [aN, bN, cN, dN]
def nmAt (k : Nat) : ByteArray := nmS.getD k aN
theorem nmAt_ok (k : Nat) : nameB (nmAt k) = true ∧ (nmAt k).size ≤ maxLen := by
  have h : ∀ r ∈ nmS, nameB r = true ∧ r.size ≤ maxLen := by
    intro r hr
    simp only [nmS, List.mem_cons, List.not_mem_nil, or_false] at hr
    unfold maxLen
    rcases hr with rfl | rfl | rfl | rfl
    · exact ⟨by kernel_rfl, of_decide_eq_true rfl⟩
    · exact ⟨by kernel_rfl, of_decide_eq_true rfl⟩
    · exact ⟨by kernel_rfl, of_decide_eq_true rfl⟩
    · exact ⟨by kernel_rfl, of_decide_eq_true rfl⟩
  unfold nmAt
  rcases Nat.lt_or_ge k nmS.length with hk | hk
  · rw [List.getD_eq_getElem?_getD, List.getElem?_eq_getElem hk]; exact h _ (List.getElem_mem hk)
  · rw [List.getD_eq_getElem?_getD, List.getElem?_eq_none hk]; exact h _ (by simp [nmS])
theorem nmAt_inj {i j : Nat} (hi : i < 4) (hj : j < 4) (h : nmAt i = nmAt j) : i = j := by
  have key : ∀ i j : Fin 4, nmAt i.1 = nmAt j.1 → i = j := by decide
  have := key ⟨i, hi⟩ ⟨j, hj⟩ h
  exact congrArg Fin.val this
structure SumsOk (n : Nat) (l : LinkL) (s : List Int) : Prop where
  len : s.length = 4
  use : ∀ m, m < 4 → useOf l (nmAt m) = s.getD m 0
  few : l.length ≤ n
  bnd : ∀ m, m < 4 → 0 ≤ s.getD m 0 ∧ s.getD m 0 ≤ 100 * n
theorem SumsOk.start : SumsOk 0 [] [0, 0, 0, 0] := by
  refine ⟨rfl, fun m hm => ?_, by simp, fun m hm => ?_⟩
  · match m, hm with
    | 0, _ => rfl
    | 1, _ => rfl
    | 2, _ => rfl
    | 3, _ => rfl
  · match m, hm with
    | 0, _ => simp
    | 1, _ => simp
    | 2, _ => simp
    | 3, _ => simp
theorem SumsOk.up {n : Nat} {l : LinkL} {s : List Int} (h : SumsOk n l s) : SumsOk (n + 1) l s := ⟨h.len, h.use, by have := h.few; omega, fun m hm => by have := h.bnd m hm; omega⟩
theorem getD_set {s : List Int} {k m : Nat} (x : Int) (hk : k < s.length) : (s.set k x).getD m 0 = if m = k then x else s.getD m 0 := by
  simp only [List.getD_eq_getElem?_getD, List.getElem?_set]
  by_cases h : k = m
  · subst h; simp [hk]
  · rw [if_neg h, if_neg (fun e => h e.symm)]
theorem SumsOk.step {n : Nat} {l : LinkL} {s : List Int} (h : SumsOk n l s) (hn : n < 65536) {k : Nat} (hk : k < 4) (id : List UInt8) {size : Int} (hs : 0 ≤ size ∧ size ≤ 100) (asked : Bool) (limit : Int) :
    (addE asked limit l (nmAt k, id) size = (true, 0) ∧ SumsOk (n + 1) (addL asked limit l (nmAt k, id) size) (s.set k (s.getD k 0 + size)) ∧ (asked = true → s.getD k 0 + size ≤ limit)) ∨
    (∃ e, addE asked limit l (nmAt k, id) size = (false, e) ∧ addL asked limit l (nmAt k, id) size = l ∧ (e = 0 ∨ e = 17 ∨ (e = 11 ∧ asked = true ∧ ¬ s.getD k 0 + size ≤ limit))) := by
  have hu := h.use k hk
  have hl : ∀ (b : Bool) (e : Int), addE asked limit l (nmAt k, id) size = (b, e) → addL asked limit l (nmAt k, id) size = if b then l ++ [((nmAt k, id), size)] else l := fun b e he => by unfold addL; rw [he]
  have hE : addE asked limit l (nmAt k, id) size = (match getL (nmAt k, id) l with | some old => if old = size then (false, 0) else (false, 17) | none => if holdB asked limit (useOf l (nmAt k)) size then (if 65536 ≤ l.length then (false, 10) else (true, 0)) else (false, 11)) := by
    unfold addE
    rw [if_pos (nmAt_ok k).1, if_neg (by omega)]
    cases getL (nmAt k, id) l <;> rfl
  cases hg : getL (nmAt k, id) l with
  | some old =>
    rw [hg] at hE
    by_cases ho : old = size
    · simp only [ho, if_true] at hE
      exact .inr ⟨0, hE, hl _ _ hE, .inl rfl⟩
    · simp only [ho, if_false] at hE
      exact .inr ⟨17, hE, hl _ _ hE, .inr (.inl rfl)⟩
  | none =>
    rw [hg] at hE
    simp only [hu] at hE
    by_cases hh : holdB asked limit (s.getD k 0) size = true
    · simp only [hh, if_true] at hE
      rw [if_neg (by have := h.few; omega)] at hE
      refine .inl ⟨hE, ?_, fun ha => ?_⟩
      · rw [hl _ _ hE, if_pos rfl]
        refine ⟨by rw [List.length_set]; exact h.len, fun m hm => ?_, by have := h.few; simp; omega, fun m hm => ?_⟩
        · rw [useOf_append, h.use m hm, getD_set _ (by rw [h.len]; exact hk)]
          simp only [useOf, Int.add_zero]
          by_cases e : m = k
          · subst e; simp
          · rw [if_neg (fun h' => e (nmAt_inj hm hk h'.symm)), if_neg e]; omega
        · rw [getD_set _ (by rw [h.len]; exact hk)]
          have h1 := h.bnd m hm
          have h2 := h.bnd k hk
          split <;> omega
      · subst ha
        simpa [holdB] using hh
    · have hh' : holdB asked limit (s.getD k 0) size = false := by simpa using hh
      simp only [hh', Bool.false_eq_true, if_false] at hE
      refine .inr ⟨11, hE, hl _ _ hE, .inr (.inr ⟨rfl, ?_⟩)⟩
      cases asked
      · simp [holdB] at hh'
      · exact ⟨rfl, by simpa [holdB] using hh'⟩
end Go.Proofs.Ytcfcahflkhgapaa
