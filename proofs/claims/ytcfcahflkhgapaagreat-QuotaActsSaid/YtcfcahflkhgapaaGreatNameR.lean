/- A repository's name by the document's definition is one by the program's states, in plain words. -/
import Derived.Test.YtcfcahflkhgapaaGreatNameB
namespace Go.Proofs.YtcfcahflkhgapaaGreat
set_option linter.unusedSimpArgs false
set_option linter.unusedVariables false
set_option linter.unnecessarySimpa false
set_option linter.unusedSectionVars false
open Go.RowKit

/-- The byte so many places ahead of a place; where there is none: 47. -/
def backB (s : ByteArray) (pos k : Nat) : Int := if k ≤ pos then ((s.get! (pos - k)).toNat : Int) else 47
def goesB (last ahead c : Int) : Bool :=
  if wordB c then true else if last = 47 ∨ last = 46 then false else if wordB last then decide (c = 46 ∨ c = 95 ∨ c = 45 ∨ c = 47) else if last = 95 then decide (c = 95 ∧ ahead ≠ 95) else decide (c = 45)
/-- The document's way through a text. -/
def refRun (s : ByteArray) : Nat → Nat → Int → Bool
  | 0, _, _ => true
  | f + 1, pos, parts => if pos < s.size then
      if goesB (backB s pos 1) (backB s pos 2) (Utf8.decode s pos).1 && decide ((if ((Utf8.decode s pos).1 : Int) = 47 then parts + 1 else parts) ≤ 8) then refRun s f (pos + (Utf8.decode s pos).2) (if ((Utf8.decode s pos).1 : Int) = 47 then parts + 1 else parts) else false
    else true
def refNameB (s : ByteArray) : Bool := decide (s.size ≤ 128) && (refRun s s.size 0 1 && (decide (s.size ≠ 0) && wordB (backB s s.size 1)))

theorem decode_low (s : ByteArray) (i : Nat) (h : (Utf8.decode s i).1 < 128) : Utf8.decode s i = ((s.get! i).toNat, 1) := by
  unfold Utf8.decode at h ⊢
  simp only [Nat.add_zero, Utf8.runeError] at h ⊢
  split
  · rfl
  · rename_i h0
    simp only [h0, if_false] at h
    split at h
    · split at h
      · omega
      · simp only at h; omega
    · split at h
      · split at h
        · rename_i h1; simp only [Bool.and_eq_true, decide_eq_true_eq] at h1; omega
        · simp only at h; omega
      · split at h
        · split at h
          · rename_i h1; simp only [Bool.and_eq_true, decide_eq_true_eq] at h1; omega
          · simp only at h; omega
        · simp only at h; omega

structure NRel (s : ByteArray) (pos : Nat) (k : Kd) (n parts : Int) : Prop where
  parts : parts = 8 - n
  left : 0 ≤ n ∧ n ≤ 7
  kind : match k with
    | .word => backB s pos 1 = 47 ∨ backB s pos 1 = 46 ∨ (backB s pos 1 = 95 ∧ backB s pos 2 = 95)
    | .inside => wordB (backB s pos 1) = true
    | .second => backB s pos 1 = 95 ∧ backB s pos 2 ≠ 95
    | .dashes => backB s pos 1 = 45
theorem wordB_iff (c : Int) : wordB c = true ↔ (97 ≤ c ∧ c ≤ 122) ∨ (48 ≤ c ∧ c ≤ 57) := by simp [wordB]
theorem wordB_not (c : Int) : wordB c = false ↔ ¬ ((97 ≤ c ∧ c ≤ 122) ∨ (48 ≤ c ∧ c ≤ 57)) := by rw [← wordB_iff]; simp
theorem backB_one {s : ByteArray} {pos : Nat} : backB s (pos + 1) 1 = ((s.get! pos).toNat : Int) := by simp [backB]
theorem backB_two {s : ByteArray} {pos : Nat} : backB s (pos + 1) 2 = backB s pos 1 := by
  unfold backB
  rcases Nat.eq_zero_or_pos pos with rfl | h
  · simp
  · rw [if_pos (by omega), if_pos (by omega), show pos + 1 - 2 = pos - 1 by omega]
theorem goes_none {s : ByteArray} {pos : Nat} {k : Kd} {n parts c : Int} (h : NRel s pos k n parts) (hs : stepS k n c = none) : (goesB (backB s pos 1) (backB s pos 2) c && decide ((if c = 47 then parts + 1 else parts) ≤ 8)) = false := by
  have hp := h.parts; have hl := h.left; have hk := h.kind
  have hw : wordB c = false := by
    cases hc : wordB c with
    | false => rfl
    | true => cases k <;> simp [stepS, stepW, hc] at hs <;> (repeat' split at hs) <;> simp_all
  have hw' := (wordB_not c).1 hw
  cases k with
  | word =>
    simp only at hk
    have : goesB (backB s pos 1) (backB s pos 2) c = false := by
      unfold goesB
      rw [if_neg (by simp [hw])]
      rcases hk with hk | hk | ⟨hk, hk2⟩
      · rw [if_pos (.inl hk)]
      · rw [if_pos (.inr hk)]
      · rw [hk, hk2]; simp [wordB]
    simp [this]
  | inside =>
    simp only at hk
    have hk' := (wordB_iff _).1 hk
    simp only [stepS] at hs
    unfold goesB
    rw [if_neg (by simp [hw]), if_neg (by omega), if_pos hk]
    split at hs
    · cases hs
    · split at hs
      · cases hs
      · split at hs
        · cases hs
        · split at hs
          · cases hs
          · rename_i h1 h2 h3 h4
            by_cases h47 : c = 47
            · have : ¬ 0 < n := fun h => h1 ⟨h47, h⟩
              rw [if_pos h47]
              simp only [Bool.and_eq_false_iff, decide_eq_false_iff_not]; right; omega
            · simp [h47, h2, h3, h4]
  | second =>
    simp only at hk
    simp only [stepS] at hs
    unfold goesB
    rw [if_neg (by simp [hw]), if_neg (by omega), if_neg (by rw [hk.1]; simp [wordB]), if_pos hk.1]
    split at hs
    · cases hs
    · rename_i h1; simp [h1]
  | dashes =>
    simp only at hk
    simp only [stepS] at hs
    unfold goesB
    rw [if_neg (by simp [hw]), if_neg (by omega), if_neg (by rw [hk]; simp [wordB]), if_neg (by omega)]
    split at hs
    · cases hs
    · rename_i h1; simp [h1]
theorem goes_some {s : ByteArray} {pos : Nat} {k : Kd} {n parts c : Int} {r : Kd × Int} (h : NRel s pos k n parts) (hc : c = ((s.get! pos).toNat : Int)) (hs : stepS k n c = some r) :
    (goesB (backB s pos 1) (backB s pos 2) c && decide ((if c = 47 then parts + 1 else parts) ≤ 8)) = true ∧ NRel s (pos + 1) r.1 r.2 (if c = 47 then parts + 1 else parts) := by
  have hp := h.parts; have hl := h.left; have hk := h.kind
  have hb1 : backB s (pos + 1) 1 = c := by rw [backB_one, hc]
  have hb2 : backB s (pos + 1) 2 = backB s pos 1 := backB_two
  have hword : wordB c = true → r = (.inside, n) → (goesB (backB s pos 1) (backB s pos 2) c && decide ((if c = 47 then parts + 1 else parts) ≤ 8)) = true ∧ NRel s (pos + 1) r.1 r.2 (if c = 47 then parts + 1 else parts) := by
    intro hw hr
    have hw' := (wordB_iff c).1 hw
    have h47 : c ≠ 47 := by omega
    subst hr
    refine ⟨?_, ?_⟩
    · unfold goesB; rw [if_pos hw]; simp [h47]; omega
    · rw [if_neg h47]; exact ⟨hp, hl, by simp only; rw [hb1]; exact hw⟩
  have hstep : stepW n c = some r → (goesB (backB s pos 1) (backB s pos 2) c && decide ((if c = 47 then parts + 1 else parts) ≤ 8)) = true ∧ NRel s (pos + 1) r.1 r.2 (if c = 47 then parts + 1 else parts) := by
    intro h1
    unfold stepW at h1
    split at h1
    · rename_i hw; exact hword hw (Option.some.inj h1).symm
    · cases h1
  cases k with
  | word => exact hstep hs
  | inside =>
    simp only at hk
    have hk' := (wordB_iff _).1 hk
    have hgo : ¬ wordB c = true → goesB (backB s pos 1) (backB s pos 2) c = decide (c = 46 ∨ c = 95 ∨ c = 45 ∨ c = 47) := by
      intro hw
      unfold goesB
      rw [if_neg hw, if_neg (by omega), if_pos hk]
    simp only [stepS] at hs
    split at hs
    · rename_i h1
      obtain rfl := Option.some.inj hs
      refine ⟨?_, ?_⟩
      · rw [hgo (by rw [h1.1]; simp [wordB]), if_pos h1.1]; simp [h1.1]; omega
      · rw [if_pos h1.1]; exact ⟨by simp only; omega, by simp only; omega, by simp only; rw [hb1]; exact .inl h1.1⟩
    · split at hs
      · rename_i h1
        obtain rfl := Option.some.inj hs
        refine ⟨?_, ?_⟩
        · rw [hgo (by rw [h1]; simp [wordB]), if_neg (by omega)]; simp [h1]; omega
        · rw [if_neg (by omega)]; exact ⟨hp, hl, by simp only; rw [hb1]; exact .inr (.inl h1)⟩
      · split at hs
        · rename_i h1
          obtain rfl := Option.some.inj hs
          refine ⟨?_, ?_⟩
          · rw [hgo (by rw [h1]; simp [wordB]), if_neg (by omega)]; simp [h1]; omega
          · rw [if_neg (by omega)]; exact ⟨hp, hl, by simp only; rw [hb1, hb2]; exact ⟨h1, by omega⟩⟩
        · split at hs
          · rename_i h1
            obtain rfl := Option.some.inj hs
            refine ⟨?_, ?_⟩
            · rw [hgo (by rw [h1]; simp [wordB]), if_neg (by omega)]; simp [h1]; omega
            · rw [if_neg (by omega)]; exact ⟨hp, hl, by simp only; rw [hb1]; exact h1⟩
          · exact hstep hs
  | second =>
    simp only at hk
    simp only [stepS] at hs
    split at hs
    · rename_i h1
      obtain rfl := Option.some.inj hs
      refine ⟨?_, ?_⟩
      · unfold goesB
        rw [if_neg (by rw [h1]; simp [wordB]), if_neg (by omega), if_neg (by rw [hk.1]; simp [wordB]), if_pos hk.1, if_neg (by omega)]
        simp [h1, hk.2]; omega
      · rw [if_neg (by omega)]; exact ⟨hp, hl, by simp only; rw [hb1, hb2]; exact .inr (.inr ⟨h1, hk.1⟩)⟩
    · exact hstep hs
  | dashes =>
    simp only at hk
    simp only [stepS] at hs
    split at hs
    · rename_i h1
      obtain rfl := Option.some.inj hs
      refine ⟨?_, ?_⟩
      · unfold goesB
        rw [if_neg (by rw [h1]; simp [wordB]), if_neg (by omega), if_neg (by rw [hk]; simp [wordB]), if_neg (by omega), if_neg (by omega)]
        simp [h1]; omega
      · rw [if_neg (by omega)]; exact ⟨hp, hl, by simp only; rw [hb1]; exact h1⟩
    · exact hstep hs
theorem stepS_ascii {k : Kd} {n : Int} {c : Nat} {r : Kd × Int} (h : stepS k n c = some r) : c < 128 := by
  have hw : stepW n c = some r → c < 128 := by
    intro h1
    unfold stepW at h1
    split at h1
    · rename_i hw; have := (wordB_iff _).1 hw; omega
    · cases h1
  cases k <;> simp only [stepS] at h
  · exact hw h
  · split at h
    · omega
    · split at h
      · omega
      · split at h
        · omega
        · split at h
          · omega
          · exact hw h
  · split at h
    · omega
    · exact hw h
  · split at h
    · omega
    · exact hw h
theorem refRun_eq (s : ByteArray) : ∀ (f pos : Nat) (k : Kd) (n parts : Int), NRel s pos k n parts → pos ≤ s.size → s.size - pos ≤ f → (refRun s f pos parts && wordB (backB s s.size 1)) = endsB (nameRun s f pos k n) := by
  have hend : ∀ (k : Kd) (n parts : Int), NRel s s.size k n parts → wordB (backB s s.size 1) = kdEnds k := by
    intro k n parts h
    have hk := h.kind
    cases k with
    | word => simp only at hk; rcases hk with hk | hk | ⟨hk, _⟩ <;> rw [hk] <;> rfl
    | inside => exact hk
    | second => simp only at hk; rw [hk.1]; rfl
    | dashes => simp only at hk; rw [hk]; rfl
  intro f
  induction f with
  | zero =>
    intro pos k n parts h hp hf
    obtain rfl : pos = s.size := by omega
    simp [refRun, nameRun, endsB, hend k n parts h]
  | succ f ih =>
    intro pos k n parts h hp hf
    by_cases hlt : pos < s.size
    · rw [nameRun_step s f pos k n hlt]
      simp only [refRun, if_pos hlt]
      cases hs : stepS k n ((Utf8.decode s pos).1 : Int) with
      | none =>
        have := goes_none h hs
        rw [this]; simp [endsB]
      | some r =>
        have hd := decode_low s pos (stepS_ascii hs)
        rw [hd] at hs ⊢
        obtain ⟨h1, h2⟩ := goes_some h rfl hs
        simp only at h1 h2 ⊢
        rw [h1, if_pos rfl]
        exact ih (pos + 1) r.1 r.2 _ h2 (by omega) (by omega)
    · obtain rfl : pos = s.size := by omega
      rw [nameRun_end s _ _ k n hlt]
      simp [refRun, endsB, hend k n parts h]
theorem refName_eq (s : ByteArray) : refNameB s = nameB s := by
  unfold refNameB nameB
  congr 1
  have h0 : NRel s 0 .word 7 1 := ⟨by omega, by omega, by simp [backB]⟩
  rw [← refRun_eq s s.size 0 .word 7 1 h0 (by omega) (by omega)]
  by_cases h : s.size = 0
  · have : wordB (backB s s.size 1) = false := by rw [h]; rfl
    rw [this]; simp
  · simp [h]
end Go.Proofs.YtcfcahflkhgapaaGreat
