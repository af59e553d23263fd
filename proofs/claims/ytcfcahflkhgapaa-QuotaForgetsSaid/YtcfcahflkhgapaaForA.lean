/- QuotaForgets: what it says, without the program. -/
import Derived.Test.YtcfcahflkhgapaaSumA
namespace Go.Proofs.Ytcfcahflkhgapaa
set_option linter.unusedSimpArgs false
set_option linter.unusedVariables false
set_option linter.unnecessarySimpa false
set_option linter.unusedSectionVars false
open Go.RowKit

theorem keys_some {l : LinkL} {k : Key} : (getL k l).isSome = true ↔ k ∈ l.map (·.1) := by
  cases hg : getL k l with
  | none => simp [getL_none.1 hg]
  | some v =>
    simp only [Option.isSome_some, true_iff]
    exact Classical.byContradiction fun hn => by rw [getL_none.2 hn] at hg; cases hg
structure KeysIs (M : Key → Prop) (l : LinkL) (n : Nat) : Prop where
  nd : (l.map (·.1)).Nodup
  val : ∀ p ∈ l, p.2 = 7
  mem : ∀ k, k ∈ l.map (·.1) ↔ M k
  few : l.length ≤ n
theorem KeysIs.congr {M M' : Key → Prop} {l : LinkL} {n : Nat} (h : KeysIs M l n) (hm : ∀ k, M k ↔ M' k) : KeysIs M' l n := ⟨h.nd, h.val, fun k => (h.mem k).trans (hm k), h.few⟩
theorem KeysIs.lay {M : Key → Prop} {l : LinkL} {n : Nat} (h : KeysIs M l n) (hn : n < 65536) (k : Key) (hk : nameB k.1 = true) (limit : Int) : KeysIs (fun k' => M k' ∨ k' = k) (addL false limit l k 7) (n + 1) := by
  have hE : addE false limit l k 7 = (match getL k l with | some old => if old = 7 then (false, 0) else (false, 17) | none => if holdB false limit (useOf l k.1) 7 then (if 65536 ≤ l.length then (false, 10) else (true, 0)) else (false, 11)) := by
    unfold addE
    rw [if_pos hk, if_neg (by omega)]
    cases getL k l <;> rfl
  cases hg : getL k l with
  | some old =>
    have ho : old = 7 := h.val _ (getL_mem hg)
    rw [hg] at hE
    simp only [ho, if_true] at hE
    have hl : addL false limit l k 7 = l := by unfold addL; rw [hE]; rfl
    rw [hl]
    refine ⟨h.nd, h.val, fun k' => ⟨fun h' => .inl ((h.mem k').1 h'), fun h' => h'.elim (h.mem k').2 fun e => ?_⟩, by have := h.few; omega⟩
    rw [e]; exact keys_some.1 (by rw [hg]; rfl)
  | none =>
    rw [hg] at hE
    have hf := h.few
    have h1 : holdB false limit (useOf l k.1) 7 = true := by simp [holdB]
    simp only [h1, if_true] at hE
    rw [if_neg (by omega)] at hE
    have hl : addL false limit l k 7 = l ++ [(k, 7)] := by unfold addL; rw [hE]; rfl
    rw [hl]
    refine ⟨?_, fun p hp => ?_, fun k' => ?_, by simp; omega⟩
    · rw [List.map_append, List.nodup_append]
      refine ⟨h.nd, by simp, fun a ha b hb => ?_⟩
      simp at hb; subst hb; rintro rfl
      exact getL_none.1 hg ha
    · rcases List.mem_append.1 hp with hp | hp
      · exact h.val p hp
      · simp at hp; rw [hp]
    · rw [List.map_append, List.mem_append, h.mem]
      simp
/-- The keys behind n digests. -/
def FM (ids : List (List UInt8)) (n : Nat) (k : Key) : Prop := ∃ i, ∃ h : i < ids.length, i < n ∧ k.2 = ids[i] ∧ (k.1 = nmAt (i % 3) ∨ k.1 = nmAt (i / 3 % 3))
theorem FM_zero (ids : List (List UInt8)) (k : Key) : False ↔ FM ids 0 k := ⟨False.elim, fun ⟨_, _, h, _⟩ => by omega⟩
theorem FM_succ (ids : List (List UInt8)) (n : Nat) (hn : n < ids.length) (k : Key) : ((FM ids n k ∨ k = (nmAt (n % 3), ids[n])) ∨ k = (nmAt (n / 3 % 3), ids[n])) ↔ FM ids (n + 1) k := by
  constructor
  · rintro ((⟨i, hi, h1, h2, h3⟩ | h) | h)
    · exact ⟨i, hi, by omega, h2, h3⟩
    · exact ⟨n, hn, by omega, by rw [h], .inl (by rw [h])⟩
    · exact ⟨n, hn, by omega, by rw [h], .inr (by rw [h])⟩
  · rintro ⟨i, hi, h1, h2, h3⟩
    by_cases e : i = n
    · subst e
      rcases h3 with h3 | h3
      · exact .inl (.inr (Prod.ext h3 h2))
      · exact .inr (Prod.ext h3 h2)
    · exact .inl (.inl ⟨i, hi, by omega, h2, h3⟩)
theorem useOf_filter (f : Key × Int → Bool) : ∀ (l : LinkL) (r : ByteArray), useOf l r = useOf (l.filter f) r + useOf (l.filter fun p => !f p) r
  | [], r => by simp [useOf]
  | p :: l, r => by
    have ih := useOf_filter f l r
    simp only [useOf, List.filter_cons]
    cases f p <;> simp [useOf] <;> omega
theorem useOf_key {l : LinkL} (hv : ∀ p ∈ l, p.2 = 7) (x : List UInt8) (r : ByteArray) : useOf (l.filter fun p => decide (p.1.2 = x)) r = 7 * ((l.filter fun p => decide (p.1 = (r, x))).length : Int) := by
  induction l with
  | nil => simp [useOf]
  | cons p l ih =>
    have ih := ih fun q hq => hv q (by simp [hq])
    have hp := hv p (by simp)
    simp only [List.filter_cons]
    by_cases h1 : p.1.2 = x
    · by_cases h2 : p.1.1 = r
      · have h3 : p.1 = (r, x) := Prod.ext h2 h1
        simp only [h3, decide_true, if_true, useOf, ih, hp]
        simp
        omega
      · have h3 : ¬ p.1 = (r, x) := fun e => h2 (by rw [e])
        simp only [h1, h3, decide_true, decide_false, if_true, useOf, ih, if_neg h2]
        simp
    · have h3 : ¬ p.1 = (r, x) := fun e => h1 (by rw [e])
      simp only [h1, h3, decide_false, Bool.false_eq_true, if_false]
      exact ih
theorem useOf_forget {l : LinkL} (hv : ∀ p ∈ l, p.2 = 7) (hn : (l.map (·.1)).Nodup) (x : List UInt8) (r : ByteArray) : useOf l r = useOf (forgetL l x) r + 7 * (if (getL (r, x) l).isSome then 1 else 0) := by
  rw [useOf_filter (fun p => decide (p.1.2 ≠ x)) l r]
  have e : (l.filter fun p => !decide (p.1.2 ≠ x)) = l.filter fun p => decide (p.1.2 = x) := by
    apply List.filter_congr
    intro p _
    simp
  rw [e, useOf_key hv, count_key hn]
  unfold forgetL
  split <;> simp
def nms (m : Nat) : List ByteArray := (List.range m).map nmAt
theorem nms_succ (m : Nat) : nms (m + 1) = nms m ++ [nmAt m] := by simp [nms, List.range_succ]
theorem nms_not {m : Nat} (h : m < 4) : nmAt m ∉ nms m := by
  intro hm
  obtain ⟨i, hi, e⟩ := List.mem_map.1 hm
  have hi := List.mem_range.1 hi
  have := nmAt_inj (by omega) h e
  omega
def sumU (l : LinkL) : Nat → Int
  | 0 => 0
  | m + 1 => sumU l m + useOf l (nmAt m)
theorem many_succ {l : LinkL} (x : List UInt8) {m : Nat} (h : m < 4) (hn : (l.map (·.1)).Nodup) : fgN l x (nms (m + 1)) = fgN l x (nms m) + (if (getL (nmAt m, x) l).isSome then 1 else 0) := by
  rw [nms_succ]; exact fgN_snoc l x (nms m) (nmAt m) (nms_not h) hn
theorem sumU_forget {l : LinkL} (hv : ∀ p ∈ l, p.2 = 7) (hn : (l.map (·.1)).Nodup) (x : List UInt8) : ∀ m, m ≤ 4 → sumU (forgetL l x) m = sumU l m - 7 * (fgN l x (nms m) : Int)
  | 0, _ => by simp [sumU, nms, fgN_nil]
  | m + 1, h => by
    have ih := sumU_forget hv hn x m (by omega)
    have h1 := useOf_forget hv hn x (nmAt m)
    rw [many_succ x (by omega) hn]
    simp only [sumU, ih]
    split at h1 <;> rename_i hs <;> simp only [hs, if_true, if_false, Bool.false_eq_true] <;> omega
theorem FM.repo {ids : List (List UInt8)} {n : Nat} {k : Key} (h : FM ids n k) : hasR (nms 3) k.1 = true := by
  obtain ⟨i, _, _, _, h⟩ := h
  rw [hasR_iff]
  rcases h with h | h
  · rw [h]; exact List.mem_map.2 ⟨i % 3, List.mem_range.2 (by omega), rfl⟩
  · rw [h]; exact List.mem_map.2 ⟨i / 3 % 3, List.mem_range.2 (by omega), rfl⟩
theorem forgetN_many {ids : List (List UInt8)} {n m : Nat} {l : LinkL} (h : KeysIs (FM ids n) l m) (x : List UInt8) : forgetN l x = fgN l x (nms 3) := by
  unfold forgetN fgN
  congr 1
  apply List.filter_congr
  intro p hp
  have := FM.repo ((h.mem p.1).1 (List.mem_map.2 ⟨p, hp, rfl⟩))
  simp [this]
theorem d_none {ids : List (List UInt8)} {n m : Nat} {l : LinkL} (h : KeysIs (FM ids n) l m) (x : List UInt8) : getL (dN, x) l = none ∧ useOf l dN = 0 := by
  have hno : ∀ k ∈ l.map (·.1), k.1 ≠ dN := fun k hk e => by
    have := FM.repo ((h.mem k).1 hk)
    rw [hasR_iff, e] at this
    exact nms_not (m := 3) (by omega) this
  refine ⟨getL_none.2 fun hm => hno _ hm rfl, ?_⟩
  apply useOf_none
  rcases Nat.eq_zero_or_pos (cntOf l dN) with h0 | h0
  · exact h0
  · obtain ⟨p, hp, e⟩ := cntOf_pos h0
    exact absurd e (hno _ (List.mem_map.2 ⟨p, hp, rfl⟩))
theorem d_link {ids : List (List UInt8)} {n m : Nat} {l : LinkL} (h : KeysIs (FM ids n) l m) (hm : m < 65536) (x : List UInt8) :
    addE true 1099511627776 l (dN, x) 3 = (true, 0) ∧ addL true 1099511627776 l (dN, x) 3 = l ++ [((dN, x), 3)] := by
  have hd := d_none h x
  have hE : addE true 1099511627776 l (dN, x) 3 = (true, 0) := by
    unfold addE
    rw [if_pos (by kernel_rfl), if_neg (by omega), hd.1]
    have h1 : holdB true 1099511627776 (useOf l dN) 3 = true := by rw [hd.2]; rfl
    show (if holdB true 1099511627776 (useOf l dN) 3 then (if 65536 ≤ l.length then (false, 10) else (true, 0)) else (false, 11)) = ((true, 0) : Bool × Int)
    rw [if_pos h1, if_neg (by have := h.few; omega)]
  refine ⟨hE, ?_⟩
  unfold addL
  rw [hE]; rfl
theorem d_un {l : LinkL} {k : Key} (hn : (l.map (·.1)).Nodup) (hg : getL k l = none) : getL k (l ++ [(k, 3)]) = some 3 ∧ unL (l ++ [(k, 3)]) k = l ∧ unL l k = l := by
  have hk := getL_none.1 hg
  have hn' : ((l ++ [(k, 3)] : LinkL).map (·.1)).Nodup := by
    rw [List.map_append, List.nodup_append]
    refine ⟨hn, by simp, fun a ha b hb => ?_⟩
    simp at hb; subst hb; rintro rfl; exact hk ha
  have hf : l.filter (fun p => decide (p.1 ≠ k)) = l := List.filter_eq_self.2 fun q hq => by
    have h1 : q.1 ≠ k := fun e => hk (e ▸ List.mem_map.2 ⟨q, hq, rfl⟩)
    simpa using h1
  refine ⟨getL_of_mem hn' (by simp), ?_, ?_⟩
  · rw [unL_filter _ _ hn', List.filter_append, hf]; simp
  · rw [unL_filter _ _ hn, hf]
theorem forget_twice (l : LinkL) (x : List UInt8) : forgetN (forgetL l x) x = 0 ∧ forgetL (forgetL l x) x = forgetL l x := by
  constructor
  · unfold forgetN forgetL
    rw [List.filter_filter]
    apply List.length_eq_zero_iff.2
    apply List.filter_eq_nil_iff.2
    intro p _
    simp
  · unfold forgetL
    rw [List.filter_filter]
    apply List.filter_congr
    intro p _
    simp
theorem forget_has {l : LinkL} {x : List UInt8} (k : Key) : (getL k (forgetL l x)).isSome = (decide (k.2 ≠ x) && (getL k l).isSome) := by
  rw [Bool.eq_iff_iff, keys_some]
  simp only [Bool.and_eq_true, keys_some, decide_eq_true_eq, forgetL, List.mem_map, List.mem_filter]
  constructor
  · rintro ⟨p, ⟨h1, h2⟩, rfl⟩; exact ⟨h2, p, h1, rfl⟩
  · rintro ⟨h2, p, h1, rfl⟩; exact ⟨p, ⟨h1, h2⟩, rfl⟩
theorem FM.has1 {ids : List (List UInt8)} {i : Nat} (h : i < ids.length) : FM ids ids.length (nmAt (i % 3), ids[i]) := ⟨i, h, h, rfl, .inl rfl⟩
theorem FM.has2 {ids : List (List UInt8)} {i : Nat} (h : i < ids.length) : FM ids ids.length (nmAt (i / 3 % 3), ids[i]) := ⟨i, h, h, rfl, .inr rfl⟩
end Go.Proofs.Ytcfcahflkhgapaa
