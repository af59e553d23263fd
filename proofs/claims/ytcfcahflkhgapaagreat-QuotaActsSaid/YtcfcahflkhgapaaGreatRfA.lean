/- The document's links: a sorted list beside any other order. -/
import Derived.Test.YtcfcahflkhgapaaGreatQK
import Derived.Test.YtcfcahflkhgapaaGreatQL
import Derived.Test.YtcfcahflkhgapaaGreatQI
namespace Go.Proofs.YtcfcahflkhgapaaGreat
set_option linter.unusedSimpArgs false
set_option linter.unusedVariables false
set_option linter.unnecessarySimpa false
set_option linter.unusedSectionVars false
open Go.RowKit

theorem sorted_ext {α : Type} {lt : α → α → Prop} (hi : ∀ a, ¬ lt a a) (ht : ∀ {a b c}, lt a b → lt b c → lt a c) {l m : List α} (hl : l.Pairwise lt) (hm : m.Pairwise lt) (h : ∀ x, x ∈ l ↔ x ∈ m) : l = m := by
  have n1 : l.Nodup := List.nodup_iff_pairwise_ne.2 (hl.imp fun {a b} hab e => by subst e; exact hi _ hab)
  have n2 : m.Nodup := List.nodup_iff_pairwise_ne.2 (hm.imp fun {a b} hab e => by subst e; exact hi _ hab)
  have hp := (List.perm_ext_iff_of_nodup n1 n2).2 h
  exact hp.eq_of_pairwise (fun a b _ _ h1 h2 => absurd (ht h1 h2) (hi a)) hl hm
theorem ba_trans {a b c : ByteArray} (h : a.data.toList < b.data.toList) (k : b.data.toList < c.data.toList) : a.data.toList < c.data.toList := List.lt_trans h k
theorem repos_uniq {l : LinkL} {a b : List ByteArray} (h : ReposOf l a) (k : ReposOf l b) : a = b :=
  sorted_ext (lt := fun a b : ByteArray => a.data.toList < b.data.toList) (fun _ => List.lt_irrefl _) ba_trans h.1 k.1 (fun x => (h.2 x).trans (k.2 x).symm)
theorem ids_uniq {l : LinkL} {r : ByteArray} {a b : List (List UInt8)} (h : IDsOf l r a) (k : IDsOf l r b) : a = b :=
  sorted_ext (lt := fun a b : List UInt8 => a < b) (fun _ => List.lt_irrefl _) ltB_trans h.1 k.1 (fun x => (h.2 x).trans (k.2 x).symm)

/-- Where a key stands, or would. -/
def posL (k : Key) : LinkL → Nat
  | [] => 0
  | p :: l => if cmpK p.1 k < 0 then posL k l + 1 else 0
abbrev SortedL (r : LinkL) : Prop := r.Pairwise fun p q => ltK p.1 q.1
theorem posL_le (k : Key) : ∀ r : LinkL, posL k r ≤ r.length
  | [] => by simp [posL]
  | p :: r => by
    have := posL_le k r
    simp only [posL, List.length_cons]
    split <;> omega
theorem posL_lt (k : Key) : ∀ (r : LinkL) (i : Nat) (h : i < r.length), i < posL k r → cmpK r[i].1 k < 0
  | p :: r, i, h, hi => by
    simp only [posL] at hi
    split at hi
    · rename_i hp
      cases i with
      | zero => exact hp
      | succ i => exact posL_lt k r i (by simpa using h) (by omega)
    · omega
theorem posL_ge (k : Key) : ∀ (r : LinkL) (h : posL k r < r.length), ¬ cmpK r[posL k r].1 k < 0
  | p :: r, h => by
    by_cases hp : cmpK p.1 k < 0
    · have e : posL k (p :: r) = posL k r + 1 := by simp [posL, hp]
      have h' : posL k r < r.length := by rw [e] at h; simpa using h
      have := posL_ge k r h'
      simpa only [e, List.getElem_cons_succ] using this
    · have e : posL k (p :: r) = 0 := by simp [posL, hp]
      simpa only [e, List.getElem_cons_zero] using hp
/-- A place that has the property of the loop's end is the one. -/
theorem posL_eq {k : Key} {r : LinkL} {i : Nat} (hi : i ≤ r.length) (h1 : ∀ j (h : j < r.length), j < i → cmpK r[j].1 k < 0) (h2 : ∀ h : i < r.length, ¬ cmpK r[i].1 k < 0) : posL k r = i := by
  rcases Nat.lt_trichotomy (posL k r) i with h | h | h
  · exact absurd (h1 _ (by omega) h) (posL_ge k r (by omega))
  · exact h
  · have := posL_le k r
    exact absurd (posL_lt k r i (by omega) h) (h2 (by omega))
theorem SortedL.nodup {r : LinkL} (h : SortedL r) : (r.map (·.1)).Nodup := by
  rw [List.nodup_iff_pairwise_ne, List.pairwise_map]
  exact h.imp fun {a b} hab (e : a.1 = b.1) => ltK_irrefl b.1 (by rw [e] at hab; exact hab)
/-- Is the key at its place? -/
def isL (k : Key) (r : LinkL) : Bool := match r[posL k r]? with | some p => decide (p.1 = k) | none => false
theorem SortedL.at {r : LinkL} (h : SortedL r) (k : Key) : ∀ x, getL k r = some x ↔ r[posL k r]? = some (k, x) := by
  intro x
  constructor
  · intro hg
    obtain ⟨i, hi, e⟩ := List.getElem_of_mem (getL_mem hg)
    have hp : posL k r = i := by
      refine posL_eq (by omega) (fun j hj hji => ?_) (fun _ => ?_)
      · have := List.pairwise_iff_getElem.1 h j i hj hi hji
        rw [cmpK_neg]; rw [e] at this; exact this
      · rw [cmpK_neg, e]; exact ltK_irrefl _
    rw [hp, List.getElem?_eq_getElem hi, e]
  · intro hg
    exact getL_of_mem h.nodup (List.mem_of_getElem? hg)
theorem SortedL.isSome {r : LinkL} (h : SortedL r) (k : Key) : isL k r = (getL k r).isSome := by
  unfold isL
  cases hq : r[posL k r]? with
  | none =>
    cases hg : getL k r with
    | none => rfl
    | some x => rw [(h.at k x).1 hg] at hq; cases hq
  | some p =>
    by_cases hp : p.1 = k
    · have : r[posL k r]? = some (k, p.2) := by rw [hq, ← hp]
      rw [(h.at k p.2).2 this]; simp [hp]
    · cases hg : getL k r with
      | none => simp [hp]
      | some x => rw [(h.at k x).1 hg] at hq; cases hq; exact absurd rfl hp
/-- The list with a key more, without one. -/
def insL (k : Key) (x : Int) (r : LinkL) : LinkL := r.take (posL k r) ++ (k, x) :: r.drop (posL k r)
theorem SortedL.ins {r : LinkL} (h : SortedL r) {k : Key} (x : Int) (hg : getL k r = none) : SortedL (insL k x r) := by
  have hk := getL_none.1 hg
  have h1 : SortedL (r.take (posL k r)) := h.sublist (List.take_sublist _ _)
  have h2 : SortedL (r.drop (posL k r)) := h.sublist (List.drop_sublist _ _)
  have ha : ∀ p ∈ r.take (posL k r), ltK p.1 k := fun p hp => by
    obtain ⟨i, hi, e⟩ := List.getElem_of_mem hp
    have hi' : i < posL k r ∧ i < r.length := by simp at hi; omega
    rw [List.getElem_take] at e
    rw [← e, ← cmpK_neg]
    exact posL_lt k r i hi'.2 hi'.1
  have hb : ∀ p ∈ r.drop (posL k r), ltK k p.1 := fun p hp => by
    obtain ⟨i, hi, e⟩ := List.getElem_of_mem hp
    have hi' : posL k r + i < r.length := by simp at hi; omega
    rw [List.getElem_drop] at e
    have hp0 : posL k r < r.length := by omega
    have h0 := posL_ge k r hp0
    rw [cmpK_neg] at h0
    have hne : r[posL k r].1 ≠ k := fun e => hk (e ▸ List.mem_map.2 ⟨_, List.getElem_mem hp0, rfl⟩)
    have h3 : ltK k r[posL k r].1 := by
      rcases ltK_tri r[posL k r].1 k with h | h | h
      · exact absurd h h0
      · exact absurd h hne
      · exact h
    rw [← e]
    rcases Nat.eq_zero_or_pos i with rfl | hi0
    · exact h3
    · exact ltK_trans h3 (List.pairwise_iff_getElem.1 h (posL k r) (posL k r + i) hp0 hi' (by omega))
  show List.Pairwise _ (r.take (posL k r) ++ (k, x) :: r.drop (posL k r))
  rw [List.pairwise_append, List.pairwise_cons]
  refine ⟨h1, ⟨hb, h2⟩, fun p hp q hq => ?_⟩
  rcases List.mem_cons.1 hq with rfl | hq
  · exact ha p hp
  · exact ltK_trans (ha p hp) (hb q hq)
theorem ins_perm (k : Key) (x : Int) (r : LinkL) : (insL k x r).Perm (r ++ [(k, x)]) := by
  unfold insL
  refine List.perm_middle.trans ?_
  rw [List.take_append_drop]
  exact (List.perm_append_singleton _ _).symm
theorem SortedL.erase {r : LinkL} (h : SortedL r) {k : Key} (hg : (getL k r).isSome = true) : r.eraseIdx (posL k r) = r.filter fun p => decide (p.1 ≠ k) := by
  cases hx : getL k r with
  | none => rw [hx] at hg; cases hg
  | some x =>
    have hq := (h.at k x).1 hx
    obtain ⟨hp, e⟩ := List.getElem?_eq_some_iff.1 hq
    have h1 : ∀ p ∈ r.take (posL k r), p.1 ≠ k := fun p hp' e' => by
      obtain ⟨i, hi, e2⟩ := List.getElem_of_mem hp'
      have hi' : i < posL k r ∧ i < r.length := by simp at hi; omega
      rw [List.getElem_take] at e2
      have := posL_lt k r i hi'.2 hi'.1
      rw [cmpK_neg, e2, e'] at this
      exact ltK_irrefl _ this
    have h2 : ∀ p ∈ r.drop (posL k r + 1), p.1 ≠ k := fun p hp' e' => by
      obtain ⟨i, hi, e2⟩ := List.getElem_of_mem hp'
      have hi' : posL k r + 1 + i < r.length := by simp at hi; omega
      rw [List.getElem_drop] at e2
      have := List.pairwise_iff_getElem.1 h (posL k r) (posL k r + 1 + i) hp hi' (by omega)
      rw [e2, e, e'] at this
      exact ltK_irrefl _ this
    rw [List.eraseIdx_eq_take_drop_succ]
    conv => rhs; rw [← List.take_append_drop (posL k r) r, ← List.getElem_cons_drop hp, e]
    rw [List.filter_append, List.filter_cons]
    rw [if_neg (by simp), List.filter_eq_self.2 (fun p hp => by simpa using h1 p hp), List.filter_eq_self.2 (fun p hp => by simpa using h2 p hp)]

/-- r is l, sorted. -/
structure RefOf (r l : LinkL) : Prop where
  sorted : SortedL r
  perm : r.Perm l
theorem useOf_perm {r l : LinkL} (h : r.Perm l) (n : ByteArray) : useOf r n = useOf l n := by
  induction h with
  | nil => rfl
  | cons x _ ih => simp only [useOf, ih]
  | swap x y l => simp only [useOf]; omega
  | trans _ _ h1 h2 => rw [h1, h2]
theorem cntOf_perm {r l : LinkL} (h : r.Perm l) (n : ByteArray) : cntOf r n = cntOf l n := by
  induction h with
  | nil => rfl
  | cons x _ ih => simp only [cntOf, ih]
  | swap x y l => simp only [cntOf]; omega
  | trans _ _ h1 h2 => rw [h1, h2]
theorem RefOf.nodup {r l : LinkL} (h : RefOf r l) : (l.map (·.1)).Nodup := (h.perm.map _).nodup_iff.1 h.sorted.nodup
theorem RefOf.get {r l : LinkL} (h : RefOf r l) (k : Key) : getL k r = getL k l := by
  have hm : ∀ x, getL k r = some x ↔ getL k l = some x := fun x =>
    ⟨fun hg => getL_of_mem h.nodup (h.perm.mem_iff.1 (getL_mem hg)), fun hg => getL_of_mem h.sorted.nodup (h.perm.mem_iff.2 (getL_mem hg))⟩
  cases hr : getL k r with
  | some x => exact ((hm x).1 hr).symm
  | none =>
    cases hl : getL k l with
    | none => rfl
    | some x => rw [(hm x).2 hl] at hr; cases hr
theorem RefOf.addE {r l : LinkL} (h : RefOf r l) (asked : Bool) (limit : Int) (k : Key) (x : Int) : addE asked limit r k x = addE asked limit l k x := by
  unfold Go.Proofs.YtcfcahflkhgapaaGreat.addE
  rw [h.get k, useOf_perm h.perm, h.perm.length_eq]
def addR (asked : Bool) (limit : Int) (r : LinkL) (k : Key) (x : Int) : LinkL := if (addE asked limit r k x).1 then insL k x r else r
theorem addE_none {asked : Bool} {limit : Int} {l : LinkL} {k : Key} {x : Int} (h : (addE asked limit l k x).1 = true) : getL k l = none := by
  unfold Go.Proofs.YtcfcahflkhgapaaGreat.addE at h
  split at h
  · split at h
    · cases h
    · cases hg : getL k l with
      | none => rfl
      | some old => rw [hg] at h; simp only at h; split at h <;> cases h
  · cases h
theorem RefOf.add {r l : LinkL} (h : RefOf r l) (asked : Bool) (limit : Int) (k : Key) (x : Int) : RefOf (addR asked limit r k x) (addL asked limit l k x) := by
  unfold addR addL
  rw [h.addE]
  split
  · rename_i hb
    have hg := addE_none hb
    exact ⟨h.sorted.ins x ((h.get k).trans hg), (ins_perm k x r).trans (h.perm.append_right _)⟩
  · exact h
theorem RefOf.filter {r l : LinkL} (h : RefOf r l) (f : Key × Int → Bool) : RefOf (r.filter f) (l.filter f) := ⟨h.sorted.filter _, h.perm.filter _⟩
theorem RefOf.un {r l : LinkL} (h : RefOf r l) (k : Key) : RefOf (r.filter fun p => decide (p.1 ≠ k)) (unL l k) := by
  rw [unL_filter l k h.nodup]; exact h.filter _
theorem RefOf.forget {r l : LinkL} (h : RefOf r l) (x : List UInt8) : RefOf (forgetL r x) (forgetL l x) ∧ forgetN r x = forgetN l x := ⟨h.filter _, (h.perm.filter _).length_eq⟩
def mountR (limit : Int) (r : LinkL) (a b : ByteArray) (x : List UInt8) : LinkL :=
  if nameB a && nameB b then (match getL (a, x) r with | some n => addR true limit r (b, x) n | none => r) else r
theorem RefOf.mount {r l : LinkL} (h : RefOf r l) (limit : Int) (a b : ByteArray) (x : List UInt8) : mountE limit r a b x = mountE limit l a b x ∧ RefOf (mountR limit r a b x) (mountL limit l a b x) := by
  unfold mountE mountR mountL
  rw [h.get]
  split
  · cases getL (a, x) l with
    | none => exact ⟨rfl, h⟩
    | some n => exact ⟨h.addE _ _ _ _, h.add _ _ _ _⟩
  · exact ⟨rfl, h⟩

/-! ### What the list tells -/
def useUpto (r : LinkL) (n : ByteArray) (i : Nat) : Int := useOf (r.take i) n
theorem useUpto_succ {r : LinkL} {n : ByteArray} {i : Nat} (h : i < r.length) : useUpto r n (i + 1) = useUpto r n i + (if r[i].1.1 = n then r[i].2 else 0) := by
  unfold useUpto
  rw [List.take_succ_eq_append_getElem h, useOf_append]
  simp [useOf]
def idsR (r : LinkL) (n : ByteArray) : List (List UInt8) := (r.filter fun p => decide (p.1.1 = n)).map (·.1.2)
theorem idsR_succ {r : LinkL} {n : ByteArray} {i : Nat} (h : i < r.length) : idsR (r.take (i + 1)) n = if r[i].1.1 = n then idsR (r.take i) n ++ [r[i].1.2] else idsR (r.take i) n := by
  unfold idsR
  rw [List.take_succ_eq_append_getElem h, List.filter_append, List.map_append]
  split <;> rename_i hn <;> simp [hn]
theorem RefOf.ids {r l : LinkL} (h : RefOf r l) (n : ByteArray) : IDsOf l n (idsR r n) := by
  refine ⟨?_, fun x => ?_⟩
  · unfold idsR
    rw [List.pairwise_map]
    refine (h.sorted.filter _).imp_of_mem fun {p q} hp hq hpq => ?_
    have h1 := of_decide_eq_true (List.mem_filter.1 hp).2
    have h2 := of_decide_eq_true (List.mem_filter.1 hq).2
    rcases hpq with h3 | h3
    · rw [h1, h2] at h3; exact absurd h3 (List.lt_irrefl _)
    · exact h3.2
  · unfold idsR
    rw [← (h.perm.map (·.1)).mem_iff]
    simp only [List.mem_map, List.mem_filter, decide_eq_true_eq]
    constructor
    · rintro ⟨p, ⟨h1, h2⟩, rfl⟩; exact ⟨p, h1, by rw [← h2]⟩
    · rintro ⟨p, h1, h2⟩; exact ⟨p, ⟨h1, by rw [h2]⟩, by rw [h2]⟩
/-- The names, each once: behind n links. -/
def reposR (r : LinkL) : Nat → List ByteArray
  | 0 => []
  | n + 1 => match r[n]? with
    | none => reposR r n
    | some p => if n = 0 ∨ (r[n - 1]?).map (·.1.1) ≠ some p.1.1 then reposR r n ++ [p.1.1] else reposR r n
theorem reposR_len (r : LinkL) : ∀ n, (reposR r n).length ≤ n
  | 0 => by simp [reposR]
  | n + 1 => by
    have := reposR_len r n
    unfold reposR
    split
    · omega
    · split
      · simp; omega
      · omega
theorem ltK_repo {p q : Key} (h : ltK p q) : p.1.data.toList < q.1.data.toList ∨ p.1 = q.1 := h.imp id (·.1)
theorem reposR_inv {r : LinkL} (h : SortedL r) : ∀ n, n ≤ r.length → (reposR r n).Pairwise (fun a b => a.data.toList < b.data.toList) ∧ (∀ x, x ∈ reposR r n ↔ ∃ i, ∃ h : i < r.length, i < n ∧ r[i].1.1 = x)
  | 0, _ => ⟨by simp [reposR], fun x => by simp [reposR]⟩
  | n + 1, hn => by
    obtain ⟨h1, h2⟩ := reposR_inv h n (by omega)
    have hlt : n < r.length := by omega
    have e : r[n]? = some r[n] := List.getElem?_eq_getElem hlt
    unfold reposR
    rw [e]
    simp only
    by_cases hc : n = 0 ∨ (r[n - 1]?).map (·.1.1) ≠ some r[n].1.1
    · rw [if_pos hc]
      have hless : ∀ x ∈ reposR r n, x.data.toList < r[n].1.1.data.toList := fun x hx => by
        obtain ⟨i, hi, hin, rfl⟩ := (h2 x).1 hx
        have hn0 : 0 < n := by omega
        have hp : n - 1 < r.length := by omega
        have hne : r[n - 1].1.1 ≠ r[n].1.1 := by
          rcases hc with hc | hc
          · omega
          · rw [List.getElem?_eq_getElem hp] at hc
            simpa using hc
        have hl : r[n - 1].1.1.data.toList < r[n].1.1.data.toList := (ltK_repo (List.pairwise_iff_getElem.1 h (n - 1) n hp hlt (by omega))).resolve_right hne
        by_cases hin' : i = n - 1
        · subst hin'; exact hl
        · rcases ltK_repo (List.pairwise_iff_getElem.1 h i (n - 1) hi hp (by omega)) with h3 | h3
          · exact List.lt_trans h3 hl
          · rw [h3]; exact hl
      refine ⟨?_, fun x => ?_⟩
      · rw [List.pairwise_append]
        exact ⟨h1, by simp, fun a ha b hb => by simp at hb; rw [hb]; exact hless a ha⟩
      · rw [List.mem_append, h2, List.mem_singleton]
        constructor
        · rintro (⟨i, hi, h3, h4⟩ | h3)
          · exact ⟨i, hi, by omega, h4⟩
          · exact ⟨n, hlt, by omega, h3.symm⟩
        · rintro ⟨i, hi, h3, h4⟩
          by_cases hin : i = n
          · subst hin; exact .inr h4.symm
          · exact .inl ⟨i, hi, by omega, h4⟩
    · rw [if_neg hc]
      refine ⟨h1, fun x => ?_⟩
      have hn0 : n ≠ 0 := fun e => hc (.inl e)
      have hp : n - 1 < r.length := by omega
      have he : r[n - 1].1.1 = r[n].1.1 := by
        have h3 : ¬ (r[n - 1]?).map (·.1.1) ≠ some r[n].1.1 := fun h => hc (.inr h)
        rw [List.getElem?_eq_getElem hp] at h3
        simpa using h3
      rw [h2]
      constructor
      · rintro ⟨i, hi, h3, h4⟩; exact ⟨i, hi, by omega, h4⟩
      · rintro ⟨i, hi, h3, h4⟩
        by_cases hin : i = n
        · subst hin; exact ⟨i - 1, hp, by omega, he.trans h4⟩
        · exact ⟨i, hi, by omega, h4⟩
theorem RefOf.repos {r l : LinkL} (h : RefOf r l) : ReposOf l (reposR r r.length) := by
  obtain ⟨h1, h2⟩ := reposR_inv h.sorted r.length (Nat.le_refl _)
  refine ⟨h1, fun x => ?_⟩
  rw [h2, ← cntOf_perm h.perm]
  constructor
  · rintro ⟨i, hi, _, rfl⟩; exact cntOf_of_mem (List.getElem_mem hi)
  · intro hc
    obtain ⟨p, hp, rfl⟩ := cntOf_pos hc
    obtain ⟨i, hi, rfl⟩ := List.getElem_of_mem hp
    exact ⟨i, hi, hi, rfl⟩
end Go.Proofs.YtcfcahflkhgapaaGreat
