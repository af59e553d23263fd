/- A row of elements of several cells, as the library's sort holds it; the order of keys. -/
import Derived.Test.YtcfcahflkhgapaaGreatSeqC
import Derived.Test.YtcfcahflkhgapaaGreatCmpB
import Derived.Shelf.SlSortCmp.InsertionK
namespace Go.Proofs.YtcfcahflkhgapaaGreat
set_option linter.unusedSimpArgs false
set_option linter.unusedVariables false
set_option linter.unnecessarySimpa false
set_option linter.unusedSectionVars false
open Go.RowKit Go.Shelf Go.Sort

section
variable {α : Type} [Inhabited α] {enc : α → List Value} {k : Nat}
theorem flat_enc (hk : ∀ x, (enc x).length = k) : ∀ (l : List α) (i : Nat) (hi : i < l.length) (j : Nat), j < k → (l.flatMap enc)[i * k + j]? = (enc l[i])[j]?
  | x :: l, 0, _, j, hj => by
    simp only [List.flatMap_cons, Nat.zero_mul, Nat.zero_add, List.getElem_cons_zero]
    rw [List.getElem?_append_left (by rw [hk]; exact hj)]
  | x :: l, i + 1, hi, j, hj => by
    simp only [List.flatMap_cons, List.getElem_cons_succ]
    rw [List.getElem?_append_right (by rw [hk, Nat.succ_mul]; omega), hk, show (i + 1) * k + j - k = i * k + j by rw [Nat.succ_mul]; omega]
    exact flat_enc hk l i (by simpa using hi) j hj
theorem len_enc (hk : ∀ x, (enc x).length = k) : ∀ (l : List α), (l.flatMap enc).length = l.length * k
  | [] => by simp
  | x :: l => by simp [len_enc hk l, hk, Nat.add_mul]; omega
theorem holdsK_of_cells (hk : ∀ x, (enc x).length = k) (h0 : 0 < k) {w : World} {g e : Nat} {cur : Array Value} {l : List α} (h : w.heap[g]? = some (.cells cur e (0, 0))) (ht : cur.toList.take (l.length * k) = l.flatMap enc) : HoldsK enc k w g 0 l.toArray := by
  intro t ht'
  have hlt : t < l.length * k := by simpa using ht'
  have hi : t / k < l.length := Nat.div_lt_of_lt_mul (by rw [Nat.mul_comm]; exact hlt)
  have hm : t % k < k := Nat.mod_lt _ h0
  have e0 : t / k * k + t % k = t := by rw [Nat.mul_comm]; exact Nat.div_add_mod t k
  have h1 := flat_enc hk l (t / k) hi (t % k) hm
  rw [e0, ← ht, List.getElem?_take_of_lt hlt] at h1
  have h2 : (flatK enc k l.toArray)[t]! = (enc l[t / k])[t % k]'(by rw [hk]; exact hm) := by
    rw [get_flatK _ _ _ _ (by simpa using hlt)]
    have : l.toArray[t / k]! = l[t / k] := by simp [hi]
    rw [this]
    exact getElem!_pos _ _ (by rw [hk]; exact hm)
  refine ⟨?_, by simp [World.frozen?, h]⟩
  rw [Nat.zero_add, cell_of_row w g _ cur e (0, 0) h, h2]
  rw [Array.getElem?_toList] at h1
  rw [h1]
  exact List.getElem?_eq_getElem _
theorem sl_of_holdsK (hk : ∀ x, (enc x).length = k) {w : World} {g cap : Nat} {l : List α} (h : HoldsK enc k w g 0 l.toArray) (hc : l.length ≤ cap) (hm : cap ≤ maxLen) :
    Sl false w (fun j => j = g) k (fun cs x => cs = (enc x).toArray) (.slice (some ⟨g, 0, none⟩) l.length cap) l := by
  refine ⟨_, cap, rfl, hc, hm, fun _ => ⟨g, 0, rfl, rfl, fun h => (by cases h), fun i hi => ⟨(enc l[i]).toArray, by simp [hk], rfl, fun j hj => ?_⟩⟩⟩
  have hj' : j < k := by simpa [hk] using hj
  have := (h.cell (i := i) (c := j) (by simpa using hi) hj').1
  have e : l.toArray[i]! = l[i] := by simp [hi]
  rw [e] at this
  rw [this]
  have h2 : (enc l[i])[j]! = (enc l[i])[j]'(by rw [hk]; exact hj') := getElem!_pos _ _ (by rw [hk]; exact hj')
  simp [h2]
theorem mod_sortWorldK {w : World} {blk off n : Nat} {d : Array α} {os : Array Obj} : Mod (fun j => j = blk) w (sortWorldK enc k w blk off n d os) := by
  have hs : (mapBlock (Sort.ahead w n) blk (putCells id off (flatK enc k d))).heap.size = w.heap.size := by simp [mapBlock, Sort.ahead]
  refine ⟨rfl, rfl, rfl, ?_, fun j hj hne => ?_⟩
  · show w.heap.size ≤ ((mapBlock (Sort.ahead w n) blk (putCells id off (flatK enc k d))).heap ++ os).size
    rw [Array.size_append, hs]; omega
  · show ((mapBlock (Sort.ahead w n) blk (putCells id off (flatK enc k d))).heap ++ os)[j]? = _
    rw [Array.getElem?_append_left (by rw [hs]; exact hj)]
    show ((Sort.ahead w n).heap.modify blk _)[j]? = _
    rw [Array.getElem?_modify, if_neg (fun e => hne e.symm)]
    rfl
end

/-! ### The order of keys -/
def ltB (a b : List UInt8) : Prop := a < b
theorem ltB_tri (a b : List UInt8) : a < b ∨ a = b ∨ b < a := by
  rcases List.le_total a b with h | h
  · rcases List.le_iff_lt_or_eq.1 h with h | h
    · exact .inl h
    · exact .inr (.inl h)
  · rcases List.le_iff_lt_or_eq.1 h with h | h
    · exact .inr (.inr h)
    · exact .inr (.inl h.symm)
theorem ltB_trans {a b c : List UInt8} (h : a < b) (k : b < c) : a < c := by
  rcases ltB_tri a c with h1 | h1 | h1
  · exact h1
  · subst h1; exact absurd h (List.lt_asymm k)
  · have h2 : c ≤ a := List.le_of_lt h1
    have h3 : a ≤ b := List.le_of_lt h
    have h4 : c ≤ b := List.le_trans h2 h3
    exact absurd k (List.not_lt.2 h4)
def ltK (a b : Key) : Prop := a.1.data.toList < b.1.data.toList ∨ a.1 = b.1 ∧ a.2 < b.2
theorem ba_ext {a b : ByteArray} (h : a.data.toList = b.data.toList) : a = b := by
  apply ByteArray.ext
  exact Array.toList_inj.1 h
theorem ltK_tri (a b : Key) : ltK a b ∨ a = b ∨ ltK b a := by
  unfold ltK
  rcases ltB_tri a.1.data.toList b.1.data.toList with h | h | h
  · exact .inl (.inl h)
  · have h := ba_ext h
    rcases ltB_tri a.2 b.2 with h2 | h2 | h2
    · exact .inl (.inr ⟨h, h2⟩)
    · exact .inr (.inl (Prod.ext h h2))
    · exact .inr (.inr (.inr ⟨h.symm, h2⟩))
  · exact .inr (.inr (.inl h))
theorem ltK_irrefl (a : Key) : ¬ ltK a a := by
  rintro (h | ⟨_, h⟩)
  · exact List.lt_irrefl _ h
  · exact List.lt_irrefl _ h
theorem ltK_trans {a b c : Key} (h : ltK a b) (k : ltK b c) : ltK a c := by
  rcases h with h | ⟨e, h⟩ <;> rcases k with k | ⟨e', k⟩
  · exact .inl (ltB_trans h k)
  · exact .inl (by rw [← e']; exact h)
  · exact .inl (by rw [e]; exact k)
  · exact .inr ⟨e.trans e', ltB_trans h k⟩
theorem cmpK_neg (a b : Key) : cmpK a b < 0 ↔ ltK a b := by
  unfold cmpK orI ltK
  split
  · rename_i h
    rw [cmpI_neg]
    refine ⟨.inl, fun h' => h'.elim id fun ⟨e, _⟩ => absurd ?_ h⟩
    rw [cmpI_zero, e]
  · rename_i h
    have h : cmpI a.1.data.toList b.1.data.toList = 0 := Decidable.byContradiction fun hn => h hn
    rw [cmpI_zero] at h
    rw [cmpI_neg]
    refine ⟨fun h' => .inr ⟨ba_ext h, h'⟩, fun h' => h'.elim (fun h2 => ?_) fun h2 => h2.2⟩
    rw [h] at h2; exact absurd h2 (List.lt_irrefl _)
def cfK (a b : KeyS) : Int := cmpK a.1 b.1
theorem swo_of {α : Type} {cf : α → α → Int} {lt : α → α → Prop} (hc : ∀ a b, cf a b < 0 ↔ lt a b) (hi : ∀ a, ¬ lt a a) (ht : ∀ {a b c}, lt a b → lt b c → lt a c) (htri : ∀ a b, lt a b ∨ a = b ∨ lt b a) : SWO (ltOf cf) := by
  refine ⟨fun x => ?_, fun x y z h k => ?_, fun x y z h k => ?_⟩
  · simp [ltOf, hc]; exact hi x
  · simp only [ltOf, decide_eq_true_eq, hc] at *; exact ht h k
  · simp only [ltOf, decide_eq_false_iff_not, hc] at *
    intro hxz
    rcases htri x y with h1 | h1 | h1
    · exact h h1
    · subst h1; exact k hxz
    · exact k (ht h1 hxz)
theorem cfK_neg (a b : KeyS) : cfK a b < 0 ↔ ltK a.1 b.1 := cmpK_neg _ _
theorem swoK : SWO (ltOf cfK) := swo_of cfK_neg (fun a => ltK_irrefl a.1) ltK_trans (fun a b => by
  rcases ltK_tri a.1 b.1 with h | h | h
  · exact .inl h
  · exact .inr (.inl (Subtype.ext h))
  · exact .inr (.inr h))
end Go.Proofs.YtcfcahflkhgapaaGreat
