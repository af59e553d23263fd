/- Maps, whatever their keys: a map reads as a list of pairs, no key twice. -/
import Derived.Test.YtcfcahflkhgapaaGreatEff
import Derived.MapKept
namespace Go.Proofs.YtcfcahflkhgapaaGreat
set_option linter.unusedSimpArgs false
set_option linter.unusedVariables false
set_option linter.unnecessarySimpa false
set_option linter.unusedSectionVars false
open Go.RowKit

/-! ### Lists of pairs -/
section
variable {α β : Type} [DecidableEq α]
def getL (k : α) : List (α × β) → Option β
  | [] => none
  | p :: l => if k = p.1 then some p.2 else getL k l
def idxL (k : α) : List (α × β) → Nat → Option (Nat × β)
  | [], _ => none
  | p :: l, i => if k = p.1 then some (i, p.2) else idxL k l (i + 1)
def putL (k : α) (v : β) : List (α × β) → List (α × β)
  | [] => [(k, v)]
  | p :: l => if k = p.1 then (k, v) :: l else p :: putL k v l
def delL (k : α) : List (α × β) → List (α × β)
  | [] => []
  | p :: l => if k = p.1 then l else p :: delL k l
theorem idxL_get (k : α) : ∀ (l : List (α × β)) (i : Nat), (idxL k l i).map (·.2) = getL k l
  | [], _ => rfl
  | p :: l, i => by
    unfold idxL getL
    split
    · rfl
    · exact idxL_get k l (i + 1)
theorem idxL_some {k : α} : ∀ {l : List (α × β)} {i j : Nat} {v : β}, idxL k l i = some (j, v) → i ≤ j ∧ j - i < l.length ∧ l[j - i]? = some (k, v) ∧ (∀ v', putL k v' l = l.set (j - i) (k, v')) ∧ delL k l = l.eraseIdx (j - i)
  | [], _, _, _, h => by cases h
  | p :: l, i, j, v, h => by
    unfold idxL at h
    split at h
    · rename_i hk
      simp only [Option.some.injEq, Prod.mk.injEq] at h
      obtain ⟨rfl, rfl⟩ := h
      subst hk
      simp [putL, delL]
    · rename_i hk
      obtain ⟨h1, h2, h3, h4, h5⟩ := idxL_some h
      have e : j - i = (j - (i + 1)) + 1 := by omega
      refine ⟨by omega, by simp; omega, by rw [e]; simpa using h3, fun v' => ?_, ?_⟩
      · rw [e]; simp [putL, hk, h4]
      · rw [e]; simp [delL, hk, h5]
theorem idxL_none {k : α} : ∀ {l : List (α × β)} {i : Nat}, idxL k l i = none → getL k l = none ∧ (∀ v', putL k v' l = l ++ [(k, v')]) ∧ delL k l = l ∧ k ∉ l.map (·.1)
  | [], _, _ => ⟨rfl, fun _ => rfl, rfl, by simp⟩
  | p :: l, i, h => by
    unfold idxL at h
    split at h
    · cases h
    · rename_i hk
      obtain ⟨h1, h2, h3, h4⟩ := idxL_none h
      exact ⟨by simp [getL, hk, h1], fun v' => by simp [putL, hk, h2], by simp [delL, hk, h3], by simp [hk]; simpa using h4⟩
theorem getL_none {k : α} {l : List (α × β)} : getL k l = none ↔ k ∉ l.map (·.1) := by
  induction l with
  | nil => simp [getL]
  | cons p l ih => unfold getL; split <;> simp_all
theorem getL_mem {k : α} {v : β} {l : List (α × β)} (h : getL k l = some v) : (k, v) ∈ l := by
  induction l with
  | nil => cases h
  | cons p l ih =>
    unfold getL at h
    split at h
    · rename_i hk; subst hk; simp at h; subst h; simp
    · exact List.mem_cons_of_mem _ (ih h)
theorem getL_of_mem {k : α} {v : β} {l : List (α × β)} (hn : (l.map (·.1)).Nodup) (h : (k, v) ∈ l) : getL k l = some v := by
  induction l with
  | nil => cases h
  | cons p l ih =>
    rw [List.map_cons, List.nodup_cons] at hn
    unfold getL
    rcases List.mem_cons.1 h with rfl | h
    · simp
    · rw [if_neg (by rintro rfl; exact hn.1 (List.mem_map.2 ⟨_, h, rfl⟩))]
      exact ih hn.2 h
theorem getL_put (k k' : α) (v : β) (l : List (α × β)) : getL k' (putL k v l) = if k' = k then some v else getL k' l := by
  induction l with
  | nil => simp [putL, getL]
  | cons p l ih =>
    unfold putL
    by_cases hk : k = p.1
    · rw [if_pos hk]; simp only [getL]; subst hk; by_cases hk' : k' = p.1 <;> simp [hk']
    · rw [if_neg hk]; simp only [getL, ih]; by_cases hk' : k' = p.1
      · subst hk'; simp [Ne.symm hk]
      · simp [hk']
theorem keys_put (k : α) (v : β) (l : List (α × β)) : (putL k v l).map (·.1) = if k ∈ l.map (·.1) then l.map (·.1) else l.map (·.1) ++ [k] := by
  induction l with
  | nil => simp [putL]
  | cons p l ih =>
    unfold putL
    by_cases hk : k = p.1
    · simp [hk]
    · rw [if_neg hk]; simp only [List.map_cons, ih, List.mem_cons, hk, false_or]; split <;> simp
theorem nodup_put {k : α} {v : β} {l : List (α × β)} (h : (l.map (·.1)).Nodup) : ((putL k v l).map (·.1)).Nodup := by
  rw [keys_put]; split
  · exact h
  · rename_i hk
    rw [List.nodup_append]
    exact ⟨h, by simp, by intro x hx y hy; simp at hy; subst hy; rintro rfl; exact hk hx⟩
theorem keys_del (k : α) (l : List (α × β)) : (delL k l).map (·.1) = (l.map (·.1)).erase k := by
  induction l with
  | nil => simp [delL]
  | cons p l ih =>
    unfold delL
    by_cases hk : k = p.1
    · simp [hk]
    · rw [if_neg hk]; simp [ih, List.erase_cons, show (p.1 == k) = false by simpa using fun h => hk h.symm]
theorem nodup_del {k : α} {l : List (α × β)} (h : (l.map (·.1)).Nodup) : ((delL k l).map (·.1)).Nodup := by
  rw [keys_del]; exact h.erase k
theorem getL_del (k k' : α) (l : List (α × β)) (h : (l.map (·.1)).Nodup) : getL k' (delL k l) = if k' = k then none else getL k' l := by
  induction l with
  | nil => simp [delL, getL]
  | cons p l ih =>
    rw [List.map_cons, List.nodup_cons] at h
    unfold delL
    by_cases hk : k = p.1
    · rw [if_pos hk]
      by_cases hk' : k' = k
      · subst hk'; subst hk; rw [if_pos rfl]; exact getL_none.2 h.1
      · rw [if_neg hk']; simp only [getL]; rw [if_neg (by rw [← hk]; exact hk')]
    · rw [if_neg hk]; simp only [getL, ih h.2]; by_cases hk' : k' = p.1
      · subst hk'; simp [Ne.symm hk]
      · simp [hk']
theorem length_put (k : α) (v : β) (l : List (α × β)) : (putL k v l).length = if (getL k l).isSome then l.length else l.length + 1 := by
  induction l with
  | nil => simp [putL, getL]
  | cons p l ih =>
    unfold putL getL
    by_cases hk : k = p.1
    · simp [hk]
    · simp only [if_neg hk, List.length_cons, ih]; split <;> rfl
end

/-! ### In memory -/
/-- The keys of type t are laid by enc; which of them are fit to be one is told by ok. -/
structure KeyT (P : Program) (t : TypeId) {α : Type} [DecidableEq α] (enc : α → Value) (ok : α → Prop) : Prop where
  check : ∀ (e : Bool) (x : α) (w : World), ok x → (Instr.checkKey e 10000 t (enc x)).run P w = .ok () w
  same : ∀ (x y : α) (w : World), ok x → ok y → (Op.equal t (enc x) (enc y)).run P w = .ok (decide (x = y)) w
  und : ∃ d, P.underlying t = some d ∧ ((∀ x y, Instr.sameNow d (enc x) (enc y) = none) ∨ (∀ x y, Instr.sameNow d (enc x) (enc y) = some (decide (x = y))))
  bits : ∀ x, ok x → Instr.sameBits 10000 (enc x) (enc x) = true

def Keyed {α : Type} (enc : α → Value) (es : List MapEntry) (l : List (α × Value)) : Prop := es.map (fun e => (e.key, e.val)) = l.map (fun p => (enc p.1, p.2))
/-- Block mb is a map that reads as l. -/
structure MapIs {α : Type} (enc : α → Value) (ok : α → Prop) (w : World) (mb : Nat) (l : List (α × Value)) : Prop where
  obj : ∃ es clk, w.heap[mb]? = some (.map es clk) ∧ Keyed enc es.toList l ∧ (∀ x ∈ es.toList, x.born < clk) ∧ (es.toList.map (·.born)).Nodup
  nd : (l.map (·.1)).Nodup
  ok : ∀ p ∈ l, ok p.1

section
variable {P : Program} {t : TypeId} {α : Type} [DecidableEq α] {enc : α → Value} {ok : α → Prop} {w : World} {mb : Nat} {l : List (α × Value)}
theorem MapIs.keep {S : Nat → Prop} {w' : World} (h : MapIs enc ok w mb l) (hm : Mod S w w') (hn : ¬ S mb) : MapIs enc ok w' mb l := by
  obtain ⟨⟨es, clk, h1, h2⟩, h3, h4⟩ := h
  exact ⟨⟨es, clk, hm.obj hn h1, h2⟩, h3, h4⟩
theorem MapIs.keep0 {w' : World} (h : MapIs enc ok w mb l) (hm : Mod NoB w w') : MapIs enc ok w' mb l := h.keep hm id
theorem MapIs.made {b : Nat} (h : w.heap[b]? = some (.map #[] 0)) : MapIs enc ok w b [] :=
  ⟨⟨#[], 0, h, by simp [Keyed], by simp, by simp⟩, by simp, by simp⟩
theorem MapIs.lt (h : MapIs enc ok w mb l) : mb < w.heap.size := by
  obtain ⟨⟨es, clk, h1, h2⟩, h3, h4⟩ := h
  exact (Array.getElem?_eq_some_iff.1 h1).1

theorem run_findAskingL (hK : KeyT P t enc ok) (k : α) (hk : ok k) (w : World) : ∀ (es : List MapEntry) (l : List (α × Value)) (i : Nat), Keyed enc es l → (∀ p ∈ l, ok p.1) →
    (Instr.findAsking t (enc k) es i).run P w = .ok (idxL k l i) w
  | [], l, i, h, _ => by
    have : l = [] := by cases l with | nil => rfl | cons a b => simp [Keyed] at h
    subst this
    simp [Instr.findAsking, idxL]
  | e :: es, l, i, h, ho => by
    match l, h with
    | q :: l, h =>
      have hkey : e.key = enc q.1 := by simp [Keyed] at h; exact h.1.1
      have hv : e.val = q.2 := by simp [Keyed] at h; exact h.1.2
      have ht : Keyed enc es l := by simp [Keyed] at h; exact h.2
      have hsame := hK.same k q.1 w hk (ho q (by simp))
      by_cases hkq : k = q.1
      · subst hkq
        simp [Instr.findAsking, hkey, hsame, idxL, hv]
      · have ih := run_findAskingL hK k hk w es l (i + 1) ht (fun p hp => ho p (by simp [hp]))
        simp [Instr.findAsking, hkey, hsame, hkq, idxL, ih]
theorem findNowL {d : TypeDesc} (hd : ∀ x y : α, Instr.sameNow d (enc x) (enc y) = some (decide (x = y))) (k : α) : ∀ (es : List MapEntry) (l : List (α × Value)) (i : Nat), Keyed enc es l → Instr.findNow d (enc k) es i = some (idxL k l i)
  | [], l, i, h => by
    have : l = [] := by cases l with | nil => rfl | cons a b => simp [Keyed] at h
    subst this
    simp [Instr.findNow, idxL]
  | e :: es, l, i, h => by
    match l, h with
    | q :: l, h =>
      have hkey : e.key = enc q.1 := by simp [Keyed] at h; exact h.1.1
      have hv : e.val = q.2 := by simp [Keyed] at h; exact h.1.2
      have ht : Keyed enc es l := by simp [Keyed] at h; exact h.2
      by_cases hkq : k = q.1
      · simp [Instr.findNow, hkey, hd, hkq, idxL, hv]
      · simp [Instr.findNow, hkey, hd, hkq, idxL, findNowL hd k es l (i + 1) ht]
theorem run_findKeyL (hK : KeyT P t enc ok) (k : α) (hk : ok k) (w : World) (es : List MapEntry) (l : List (α × Value)) (h : Keyed enc es l) (ho : ∀ p ∈ l, ok p.1) :
    (Instr.findKey t (enc k) es).run P w = .ok (idxL k l 0) w := by
  have h1 := run_findAskingL hK k hk w es l 0 h ho
  obtain ⟨d, hu, hd⟩ := hK.und
  unfold Instr.findKey
  simp only [Sem.run_bind, run_underlying hu, Result.andThen_ok]
  rcases hd with hd | hd
  · cases es with
    | nil => simp [Instr.findNow]; simp [Instr.findAsking] at h1; exact h1
    | cons e es =>
      have : ∃ q, e.key = enc q := by
        cases l with
        | nil => simp [Keyed] at h
        | cons q l => exact ⟨q.1, by simp [Keyed] at h; exact h.1.1⟩
      obtain ⟨q, hq⟩ := this
      simp only [Instr.findNow, hq, hd]
      exact h1
  · rw [findNowL hd k es l 0 h]
    rfl

theorem run_lookupL (hK : KeyT P t enc ok) (h : MapIs enc ok w mb l) (k : α) (hk : ok k) (mt et : TypeId) (hmt : P.underlying mt = some (.map t et)) (z : Value) (hz : (P.info? et).bind (·.zero) = some z) (commaOk : Bool) :
    (Instr.lookup mt (.map (some mb)) (enc k) commaOk).run P w = .ok (if commaOk then .tuple #[(getL k l).getD z, .bool (getL k l).isSome] else (getL k l).getD z) w := by
  obtain ⟨⟨es, clk, hb, hkd, _⟩, hnd, ho⟩ := h
  have hz' : (zeroValue et).run P w = .ok z w := by
    cases hi : P.info? et with
    | none => simp [hi] at hz
    | some i => simp [hi] at hz; simp [zeroValue, typeInfo, hi, hz]
  have hgo : (getObj mb).run P w = .ok (.map es clk) w := by simp [getObj, Sem.run, hb]
  unfold Instr.lookup
  simp only [Sem.run_bind, run_underlying hmt, Result.andThen_ok, hgo, hK.check _ k w hk, run_findKeyL hK k hk w es.toList l hkd ho, Sem.run_pure]
  rw [← idxL_get k l 0]
  cases hi : idxL k l 0 with
  | none => simp [hz']
  | some r => obtain ⟨i, v⟩ := r; simp

theorem exec_lookupL (hK : KeyT P t enc ok) (h : MapIs enc ok w mb l) (k : α) (hk : ok k) (mt et : TypeId) (hmt : P.underlying mt = some (.map t et)) (z : Value) (hz : (P.info? et).bind (·.zero) = some z) {o : Oper} {a : Act} (m x : Operand) (commaOk : Bool)
    (ho : o.op = .lookup mt m x commaOk) (hm : a.eval m = .map (some mb)) (hx : a.eval x = enc k) (v : Value) (hv : (if commaOk then .tuple #[(getL k l).getD z, .bool (getL k l).isSome] else (getL k l).getD z) = v) :
    (execOp a.eval o).run P w = .ok (.value v) w := by
  subst hv
  unfold execOp
  simp only [ho, hm, hx, Sem.run_bind, run_lookupL hK h k hk mt et hmt z hz commaOk, Result.andThen_ok, Sem.run_pure]

theorem exec_lenL (h : MapIs enc ok w mb l) (mt et : TypeId) (hmt : P.underlying mt = some (.map t et)) {o : Oper} {a : Act} (x : Operand) (ho : o.op = .call { callee := .builtin .len, args := #[x], argTypes := #[mt] }) (hx : a.eval x = .map (some mb)) :
    (execOp a.eval o).run P w = .ok (.value (.int .i64 l.length)) w := by
  obtain ⟨⟨es, clk, hb, hkd, _⟩, hnd, hok⟩ := h
  have hlen : es.size = l.length := by have := congrArg List.length hkd; simpa using this
  unfold execOp
  simp [ho, hx, resolve, invoke, builtin, Builtin.len_, run_underlying hmt, goInt, getObj, Sem.run, hb, hlen]

theorem setObj_heap {w : World} {mb : Nat} {o o' : Obj} (hb : w.heap[mb]? = some o) (ho : ∀ c t f, o ≠ .cells c t f) :
    (setObj mb o').run P w = .ok () { w with heap := w.heap.setIfInBounds mb o' } := by
  cases o <;> simp_all [setObj, Sem.run]
theorem mod_set (w : World) (mb : Nat) (o : Obj) : Mod (fun k => k = mb) w { w with heap := w.heap.setIfInBounds mb o } :=
  ⟨rfl, rfl, rfl, by simp, fun k _ hn => by simp only [Array.getElem?_setIfInBounds]; rw [if_neg (fun e => hn e.symm)]⟩

variable {o : Oper} {a : Act} {K : Act → World → Prop} {Q : Exit → Act → World → Prop}
set_option maxRecDepth 10000 in
theorem wp_putL (hK : KeyT P t enc ok) (hM : MapIs enc ok w mb l) (k : α) (hk : ok k) (mt et : TypeId) (hmt : P.underlying mt = some (.map t et)) (m x y : Operand) (v : Value) (ho : o.op = .mapUpdate mt m x y) (hm : a.eval m = .map (some mb)) (hx : a.eval x = enc k) (hy : a.eval y = v)
    (h : ∀ w', MapIs enc ok w' mb (putL k v l) → Mod (fun j => j = mb) w w' → K (a.put o.dst undef) w') : o.wp P a w K Q := by
  obtain ⟨⟨es, clk, hb, hkd, hbo, hbn⟩, hnd, hok⟩ := hM
  have hgo : (getObj mb).run P w = .ok (.map es clk) w := by simp [getObj, Sem.run, hb]
  have hlt : mb < w.heap.size := (Array.getElem?_eq_some_iff.1 hb).1
  have hrun : ∀ o', (setObj mb o').run P w = .ok () { w with heap := w.heap.setIfInBounds mb o' } := fun o' => setObj_heap hb (by simp)
  have hok' : ∀ p ∈ putL k v l, ok p.1 := by
    intro p hp
    have h1 : p.1 ∈ (putL k v l).map (·.1) := List.mem_map.2 ⟨p, hp, rfl⟩
    rw [keys_put] at h1
    have h2 : p.1 ∈ l.map (·.1) ∨ p.1 = k := by
      split at h1
      · exact .inl h1
      · simpa using h1
    rcases h2 with h2 | h2
    · obtain ⟨q, hq, e⟩ := List.mem_map.1 h2; rw [← e]; exact hok q hq
    · rw [h2]; exact hk
  have hlen : es.size = l.length := by have := congrArg List.length hkd; simpa using this
  unfold Oper.wp execOp
  simp only [ho, hm, hx, hy]
  cases hi : idxL k l 0 with
  | some r =>
    obtain ⟨j, u⟩ := r
    obtain ⟨-, h2, h3, h4, -⟩ := idxL_some hi
    rw [Nat.sub_zero] at h2 h3 h4
    have hkk : (es[j]?).map (·.key) = some (enc k) := by
      have h1 := congrArg (fun l => (l[j]?).map (·.1)) hkd
      simp only [List.getElem?_map, Option.map_map, h3] at h1
      simpa [Function.comp_def] using h1
    have hstay : (Instr.keyThatStays (((es[j]?).map (·.key)).getD (enc k)) (enc k)).run P w = .ok (enc k) w := by
      rw [hkk]; simp [Instr.keyThatStays, hK.bits k hk]
    have hr : (Instr.mapUpdate mt (.map (some mb)) (enc k) v).run P w = .ok () { w with heap := w.heap.setIfInBounds mb (.map (es.modify j fun e => { e with key := enc k, val := v }) clk) } := by
      unfold Instr.mapUpdate
      simp only [Sem.run_bind, run_underlying hmt, Result.andThen_ok, hgo, hK.check _ k w hk, run_findKeyL hK k hk w es.toList l hkd hok, hi, hstay, hrun]
    simp only [Sem.run_bind, hr, Result.andThen_ok, Sem.run_pure]
    refine h _ ⟨⟨_, _, Array.getElem?_setIfInBounds_self_of_lt hlt, ?_, ?_, ?_⟩, nodup_put hnd, hok'⟩ (mod_set _ _ _)
    · rw [h4]
      unfold Keyed at hkd ⊢
      apply List.ext_getElem?
      intro i
      have h1 := congrArg (fun l => l[i]?) hkd
      simp only [List.getElem?_map, Array.getElem?_toList, Array.getElem?_modify, List.getElem?_set] at h1 ⊢
      by_cases hji : j = i
      · subst hji
        have hj : j < es.size := by omega
        simp [hj, h2]
      · simpa [hji] using h1
    · intro x hx
      rw [Array.mem_toList_iff, Array.mem_iff_getElem?] at hx
      obtain ⟨i, hx⟩ := hx
      rw [Array.getElem?_modify] at hx
      cases he : es[i]? with
      | none => rw [he] at hx; split at hx <;> simp at hx
      | some e =>
        have hb1 := hbo e (by rw [Array.mem_toList_iff, Array.mem_iff_getElem?]; exact ⟨i, he⟩)
        rw [he] at hx
        split at hx
        · simp at hx; rw [← hx]; exact hb1
        · simp at hx; rw [← hx]; exact hb1
    · have : (es.modify j fun e => { e with key := enc k, val := v }).toList.map (·.born) = es.toList.map (·.born) := by
        apply List.ext_getElem?
        intro i
        simp only [List.getElem?_map, Array.getElem?_toList, Array.getElem?_modify]
        split
        · cases es[i]? <;> rfl
        · rfl
      rw [this]; exact hbn
  | none =>
    obtain ⟨h1, h2, h3, h4⟩ := idxL_none hi
    have hr : (Instr.mapUpdate mt (.map (some mb)) (enc k) v).run P w = .ok () { w with heap := w.heap.setIfInBounds mb (.map (es.push { key := enc k, val := v, born := clk }) (clk + 1)) } := by
      unfold Instr.mapUpdate
      simp only [Sem.run_bind, run_underlying hmt, Result.andThen_ok, hgo, hK.check _ k w hk, run_findKeyL hK k hk w es.toList l hkd hok, hi, hrun]
    simp only [Sem.run_bind, hr, Result.andThen_ok, Sem.run_pure]
    refine h _ ⟨⟨_, _, Array.getElem?_setIfInBounds_self_of_lt hlt, ?_, ?_, ?_⟩, nodup_put hnd, hok'⟩ (mod_set _ _ _)
    · rw [h2]; unfold Keyed at hkd ⊢; simp [hkd]
    · intro x hx
      simp at hx
      rcases hx with hx | rfl
      · have := hbo x (by simpa using hx); omega
      · simp
    · simp only [Array.toList_push, List.map_append, List.map_cons, List.map_nil]
      rw [List.nodup_append]
      refine ⟨hbn, by simp, ?_⟩
      intro x hx y hy
      simp at hy; subst hy
      obtain ⟨e, he, rfl⟩ := List.mem_map.1 hx
      have := hbo e he; omega

set_option maxRecDepth 10000 in
theorem wp_delL (hK : KeyT P t enc ok) (hM : MapIs enc ok w mb l) (k : α) (hk : ok k) (mt et : TypeId) (hmt : P.underlying mt = some (.map t et)) (m x : Operand) (ho : o.op = .call { callee := .builtin .delete, args := #[m, x], argTypes := #[mt, t] }) (hm : a.eval m = .map (some mb)) (hx : a.eval x = enc k)
    (h : ∀ w', MapIs enc ok w' mb (delL k l) → Mod (fun j => j = mb) w w' → K (a.put o.dst (.tuple #[])) w') : o.wp P a w K Q := by
  obtain ⟨⟨es, clk, hb, hkd, hbo, hbn⟩, hnd, hok⟩ := hM
  have hgo : (getObj mb).run P w = .ok (.map es clk) w := by simp [getObj, Sem.run, hb]
  have hlt : mb < w.heap.size := (Array.getElem?_eq_some_iff.1 hb).1
  have hrun : ∀ o', (setObj mb o').run P w = .ok () { w with heap := w.heap.setIfInBounds mb o' } := fun o' => setObj_heap hb (by simp)
  have hlen : es.size = l.length := by have := congrArg List.length hkd; simpa using this
  unfold Oper.wp execOp
  simp only [ho, resolve, invoke, builtin, Sem.run_bind, Sem.run_pure, Result.andThen_ok, List.map_toArray, List.map_cons, List.map_nil, hm, hx]
  cases hi : idxL k l 0 with
  | some r =>
    obtain ⟨j, u⟩ := r
    obtain ⟨-, h2, h3, -, h4⟩ := idxL_some hi
    rw [Nat.sub_zero] at h2 h3 h4
    have hr : (Builtin.delete_ #[mt, t] o.type #[.map (some mb), enc k]).run P w = .ok (.tuple #[]) { w with heap := w.heap.setIfInBounds mb (.map (es.eraseIdxIfInBounds j) clk) } := by
      unfold Builtin.delete_
      simp [run_underlying hmt, hgo, hK.check _ k w hk, run_findKeyL hK k hk w es.toList l hkd hok, hi, hrun]
    rw [hr]
    simp only [Result.andThen_ok]
    have e : (es.eraseIdxIfInBounds j).toList = es.toList.eraseIdx j := by
      rw [Array.eraseIdxIfInBounds, dif_pos (by omega)]; simp
    have hme : ∀ {α β : Type} (f : α → β) (l : List α) (i : Nat), (l.eraseIdx i).map f = (l.map f).eraseIdx i := by
      intro α β f l
      induction l with
      | nil => intro i; simp
      | cons x l ih => intro i; cases i <;> simp [ih]
    refine h _ ⟨⟨_, _, Array.getElem?_setIfInBounds_self_of_lt hlt, ?_, ?_, ?_⟩, nodup_del hnd, ?_⟩ (mod_set _ _ _)
    · rw [h4]
      unfold Keyed at hkd ⊢
      rw [e, hme, hkd, ← hme]
    · intro x hx
      rw [e] at hx
      exact hbo x (List.mem_of_mem_eraseIdx hx)
    · rw [e, hme]
      exact hbn.sublist (List.eraseIdx_sublist _ _)
    · intro p hp
      rw [h4] at hp
      exact hok p (List.mem_of_mem_eraseIdx hp)
  | none =>
    obtain ⟨h1, h2, h3, h4⟩ := idxL_none hi
    have hr : (Builtin.delete_ #[mt, t] o.type #[.map (some mb), enc k]).run P w = .ok (.tuple #[]) { w with heap := w.heap.setIfInBounds mb (.map es clk) } := by
      unfold Builtin.delete_
      simp [run_underlying hmt, hgo, hK.check _ k w hk, run_findKeyL hK k hk w es.toList l hkd hok, hi, hrun]
    rw [hr]
    simp only [Result.andThen_ok]
    refine h _ ?_ (mod_set _ _ _)
    rw [h3]
    exact ⟨⟨_, _, Array.getElem?_setIfInBounds_self_of_lt hlt, hkd, hbo, hbn⟩, hnd, hok⟩
end

theorem beq_bytes (x y : ByteArray) : (x == y) = decide (x = y) := by
  rw [Bool.eq_iff_iff, decide_eq_true_iff]
  obtain ⟨⟨x⟩⟩ := x
  obtain ⟨⟨y⟩⟩ := y
  show ((⟨x⟩ : Array UInt8) == ⟨y⟩) = true ↔ _
  simp
/-- Keys that are strings. -/
theorem keyT_string {P : Program} {t : TypeId} (ht : P.underlying t = some .string) : KeyT P t Value.string (fun _ => True) := by
  refine ⟨fun e x w _ => ?_, fun x y w _ _ => ?_, ⟨_, ht, .inr fun x y => by simp only [Instr.sameNow, beq_bytes]⟩, fun x _ => ?_⟩
  · rw [show (10000 : Nat) = 9999 + 1 from rfl, Instr.checkKey]
    simp [run_underlying ht]
  · unfold Op.equal Op.maxDepth
    rw [show (10000 : Nat) = 9999 + 1 from rfl, Op.equalIn]
    simp [run_underlying ht, beq_bytes]
  · simp [Instr.sameBits, beq_bytes]
end Go.Proofs.YtcfcahflkhgapaaGreat
