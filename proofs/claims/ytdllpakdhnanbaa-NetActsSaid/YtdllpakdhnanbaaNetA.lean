/- The net in memory: its list of links, its map of ways that are cut. -/
import Derived.Test.YtdllpakdhnanbaaCopy3
namespace Go.Proofs.Ytdllpakdhnanbaa
set_option linter.unusedSimpArgs false
set_option linter.unusedVariables false
set_option linter.unnecessarySimpa false
open Go.RowKit

/-! ### The map: ways are its keys -/
def wayV (p : Int × Int) : Value := .agg #[.int .i64 p.1, .int .i64 p.2]

theorem info3' : ∃ i, Try.prog.info? 3 = some i ∧ i.size = 1 := by
  obtain ⟨i, h0, h1, h2, h3⟩ := info_parts info3
  exact ⟨i, h0, h2⟩
theorem run_equal_way (p q : Int × Int) (w : World) : (Op.equal 84 (wayV p) (wayV q)).run Try.prog w = .ok (decide (p = q)) w := by
  obtain ⟨a, b⟩ := p
  obtain ⟨c, d⟩ := q
  obtain ⟨i, hi, hs⟩ := info3'
  unfold wayV Op.equal Op.maxDepth
  rw [show (10000 : Nat) = 9999 + 1 from rfl, run_equalIn_array (P := Try.prog) w 9999 #[.int .i64 a, .int .i64 b] #[.int .i64 c, .int .i64 d] Try.underlying84 hi]
  have hc : Try.prog.cellsOf 3 = 1 := by kernel_rfl
  rw [hc]
  have part0 : ∀ (x y : Int), (part 3 #[.int .i64 x, .int .i64 y] 0).run Try.prog w = .ok (.int .i64 x) w := fun x y => by
    simp [part, isAgg, run_underlying Try.underlying3]
  have part1 : ∀ (x y : Int), (part 3 #[.int .i64 x, .int .i64 y] 1).run Try.prog w = .ok (.int .i64 y) w := fun x y => by
    simp [part, isAgg, run_underlying Try.underlying3]
  have heq : ∀ (x y : Int), (Op.equalIn 9999 3 (.int .i64 x) (.int .i64 y)).run Try.prog w = .ok (x == y) w := fun x y => run_equalIn_int w 9998 3 .i64 .i64 x y Try.underlying3
  rw [show List.range 2 = [0, 1] from rfl]
  simp only [Op.eqItems, Sem.run_bind, Nat.mul_one, part0, part1, heq, Result.andThen_ok]
  by_cases h1 : a = c <;> by_cases h2 : b = d <;> simp [h1, h2, part1, heq]

theorem run_checkKey_way (e : Bool) (p : Int × Int) (w : World) : (Instr.checkKey e 10000 84 (wayV p)).run Try.prog w = .ok () w := by
  obtain ⟨a, b⟩ := p
  obtain ⟨i, hi, hs⟩ := info3'
  have hk : ∀ (n : Nat) (x : Int), (Instr.checkKey e (n + 1) 3 (.int .i64 x)).run Try.prog w = .ok () w := fun n x => by
    simp [Instr.checkKey, run_underlying Try.underlying3]
  have part0 : ∀ (x y : Int) (k : Nat), k = 0 → (part 3 #[.int .i64 x, .int .i64 y] k).run Try.prog w = .ok (.int .i64 x) w := fun x y k h => by
    subst h; simp [part, isAgg, run_underlying Try.underlying3]
  have part1 : ∀ (x y : Int), (part 3 #[.int .i64 x, .int .i64 y] 1).run Try.prog w = .ok (.int .i64 y) w := fun x y => by
    simp [part, isAgg, run_underlying Try.underlying3]
  have hz : (sizeOf 3).run Try.prog w = .ok 1 w := by simp [sizeOf, typeInfo, hi, hs]
  unfold wayV
  rw [show (10000 : Nat) = 9999 + 1 from rfl, Instr.checkKey]
  simp only [Sem.run_bind, run_underlying Try.underlying84, Result.andThen_ok, Std.Legacy.Range.forIn_eq_forIn_range', Std.Legacy.Range.size, List.range']
  simp [hz, part0, part1, hk 9998, List.range']

/-- The keys of the entries, in order. -/
def Keyed (es : List MapEntry) (ps : List (Int × Int)) : Prop := es.map (fun e => (e.key, e.val)) = ps.map (fun p => (wayV p, Value.agg #[]))

theorem run_findAsking_way (p : Int × Int) (w : World) : ∀ (es : List MapEntry) (ps : List (Int × Int)) (i : Nat), Keyed es ps →
    ∃ r, (Instr.findAsking 84 (wayV p) es i).run Try.prog w = .ok r w ∧ (p ∈ ps → r = some (i + ps.idxOf p, .agg #[])) ∧ (p ∉ ps → r = none)
  | [], ps, i, h => by
    have : ps = [] := by cases ps with | nil => rfl | cons a b => simp [Keyed] at h
    subst this
    exact ⟨none, by simp [Instr.findAsking], by simp, fun _ => rfl⟩
  | e :: es, ps, i, h => by
    match ps, h with
    | q :: ps, h =>
      have hk : e.key = wayV q := by simp [Keyed] at h; exact h.1.1
      have hv : e.val = .agg #[] := by simp [Keyed] at h; exact h.1.2
      have ht : Keyed es ps := by simp [Keyed] at h; exact h.2
      by_cases hpq : p = q
      · subst hpq
        exact ⟨some (i, e.val), by simp [Instr.findAsking, hk, run_equal_way], fun _ => by simp [hv], fun hn => absurd (by simp) hn⟩
      · obtain ⟨r, hr, h1, h2⟩ := run_findAsking_way p w es ps (i + 1) ht
        refine ⟨r, by simp [Instr.findAsking, hk, run_equal_way, hpq, hr], fun hm => ?_, fun hn => h2 (by simp at hn; exact hn.2)⟩
        have hm' : p ∈ ps := by simpa [hpq] using hm
        have e : (q :: ps).idxOf p = ps.idxOf p + 1 := by
          rw [List.idxOf_cons]
          simp [show (q == p) = false by simpa using fun h => hpq h.symm]
        rw [h1 hm', e]
        congr 2; omega

theorem run_findKey_way (p : Int × Int) (w : World) (es : List MapEntry) (ps : List (Int × Int)) (h : Keyed es ps) :
    (Instr.findKey 84 (wayV p) es).run Try.prog w = .ok (if p ∈ ps then some (ps.idxOf p, .agg #[]) else none) w := by
  obtain ⟨r, hr, h1, h2⟩ := run_findAsking_way p w es ps 0 h
  have hfin : r = (if p ∈ ps then some (ps.idxOf p, .agg #[]) else none) := by
    by_cases hm : p ∈ ps
    · rw [if_pos hm, h1 hm, Nat.zero_add]
    · rw [if_neg hm, h2 hm]
  rw [← hfin]
  unfold Instr.findKey
  simp only [Sem.run_bind, run_underlying Try.underlying84, Result.andThen_ok]
  cases es with
  | nil => simp [Instr.findNow]; simp [Instr.findAsking] at hr; exact hr
  | cons e es =>
    have : Instr.sameNow (.array 2 3) (wayV p) e.key = none := rfl
    simp only [Instr.findNow, this]
    exact hr

/-- The map holds just the ways ps. -/
structure MapW (w : World) (mb : Nat) (ps : List (Int × Int)) : Prop where
  obj : ∃ es clk, w.heap[mb]? = some (.map es clk) ∧ Keyed es.toList ps
  nd : ps.Nodup
theorem MapW.keep {S : Nat → Prop} {w w' : World} {mb : Nat} {ps : List (Int × Int)} (h : MapW w mb ps) (hm : Mod S w w') (hn : ¬ S mb) : MapW w' mb ps := by
  obtain ⟨⟨es, clk, h1, h2⟩, h3⟩ := h
  exact ⟨⟨es, clk, hm.obj hn h1, h2⟩, h3⟩

theorem run_lookup_way {w : World} {mb : Nat} {ps : List (Int × Int)} (h : MapW w mb ps) (p : Int × Int) :
    (Instr.lookup 70 (.map (some mb)) (wayV p) true).run Try.prog w = .ok (.tuple #[.agg #[], .bool (decide (p ∈ ps))]) w := by
  obtain ⟨⟨es, clk, hb, hk⟩, hnd⟩ := h
  have hz : (zeroValue 86).run Try.prog w = .ok (.agg #[]) w := by
    have : (Try.prog.info? 86).bind (·.zero) = some (.agg #[]) := by kernel_rfl
    cases hi : Try.prog.info? 86 with
    | none => simp [hi] at this
    | some i => simp [hi] at this; simp [zeroValue, typeInfo, hi, this]
  have hgo : (getObj mb).run Try.prog w = .ok (.map es clk) w := by simp [getObj, Sem.run, hb]
  unfold Instr.lookup
  simp only [Sem.run_bind, run_underlying Try.underlying70, Result.andThen_ok, hgo, run_checkKey_way, run_findKey_way p w es.toList ps hk, Sem.run_pure]
  by_cases hm : p ∈ ps
  · simp [hm]
  · simp [hm, hz]

theorem setObj_heap {w : World} {mb : Nat} {o o' : Obj} (hb : w.heap[mb]? = some o) (ho : ∀ c t f, o ≠ .cells c t f) :
    (setObj mb o').run Try.prog w = .ok () { w with heap := w.heap.setIfInBounds mb o' } := by
  cases o <;> simp_all [setObj, Sem.run]

theorem mod_set (w : World) (mb : Nat) (o : Obj) : Mod (fun k => k = mb) w { w with heap := w.heap.setIfInBounds mb o } :=
  ⟨rfl, rfl, rfl, by simp, fun k _ hn => by simp only [Array.getElem?_setIfInBounds]; rw [if_neg (fun e => hn e.symm)]⟩

section
variable {o : Oper} {a : Act} {w : World} {K : Act → World → Prop} {Q : Exit → Act → World → Prop}
set_option maxRecDepth 10000 in
theorem wp_mapUpdate (m k x : Operand) (mb : Nat) (p : Int × Int) (ps : List (Int × Int)) (ho : o.op = .mapUpdate 70 m k x) (hm : a.eval m = .map (some mb)) (hk : a.eval k = wayV p) (hx : a.eval x = .agg #[]) (hM : MapW w mb ps)
    (h : ∀ w' ps', MapW w' mb ps' → (∀ q, q ∈ ps' ↔ q = p ∨ q ∈ ps) → Mod (fun k => k = mb) w w' → K (a.put o.dst undef) w') : o.wp Try.prog a w K Q := by
  obtain ⟨⟨es, clk, hb, hkey⟩, hnd⟩ := hM
  have hgo : (getObj mb).run Try.prog w = .ok (.map es clk) w := by simp [getObj, Sem.run, hb]
  have hlt : mb < w.heap.size := by
    rcases Nat.lt_or_ge mb w.heap.size with h | h
    · exact h
    · rw [Array.getElem?_eq_none h] at hb; cases hb
  have hrun : ∀ o', (setObj mb o').run Try.prog w = .ok () { w with heap := w.heap.setIfInBounds mb o' } := fun o' => setObj_heap hb (by simp)
  unfold Oper.wp execOp
  simp only [ho, hm, hk, hx]
  by_cases hin : p ∈ ps
  · have hidx : ps.idxOf p < ps.length := List.idxOf_lt_length_of_mem hin
    have hlen : es.size = ps.length := by have := congrArg List.length hkey; simpa using this
    have hkk : (es[ps.idxOf p]?).map (·.key) = some (wayV p) := by
      have h1 := congrArg (fun l => (l[ps.idxOf p]?).map (·.1)) hkey
      simp only [List.getElem?_map, Option.map_map] at h1
      have h2 : ps[ps.idxOf p]? = some p := by rw [List.getElem?_eq_getElem hidx]; simp
      rw [h2] at h1
      simpa [Function.comp_def] using h1
    have hstay : (Instr.keyThatStays (((es[ps.idxOf p]?).map (·.key)).getD (wayV p)) (wayV p)).run Try.prog w = .ok (wayV p) w := by
      rw [hkk]
      have : Instr.sameBits 10000 (wayV p) (wayV p) = true := by simp [wayV, Instr.sameBits]
      simp [Instr.keyThatStays, this]
    have hr : (Instr.mapUpdate 70 (.map (some mb)) (wayV p) (.agg #[])).run Try.prog w = .ok () { w with heap := w.heap.setIfInBounds mb (.map (es.modify (ps.idxOf p) fun e => { e with key := wayV p, val := .agg #[] }) clk) } := by
      unfold Instr.mapUpdate
      simp only [Sem.run_bind, run_underlying Try.underlying70, Result.andThen_ok, hgo, run_checkKey_way, run_findKey_way p w es.toList ps hkey, if_pos hin, hstay, hrun]
    simp only [Sem.run_bind, hr, Result.andThen_ok, Sem.run_pure]
    refine h _ ps ⟨⟨_, _, Array.getElem?_setIfInBounds_self_of_lt hlt, ?_⟩, hnd⟩ (fun q => ⟨.inr, fun h => by rcases h with rfl | h; exact hin; exact h⟩) (mod_set _ _ _)
    have hkey' := hkey
    unfold Keyed at hkey ⊢
    rw [← hkey]
    apply List.ext_getElem?
    intro i
    simp only [List.getElem?_map, Array.getElem?_toList, Array.getElem?_modify]
    by_cases hi : ps.idxOf p = i
    · subst hi
      have h1 := congrArg (fun l => l[ps.idxOf p]?) hkey
      simp only [List.getElem?_map, Array.getElem?_toList] at h1
      have h2 : ps[ps.idxOf p]? = some p := by rw [List.getElem?_eq_getElem hidx]; simp
      rw [h2] at h1
      rw [if_pos rfl, h1]
      cases he : es[ps.idxOf p]? with
      | none => rw [he] at h1; cases h1
      | some e => simp
    · rw [if_neg hi]
  · have hr : (Instr.mapUpdate 70 (.map (some mb)) (wayV p) (.agg #[])).run Try.prog w = .ok () { w with heap := w.heap.setIfInBounds mb (.map (es.push { key := wayV p, val := .agg #[], born := clk }) (clk + 1)) } := by
      unfold Instr.mapUpdate
      simp only [Sem.run_bind, run_underlying Try.underlying70, Result.andThen_ok, hgo, run_checkKey_way, run_findKey_way p w es.toList ps hkey, if_neg hin, hrun]
    simp only [Sem.run_bind, hr, Result.andThen_ok, Sem.run_pure]
    refine h _ (ps ++ [p]) ⟨⟨_, _, Array.getElem?_setIfInBounds_self_of_lt hlt, ?_⟩, ?_⟩ (fun q => by simp [or_comm]) (mod_set _ _ _)
    · unfold Keyed at hkey ⊢
      simp [hkey]
    · rw [List.nodup_append]
      exact ⟨hnd, by simp, by intro x hx y hy; simp at hy; subst hy; rintro rfl; exact hin hx⟩

set_option maxRecDepth 10000 in
theorem wp_delete (m k : Operand) (mb : Nat) (p : Int × Int) (ps : List (Int × Int)) (ho : o.op = .call { callee := .builtin .delete, args := #[m, k], argTypes := #[70, 84] }) (hm : a.eval m = .map (some mb)) (hk : a.eval k = wayV p) (hM : MapW w mb ps)
    (h : ∀ w' ps', MapW w' mb ps' → (∀ q, q ∈ ps' ↔ q ≠ p ∧ q ∈ ps) → Mod (fun k => k = mb) w w' → K (a.put o.dst (.tuple #[])) w') : o.wp Try.prog a w K Q := by
  obtain ⟨⟨es, clk, hb, hkey⟩, hnd⟩ := hM
  have hgo : (getObj mb).run Try.prog w = .ok (.map es clk) w := by simp [getObj, Sem.run, hb]
  have hlt : mb < w.heap.size := by
    rcases Nat.lt_or_ge mb w.heap.size with h | h
    · exact h
    · rw [Array.getElem?_eq_none h] at hb; cases hb
  have hrun : ∀ o', (setObj mb o').run Try.prog w = .ok () { w with heap := w.heap.setIfInBounds mb o' } := fun o' => setObj_heap hb (by simp)
  unfold Oper.wp execOp
  simp only [ho, resolve, invoke, builtin, Sem.run_bind, Sem.run_pure, Result.andThen_ok, List.map_toArray, List.map_cons, List.map_nil, hm, hk]
  by_cases hin : p ∈ ps
  · have hidx : ps.idxOf p < ps.length := List.idxOf_lt_length_of_mem hin
    have hr : (Builtin.delete_ #[70, 84] o.type #[.map (some mb), wayV p]).run Try.prog w = .ok (.tuple #[]) { w with heap := w.heap.setIfInBounds mb (.map (es.eraseIdxIfInBounds (ps.idxOf p)) clk) } := by
      unfold Builtin.delete_
      simp [run_underlying Try.underlying70, hgo, run_checkKey_way, run_findKey_way p w es.toList ps hkey, hin, hrun]
    rw [hr]
    simp only [Result.andThen_ok]
    refine h _ (ps.eraseIdx (ps.idxOf p)) ⟨⟨_, _, Array.getElem?_setIfInBounds_self_of_lt hlt, ?_⟩, ?_⟩ (fun q => ?_) (mod_set _ _ _)
    · unfold Keyed at hkey ⊢
      have hlen : es.size = ps.length := by have := congrArg List.length hkey; simpa using this
      have e : (es.eraseIdxIfInBounds (ps.idxOf p)).toList = es.toList.eraseIdx (ps.idxOf p) := by
        rw [Array.eraseIdxIfInBounds, dif_pos (by omega)]; simp
      have hme : ∀ {α β : Type} (f : α → β) (l : List α) (i : Nat), (l.eraseIdx i).map f = (l.map f).eraseIdx i := by
        intro α β f l
        induction l with
        | nil => intro i; simp
        | cons x l ih => intro i; cases i <;> simp [ih]
      rw [e, hme, hkey, ← hme]
    · exact hnd.sublist (List.eraseIdx_sublist _ _)
    · rw [← List.erase_eq_eraseIdx_of_idxOf (i := ps.idxOf p) rfl, hnd.mem_erase_iff]
  · have hr : (Builtin.delete_ #[70, 84] o.type #[.map (some mb), wayV p]).run Try.prog w = .ok (.tuple #[]) { w with heap := w.heap.setIfInBounds mb (.map es clk) } := by
      unfold Builtin.delete_
      simp [run_underlying Try.underlying70, hgo, run_checkKey_way, run_findKey_way p w es.toList ps hkey, hin, hrun]
    rw [hr]
    simp only [Result.andThen_ok]
    refine h _ ps ⟨⟨_, _, Array.getElem?_setIfInBounds_self_of_lt hlt, hkey⟩, hnd⟩ (fun q => ⟨fun hq => ⟨by rintro rfl; exact hin hq, hq⟩, fun h => h.2⟩) (mod_set _ _ _)
end

end Go.Proofs.Ytdllpakdhnanbaa
