/- What the statement TreeRoots needs, part 4. -/
import Derived.Defers
import Derived.Laws.StructEq
import Derived.Test.YtchkikmmcmjcgaaGreatTreeRootsP3
/- A path's sides in memory; what the deferred closure appends. -/
namespace Go.Proofs.YtchkikmmcmjcgaaGreat
set_option linter.unusedSimpArgs false
set_option linter.unusedVariables false
set_option linter.unnecessarySimpa false
set_option linter.unusedSectionVars false
open Go.RowKit Go.Shelf


abbrev SideL := Bool × List UInt8
def fit32 (x : List UInt8) : List UInt8 := (x ++ List.replicate 32 0).take 32
theorem fit32_len (x : List UInt8) : (fit32 x).length = 32 := by simp [fit32]
theorem fit32_eq {x : List UInt8} (h : x.length = 32) : fit32 x = x := by unfold fit32; rw [List.take_append_of_le_length (by omega), List.take_of_length_le (by omega)]
def sideEnc (s : SideL) : List Value := Value.bool s.1 :: (fit32 s.2).map byteV
theorem sideEnc_len (s : SideL) : (sideEnc s).length = 33 := by simp [sideEnc, fit32_len]
theorem sideEnc_one (s : SideL) : ∀ c ∈ sideEnc s, c.oneCell' = true := by
  intro c hc
  simp only [sideEnc, List.mem_cons, List.mem_map] at hc
  rcases hc with rfl | ⟨b, _, rfl⟩ <;> rfl
def sideCells (s : SideL) : Array Value := (sideEnc s).toArray
theorem sideCells_size (s : SideL) : (sideCells s).size = 33 := by simp [sideCells, sideEnc_len]
theorem sideCells_one (s : SideL) : ∀ c ∈ sideCells s, c.oneCell' = true := fun c hc => sideEnc_one s c (by simpa [sideCells] using hc)
theorem sideZ : (Tryz.prog.info? 41).bind (·.zero) = some (.agg (sideCells (false, zeroID))) := by kernel_rfl
theorem side_i : (Tryz.prog.info? 41).map (fun i => (i.zero, i.size, i.bytes)) = some (some (.agg (sideCells (false, zeroID))), 33, 33) := by kernel_rfl
theorem side_i2 : (Tryz.prog.info? 41).map (fun i => (i.zero, i.size)) = some (some (.agg (sideCells (false, zeroID))), 33) := by kernel_rfl
theorem sidePlaces : placesOf Tryz.prog 41 = some [(0, 1), (1, 32)] := by kernel_rfl
theorem put_side {b : Bool} {y x : List UInt8} (hx : x.length = 32) : putRow (sideCells (b, y)) 1 (idCells x) = sideCells (b, x) := by
  have h1 := fit32_len y
  simp only [putRow, sideCells, sideEnc, idCells, List.size_toArray, List.length_map, hx]
  congr 1
  have h2 : (Value.bool b :: (fit32 y).map byteV).drop (1 + 32) = [] := by apply List.drop_of_length_le; simp [h1]
  rw [h2, List.append_nil, fit32_eq hx]
  rfl
theorem built_side0 (x : List UInt8) (hx : x.length = 32) : Tryz.prog.built 41 [(1, .agg (idCells x))] = some (sideCells (false, x)) := by
  rw [built_struct sideZ sidePlaces, fill_cons (off := 1) (size := 32) rfl (by simp [Value.cells, idCells_size, hx]) (by rw [sideCells_size]; omega), fill_nil]
  show some (putRow _ _ (idCells x)) = _
  rw [put_side hx]
theorem built_side1 (x : List UInt8) (hx : x.length = 32) : Tryz.prog.built 41 [(0, .bool true), (1, .agg (idCells x))] = some (sideCells (true, x)) := by
  have e : putRow (sideCells (false, zeroID)) 0 (Value.bool true).cells = sideCells (true, zeroID) := by kernel_rfl
  rw [built_struct sideZ sidePlaces, fill_cons (off := 0) (size := 1) rfl rfl (by rw [sideCells_size]; omega), e, fill_cons (off := 1) (size := 32) rfl (by simp [Value.cells, idCells_size, hx]) (by rw [sideCells_size]; omega), fill_nil]
  show some (putRow _ _ (idCells x)) = _
  rw [put_side hx]
theorem wp_gatB {α : Type} {P : Program} {o : Oper} {a : Act} {w : World} {K : Act → World → Prop} {Q : Exit → Act → World → Prop} (enc : α → List Value) (s x : Operand) (t e : TypeId) (z : Value) (k bytes : Nat) (ho : o.op = .call { callee := .builtin .append, args := #[s, x], argTypes := #[t, t] })
    (ht : P.underlying t = some (.slice e)) (hi : (P.info? e).map (fun i => (i.zero, i.size, i.bytes)) = some (some z, k, bytes)) (hzs : z.cells.size = k) (hk0 : 0 < k) (h1 : ∀ x, ∀ c ∈ enc x, c.oneCell' = true)
    (base : Nat) (v : Value) (l : List α) (hs : a.eval s = v) (hown : Gat enc e k base w v l) (u : Value) (m : List α) (hx : a.eval x = u) (hsrc : Src w k u m.length (m.flatMap enc)) (h63 : l.length + m.length ≤ maxLen) (hlen : (l.length + m.length) * bytes ≤ 140737488355328) (hbase : base ≤ w.heap.size)
    (h : ∀ v' w', Gat enc e k base w' v' (l ++ m) → Mod (fun q => v.ownBlock = some q) w w' → (∀ g, v'.ownBlock = some g → v.ownBlock = some g ∨ w.heap.size ≤ g) → K (a.put o.dst v') w') : o.wp P a w K Q := by
  refine wp_append s x t e z k bytes ho ht hi hzs hk0 base v l.length _ hs hown u m.length _ hx hsrc (fun c hc => ?_) h63 hlen hbase (fun v' w' ho' hg hv => ?_)
  · obtain ⟨y, _, hy⟩ := List.mem_flatMap.1 hc
    exact h1 y c hy
  · refine h v' w' ?_ ((Mod.refl _ _).grown hg (fun k e _ => e)) (fun g hg' => ?_)
    · unfold Gat
      rw [List.length_append, List.flatMap_append]
      exact ho'
    · rcases hv with hv | hv
      · exact .inl (by rw [← hv]; exact hg')
      · rw [hv] at hg'; cases hg'; exact .inr (Nat.le_refl _)
/-- What out holds behind a call that has appended some sides. -/
def OutR (w : World) (bo : Nat) (v : Value) (ps : List SideL) (w' : World) : Prop := ∃ v', w'.heap[bo]? = some (.cells #[v'] 28 (0, 0)) ∧ Gat sideEnc 41 33 0 w' v' ps ∧ (∀ g, v'.ownBlock = some g → v.ownBlock = some g ∨ w.heap.size ≤ g) ∧ Mod (fun k => k = bo ∨ v.ownBlock = some k) w w'
theorem own_ne {w : World} {v : Value} {ps : List SideL} {b : Nat} {cs : Array Value} {T : TypeId} (hg : Gat sideEnc 41 33 0 w v ps) (hb : w.heap[b]? = some (.cells cs T (0, 0))) (hT : T ≠ 41) : v.ownBlock ≠ some b := by
  intro e
  rcases hg.2 with ⟨rfl, h0⟩ | ⟨g, cap, cur, rfl, -, hg', -⟩
  · cases e
  · cases e
    rw [hg'] at hb
    cases hb
    exact hT rfl
set_option maxRecDepth 10000 in
theorem pathD_any {w : World} {bo b7 b10 : Nat} {v : Value} {ps : List SideL} (s : SideL) (hbo : w.heap[bo]? = some (.cells #[v] 28 (0, 0))) (hg : Gat sideEnc 41 33 0 w v ps) (h7 : w.heap[b7]? = some (.cells #[.pointer (some ⟨bo, 0, none⟩)] 61 (0, 0)))
    (h10 : w.heap[b10]? = some (.cells (sideCells s) 41 (0, 0))) (hne : v.ownBlock ≠ some b10) (hlen : ps.length ≤ 1000000) (u : FrameMode) :
    CallsD Tryz.prog 50 #[.pointer (some ⟨b7, 0, none⟩), .pointer (some ⟨b10, 0, none⟩)] u w (fun e u' w' => u' = u ∧ e = .returned (.tuple #[]) ∧ OutR w bo v (ps ++ [s]) w') := by
  have ho7 := own_ne hg h7 (by decide)
  have hoo := own_ne hg hbo (by decide)
  have h7o : b7 ≠ bo := fun e => by subst e; rw [h7] at hbo; cases hbo
  have h10o : b10 ≠ bo := fun e => by
    subst e
    have h := Option.some.inj (h10.symm.trans hbo)
    injection h with _ hT _
    exact absurd hT (by decide)
  have hc7 := CellsAt.one.1 (CellsAt.whole h7)
  have hco := CellsAt.one.1 (CellsAt.whole hbo)
  have hc10 := CellsAt.whole h10
  have hss := sideCells_size s
  have HG := Lib.hid hg
  have hlt : bo < w.heap.size := (Array.getElem?_eq_some_iff.1 hbo).1
  have hv1 : v.oneCell' = true := owns_one hg
  obtain ⟨C, hC⟩ : ∃ C, sideCells s = C := ⟨_, rfl⟩
  have HC := Lib.hid hC
  rw [hC] at hss hc10
  clear hg h7 h10 hC
  go_enter_d Tryz.func50, Tryz.ntmps50
  go_upto_region 0 with (fail)
  have hT : Mod NoB w w.drew := (Mod.refl _ _).drew
  have hS : Mod (fun k => k = bo ∨ v.ownBlock = some k) w w.drew := (Mod.refl _ _).drew
  refine wp_region_tree [(0, 0), (1, 0), (2, 3), (4, 0)] 2 [(6, 1), (7, 3), (8, 1)] [] (fun w' => Mod (fun k => k = bo ∨ v.ownBlock = some k) w w') #[true, true, true, false, true, false, false, false, false] (by kernel_rfl) (by kernel_rfl) (by kernel_rfl) (by kernel_rfl) (by kernel_rfl) (fun _ _ _ _ hd h => ⟨hd.trans h.1, h.2⟩) hS ?_
  simp only [List.map_cons, List.map_nil, List.getD_cons_zero, List.getD_cons_succ]
  refine wpPi_val rfl (fun w' hS => exec_load1 61 _ (by rfl) b7 0 (by rfl) _ (hS.cell (fun h => h.elim h7o ho7) hc7) _ Tryz.underlying61 rfl) ?_
  simp only [pl, pn, el, ec, sz, ss, gz, gs, if_true, if_false, Bool.false_eq_true, Bool.not_true, Bool.not_false, Nat.add_zero, Nat.zero_add, Nat.reduceAdd]
  refine wpPi_val rfl (fun w' hS => exec_load1 61 _ (by rfl) b7 0 (by rfl) _ (hS.cell (fun h => h.elim h7o ho7) hc7) _ Tryz.underlying61 rfl) ?_
  simp only [pl, pn, el, ec, sz, ss, gz, gs, if_true, if_false, Bool.false_eq_true, Bool.not_true, Bool.not_false, Nat.add_zero, Nat.zero_add, Nat.reduceAdd]
  refine wpPi_nilCheck _ _ rfl rfl rfl ?_
  simp only [pl, pn, el, ec, sz, ss, gz, gs, if_true, if_false, Bool.false_eq_true, Bool.not_true, Bool.not_false, Nat.add_zero, Nat.zero_add, Nat.reduceAdd]
  refine wpPi_val rfl (fun w' hS => exec_loadA 41 _ (by rfl) b10 0 (by rfl) C (hc10.keep hS (fun h => h.elim h10o hne)) _ Tryz.underlying41 rfl 33 (by kernel_rfl) hss) ?_
  simp only [pl, pn, el, ec, sz, ss, gz, gs, if_true, if_false, Bool.false_eq_true, Bool.not_true, Bool.not_false, Nat.add_zero, Nat.zero_add, Nat.reduceAdd]
  refine wpPi_nil ?_
  refine wpTree_part [3, 5] (by kernel_rfl) ?_
  simp only [List.forall_mem_cons, List.not_mem_nil, false_implies, implies_true, and_true]
  refine ⟨?_, ?_⟩
  · intro K hK
    simp only [List.getElem?_toArray, Array.getD_eq_getD_getElem?, List.getElem?_cons_succ, List.getElem?_cons_zero, Option.getD_some]
    refine wp_exec (exec_load1 28 _ (by rfl) bo 0 (by rfl) v (hT.cell id hco) _ Tryz.underlying28 rfl) ?_
    refine hK _ _ (hT.mono fun _ _ h => h.elim) ?_
    clear hK K
    try simp only [pl, pn, el, ec, sz, ss, gz, gs, if_true, if_false, Bool.false_eq_true, Bool.not_true, Bool.not_false, Nat.add_zero, Nat.zero_add, Nat.reduceAdd]
    refine wpTree_part [5] (by kernel_rfl) ?_
    simp only [List.forall_mem_cons, List.not_mem_nil, false_implies, implies_true, and_true]
    intro K hK
    simp only [List.getElem?_toArray, Array.getD_eq_getD_getElem?, List.getElem?_cons_succ, List.getElem?_cons_zero, Option.getD_some]
    refine wp_buildSlice1 28 41 _ (.agg C) (.agg (sideCells (false, zeroID))) 33 (by rfl) (by rfl) Tryz.underlying28 side_i2 (by omega) (by omega) hss (fun w7 hB7 hm7 hs7 => ?_)
    replace hB7 : w7.heap[w.heap.size]? = some (.cells (sideEnc s).toArray 41 (0, 0)) := by rw [← HC.out] at hB7; exact hB7
    replace hT := hT.trans0 hm7
    refine hK _ _ (hT.mono fun _ _ h => h.elim) ?_
    clear hK K
    try simp only [pl, pn, el, ec, sz, ss, gz, gs, if_true, if_false, Bool.false_eq_true, Bool.not_true, Bool.not_false, Nat.add_zero, Nat.zero_add, Nat.reduceAdd]
    refine wpTree_done ?_
    try simp only [List.map_cons, List.map_nil, List.getD_cons_zero, List.getD_cons_succ]
    try simp only [pl, pn, el, ec, sz, ss, gz, gs, if_true, if_false, Bool.false_eq_true, Bool.not_true, Bool.not_false, Nat.add_zero, Nat.zero_add, Nat.reduceAdd]
    refine wpPi_do rfl (fun K hK => ?_)
    refine wp_gatB sideEnc _ _ 28 41 (.agg (sideCells (false, zeroID))) 33 33 (by rfl) Tryz.underlying28 side_i (by kernel_rfl) (by omega) sideEnc_one 0 _ _ (by rfl) (HG.out.keep0 hT) (.slice (some ⟨w.heap.size, 0, none⟩) 1 1) [s] (by rfl) (src_lit (enc := sideEnc) (x := s) (e := 41) sideEnc_len hB7) (by simp only [List.length_singleton]; unfold maxLen; omega) (by simp only [List.length_singleton]; omega) (Nat.zero_le _) (fun v8 w8 hg8 hm8 hn8 => ?_)
    have hM8 : Mod (fun k => v.ownBlock = some k) w w8 := (hT.mono (fun _ _ h => h.elim)).trans hm8 (fun _ _ h => h)
    have hv8 : v8.oneCell' = true := owns_one hg8
    have hbo8 := hM8.obj hoo hbo
    have hsz7 := hT.size
    refine hK _ _ (hM8.mono fun _ _ h => .inr h) ?_
    clear hK K
    try simp only [pl, pn, el, ec, sz, ss, gz, gs, if_true, if_false, Bool.false_eq_true, Bool.not_true, Bool.not_false, Nat.add_zero, Nat.zero_add, Nat.reduceAdd]
    refine wpPi_nilCheck _ _ rfl rfl rfl ?_
    simp only [pl, pn, el, ec, sz, ss, gz, gs, if_true, if_false, Bool.false_eq_true, Bool.not_true, Bool.not_false, Nat.add_zero, Nat.zero_add, Nat.reduceAdd]
    refine wpPi_do rfl (fun K hK => ?_)
    refine wp_store1 28 _ _ bo 0 v8 (by rfl) (by rfl) (by rfl) hv8 (by kernel_rfl) _ _ hbo8 (by simp) (fun w9 hB9 hm9 => ?_)
    replace hB9 : w9.heap[bo]? = some (.cells #[v8] 28 (0, 0)) := hB9
    have hM9 : Mod (fun k => k = bo ∨ v.ownBlock = some k) w w9 := (hM8.mono fun _ _ h => .inr h).trans hm9 (fun _ _ h => .inl h)
    refine hK _ _ hM9 ?_
    clear hK K
    try simp only [pl, pn, el, ec, sz, ss, gz, gs, if_true, if_false, Bool.false_eq_true, Bool.not_true, Bool.not_false, Nat.add_zero, Nat.zero_add, Nat.reduceAdd]
    refine wpPi_nil ?_
    have hg9 := hg8.keep hm9 (fun q hq e => by
      subst e
      rcases hn8 _ hq with h | h
      · exact hoo h
      · have h' : w.heap.size ≤ _ := Nat.le_trans hsz7 h
        omega)
    go_end0
    exact ⟨rfl, v8, hB9, hg9, fun g hg => (hn8 g hg).imp id fun h => by have := hsz7; omega, hM9⟩
  · intro K hK
    simp only [List.getElem?_toArray, Array.getD_eq_getD_getElem?, List.getElem?_cons_succ, List.getElem?_cons_zero, Option.getD_some]
    refine wp_buildSlice1 28 41 _ (.agg C) (.agg (sideCells (false, zeroID))) 33 (by rfl) (by rfl) Tryz.underlying28 side_i2 (by omega) (by omega) hss (fun w7 hB7 hm7 hs7 => ?_)
    replace hB7 : w7.heap[w.heap.size]? = some (.cells (sideEnc s).toArray 41 (0, 0)) := by rw [← HC.out] at hB7; exact hB7
    replace hT := hT.trans0 hm7
    refine hK _ _ (hT.mono fun _ _ h => h.elim) ?_
    clear hK K
    try simp only [pl, pn, el, ec, sz, ss, gz, gs, if_true, if_false, Bool.false_eq_true, Bool.not_true, Bool.not_false, Nat.add_zero, Nat.zero_add, Nat.reduceAdd]
    refine wpTree_part [3] (by kernel_rfl) ?_
    simp only [List.forall_mem_cons, List.not_mem_nil, false_implies, implies_true, and_true]
    intro K hK
    simp only [List.getElem?_toArray, Array.getD_eq_getD_getElem?, List.getElem?_cons_succ, List.getElem?_cons_zero, Option.getD_some]
    refine wp_exec (exec_load1 28 _ (by rfl) bo 0 (by rfl) v (hT.cell id hco) _ Tryz.underlying28 rfl) ?_
    refine hK _ _ (hT.mono fun _ _ h => h.elim) ?_
    clear hK K
    try simp only [pl, pn, el, ec, sz, ss, gz, gs, if_true, if_false, Bool.false_eq_true, Bool.not_true, Bool.not_false, Nat.add_zero, Nat.zero_add, Nat.reduceAdd]
    refine wpTree_done ?_
    try simp only [List.map_cons, List.map_nil, List.getD_cons_zero, List.getD_cons_succ]
    try simp only [pl, pn, el, ec, sz, ss, gz, gs, if_true, if_false, Bool.false_eq_true, Bool.not_true, Bool.not_false, Nat.add_zero, Nat.zero_add, Nat.reduceAdd]
    refine wpPi_do rfl (fun K hK => ?_)
    refine wp_gatB sideEnc _ _ 28 41 (.agg (sideCells (false, zeroID))) 33 33 (by rfl) Tryz.underlying28 side_i (by kernel_rfl) (by omega) sideEnc_one 0 _ _ (by rfl) (HG.out.keep0 hT) (.slice (some ⟨w.heap.size, 0, none⟩) 1 1) [s] (by rfl) (src_lit (enc := sideEnc) (x := s) (e := 41) sideEnc_len hB7) (by simp only [List.length_singleton]; unfold maxLen; omega) (by simp only [List.length_singleton]; omega) (Nat.zero_le _) (fun v8 w8 hg8 hm8 hn8 => ?_)
    have hM8 : Mod (fun k => v.ownBlock = some k) w w8 := (hT.mono (fun _ _ h => h.elim)).trans hm8 (fun _ _ h => h)
    have hv8 : v8.oneCell' = true := owns_one hg8
    have hbo8 := hM8.obj hoo hbo
    have hsz7 := hT.size
    refine hK _ _ (hM8.mono fun _ _ h => .inr h) ?_
    clear hK K
    try simp only [pl, pn, el, ec, sz, ss, gz, gs, if_true, if_false, Bool.false_eq_true, Bool.not_true, Bool.not_false, Nat.add_zero, Nat.zero_add, Nat.reduceAdd]
    refine wpPi_nilCheck _ _ rfl rfl rfl ?_
    simp only [pl, pn, el, ec, sz, ss, gz, gs, if_true, if_false, Bool.false_eq_true, Bool.not_true, Bool.not_false, Nat.add_zero, Nat.zero_add, Nat.reduceAdd]
    refine wpPi_do rfl (fun K hK => ?_)
    refine wp_store1 28 _ _ bo 0 v8 (by rfl) (by rfl) (by rfl) hv8 (by kernel_rfl) _ _ hbo8 (by simp) (fun w9 hB9 hm9 => ?_)
    replace hB9 : w9.heap[bo]? = some (.cells #[v8] 28 (0, 0)) := hB9
    have hM9 : Mod (fun k => k = bo ∨ v.ownBlock = some k) w w9 := (hM8.mono fun _ _ h => .inr h).trans hm9 (fun _ _ h => .inl h)
    refine hK _ _ hM9 ?_
    clear hK K
    try simp only [pl, pn, el, ec, sz, ss, gz, gs, if_true, if_false, Bool.false_eq_true, Bool.not_true, Bool.not_false, Nat.add_zero, Nat.zero_add, Nat.reduceAdd]
    refine wpPi_nil ?_
    have hg9 := hg8.keep hm9 (fun q hq e => by
      subst e
      rcases hn8 _ hq with h | h
      · exact hoo h
      · have h' : w.heap.size ≤ _ := Nat.le_trans hsz7 h
        omega)
    go_end0
    exact ⟨rfl, v8, hB9, hg9, fun g hg => (hn8 g hg).imp id fun h => by have := hsz7; omega, hM9⟩
end Go.Proofs.YtchkikmmcmjcgaaGreat

/- Leaves compared: slices.Index, slices.Contains; which leaves are lacking. -/
namespace Go.Proofs.YtchkikmmcmjcgaaGreat
set_option linter.unusedSimpArgs false
set_option linter.unusedVariables false
set_option linter.unnecessarySimpa false
set_option linter.unusedSectionVars false
open Go.RowKit Go.Shelf


theorem isAggStringT (w : World) : (isAgg 9).run Tryz.prog w = .ok false w := by
  unfold isAgg
  rw [Sem.run_bind, run_underlying Tryz.underlying9 w]; rfl
theorem isAggIDT (w : World) : (isAgg 24).run Tryz.prog w = .ok true w := by
  unfold isAgg
  rw [Sem.run_bind, run_underlying Tryz.underlying24 w]; rfl
theorem sizeIDT (w : World) : (sizeOf 24).run Tryz.prog w = .ok 32 w := sizeOf_of (by kernel_rfl) w
theorem sizeU8T (w : World) : (sizeOf 5).run Tryz.prog w = .ok 1 w := sizeOf_of (by kernel_rfl) w
theorem part_key (x : Leaf) (w : World) : (part 9 (leafCells x) 0).run Tryz.prog w = .ok (.string x.key) w := by
  unfold part
  rw [Sem.run_bind, isAggStringT w]
  have e : (leafCells x)[0]? = some (.string x.key) := by
    rw [← Array.getElem?_toList]; simp [leafCells]
  simp [e]
theorem part_way {x : Leaf} (h : LeafOk x) (w : World) : (part 24 (leafCells x) 1).run Tryz.prog w = .ok (.agg (idCells x.way)) w := by
  have hx : (leafCells x).extract 1 (1 + 32) = idCells x.way := by
    simp only [leafCells, idCells, List.extract_toArray, List.extract_eq_take_drop]
    congr 1
    simp [h.1]
  unfold part
  rw [Sem.run_bind, isAggIDT w]
  simp [sizeIDT, hx]
theorem part_val {x : Leaf} (h : LeafOk x) (w : World) : (part 24 (leafCells x) 33).run Tryz.prog w = .ok (.agg (idCells x.val)) w := by
  have hx : (leafCells x).extract 33 (33 + 32) = idCells x.val := by
    simp only [leafCells, idCells, List.extract_toArray, List.extract_eq_take_drop]
    congr 1
    have h1 : (Value.string x.key :: (List.map byteV x.way ++ List.map byteV x.val)).drop 33 = List.map byteV x.val := by
      rw [List.drop_succ_cons, List.drop_append_of_le_length (by simp [h.1]), List.drop_of_length_le (by simp [h.1])]; rfl
    rw [h1, List.take_of_length_le (by simp [h.2])]
  unfold part
  rw [Sem.run_bind, isAggIDT w]
  simp [sizeIDT, hx]
theorem run_eql_leaf {x y : Leaf} (hx : LeafOk x) (hy : LeafOk y) (w : World) : (binOp .eql 59 (.agg (leafCells x)) (.agg (leafCells y))).run Tryz.prog w = .ok (.bool (decide (x = y))) w := by
  have hp : Tryz.prog.stoodInHeld 59 = false := by kernel_rfl
  have hS : Tryz.prog.underlying 59 = some (.struct (Tryz.prog.fieldsOf 59)) := by kernel_rfl
  rw [run_eql_struct, show (10000 : Nat) = 9999 + 1 from rfl, run_equalIn_struct w 9999 59 _ _ hS hp]
  simp only [Program.fieldsOf, Tryz.underlying59]
  have he : ∀ (a b : List UInt8), a.length = 32 → b.length = 32 → (Op.equalIn 9999 24 (.agg (idCells a)) (.agg (idCells b))).run Tryz.prog w = .ok (a == b) w := fun a b ha hb => run_equalIn_bytes w 9997 24 5 32 Tryz.underlying24 Tryz.underlying5 (fun w => sizeU8T w) a b ha hb
  have he1 := he x.way y.way hx.1 hy.1
  have he2 := he x.val y.val hx.2 hy.2
  simp [Op.eqFields, part_key, part_way hx, part_way hy, part_val hx, part_val hy, run_equalIn_string w 9998 9 _ _ Tryz.underlying9, he1, he2]
  have hk : x.key.toList = y.key.toList ↔ x.key = y.key := by
    rw [ByteArray.toList_eq, ByteArray.toList_eq]
    exact ⟨fun h => ByteArray.ext (Array.toList_inj.1 h), fun h => by rw [h]⟩
  have hd : (x = y) ↔ x.key = y.key ∧ x.way = y.way ∧ x.val = y.val := by cases x; cases y; simp
  have e : decide (x = y) = (decide (x.key = y.key) && (decide (x.way = y.way) && decide (x.val = y.val))) := by rw [Bool.eq_iff_iff]; simp [hd]
  rw [e]
  by_cases h1 : x.key = y.key <;> by_cases h2 : x.way = y.way <;> by_cases h3 : x.val = y.val <;> simp [hk, h1, h2, h3]
theorem exec_eql_leaf {w : World} {o : Oper} {a : Act} (x y : Operand) (yt : TypeId) (ho : o.op = .binOp .eql 59 x y yt) (u v : Leaf) (hx : a.eval x = .agg (leafCells u)) (hy : a.eval y = .agg (leafCells v)) (hu : LeafOk u) (hv : LeafOk v) (b : Bool) (hb : decide (u = v) = b) :
    (execOp a.eval o).run Tryz.prog w = .ok (.value (.bool b)) w := by
  subst hb
  have h1 := run_eqGuard_agg (P := Tryz.prog) w .eql 59 x y (leafCells u) (leafCells v) (by kernel_rfl)
  unfold execOp
  simp only [ho, hx, hy, Sem.run_bind, h1, Result.andThen_ok, run_eql_leaf hu hv, Sem.run_pure]
def IdxRel (x : Leaf) (l : List Leaf) (w0 : World) (i : Value) (w : World) : Prop := ∃ k : Nat, k ≤ l.length ∧ i = .int .i64 k ∧ (∀ j (_ : j < k) (h : j < l.length), x ≠ l[j]) ∧ Mod NoB w0 w
def IdxR (x : Leaf) (l : List Leaf) (w : World) : Ending → World → Prop := fun e w' => ∃ r : Int, e = .returned (.int .i64 r) ∧ (0 ≤ r ↔ x ∈ l) ∧ Mod NoB w w'
set_option maxRecDepth 10000 in
theorem indexL_any {w : World} {G : Nat → Prop} {v : Value} {l : List Leaf} (h : Ls w G v l) (x : Leaf) (hx : LeafOk x) : Calls Tryz.prog 106 #[v, .agg (leafCells x)] w (IdxR x l w) := by
  have HS := Lib.hid h
  obtain ⟨ad, cap, rfl, hlm, -⟩ := Sl.at h
  have hxs := leafCells_size hx
  obtain ⟨C, hC⟩ : ∃ C, leafCells x = C := ⟨_, rfl⟩
  have HC := Lib.hid hC
  rw [hC] at hxs ⊢
  clear h hC
  go_enter Tryz.func106, Tryz.ntmps106
  go_upto_region 0 with (fail)
  refine wp_region_seq [1, 3] (fun _ => True) (by rfl) (by rfl) trivial ?_
  simp only [List.zip_cons_cons, List.zip_nil_right]
  refine wpPi_do rfl (fun K hK => ?_)
  refine wp_box 59 _ _ (by rfl) (by rfl) (fun w1 hB1 hm1 hs1 => ?_)
  replace hB1 : w1.heap[w.heap.size]? = some (.cells C 59 (0, 0)) := hB1
  refine hK _ _ trivial ?_
  clear hK K
  try simp only [pl, pn, el, ec, sz, ss, gz, gs, if_true, if_false, Bool.false_eq_true, Bool.not_true, Bool.not_false, Nat.add_zero, Nat.zero_add, Nat.reduceAdd]
  refine wpPi_assign _ rfl rfl ?_
  simp only [pl, pn, el, ec, sz, ss, gz, gs, if_true, if_false, Bool.false_eq_true, Bool.not_true, Bool.not_false, Nat.add_zero, Nat.zero_add, Nat.reduceAdd]
  refine wpPi_nil ?_
  have HS1 := Lib.hid (HS.out.keep0 hm1)
  have hcb := CellsAt.whole hB1
  generalize w.heap.size = b3 at *
  clear hB1
  go_wp2
  go_loopw [8] (IdxRel x l w1) (fun i _ => l.length - (intOf i).toNat)
  case atStart => exact ⟨0, by omega, rfl, fun j h1 h2 => by omega, Mod.refl _ _⟩
  case round =>
    rename World => wr
    obtain ⟨k, hk, rfl, hne, hm⟩ := hrel
    have HNE := Lib.hid hne
    clear hne
    by_cases hlt : k < l.length
    · have hz : (k : Int) < (l.length : Int) := by omega
      obtain ⟨_, _, hv, -, hat⟩ := Sl.at (HS1.out.keep0 hm)
      cases hv
      obtain ⟨b, off, rfl, -, -, hc⟩ := hat k hlt
      obtain ⟨_, -, ⟨rfl, hok⟩, hc⟩ := hc k hlt
      have hys := leafCells_size hok
      have hcb' := hcb.keep hm id
      by_cases heq : x = l[k]
      · have hmem : x ∈ l := by rw [heq]; exact List.getElem_mem hlt
        generalize l[k] = y at *
        go_upto_region 4 with (fail)
        have hS : Mod NoB wr wr.drew := (Mod.refl _ _).drew
        refine wp_region_pi [(0, 0), (1, 3), (2, 3), (3, 3), (4, 0), (5, 0)] [] (fun w' => Mod NoB wr w') (by kernel_rfl) (by kernel_rfl) (by kernel_rfl) (by kernel_rfl) (fun _ _ _ _ hd h => ⟨hd.trans h.1, h.2⟩) hS ?_
        simp only [List.map_cons, List.map_nil, List.getD_cons_zero, List.getD_cons_succ]
        refine wpPi_val rfl (fun w' hS => exec_loadA 59 _ (by rfl) b3 0 (by rfl) C (hcb'.keep hS id) _ Tryz.underlying59 rfl 65 (by kernel_rfl) hxs) ?_
        simp only [pl, pn, el, ec, sz, ss, gz, gs, if_true, if_false, Bool.false_eq_true, Bool.not_true, Bool.not_false, Nat.add_zero, Nat.zero_add, Nat.reduceAdd]
        refine wpPi_move _ rfl rfl ?_
        simp only [pl, pn, el, ec, sz, ss, gz, gs, if_true, if_false, Bool.false_eq_true, Bool.not_true, Bool.not_false, Nat.add_zero, Nat.zero_add, Nat.reduceAdd]
        refine wpPi_move _ rfl rfl ?_
        simp only [pl, pn, el, ec, sz, ss, gz, gs, if_true, if_false, Bool.false_eq_true, Bool.not_true, Bool.not_false, Nat.add_zero, Nat.zero_add, Nat.reduceAdd]
        refine wpPi_index _ _ _ _ _ _ _ _ _ rfl rfl rfl rfl Tryz.underlying49 (n := 65) (by kernel_rfl) hlt ?_
        simp only [pl, pn, el, ec, sz, ss, gz, gs, if_true, if_false, Bool.false_eq_true, Bool.not_true, Bool.not_false, Nat.add_zero, Nat.zero_add, Nat.reduceAdd]
        refine wpPi_val rfl (fun w' hS => exec_loadA 59 _ (by rfl) b (off + k * 65) (by rfl) (leafCells y) (hc.keep hS id) _ Tryz.underlying59 rfl 65 (by kernel_rfl) hys) ?_
        simp only [pl, pn, el, ec, sz, ss, gz, gs, if_true, if_false, Bool.false_eq_true, Bool.not_true, Bool.not_false, Nat.add_zero, Nat.zero_add, Nat.reduceAdd]
        refine wpPi_val rfl (fun w' hS => exec_eql_leaf _ _ _ rfl x y (by rw [HC.out]; rfl) rfl hx hok true (decide_eq_true heq)) ?_
        simp only [pl, pn, el, ec, sz, ss, gz, gs, if_true, if_false, Bool.false_eq_true, Bool.not_true, Bool.not_false, Nat.add_zero, Nat.zero_add, Nat.reduceAdd]
        refine wpPi_nil ?_
        have hMq := (hm1.trans0 hm).trans0 hS
        clear hm hS
        go_wp2
        go_ret
        exact ⟨k, rfl, ⟨fun _ => hmem, fun _ => by omega⟩, hMq⟩
      · have hstep : ∀ j (_ : j < k + 1) (h : j < l.length), x ≠ l[j] := fun j h1 h2 => by
          rcases Nat.lt_or_ge j k with h4 | h4
          · exact HNE.out j h4 h2
          · obtain rfl : j = k := by omega
            exact heq
        have HSTEP := Lib.hid hstep
        clear hstep
        generalize l[k] = y at *
        go_upto_region 4 with (fail)
        have hS : Mod NoB wr wr.drew := (Mod.refl _ _).drew
        refine wp_region_pi [(0, 0), (1, 3), (2, 3), (3, 3), (4, 0), (5, 0)] [] (fun w' => Mod NoB wr w') (by kernel_rfl) (by kernel_rfl) (by kernel_rfl) (by kernel_rfl) (fun _ _ _ _ hd h => ⟨hd.trans h.1, h.2⟩) hS ?_
        simp only [List.map_cons, List.map_nil, List.getD_cons_zero, List.getD_cons_succ]
        refine wpPi_val rfl (fun w' hS => exec_loadA 59 _ (by rfl) b3 0 (by rfl) C (hcb'.keep hS id) _ Tryz.underlying59 rfl 65 (by kernel_rfl) hxs) ?_
        simp only [pl, pn, el, ec, sz, ss, gz, gs, if_true, if_false, Bool.false_eq_true, Bool.not_true, Bool.not_false, Nat.add_zero, Nat.zero_add, Nat.reduceAdd]
        refine wpPi_move _ rfl rfl ?_
        simp only [pl, pn, el, ec, sz, ss, gz, gs, if_true, if_false, Bool.false_eq_true, Bool.not_true, Bool.not_false, Nat.add_zero, Nat.zero_add, Nat.reduceAdd]
        refine wpPi_move _ rfl rfl ?_
        simp only [pl, pn, el, ec, sz, ss, gz, gs, if_true, if_false, Bool.false_eq_true, Bool.not_true, Bool.not_false, Nat.add_zero, Nat.zero_add, Nat.reduceAdd]
        refine wpPi_index _ _ _ _ _ _ _ _ _ rfl rfl rfl rfl Tryz.underlying49 (n := 65) (by kernel_rfl) hlt ?_
        simp only [pl, pn, el, ec, sz, ss, gz, gs, if_true, if_false, Bool.false_eq_true, Bool.not_true, Bool.not_false, Nat.add_zero, Nat.zero_add, Nat.reduceAdd]
        refine wpPi_val rfl (fun w' hS => exec_loadA 59 _ (by rfl) b (off + k * 65) (by rfl) (leafCells y) (hc.keep hS id) _ Tryz.underlying59 rfl 65 (by kernel_rfl) hys) ?_
        simp only [pl, pn, el, ec, sz, ss, gz, gs, if_true, if_false, Bool.false_eq_true, Bool.not_true, Bool.not_false, Nat.add_zero, Nat.zero_add, Nat.reduceAdd]
        refine wpPi_val rfl (fun w' hS => exec_eql_leaf _ _ _ rfl x y (by rw [HC.out]; rfl) rfl hx hok false (decide_eq_false heq)) ?_
        simp only [pl, pn, el, ec, sz, ss, gz, gs, if_true, if_false, Bool.false_eq_true, Bool.not_true, Bool.not_false, Nat.add_zero, Nat.zero_add, Nat.reduceAdd]
        refine wpPi_nil ?_
        have hMq := hm.trans0 hS
        clear hm hS
        go_wp2
        go_roundw
        case rel => exact ⟨k + 1, by omega, by go_num, HSTEP.out, hMq⟩
        case measure => simp [intOf]; omega
    · have hz : ¬ (k : Int) < (l.length : Int) := by omega
      have hnm : x ∉ l := fun hm => by
        obtain ⟨j, hj, e⟩ := List.getElem_of_mem hm
        exact HNE.out j (by omega) hj e.symm
      have hMq := hm1.trans0 hm
      clear hm
      go_wp2
      go_ret
      exact ⟨-1, rfl, ⟨fun h => by omega, fun h => absurd h hnm⟩, hMq⟩
set_option maxRecDepth 10000 in
theorem containsL_any {w : World} {G : Nat → Prop} {v : Value} {l : List Leaf} (h : Ls w G v l) (x : Leaf) (hx : LeafOk x) : Calls Tryz.prog 101 #[v, .agg (leafCells x)] w (RetM (.bool (decide (x ∈ l))) w) := by
  have HS := Lib.hid h
  obtain ⟨ad, cap, rfl, -, -⟩ := Sl.at h
  have hxs := leafCells_size hx
  obtain ⟨C, hC⟩ : ∃ C, leafCells x = C := ⟨_, rfl⟩
  have HC := Lib.hid hC
  rw [hC] at hxs ⊢
  clear h hC
  go_enter Tryz.func101, Tryz.ntmps101
  go_upto_region 0 with (fail)
  refine wp_region_seq [1, 3] (fun _ => True) (by rfl) (by rfl) trivial ?_
  simp only [List.zip_cons_cons, List.zip_nil_right]
  refine wpPi_do rfl (fun K hK => ?_)
  refine wp_box 59 _ _ (by rfl) (by rfl) (fun w1 hB1 hm1 hs1 => ?_)
  replace hB1 : w1.heap[w.heap.size]? = some (.cells C 59 (0, 0)) := hB1
  refine hK _ _ trivial ?_
  clear hK K
  try simp only [pl, pn, el, ec, sz, ss, gz, gs, if_true, if_false, Bool.false_eq_true, Bool.not_true, Bool.not_false, Nat.add_zero, Nat.zero_add, Nat.reduceAdd]
  refine wpPi_assign _ rfl rfl ?_
  simp only [pl, pn, el, ec, sz, ss, gz, gs, if_true, if_false, Bool.false_eq_true, Bool.not_true, Bool.not_false, Nat.add_zero, Nat.zero_add, Nat.reduceAdd]
  refine wpPi_nil ?_
  have hcb := CellsAt.whole hB1
  generalize w.heap.size = b3 at *
  clear hB1
  go_upto_region 1 with (fail)
  refine wp_region_seq [3, 1, 1, 3, 3] (fun _ => True) (by rfl) (by rfl) trivial ?_
  simp only [List.zip_cons_cons, List.zip_nil_right]
  refine wpPi_move _ rfl rfl ?_
  simp only [pl, pn, el, ec, sz, ss, gz, gs, if_true, if_false, Bool.false_eq_true, Bool.not_true, Bool.not_false, Nat.add_zero, Nat.zero_add, Nat.reduceAdd]
  refine wpPi_do rfl (fun K hK => ?_)
  refine wp_exec (exec_loadA 59 _ (by rfl) b3 0 (by rfl) C hcb _ Tryz.underlying59 rfl 65 (by kernel_rfl) hxs) ?_
  refine hK _ _ trivial ?_
  clear hK K
  try simp only [pl, pn, el, ec, sz, ss, gz, gs, if_true, if_false, Bool.false_eq_true, Bool.not_true, Bool.not_false, Nat.add_zero, Nat.zero_add, Nat.reduceAdd]
  refine wpPi_do rfl (fun K hK => ?_)
  refine wp_enterQ (run_call 106 [.tmp 5, .tmp 6] _ rfl _ Tryz.func106 rfl (by kernel_rfl) [.slice ad l.length cap, .agg C] rfl _) (by rw [← HC.out]; exact indexL_any (HS.out.keep0 hm1) x hx) ?_
  rintro e w2 ⟨r, rfl, hr, hm2⟩
  have hM2 := hm1.trans0 hm2
  refine ⟨_, rfl, hK _ _ trivial ?_⟩
  clear hK K
  try simp only [pl, pn, el, ec, sz, ss, gz, gs, if_true, if_false, Bool.false_eq_true, Bool.not_true, Bool.not_false, Nat.add_zero, Nat.zero_add, Nat.reduceAdd]
  refine wpPi_cmp _ _ _ _ _ _ _ _ rfl rfl rfl rfl rfl (decide (x ∈ l)) (by simp only [cmpB]; rw [decide_eq_decide]; exact hr) ?_
  simp only [pl, pn, el, ec, sz, ss, gz, gs, if_true, if_false, Bool.false_eq_true, Bool.not_true, Bool.not_false, Nat.add_zero, Nat.zero_add, Nat.reduceAdd]
  refine wpPi_assign _ rfl rfl ?_
  simp only [pl, pn, el, ec, sz, ss, gz, gs, if_true, if_false, Bool.false_eq_true, Bool.not_true, Bool.not_false, Nat.add_zero, Nat.zero_add, Nat.reduceAdd]
  refine wpPi_nil ?_
  go_wp2
  go_ret
  exact ⟨rfl, hM2⟩
end Go.Proofs.YtchkikmmcmjcgaaGreat

/- tree.lacks, tree.differ: which keys differ at a place. -/
namespace Go.Proofs.YtchkikmmcmjcgaaGreat
set_option linter.unusedSimpArgs false
set_option linter.unusedVariables false
set_option linter.unnecessarySimpa false
set_option linter.unusedSectionVars false
open Go.RowKit Go.Shelf

theorem fo_59_0 : fieldOff Tryz.prog 59 0 = some 0 := by kernel_rfl
theorem lack_succ {a b : List Leaf} {k : Nat} (h : k < a.length) : lackL (a.take (k + 1)) b = lackL (a.take k) b ++ (if a[k] ∈ b then [] else [a[k].key]) := by
  unfold lackL
  rw [List.take_succ_eq_append_getElem h, List.filter_append, List.map_append]
  by_cases hb : a[k] ∈ b <;> simp [hb]
def LackRel (a b : List Leaf) (base : Nat) (w0 : World) (v i : Value) (w : World) : Prop := ∃ k : Nat, k ≤ a.length ∧ i = .int .i64 k ∧ Gat strEnc 9 1 base w v (lackL (a.take k) b) ∧ Mod NoB w0 w
def KeysR (w : World) (l : List ByteArray) : Ending → World → Prop := fun e w' => ∃ v, e = .returned v ∧ Gat strEnc 9 1 w.heap.size w' v l ∧ Mod NoB w w'
set_option maxRecDepth 10000 in
set_option maxHeartbeats 1000000 in
theorem lacks_any {w : World} {G G' : Nat → Prop} {va vb : Value} {a b : List Leaf} (ha : Ls w G va a) (hb : Ls w G' vb b) (hal : a.length ≤ 1000000) : Calls Tryz.prog 81 #[.agg #[va, vb]] w (KeysR w (lackL a b)) := by
  have HA := Lib.hid ha
  have HB := Lib.hid hb
  obtain ⟨aa, ca, rfl, -, -⟩ := Sl.at ha
  obtain ⟨ab, cb, rfl, -, -⟩ := Sl.at hb
  have hz32 : (leafCells zeroLeaf).size = 65 := by kernel_rfl
  clear ha hb
  go_enter Tryz.func81, Tryz.ntmps81
  go_upto_region 0 with (fail)
  refine wp_region_seq [1, 3] (fun _ => True) (by rfl) (by rfl) trivial ?_
  simp only [List.zip_cons_cons, List.zip_nil_right]
  refine wpPi_do rfl (fun K hK => ?_)
  refine wp_box 101 _ _ (by rfl) (by rfl) (fun w1 hB1 hm1 hs1 => ?_)
  replace hB1 : w1.heap[w.heap.size]? = some (.cells #[.slice aa a.length ca, .slice ab b.length cb] 101 (0, 0)) := hB1
  refine hK _ _ trivial ?_
  clear hK K
  try simp only [pl, pn, el, ec, sz, ss, gz, gs, if_true, if_false, Bool.false_eq_true, Bool.not_true, Bool.not_false, Nat.add_zero, Nat.zero_add, Nat.reduceAdd]
  refine wpPi_assign _ rfl rfl ?_
  simp only [pl, pn, el, ec, sz, ss, gz, gs, if_true, if_false, Bool.false_eq_true, Bool.not_true, Bool.not_false, Nat.add_zero, Nat.zero_add, Nat.reduceAdd]
  refine wpPi_nil ?_
  have hcw := CellsAt.whole hB1
  have h0 := hcw.cell (j := 0) (v := .slice aa a.length ca) rfl
  have h1 := hcw.cell (j := 1) (v := .slice ab b.length cb) rfl
  have hsz0 : w.heap.size ≤ w1.heap.size := hm1.size
  generalize hb1 : w.heap.size = b1 at *
  clear hcw hB1
  go_upto_region 1 with (fail)
  refine wp_region_seq [3, 1, 3, 3] (fun _ => True) (by rfl) (by rfl) trivial ?_
  simp only [List.zip_cons_cons, List.zip_nil_right]
  refine wpPi_field _ _ _ _ _ _ rfl rfl rfl fo_101_0 ?_
  simp only [pl, pn, el, ec, sz, ss, gz, gs, if_true, if_false, Bool.false_eq_true, Bool.not_true, Bool.not_false, Nat.add_zero, Nat.zero_add, Nat.reduceAdd]
  refine wpPi_do rfl (fun K hK => ?_)
  refine wp_exec (exec_load1 49 _ (by rfl) b1 0 (by rfl) _ h0 _ Tryz.underlying49 rfl) ?_
  refine hK _ _ trivial ?_
  clear hK K
  try simp only [pl, pn, el, ec, sz, ss, gz, gs, if_true, if_false, Bool.false_eq_true, Bool.not_true, Bool.not_false, Nat.add_zero, Nat.zero_add, Nat.reduceAdd]
  refine wpPi_len _ _ _ _ _ rfl rfl rfl (by kernel_rfl) ?_
  simp only [pl, pn, el, ec, sz, ss, gz, gs, if_true, if_false, Bool.false_eq_true, Bool.not_true, Bool.not_false, Nat.add_zero, Nat.zero_add, Nat.reduceAdd]
  refine wpPi_move _ rfl rfl ?_
  simp only [pl, pn, el, ec, sz, ss, gz, gs, if_true, if_false, Bool.false_eq_true, Bool.not_true, Bool.not_false, Nat.add_zero, Nat.zero_add, Nat.reduceAdd]
  refine wpPi_nil ?_
  clear h0
  go_wp2
  go_loopw [2, 8] (LackRel a b w1.heap.size w1) (fun _ i _ => a.length - (intOf i).toNat)
  case atStart => exact ⟨0, by omega, rfl, Gat.nil _ _ _ _ _, Mod.refl _ _⟩
  case round =>
    rename World => wr
    obtain ⟨k, hk, rfl, hg, hm⟩ := hrel
    have HG := Lib.hid hg
    obtain ⟨ad2, cap2, rfl⟩ := hg.slice
    clear hg
    by_cases hlt : k < a.length
    · have hz : (k : Int) < (a.length : Int) := by omega
      obtain ⟨_, _, hv, -, hat⟩ := Sl.at (HA.out.keep0 (hm1.trans0 hm))
      cases hv
      obtain ⟨bq, off, rfl, -, -, hc⟩ := hat k hlt
      obtain ⟨_, -, ⟨rfl, hok⟩, hc⟩ := hc k hlt
      have hxs := leafCells_size hok
      have hls := lack_succ (b := b) hlt
      have hlk := lack_len (a.take k) b
      have hkl : (a.take k).length = k := by simp; omega
      have HLS := Lib.hid hls
      have hnl : (lackL (a.take k) b).length ≤ 1000000 := by omega
      clear hat hls hlk hkl
      generalize a[k] = x at *
      go_upto_region 3 with (fail)
      refine wp_region_seq [3, 1, 1, 1] (fun _ => True) (by rfl) (by rfl) trivial ?_
      simp only [List.zip_cons_cons, List.zip_nil_right]
      refine wpPi_index _ _ _ _ _ _ _ _ _ rfl rfl rfl rfl Tryz.underlying49 (n := 65) (by kernel_rfl) hlt ?_
      simp only [pl, pn, el, ec, sz, ss, gz, gs, if_true, if_false, Bool.false_eq_true, Bool.not_true, Bool.not_false, Nat.add_zero, Nat.zero_add, Nat.reduceAdd]
      refine wpPi_do rfl (fun K hK => ?_)
      refine wp_exec (exec_loadA 59 _ (by rfl) bq (off + k * 65) (by rfl) (leafCells x) hc _ Tryz.underlying59 rfl 65 (by kernel_rfl) hxs) ?_
      refine hK _ _ trivial ?_
      clear hK K
      try simp only [pl, pn, el, ec, sz, ss, gz, gs, if_true, if_false, Bool.false_eq_true, Bool.not_true, Bool.not_false, Nat.add_zero, Nat.zero_add, Nat.reduceAdd]
      refine wpPi_do rfl (fun K hK => ?_)
      refine wp_alloc 59 _ (by rfl) leafZ (fun w2 hB2 hm2 hs2 => ?_)
      replace hB2 : w2.heap[wr.heap.size]? = some (.cells (leafCells zeroLeaf) 59 (0, 0)) := hB2
      refine hK _ _ trivial ?_
      clear hK K
      try simp only [pl, pn, el, ec, sz, ss, gz, gs, if_true, if_false, Bool.false_eq_true, Bool.not_true, Bool.not_false, Nat.add_zero, Nat.zero_add, Nat.reduceAdd]
      refine wpPi_do rfl (fun K hK => ?_)
      refine wp_storeA 59 _ _ wr.heap.size 0 (leafCells x) (by rfl) (by rfl) (by rfl) (leafCells_one x) 65 (by kernel_rfl) hxs _ _ hB2 (by rw [hxs, hz32]; exact Nat.le_refl _) (fun w3 hB3 hm3 => ?_)
      rw [putRow_whole (by rw [hxs, hz32])] at hB3
      refine hK _ _ trivial ?_
      clear hK K
      try simp only [pl, pn, el, ec, sz, ss, gz, gs, if_true, if_false, Bool.false_eq_true, Bool.not_true, Bool.not_false, Nat.add_zero, Nat.zero_add, Nat.reduceAdd]
      refine wpPi_nil ?_
      have hM3 := hm2.transB hm3 (Nat.le_refl _)
      have hmw := hm.trans0 hM3
      generalize wr.heap.size = b4 at *
      clear hm2 hm3 hB2 hc
      have hcx := CellsAt.whole hB3
      have hkx := leaf_key hcx
      go_upto_region 4 with (fail)
      by_cases hmem : x ∈ b
      · rw [if_pos hmem, List.append_nil] at HLS
        refine wp_region_seq [3, 1, 1, 1, 3] (fun _ => True) (by rfl) (by rfl) trivial ?_
        simp only [List.zip_cons_cons, List.zip_nil_right]
        refine wpPi_field _ _ _ _ _ _ rfl rfl rfl fo_101_1 ?_
        simp only [pl, pn, el, ec, sz, ss, gz, gs, if_true, if_false, Bool.false_eq_true, Bool.not_true, Bool.not_false, Nat.add_zero, Nat.zero_add, Nat.reduceAdd]
        refine wpPi_do rfl (fun K hK => ?_)
        refine wp_exec (exec_load1 49 _ (by rfl) b1 1 (by rfl) _ (hmw.cell id h1) _ Tryz.underlying49 rfl) ?_
        refine hK _ _ trivial ?_
        clear hK K
        try simp only [pl, pn, el, ec, sz, ss, gz, gs, if_true, if_false, Bool.false_eq_true, Bool.not_true, Bool.not_false, Nat.add_zero, Nat.zero_add, Nat.reduceAdd]
        refine wpPi_do rfl (fun K hK => ?_)
        refine wp_exec (exec_loadA 59 _ (by rfl) b4 0 (by rfl) (leafCells x) hcx _ Tryz.underlying59 rfl 65 (by kernel_rfl) hxs) ?_
        refine hK _ _ trivial ?_
        clear hK K
        try simp only [pl, pn, el, ec, sz, ss, gz, gs, if_true, if_false, Bool.false_eq_true, Bool.not_true, Bool.not_false, Nat.add_zero, Nat.zero_add, Nat.reduceAdd]
        refine wpPi_do rfl (fun K hK => ?_)
        refine wp_enterQ (run_call 101 [.tmp 13, .tmp 14] _ rfl _ Tryz.func101 rfl (by kernel_rfl) [.slice ab b.length cb, .agg (leafCells x)] rfl _) (containsL_any (HB.out.keep0 (hm1.trans0 hmw)) x hok) ?_
        rintro e w4 ⟨rfl, hm4⟩
        rw [decide_eq_true hmem]
        have hM4 := hM3.trans0 hm4
        refine ⟨_, rfl, hK _ _ trivial ?_⟩
        clear hK K
        try simp only [pl, pn, el, ec, sz, ss, gz, gs, if_true, if_false, Bool.false_eq_true, Bool.not_true, Bool.not_false, Nat.add_zero, Nat.zero_add, Nat.reduceAdd]
        refine wpPi_not _ _ _ rfl rfl rfl ?_
        simp only [pl, pn, el, ec, sz, ss, gz, gs, if_true, if_false, Bool.false_eq_true, Bool.not_true, Bool.not_false, Nat.add_zero, Nat.zero_add, Nat.reduceAdd]
        refine wpPi_nil ?_
        have hMr := hm.trans0 hM4
        have hgr := HG.out.keep0 hM4
        clear hm4 hM4 hM3 hmw hm
        go_wp2
        go_roundw
        case rel => exact ⟨k + 1, by omega, by go_num, by rw [HLS.out]; exact hgr, hMr⟩
        case measure => simp [intOf]; omega
      · rw [if_neg hmem] at HLS
        refine wp_region_seq [3, 1, 1, 1, 3] (fun _ => True) (by rfl) (by rfl) trivial ?_
        simp only [List.zip_cons_cons, List.zip_nil_right]
        refine wpPi_field _ _ _ _ _ _ rfl rfl rfl fo_101_1 ?_
        simp only [pl, pn, el, ec, sz, ss, gz, gs, if_true, if_false, Bool.false_eq_true, Bool.not_true, Bool.not_false, Nat.add_zero, Nat.zero_add, Nat.reduceAdd]
        refine wpPi_do rfl (fun K hK => ?_)
        refine wp_exec (exec_load1 49 _ (by rfl) b1 1 (by rfl) _ (hmw.cell id h1) _ Tryz.underlying49 rfl) ?_
        refine hK _ _ trivial ?_
        clear hK K
        try simp only [pl, pn, el, ec, sz, ss, gz, gs, if_true, if_false, Bool.false_eq_true, Bool.not_true, Bool.not_false, Nat.add_zero, Nat.zero_add, Nat.reduceAdd]
        refine wpPi_do rfl (fun K hK => ?_)
        refine wp_exec (exec_loadA 59 _ (by rfl) b4 0 (by rfl) (leafCells x) hcx _ Tryz.underlying59 rfl 65 (by kernel_rfl) hxs) ?_
        refine hK _ _ trivial ?_
        clear hK K
        try simp only [pl, pn, el, ec, sz, ss, gz, gs, if_true, if_false, Bool.false_eq_true, Bool.not_true, Bool.not_false, Nat.add_zero, Nat.zero_add, Nat.reduceAdd]
        refine wpPi_do rfl (fun K hK => ?_)
        refine wp_enterQ (run_call 101 [.tmp 13, .tmp 14] _ rfl _ Tryz.func101 rfl (by kernel_rfl) [.slice ab b.length cb, .agg (leafCells x)] rfl _) (containsL_any (HB.out.keep0 (hm1.trans0 hmw)) x hok) ?_
        rintro e w4 ⟨rfl, hm4⟩
        rw [decide_eq_false hmem]
        have hM4 := hM3.trans0 hm4
        refine ⟨_, rfl, hK _ _ trivial ?_⟩
        clear hK K
        try simp only [pl, pn, el, ec, sz, ss, gz, gs, if_true, if_false, Bool.false_eq_true, Bool.not_true, Bool.not_false, Nat.add_zero, Nat.zero_add, Nat.reduceAdd]
        refine wpPi_not _ _ _ rfl rfl rfl ?_
        simp only [pl, pn, el, ec, sz, ss, gz, gs, if_true, if_false, Bool.false_eq_true, Bool.not_true, Bool.not_false, Nat.add_zero, Nat.zero_add, Nat.reduceAdd]
        refine wpPi_nil ?_
        replace hkx := hm4.cell id hkx
        clear hcx hmw hM3
        go_upto_region 5 with (fail)
        refine wp_region_seq [3, 3, 1, 1, 1, 3] (fun _ => True) (by rfl) (by rfl) trivial ?_
        simp only [List.zip_cons_cons, List.zip_nil_right]
        refine wpPi_move _ rfl rfl ?_
        simp only [pl, pn, el, ec, sz, ss, gz, gs, if_true, if_false, Bool.false_eq_true, Bool.not_true, Bool.not_false, Nat.add_zero, Nat.zero_add, Nat.reduceAdd]
        refine wpPi_field _ _ _ _ _ _ rfl rfl rfl fo_59_0 ?_
        simp only [pl, pn, el, ec, sz, ss, gz, gs, if_true, if_false, Bool.false_eq_true, Bool.not_true, Bool.not_false, Nat.add_zero, Nat.zero_add, Nat.reduceAdd]
        refine wpPi_do rfl (fun K hK => ?_)
        refine wp_exec (exec_load1 9 _ (by rfl) b4 0 (by rfl) (.string x.key) hkx _ Tryz.underlying9 rfl) ?_
        refine hK _ _ trivial ?_
        clear hK K
        try simp only [pl, pn, el, ec, sz, ss, gz, gs, if_true, if_false, Bool.false_eq_true, Bool.not_true, Bool.not_false, Nat.add_zero, Nat.zero_add, Nat.reduceAdd]
        refine wpPi_do rfl (fun K hK => ?_)
        refine wp_buildSlice1 67 9 _ (.string x.key) (.string ⟨#[]⟩) 1 (by rfl) (by rfl) Tryz.underlying67 str_i2 (by omega) (by omega) rfl (fun w5 hB5 hm5 hs5 => ?_)
        have hM5 := hM4.trans0 hm5
        refine hK _ _ trivial ?_
        clear hK K
        try simp only [pl, pn, el, ec, sz, ss, gz, gs, if_true, if_false, Bool.false_eq_true, Bool.not_true, Bool.not_false, Nat.add_zero, Nat.zero_add, Nat.reduceAdd]
        refine wpPi_do rfl (fun K hK => ?_)
        refine wp_gat strEnc _ _ 67 9 (.string ⟨#[]⟩) 1 16 (by rfl) Tryz.underlying67 str_i (by kernel_rfl) (by omega) strEnc_one w1.heap.size _ _ (by rfl) (HG.out.keep0 hM5) (.slice (some ⟨w4.heap.size, 0, none⟩) 1 1) [x.key] (by rfl) (src_lit (enc := strEnc) (x := x.key) (e := 9) (fun _ => rfl) hB5) (by simp only [List.length_singleton]; unfold maxLen; omega) (by simp only [List.length_singleton]; omega) (by have := hm.size; have := hM5.size; omega) (fun v6 w6 hg6 hm6 => ?_)
        rw [← HLS.out] at hg6
        refine hK _ _ trivial ?_
        clear hK K
        try simp only [pl, pn, el, ec, sz, ss, gz, gs, if_true, if_false, Bool.false_eq_true, Bool.not_true, Bool.not_false, Nat.add_zero, Nat.zero_add, Nat.reduceAdd]
        refine wpPi_assign _ rfl rfl ?_
        simp only [pl, pn, el, ec, sz, ss, gz, gs, if_true, if_false, Bool.false_eq_true, Bool.not_true, Bool.not_false, Nat.add_zero, Nat.zero_add, Nat.reduceAdd]
        refine wpPi_nil ?_
        have hMr : Mod NoB w1 w6 := (hm.trans0 hM5).trans hm6 (fun k hk e => by have := (HG.out.lt e).1; omega)
        clear hm6 hm5 hM5 hM4 hm4 hm hB5
        go_wp2
        go_roundw
        case rel => exact ⟨k + 1, by omega, by go_num, hg6, hMr⟩
        case measure => simp [intOf]; omega
    · have hz : ¬ (k : Int) < (a.length : Int) := by omega
      obtain rfl : k = a.length := by omega
      simp only [List.take_length] at HG ⊢
      have hMr := hm1.trans0 hm
      have hgr : Gat strEnc 9 1 w.heap.size wr (.slice ad2 (lackL a b).length cap2) (lackL a b) := HG.out.base (by rw [hb1]; exact hsz0)
      clear hm
      go_wp2
      go_ret
      exact ⟨_, rfl, hgr, hMr⟩
end Go.Proofs.YtchkikmmcmjcgaaGreat

/- tree.differ: which keys differ at a place, and how many places are compared. -/
namespace Go.Proofs.YtchkikmmcmjcgaaGreat
set_option linter.unusedSimpArgs false
set_option linter.unusedVariables false
set_option linter.unnecessarySimpa false
set_option linter.unusedSectionVars false
open Go.RowKit Go.Shelf


def DifferR (w : World) (p : List ByteArray × Nat) : Ending → World → Prop := fun e w' => ∃ v, e = .returned (.tuple #[v, .int .i64 (p.2 : Int)]) ∧ Gat strEnc 9 1 w.heap.size w' v p.1 ∧ Mod NoB w w'
set_option maxRecDepth 10000 in
set_option maxHeartbeats 1000000 in
theorem differ_same (f i : Nat) (hi : f + i = 256) {w : World} {G G' : Nat → Prop} {va vb : Value} {a b : List Leaf} (ha : Ls w G va a) (hb : Ls w G' vb b) (hpa : Placed i a) (hpb : Placed i b) (hal : a.length ≤ 65536) (hbl : b.length ≤ 65536) (hd : dig f i a = dig f i b) :
    Calls Tryz.prog 60 #[.agg #[va, vb], .int .i64 (i : Int)] w (DifferR w (dif f i a b)) := by
  rw [dif_same hd]
  have HA := Lib.hid ha
  have HB := Lib.hid hb
  have hda := dig_len hi hpa.lie
  have hdb := dig_len hi hpb.lie
  have hva := Sl.one ha
  have hvb := Sl.one hb
  have HD := Lib.hid hd
  obtain ⟨aa, ca, rfl, -, -⟩ := Sl.at ha
  obtain ⟨ab, cb, rfl, -, -⟩ := Sl.at hb
  clear ha hb hd
  go_enter Tryz.func60, Tryz.ntmps60
  go_upto_region 0 with (fail)
  refine wp_region_seq [1, 3, 3] (fun _ => True) (by rfl) (by rfl) trivial ?_
  simp only [List.zip_cons_cons, List.zip_nil_right]
  refine wpPi_do rfl (fun K hK => ?_)
  refine wp_box 101 _ _ (by rfl) (by rfl) (fun w1 hB1 hm1 hs1 => ?_)
  replace hB1 : w1.heap[w.heap.size]? = some (.cells #[.slice aa a.length ca, .slice ab b.length cb] 101 (0, 0)) := hB1
  refine hK _ _ trivial ?_
  clear hK K
  try simp only [pl, pn, el, ec, sz, ss, gz, gs, if_true, if_false, Bool.false_eq_true, Bool.not_true, Bool.not_false, Nat.add_zero, Nat.zero_add, Nat.reduceAdd]
  refine wpPi_assign _ rfl rfl ?_
  simp only [pl, pn, el, ec, sz, ss, gz, gs, if_true, if_false, Bool.false_eq_true, Bool.not_true, Bool.not_false, Nat.add_zero, Nat.zero_add, Nat.reduceAdd]
  refine wpPi_assign _ rfl rfl ?_
  simp only [pl, pn, el, ec, sz, ss, gz, gs, if_true, if_false, Bool.false_eq_true, Bool.not_true, Bool.not_false, Nat.add_zero, Nat.zero_add, Nat.reduceAdd]
  refine wpPi_nil ?_
  have hcw := CellsAt.whole hB1
  have h0 := hcw.cell (j := 0) (v := .slice aa a.length ca) rfl
  have h1 := hcw.cell (j := 1) (v := .slice ab b.length cb) rfl
  generalize hb1 : w.heap.size = b1 at *
  clear hB1 hcw
  go_upto_region 1 with (fail)
  have hS : Mod NoB w1 w1.drew := (Mod.refl _ _).drew
  refine wp_region_pi [(0, 3), (1, 0), (2, 3), (4, 3), (5, 0), (6, 3), (3, 1), (7, 1), (8, 0), (9, 3)] [] (fun w' => Mod NoB w1 w') (by kernel_rfl) (by kernel_rfl) (by kernel_rfl) (by kernel_rfl) (fun _ _ _ _ hd h => ⟨hd.trans h.1, h.2⟩) hS ?_
  simp only [List.map_cons, List.map_nil, List.getD_cons_zero, List.getD_cons_succ]
  refine wpPi_field _ _ _ _ _ _ rfl rfl rfl fo_101_0 ?_
  simp only [pl, pn, el, ec, sz, ss, gz, gs, if_true, if_false, Bool.false_eq_true, Bool.not_true, Bool.not_false, Nat.add_zero, Nat.zero_add, Nat.reduceAdd]
  refine wpPi_val rfl (fun w' hS => exec_load1 49 _ (by rfl) b1 0 (by rfl) _ (hS.cell id h0) _ Tryz.underlying49 rfl) ?_
  simp only [pl, pn, el, ec, sz, ss, gz, gs, if_true, if_false, Bool.false_eq_true, Bool.not_true, Bool.not_false, Nat.add_zero, Nat.zero_add, Nat.reduceAdd]
  refine wpPi_move _ rfl rfl ?_
  simp only [pl, pn, el, ec, sz, ss, gz, gs, if_true, if_false, Bool.false_eq_true, Bool.not_true, Bool.not_false, Nat.add_zero, Nat.zero_add, Nat.reduceAdd]
  refine wpPi_field _ _ _ _ _ _ rfl rfl rfl fo_101_1 ?_
  simp only [pl, pn, el, ec, sz, ss, gz, gs, if_true, if_false, Bool.false_eq_true, Bool.not_true, Bool.not_false, Nat.add_zero, Nat.zero_add, Nat.reduceAdd]
  refine wpPi_val rfl (fun w' hS => exec_load1 49 _ (by rfl) b1 1 (by rfl) _ (hS.cell id h1) _ Tryz.underlying49 rfl) ?_
  simp only [pl, pn, el, ec, sz, ss, gz, gs, if_true, if_false, Bool.false_eq_true, Bool.not_true, Bool.not_false, Nat.add_zero, Nat.zero_add, Nat.reduceAdd]
  refine wpPi_move _ rfl rfl ?_
  simp only [pl, pn, el, ec, sz, ss, gz, gs, if_true, if_false, Bool.false_eq_true, Bool.not_true, Bool.not_false, Nat.add_zero, Nat.zero_add, Nat.reduceAdd]
  refine wpPi_do rfl (fun K hK => ?_)
  refine wp_enterQ (run_call 22 [.tmp 14, .tmp 15] _ rfl _ Tryz.func22 rfl (by kernel_rfl) [.slice aa a.length ca, .int .i64 (i : Int)] rfl _) (digest_any _ f i a _ _ hi (HA.out.keep0 (hm1.trans0 hS)) hpa (by omega)) ?_
  rintro e w2 ⟨rfl, hm2⟩
  have hS2 := hS.trans0 hm2
  refine ⟨_, rfl, hK _ _ hS2 ?_⟩
  clear hK K
  try simp only [pl, pn, el, ec, sz, ss, gz, gs, if_true, if_false, Bool.false_eq_true, Bool.not_true, Bool.not_false, Nat.add_zero, Nat.zero_add, Nat.reduceAdd]
  refine wpPi_do rfl (fun K hK => ?_)
  refine wp_enterQ (run_call 22 [.tmp 18, .tmp 19] _ rfl _ Tryz.func22 rfl (by kernel_rfl) [.slice ab b.length cb, .int .i64 (i : Int)] rfl _) (digest_any _ f i b _ _ hi (HB.out.keep0 (hm1.trans0 hS2)) hpb (by omega)) ?_
  rintro e w3 ⟨rfl, hm3⟩
  have hS3 := hS2.trans0 hm3
  refine ⟨_, rfl, hK _ _ hS3 ?_⟩
  clear hK K
  try simp only [pl, pn, el, ec, sz, ss, gz, gs, if_true, if_false, Bool.false_eq_true, Bool.not_true, Bool.not_false, Nat.add_zero, Nat.zero_add, Nat.reduceAdd]
  refine wpPi_val rfl (fun w' hS => exec_eql_id _ _ _ _ rfl (dig f i a) (dig f i b) rfl rfl 32 5 Tryz.underlying24 Tryz.underlying5 (by kernel_rfl) (by kernel_rfl) hda hdb true (decide_eq_true HD.out)) ?_
  simp only [pl, pn, el, ec, sz, ss, gz, gs, if_true, if_false, Bool.false_eq_true, Bool.not_true, Bool.not_false, Nat.add_zero, Nat.zero_add, Nat.reduceAdd]
  refine wpPi_assign _ rfl rfl ?_
  simp only [pl, pn, el, ec, sz, ss, gz, gs, if_true, if_false, Bool.false_eq_true, Bool.not_true, Bool.not_false, Nat.add_zero, Nat.zero_add, Nat.reduceAdd]
  refine wpPi_nil ?_
  have hM3 := hm1.trans0 hS3
  clear hm1 hm2 hm3 hS hS2 hS3 h0 h1
  go_wp2
  go_ret2
  exact ⟨_, rfl, Gat.nil _ _ _ _ _, hM3⟩
set_option maxRecDepth 10000 in
set_option maxHeartbeats 1000000 in
theorem differ_few (f i : Nat) (hi : f + i = 256) {w : World} {G G' : Nat → Prop} {va vb : Value} {a b : List Leaf} (ha : Ls w G va a) (hb : Ls w G' vb b) (hpa : Placed i a) (hpb : Placed i b) (hal : a.length ≤ 65536) (hbl : b.length ≤ 65536) (hd : dig f i a ≠ dig f i b) (h2 : a.length < 2 ∨ b.length < 2) :
    Calls Tryz.prog 60 #[.agg #[va, vb], .int .i64 (i : Int)] w (DifferR w (dif f i a b)) := by
  rw [dif_few hd h2]
  have HA := Lib.hid ha
  have HB := Lib.hid hb
  have hda := dig_len hi hpa.lie
  have hdb := dig_len hi hpb.lie
  have hla := lack_len a b
  have hlb := lack_len b a
  have HD := Lib.hid hd
  obtain ⟨aa, ca, rfl, -, -⟩ := Sl.at ha
  obtain ⟨ab, cb, rfl, -, -⟩ := Sl.at hb
  clear ha hb hd
  go_enter Tryz.func60, Tryz.ntmps60
  go_upto_region 0 with (fail)
  refine wp_region_seq [1, 3, 3] (fun _ => True) (by rfl) (by rfl) trivial ?_
  simp only [List.zip_cons_cons, List.zip_nil_right]
  refine wpPi_do rfl (fun K hK => ?_)
  refine wp_box 101 _ _ (by rfl) (by rfl) (fun w1 hB1 hm1 hs1 => ?_)
  replace hB1 : w1.heap[w.heap.size]? = some (.cells #[.slice aa a.length ca, .slice ab b.length cb] 101 (0, 0)) := hB1
  refine hK _ _ trivial ?_
  clear hK K
  try simp only [pl, pn, el, ec, sz, ss, gz, gs, if_true, if_false, Bool.false_eq_true, Bool.not_true, Bool.not_false, Nat.add_zero, Nat.zero_add, Nat.reduceAdd]
  refine wpPi_assign _ rfl rfl ?_
  simp only [pl, pn, el, ec, sz, ss, gz, gs, if_true, if_false, Bool.false_eq_true, Bool.not_true, Bool.not_false, Nat.add_zero, Nat.zero_add, Nat.reduceAdd]
  refine wpPi_assign _ rfl rfl ?_
  simp only [pl, pn, el, ec, sz, ss, gz, gs, if_true, if_false, Bool.false_eq_true, Bool.not_true, Bool.not_false, Nat.add_zero, Nat.zero_add, Nat.reduceAdd]
  refine wpPi_nil ?_
  have hcw := CellsAt.whole hB1
  have h0 := hcw.cell (j := 0) (v := .slice aa a.length ca) rfl
  have h1 := hcw.cell (j := 1) (v := .slice ab b.length cb) rfl
  have hsz1 : w.heap.size ≤ w1.heap.size := hm1.size
  generalize hb1 : w.heap.size = b1 at *
  clear hB1
  go_upto_region 1 with (fail)
  have hS : Mod NoB w1 w1.drew := (Mod.refl _ _).drew
  refine wp_region_pi [(0, 3), (1, 0), (2, 3), (4, 3), (5, 0), (6, 3), (3, 1), (7, 1), (8, 0), (9, 3)] [] (fun w' => Mod NoB w1 w') (by kernel_rfl) (by kernel_rfl) (by kernel_rfl) (by kernel_rfl) (fun _ _ _ _ hd h => ⟨hd.trans h.1, h.2⟩) hS ?_
  simp only [List.map_cons, List.map_nil, List.getD_cons_zero, List.getD_cons_succ]
  refine wpPi_field _ _ _ _ _ _ rfl rfl rfl fo_101_0 ?_
  simp only [pl, pn, el, ec, sz, ss, gz, gs, if_true, if_false, Bool.false_eq_true, Bool.not_true, Bool.not_false, Nat.add_zero, Nat.zero_add, Nat.reduceAdd]
  refine wpPi_val rfl (fun w' hS => exec_load1 49 _ (by rfl) b1 0 (by rfl) _ (hS.cell id h0) _ Tryz.underlying49 rfl) ?_
  simp only [pl, pn, el, ec, sz, ss, gz, gs, if_true, if_false, Bool.false_eq_true, Bool.not_true, Bool.not_false, Nat.add_zero, Nat.zero_add, Nat.reduceAdd]
  refine wpPi_move _ rfl rfl ?_
  simp only [pl, pn, el, ec, sz, ss, gz, gs, if_true, if_false, Bool.false_eq_true, Bool.not_true, Bool.not_false, Nat.add_zero, Nat.zero_add, Nat.reduceAdd]
  refine wpPi_field _ _ _ _ _ _ rfl rfl rfl fo_101_1 ?_
  simp only [pl, pn, el, ec, sz, ss, gz, gs, if_true, if_false, Bool.false_eq_true, Bool.not_true, Bool.not_false, Nat.add_zero, Nat.zero_add, Nat.reduceAdd]
  refine wpPi_val rfl (fun w' hS => exec_load1 49 _ (by rfl) b1 1 (by rfl) _ (hS.cell id h1) _ Tryz.underlying49 rfl) ?_
  simp only [pl, pn, el, ec, sz, ss, gz, gs, if_true, if_false, Bool.false_eq_true, Bool.not_true, Bool.not_false, Nat.add_zero, Nat.zero_add, Nat.reduceAdd]
  refine wpPi_move _ rfl rfl ?_
  simp only [pl, pn, el, ec, sz, ss, gz, gs, if_true, if_false, Bool.false_eq_true, Bool.not_true, Bool.not_false, Nat.add_zero, Nat.zero_add, Nat.reduceAdd]
  refine wpPi_do rfl (fun K hK => ?_)
  refine wp_enterQ (run_call 22 [.tmp 14, .tmp 15] _ rfl _ Tryz.func22 rfl (by kernel_rfl) [.slice aa a.length ca, .int .i64 (i : Int)] rfl _) (digest_any _ f i a _ _ hi (HA.out.keep0 (hm1.trans0 hS)) hpa (by omega)) ?_
  rintro e w2 ⟨rfl, hm2⟩
  have hS2 := hS.trans0 hm2
  refine ⟨_, rfl, hK _ _ hS2 ?_⟩
  clear hK K
  try simp only [pl, pn, el, ec, sz, ss, gz, gs, if_true, if_false, Bool.false_eq_true, Bool.not_true, Bool.not_false, Nat.add_zero, Nat.zero_add, Nat.reduceAdd]
  refine wpPi_do rfl (fun K hK => ?_)
  refine wp_enterQ (run_call 22 [.tmp 18, .tmp 19] _ rfl _ Tryz.func22 rfl (by kernel_rfl) [.slice ab b.length cb, .int .i64 (i : Int)] rfl _) (digest_any _ f i b _ _ hi (HB.out.keep0 (hm1.trans0 hS2)) hpb (by omega)) ?_
  rintro e w3 ⟨rfl, hm3⟩
  have hS3 := hS2.trans0 hm3
  refine ⟨_, rfl, hK _ _ hS3 ?_⟩
  clear hK K
  try simp only [pl, pn, el, ec, sz, ss, gz, gs, if_true, if_false, Bool.false_eq_true, Bool.not_true, Bool.not_false, Nat.add_zero, Nat.zero_add, Nat.reduceAdd]
  refine wpPi_val rfl (fun w' hS => exec_eql_id _ _ _ _ rfl (dig f i a) (dig f i b) rfl rfl 32 5 Tryz.underlying24 Tryz.underlying5 (by kernel_rfl) (by kernel_rfl) hda hdb false (decide_eq_false HD.out)) ?_
  simp only [pl, pn, el, ec, sz, ss, gz, gs, if_true, if_false, Bool.false_eq_true, Bool.not_true, Bool.not_false, Nat.add_zero, Nat.zero_add, Nat.reduceAdd]
  refine wpPi_assign _ rfl rfl ?_
  simp only [pl, pn, el, ec, sz, ss, gz, gs, if_true, if_false, Bool.false_eq_true, Bool.not_true, Bool.not_false, Nat.add_zero, Nat.zero_add, Nat.reduceAdd]
  refine wpPi_nil ?_
  have hM3 := hm1.trans0 hS3
  replace hcw := hcw.keep hS3 id
  replace h0 := hS3.cell id h0
  replace h1 := hS3.cell id h1
  have hsz3 := hS3.size
  clear hm1 hm2 hm3 hS hS2 hS3
  generalize dig f i a = da at *
  generalize dig f i b = db at *
  have HN : Hid (2 ≤ a.length → b.length < 2) := fun h => by omega
  clear h2
  by_cases ha2 : (a.length : Int) < 2
  · go_upto_region 3 with (fail)
    refine wp_region_seq [3, 1, 3, 3, 3, 3, 0, 3, 3, 3, 3] (fun _ => True) (by rfl) (by rfl) trivial ?_
    simp only [List.zip_cons_cons, List.zip_nil_right]
    refine wpPi_field _ _ _ _ _ _ rfl rfl rfl fo_101_0 ?_
    simp only [pl, pn, el, ec, sz, ss, gz, gs, if_true, if_false, Bool.false_eq_true, Bool.not_true, Bool.not_false, Nat.add_zero, Nat.zero_add, Nat.reduceAdd]
    refine wpPi_do rfl (fun K hK => ?_)
    refine wp_exec (exec_load1 49 _ (by rfl) b1 0 (by rfl) _ h0 _ Tryz.underlying49 rfl) ?_
    refine hK _ _ trivial ?_
    clear hK K
    try simp only [pl, pn, el, ec, sz, ss, gz, gs, if_true, if_false, Bool.false_eq_true, Bool.not_true, Bool.not_false, Nat.add_zero, Nat.zero_add, Nat.reduceAdd]
    refine wpPi_len _ _ _ _ _ rfl rfl rfl (by kernel_rfl) ?_
    simp only [pl, pn, el, ec, sz, ss, gz, gs, if_true, if_false, Bool.false_eq_true, Bool.not_true, Bool.not_false, Nat.add_zero, Nat.zero_add, Nat.reduceAdd]
    refine wpPi_any (v := ?_) rfl (fun w' => ?_) ?_; rotate_left; · (go_simp; try with_reducible rfl)
    simp only [pl, pn, el, ec, sz, ss, gz, gs, if_true, if_false, Bool.false_eq_true, Bool.not_true, Bool.not_false, Nat.add_zero, Nat.zero_add, Nat.reduceAdd]
    refine wpPi_move _ rfl rfl ?_
    simp only [pl, pn, el, ec, sz, ss, gz, gs, if_true, if_false, Bool.false_eq_true, Bool.not_true, Bool.not_false, Nat.add_zero, Nat.zero_add, Nat.reduceAdd]
    refine wpPi_skip rfl ?_
    simp only [pl, pn, el, ec, sz, ss, gz, gs, if_true, if_false, Bool.false_eq_true, Bool.not_true, Bool.not_false, Nat.add_zero, Nat.zero_add, Nat.reduceAdd]
    refine wpPi_skip0 rfl ?_
    simp only [pl, pn, el, ec, sz, ss, gz, gs, if_true, if_false, Bool.false_eq_true, Bool.not_true, Bool.not_false, Nat.add_zero, Nat.zero_add, Nat.reduceAdd]
    refine wpPi_skip rfl ?_
    simp only [pl, pn, el, ec, sz, ss, gz, gs, if_true, if_false, Bool.false_eq_true, Bool.not_true, Bool.not_false, Nat.add_zero, Nat.zero_add, Nat.reduceAdd]
    refine wpPi_skip rfl ?_
    simp only [pl, pn, el, ec, sz, ss, gz, gs, if_true, if_false, Bool.false_eq_true, Bool.not_true, Bool.not_false, Nat.add_zero, Nat.zero_add, Nat.reduceAdd]
    refine wpPi_pick _ _ _ _ rfl rfl rfl ?_
    simp only [pl, pn, el, ec, sz, ss, gz, gs, if_true, if_false, Bool.false_eq_true, Bool.not_true, Bool.not_false, Nat.add_zero, Nat.zero_add, Nat.reduceAdd]
    refine wpPi_assign _ rfl rfl ?_
    simp only [pl, pn, el, ec, sz, ss, gz, gs, if_true, if_false, Bool.false_eq_true, Bool.not_true, Bool.not_false, Nat.add_zero, Nat.zero_add, Nat.reduceAdd]
    refine wpPi_nil ?_
    go_upto_region 4 with (fail)
    have hS : Mod NoB w3 w3.drew := (Mod.refl _ _).drew
    refine wp_region_pi [(0, 0), (2, 0), (1, 1), (3, 1), (4, 1), (5, 1), (6, 3), (7, 3)] [] (fun w' => Mod NoB w3 w') (by kernel_rfl) (by kernel_rfl) (by kernel_rfl) (by kernel_rfl) (fun _ _ _ _ hd h => ⟨hd.trans h.1, h.2⟩) hS ?_
    simp only [List.map_cons, List.map_nil, List.getD_cons_zero, List.getD_cons_succ]
    refine wpPi_val rfl (fun w' hS => exec_loadA 101 _ (by rfl) b1 0 (by rfl) _ (hcw.keep hS id) _ Tryz.underlying101 rfl 2 (by kernel_rfl) rfl) ?_
    simp only [pl, pn, el, ec, sz, ss, gz, gs, if_true, if_false, Bool.false_eq_true, Bool.not_true, Bool.not_false, Nat.add_zero, Nat.zero_add, Nat.reduceAdd]
    refine wpPi_val rfl (fun w' hS => exec_loadA 101 _ (by rfl) b1 0 (by rfl) _ (hcw.keep hS id) _ Tryz.underlying101 rfl 2 (by kernel_rfl) rfl) ?_
    simp only [pl, pn, el, ec, sz, ss, gz, gs, if_true, if_false, Bool.false_eq_true, Bool.not_true, Bool.not_false, Nat.add_zero, Nat.zero_add, Nat.reduceAdd]
    refine wpPi_do rfl (fun K hK => ?_)
    refine wp_enterQ (run_call 81 [.tmp 33] _ rfl _ Tryz.func81 rfl (by kernel_rfl) [.agg #[.slice aa a.length ca, .slice ab b.length cb]] rfl _) (lacks_any (HA.out.keep0 (hM3.trans0 hS)) (HB.out.keep0 (hM3.trans0 hS)) (by omega)) ?_
    rintro e w4 ⟨v4, rfl, hg4, hm4⟩
    have hS4 := hS.trans0 hm4
    refine ⟨_, rfl, hK _ _ hS4 ?_⟩
    clear hK K
    try simp only [pl, pn, el, ec, sz, ss, gz, gs, if_true, if_false, Bool.false_eq_true, Bool.not_true, Bool.not_false, Nat.add_zero, Nat.zero_add, Nat.reduceAdd]
    refine wpPi_do rfl (fun K hK => ?_)
    refine wp_enterQ (run_call 82 [.tmp 35] _ rfl _ Tryz.func82 rfl (by kernel_rfl) [.agg #[.slice aa a.length ca, .slice ab b.length cb]] rfl _) (turnedP_any aa ab a.length b.length ca cb _) ?_
    rintro e w5 ⟨rfl, hm5⟩
    have hS5 := hS4.trans0 hm5
    refine ⟨_, rfl, hK _ _ hS5 ?_⟩
    clear hK K
    try simp only [pl, pn, el, ec, sz, ss, gz, gs, if_true, if_false, Bool.false_eq_true, Bool.not_true, Bool.not_false, Nat.add_zero, Nat.zero_add, Nat.reduceAdd]
    refine wpPi_do rfl (fun K hK => ?_)
    refine wp_enterQ (run_call 81 [.tmp 36] _ rfl _ Tryz.func81 rfl (by kernel_rfl) [.agg #[.slice ab b.length cb, .slice aa a.length ca]] rfl _) (lacks_any (HB.out.keep0 (hM3.trans0 hS5)) (HA.out.keep0 (hM3.trans0 hS5)) (by omega)) ?_
    rintro e w6 ⟨v6, rfl, hg6, hm6⟩
    have hS6 := hS5.trans0 hm6
    replace hg4 := hg4.keep0 (hm5.trans0 hm6)
    have hs34 := hS.size
    refine ⟨_, rfl, hK _ _ hS6 ?_⟩
    clear hK K
    try simp only [pl, pn, el, ec, sz, ss, gz, gs, if_true, if_false, Bool.false_eq_true, Bool.not_true, Bool.not_false, Nat.add_zero, Nat.zero_add, Nat.reduceAdd]
    refine wpPi_do rfl (fun K hK => ?_)
    have hsz6 := hS6.size
    refine wp_gat strEnc _ _ 67 9 (.string ⟨#[]⟩) 1 16 (by rfl) Tryz.underlying67 str_i (by kernel_rfl) (by omega) strEnc_one w3.heap.size _ _ (by rfl) (hg4.base hs34) v6 _ (by rfl) hg6.src (by unfold maxLen; omega) (by omega) hsz6 (fun v7 w7 hg7 hm7 => ?_)
    have hM7 : Mod NoB w3 w7 := hS6.trans hm7 (fun k hk e => by have := (hg4.lt e).1; omega)
    refine hK _ _ hM7 ?_
    clear hK K
    try simp only [pl, pn, el, ec, sz, ss, gz, gs, if_true, if_false, Bool.false_eq_true, Bool.not_true, Bool.not_false, Nat.add_zero, Nat.zero_add, Nat.reduceAdd]
    refine wpPi_assign _ rfl rfl ?_
    simp only [pl, pn, el, ec, sz, ss, gz, gs, if_true, if_false, Bool.false_eq_true, Bool.not_true, Bool.not_false, Nat.add_zero, Nat.zero_add, Nat.reduceAdd]
    refine wpPi_assign _ rfl rfl ?_
    simp only [pl, pn, el, ec, sz, ss, gz, gs, if_true, if_false, Bool.false_eq_true, Bool.not_true, Bool.not_false, Nat.add_zero, Nat.zero_add, Nat.reduceAdd]
    refine wpPi_nil ?_
    have hMr := hM3.trans0 hM7
    have hgr := hg7.base (b' := w.heap.size) (by omega)
    clear hm7 hM7 hS6 hS5 hS4 hS hm4 hm5 hm6 hg4 hg6 hM3
    go_wp2
    go_ret2
    exact ⟨_, rfl, hgr, hMr⟩
  · have hb2 : (b.length : Int) < 2 := by have := HN.out (by omega); omega
    go_upto_region 3 with (fail)
    refine wp_region_seq [3, 1, 3, 3, 3, 3, 1, 3, 3, 3, 3] (fun _ => True) (by rfl) (by rfl) trivial ?_
    simp only [List.zip_cons_cons, List.zip_nil_right]
    refine wpPi_field _ _ _ _ _ _ rfl rfl rfl fo_101_0 ?_
    simp only [pl, pn, el, ec, sz, ss, gz, gs, if_true, if_false, Bool.false_eq_true, Bool.not_true, Bool.not_false, Nat.add_zero, Nat.zero_add, Nat.reduceAdd]
    refine wpPi_do rfl (fun K hK => ?_)
    refine wp_exec (exec_load1 49 _ (by rfl) b1 0 (by rfl) _ h0 _ Tryz.underlying49 rfl) ?_
    refine hK _ _ trivial ?_
    clear hK K
    try simp only [pl, pn, el, ec, sz, ss, gz, gs, if_true, if_false, Bool.false_eq_true, Bool.not_true, Bool.not_false, Nat.add_zero, Nat.zero_add, Nat.reduceAdd]
    refine wpPi_len _ _ _ _ _ rfl rfl rfl (by kernel_rfl) ?_
    simp only [pl, pn, el, ec, sz, ss, gz, gs, if_true, if_false, Bool.false_eq_true, Bool.not_true, Bool.not_false, Nat.add_zero, Nat.zero_add, Nat.reduceAdd]
    refine wpPi_any (v := ?_) rfl (fun w' => ?_) ?_; rotate_left; · (go_simp; try with_reducible rfl)
    simp only [pl, pn, el, ec, sz, ss, gz, gs, if_true, if_false, Bool.false_eq_true, Bool.not_true, Bool.not_false, Nat.add_zero, Nat.zero_add, Nat.reduceAdd]
    refine wpPi_move _ rfl rfl ?_
    simp only [pl, pn, el, ec, sz, ss, gz, gs, if_true, if_false, Bool.false_eq_true, Bool.not_true, Bool.not_false, Nat.add_zero, Nat.zero_add, Nat.reduceAdd]
    refine wpPi_field _ _ _ _ _ _ rfl rfl rfl fo_101_1 ?_
    simp only [pl, pn, el, ec, sz, ss, gz, gs, if_true, if_false, Bool.false_eq_true, Bool.not_true, Bool.not_false, Nat.add_zero, Nat.zero_add, Nat.reduceAdd]
    refine wpPi_do rfl (fun K hK => ?_)
    refine wp_exec (exec_load1 49 _ (by rfl) b1 1 (by rfl) _ h1 _ Tryz.underlying49 rfl) ?_
    refine hK _ _ trivial ?_
    clear hK K
    try simp only [pl, pn, el, ec, sz, ss, gz, gs, if_true, if_false, Bool.false_eq_true, Bool.not_true, Bool.not_false, Nat.add_zero, Nat.zero_add, Nat.reduceAdd]
    refine wpPi_len _ _ _ _ _ rfl rfl rfl (by kernel_rfl) ?_
    simp only [pl, pn, el, ec, sz, ss, gz, gs, if_true, if_false, Bool.false_eq_true, Bool.not_true, Bool.not_false, Nat.add_zero, Nat.zero_add, Nat.reduceAdd]
    refine wpPi_any (v := ?_) rfl (fun w' => ?_) ?_; rotate_left; · (go_simp; try with_reducible rfl)
    simp only [pl, pn, el, ec, sz, ss, gz, gs, if_true, if_false, Bool.false_eq_true, Bool.not_true, Bool.not_false, Nat.add_zero, Nat.zero_add, Nat.reduceAdd]
    refine wpPi_pick _ _ _ _ rfl rfl rfl ?_
    simp only [pl, pn, el, ec, sz, ss, gz, gs, if_true, if_false, Bool.false_eq_true, Bool.not_true, Bool.not_false, Nat.add_zero, Nat.zero_add, Nat.reduceAdd]
    refine wpPi_assign _ rfl rfl ?_
    simp only [pl, pn, el, ec, sz, ss, gz, gs, if_true, if_false, Bool.false_eq_true, Bool.not_true, Bool.not_false, Nat.add_zero, Nat.zero_add, Nat.reduceAdd]
    refine wpPi_nil ?_
    go_upto_region 4 with (fail)
    have hS : Mod NoB w3 w3.drew := (Mod.refl _ _).drew
    refine wp_region_pi [(0, 0), (2, 0), (1, 1), (3, 1), (4, 1), (5, 1), (6, 3), (7, 3)] [] (fun w' => Mod NoB w3 w') (by kernel_rfl) (by kernel_rfl) (by kernel_rfl) (by kernel_rfl) (fun _ _ _ _ hd h => ⟨hd.trans h.1, h.2⟩) hS ?_
    simp only [List.map_cons, List.map_nil, List.getD_cons_zero, List.getD_cons_succ]
    refine wpPi_val rfl (fun w' hS => exec_loadA 101 _ (by rfl) b1 0 (by rfl) _ (hcw.keep hS id) _ Tryz.underlying101 rfl 2 (by kernel_rfl) rfl) ?_
    simp only [pl, pn, el, ec, sz, ss, gz, gs, if_true, if_false, Bool.false_eq_true, Bool.not_true, Bool.not_false, Nat.add_zero, Nat.zero_add, Nat.reduceAdd]
    refine wpPi_val rfl (fun w' hS => exec_loadA 101 _ (by rfl) b1 0 (by rfl) _ (hcw.keep hS id) _ Tryz.underlying101 rfl 2 (by kernel_rfl) rfl) ?_
    simp only [pl, pn, el, ec, sz, ss, gz, gs, if_true, if_false, Bool.false_eq_true, Bool.not_true, Bool.not_false, Nat.add_zero, Nat.zero_add, Nat.reduceAdd]
    refine wpPi_do rfl (fun K hK => ?_)
    refine wp_enterQ (run_call 81 [.tmp 33] _ rfl _ Tryz.func81 rfl (by kernel_rfl) [.agg #[.slice aa a.length ca, .slice ab b.length cb]] rfl _) (lacks_any (HA.out.keep0 (hM3.trans0 hS)) (HB.out.keep0 (hM3.trans0 hS)) (by omega)) ?_
    rintro e w4 ⟨v4, rfl, hg4, hm4⟩
    have hS4 := hS.trans0 hm4
    refine ⟨_, rfl, hK _ _ hS4 ?_⟩
    clear hK K
    try simp only [pl, pn, el, ec, sz, ss, gz, gs, if_true, if_false, Bool.false_eq_true, Bool.not_true, Bool.not_false, Nat.add_zero, Nat.zero_add, Nat.reduceAdd]
    refine wpPi_do rfl (fun K hK => ?_)
    refine wp_enterQ (run_call 82 [.tmp 35] _ rfl _ Tryz.func82 rfl (by kernel_rfl) [.agg #[.slice aa a.length ca, .slice ab b.length cb]] rfl _) (turnedP_any aa ab a.length b.length ca cb _) ?_
    rintro e w5 ⟨rfl, hm5⟩
    have hS5 := hS4.trans0 hm5
    refine ⟨_, rfl, hK _ _ hS5 ?_⟩
    clear hK K
    try simp only [pl, pn, el, ec, sz, ss, gz, gs, if_true, if_false, Bool.false_eq_true, Bool.not_true, Bool.not_false, Nat.add_zero, Nat.zero_add, Nat.reduceAdd]
    refine wpPi_do rfl (fun K hK => ?_)
    refine wp_enterQ (run_call 81 [.tmp 36] _ rfl _ Tryz.func81 rfl (by kernel_rfl) [.agg #[.slice ab b.length cb, .slice aa a.length ca]] rfl _) (lacks_any (HB.out.keep0 (hM3.trans0 hS5)) (HA.out.keep0 (hM3.trans0 hS5)) (by omega)) ?_
    rintro e w6 ⟨v6, rfl, hg6, hm6⟩
    have hS6 := hS5.trans0 hm6
    replace hg4 := hg4.keep0 (hm5.trans0 hm6)
    have hs34 := hS.size
    refine ⟨_, rfl, hK _ _ hS6 ?_⟩
    clear hK K
    try simp only [pl, pn, el, ec, sz, ss, gz, gs, if_true, if_false, Bool.false_eq_true, Bool.not_true, Bool.not_false, Nat.add_zero, Nat.zero_add, Nat.reduceAdd]
    refine wpPi_do rfl (fun K hK => ?_)
    have hsz6 := hS6.size
    refine wp_gat strEnc _ _ 67 9 (.string ⟨#[]⟩) 1 16 (by rfl) Tryz.underlying67 str_i (by kernel_rfl) (by omega) strEnc_one w3.heap.size _ _ (by rfl) (hg4.base hs34) v6 _ (by rfl) hg6.src (by unfold maxLen; omega) (by omega) hsz6 (fun v7 w7 hg7 hm7 => ?_)
    have hM7 : Mod NoB w3 w7 := hS6.trans hm7 (fun k hk e => by have := (hg4.lt e).1; omega)
    refine hK _ _ hM7 ?_
    clear hK K
    try simp only [pl, pn, el, ec, sz, ss, gz, gs, if_true, if_false, Bool.false_eq_true, Bool.not_true, Bool.not_false, Nat.add_zero, Nat.zero_add, Nat.reduceAdd]
    refine wpPi_assign _ rfl rfl ?_
    simp only [pl, pn, el, ec, sz, ss, gz, gs, if_true, if_false, Bool.false_eq_true, Bool.not_true, Bool.not_false, Nat.add_zero, Nat.zero_add, Nat.reduceAdd]
    refine wpPi_assign _ rfl rfl ?_
    simp only [pl, pn, el, ec, sz, ss, gz, gs, if_true, if_false, Bool.false_eq_true, Bool.not_true, Bool.not_false, Nat.add_zero, Nat.zero_add, Nat.reduceAdd]
    refine wpPi_nil ?_
    have hMr := hM3.trans0 hM7
    have hgr := hg7.base (b' := w.heap.size) (by omega)
    clear hm7 hM7 hS6 hS5 hS4 hS hm4 hm5 hm6 hg4 hg6 hM3
    go_wp2
    go_ret2
    exact ⟨_, rfl, hgr, hMr⟩
end Go.Proofs.YtchkikmmcmjcgaaGreat

/- tree.differ: two sides. -/
namespace Go.Proofs.YtchkikmmcmjcgaaGreat
set_option linter.unusedSimpArgs false
set_option linter.unusedVariables false
set_option linter.unnecessarySimpa false
set_option linter.unusedSectionVars false
open Go.RowKit Go.Shelf


theorem Ls.bound {w : World} {G : Nat → Prop} {v : Value} {l : List Leaf} (h : Ls w G v l) : Ls w (fun k => k < w.heap.size) v l := by
  obtain ⟨ad, cap, e, h1, h2, h3⟩ := h
  refine ⟨ad, cap, e, h1, h2, fun hne => ?_⟩
  obtain ⟨b, off, ha, hG, ho, hc⟩ := h3 hne
  refine ⟨b, off, ha, ?_, ho, hc⟩
  cases l with
  | nil => exact absurd rfl hne
  | cons x l =>
    obtain ⟨cs, hs, ⟨rfl, hok⟩, hcs⟩ := hc 0 (by simp)
    exact block_lt_of_cell (leaf_key hcs)
theorem Ls.keepB {w w' : World} {G : Nat → Prop} {B : Nat} {v : Value} {l : List Leaf} (h : Ls w G v l) (hm : Mod (fun k => k = B) w w') (hd : ∀ k, G k → k ≠ B) : Ls w' G v l := Sl.keepB h hm hd
theorem Ls.keep0 {w w' : World} {G : Nat → Prop} {v : Value} {l : List Leaf} (h : Ls w G v l) (hm : Mod NoB w w') : Ls w' G v l := Sl.keep0 h hm
theorem Ls.all {w : World} {G : Nat → Prop} {v : Value} {l : List Leaf} (h : Ls w G v l) : Ls w (fun _ => True) v l := Sl.mono h (fun _ _ => trivial) (fun _ _ h => h)
set_option maxRecDepth 10000 in
set_option maxHeartbeats 2000000 in
theorem differ_more (f i : Nat) (hi : f + 1 + i = 256) {w : World} {G G' : Nat → Prop} {va vb : Value} {a b : List Leaf} (ha : Ls w G va a) (hb : Ls w G' vb b) (hpa : Placed i a) (hpb : Placed i b) (hal : a.length ≤ 65536) (hbl : b.length ≤ 65536) (hd : dig (f + 1) i a ≠ dig (f + 1) i b) (h2 : 2 ≤ a.length) (h3 : 2 ≤ b.length)
    (ih : ∀ (a' b' : List Leaf) (va vb : Value) (w : World), Ls w (fun _ => True) va a' → Ls w (fun _ => True) vb b' → Placed (i + 1) a' → Placed (i + 1) b' → a'.length ≤ 65536 → b'.length ≤ 65536 → Calls Tryz.prog 60 #[.agg #[va, vb], .int .i64 ((i + 1 : Nat) : Int)] w (DifferR w (dif f (i + 1) a' b'))) :
    Calls Tryz.prog 60 #[.agg #[va, vb], .int .i64 (i : Int)] w (DifferR w (dif (f + 1) i a b)) := by
  have hcnt := dif_count (f + 1) i a b
  rw [dif_more hd h2 h3] at hcnt ⊢
  have HA := Lib.hid ha.bound
  have HB := Lib.hid hb.bound
  have IH := Lib.hid ih
  have hda := dig_len hi hpa.lie
  have hdb := dig_len hi hpb.lie
  have HD := Lib.hid hd
  have hsa := side_len i a
  have hsb := side_len i b
  have hal1 := hpa.side false
  have hal2 := hpa.side true
  have hbl1 := hpb.side false
  have hbl2 := hpb.side true
  have hk1 := dif_keys f (i + 1) (sideL false i a) (sideL false i b)
  have hk2 := dif_keys f (i + 1) (sideL true i a) (sideL true i b)
  have ha2 : ¬ (a.length : Int) < 2 := by omega
  have hb2 : ¬ (b.length : Int) < 2 := by omega
  have hfa : 2 * (f + 1) * a.length ≤ 512 * 65536 := Nat.mul_le_mul (by omega) hal
  obtain ⟨aa, ca, rfl, -, -⟩ := Sl.at ha
  obtain ⟨ab, cb, rfl, -, -⟩ := Sl.at hb
  have HP := Lib.hid hpa
  have HQ := Lib.hid hpb
  clear ha hb hd ih
  go_enter Tryz.func60, Tryz.ntmps60
  go_upto_region 0 with (fail)
  refine wp_region_seq [1, 3, 3] (fun _ => True) (by rfl) (by rfl) trivial ?_
  simp only [List.zip_cons_cons, List.zip_nil_right]
  refine wpPi_do rfl (fun K hK => ?_)
  refine wp_box 101 _ _ (by rfl) (by rfl) (fun w1 hB1 hm1 hs1 => ?_)
  replace hB1 : w1.heap[w.heap.size]? = some (.cells #[.slice aa a.length ca, .slice ab b.length cb] 101 (0, 0)) := hB1
  refine hK _ _ trivial ?_
  clear hK K
  try simp only [pl, pn, el, ec, sz, ss, gz, gs, if_true, if_false, Bool.false_eq_true, Bool.not_true, Bool.not_false, Nat.add_zero, Nat.zero_add, Nat.reduceAdd]
  refine wpPi_assign _ rfl rfl ?_
  simp only [pl, pn, el, ec, sz, ss, gz, gs, if_true, if_false, Bool.false_eq_true, Bool.not_true, Bool.not_false, Nat.add_zero, Nat.zero_add, Nat.reduceAdd]
  refine wpPi_assign _ rfl rfl ?_
  simp only [pl, pn, el, ec, sz, ss, gz, gs, if_true, if_false, Bool.false_eq_true, Bool.not_true, Bool.not_false, Nat.add_zero, Nat.zero_add, Nat.reduceAdd]
  refine wpPi_nil ?_
  have hcw := CellsAt.whole hB1
  have h0 := hcw.cell (j := 0) (v := .slice aa a.length ca) rfl
  have h1 := hcw.cell (j := 1) (v := .slice ab b.length cb) rfl
  have hsz1 : w.heap.size ≤ w1.heap.size := hm1.size
  generalize hb1 : w.heap.size = b1 at *
  clear hB1 hcw
  go_upto_region 1 with (fail)
  have hS : Mod NoB w1 w1.drew := (Mod.refl _ _).drew
  refine wp_region_pi [(0, 3), (1, 0), (2, 3), (4, 3), (5, 0), (6, 3), (3, 1), (7, 1), (8, 0), (9, 3)] [] (fun w' => Mod NoB w1 w') (by kernel_rfl) (by kernel_rfl) (by kernel_rfl) (by kernel_rfl) (fun _ _ _ _ hd h => ⟨hd.trans h.1, h.2⟩) hS ?_
  simp only [List.map_cons, List.map_nil, List.getD_cons_zero, List.getD_cons_succ]
  refine wpPi_field _ _ _ _ _ _ rfl rfl rfl fo_101_0 ?_
  simp only [pl, pn, el, ec, sz, ss, gz, gs, if_true, if_false, Bool.false_eq_true, Bool.not_true, Bool.not_false, Nat.add_zero, Nat.zero_add, Nat.reduceAdd]
  refine wpPi_val rfl (fun w' hS => exec_load1 49 _ (by rfl) b1 0 (by rfl) _ (hS.cell id h0) _ Tryz.underlying49 rfl) ?_
  simp only [pl, pn, el, ec, sz, ss, gz, gs, if_true, if_false, Bool.false_eq_true, Bool.not_true, Bool.not_false, Nat.add_zero, Nat.zero_add, Nat.reduceAdd]
  refine wpPi_move _ rfl rfl ?_
  simp only [pl, pn, el, ec, sz, ss, gz, gs, if_true, if_false, Bool.false_eq_true, Bool.not_true, Bool.not_false, Nat.add_zero, Nat.zero_add, Nat.reduceAdd]
  refine wpPi_field _ _ _ _ _ _ rfl rfl rfl fo_101_1 ?_
  simp only [pl, pn, el, ec, sz, ss, gz, gs, if_true, if_false, Bool.false_eq_true, Bool.not_true, Bool.not_false, Nat.add_zero, Nat.zero_add, Nat.reduceAdd]
  refine wpPi_val rfl (fun w' hS => exec_load1 49 _ (by rfl) b1 1 (by rfl) _ (hS.cell id h1) _ Tryz.underlying49 rfl) ?_
  simp only [pl, pn, el, ec, sz, ss, gz, gs, if_true, if_false, Bool.false_eq_true, Bool.not_true, Bool.not_false, Nat.add_zero, Nat.zero_add, Nat.reduceAdd]
  refine wpPi_move _ rfl rfl ?_
  simp only [pl, pn, el, ec, sz, ss, gz, gs, if_true, if_false, Bool.false_eq_true, Bool.not_true, Bool.not_false, Nat.add_zero, Nat.zero_add, Nat.reduceAdd]
  refine wpPi_do rfl (fun K hK => ?_)
  refine wp_enterQ (run_call 22 [.tmp 14, .tmp 15] _ rfl _ Tryz.func22 rfl (by kernel_rfl) [.slice aa a.length ca, .int .i64 (i : Int)] rfl _) (digest_any _ (f + 1) i a _ _ hi (HA.out.keep0 (hm1.trans0 hS)) HP.out (by omega)) ?_
  rintro e w2 ⟨rfl, hm2⟩
  have hS2 := hS.trans0 hm2
  refine ⟨_, rfl, hK _ _ hS2 ?_⟩
  clear hK K
  try simp only [pl, pn, el, ec, sz, ss, gz, gs, if_true, if_false, Bool.false_eq_true, Bool.not_true, Bool.not_false, Nat.add_zero, Nat.zero_add, Nat.reduceAdd]
  refine wpPi_do rfl (fun K hK => ?_)
  refine wp_enterQ (run_call 22 [.tmp 18, .tmp 19] _ rfl _ Tryz.func22 rfl (by kernel_rfl) [.slice ab b.length cb, .int .i64 (i : Int)] rfl _) (digest_any _ (f + 1) i b _ _ hi (HB.out.keep0 (hm1.trans0 hS2)) HQ.out (by omega)) ?_
  rintro e w3 ⟨rfl, hm3⟩
  have hS3 := hS2.trans0 hm3
  refine ⟨_, rfl, hK _ _ hS3 ?_⟩
  clear hK K
  try simp only [pl, pn, el, ec, sz, ss, gz, gs, if_true, if_false, Bool.false_eq_true, Bool.not_true, Bool.not_false, Nat.add_zero, Nat.zero_add, Nat.reduceAdd]
  refine wpPi_val rfl (fun w' hS => exec_eql_id _ _ _ _ rfl (dig (f + 1) i a) (dig (f + 1) i b) rfl rfl 32 5 Tryz.underlying24 Tryz.underlying5 (by kernel_rfl) (by kernel_rfl) hda hdb false (decide_eq_false HD.out)) ?_
  simp only [pl, pn, el, ec, sz, ss, gz, gs, if_true, if_false, Bool.false_eq_true, Bool.not_true, Bool.not_false, Nat.add_zero, Nat.zero_add, Nat.reduceAdd]
  refine wpPi_assign _ rfl rfl ?_
  simp only [pl, pn, el, ec, sz, ss, gz, gs, if_true, if_false, Bool.false_eq_true, Bool.not_true, Bool.not_false, Nat.add_zero, Nat.zero_add, Nat.reduceAdd]
  refine wpPi_nil ?_
  have hM3 := hm1.trans0 hS3
  replace h0 := hS3.cell id h0
  replace h1 := hS3.cell id h1
  have hsz3 := hS3.size
  clear hm1 hm2 hm3 hS hS2 hS3 HD
  generalize dig (f + 1) i a = da at *
  generalize dig (f + 1) i b = db at *
  clear hpa hpb
  go_upto_region 3 with (fail)
  refine wp_region_seq [3, 1, 3, 3, 3, 3, 1, 3, 3, 3, 3] (fun _ => True) (by rfl) (by rfl) trivial ?_
  simp only [List.zip_cons_cons, List.zip_nil_right]
  refine wpPi_field _ _ _ _ _ _ rfl rfl rfl fo_101_0 ?_
  simp only [pl, pn, el, ec, sz, ss, gz, gs, if_true, if_false, Bool.false_eq_true, Bool.not_true, Bool.not_false, Nat.add_zero, Nat.zero_add, Nat.reduceAdd]
  refine wpPi_do rfl (fun K hK => ?_)
  refine wp_exec (exec_load1 49 _ (by rfl) b1 0 (by rfl) _ h0 _ Tryz.underlying49 rfl) ?_
  refine hK _ _ trivial ?_
  clear hK K
  try simp only [pl, pn, el, ec, sz, ss, gz, gs, if_true, if_false, Bool.false_eq_true, Bool.not_true, Bool.not_false, Nat.add_zero, Nat.zero_add, Nat.reduceAdd]
  refine wpPi_len _ _ _ _ _ rfl rfl rfl (by kernel_rfl) ?_
  simp only [pl, pn, el, ec, sz, ss, gz, gs, if_true, if_false, Bool.false_eq_true, Bool.not_true, Bool.not_false, Nat.add_zero, Nat.zero_add, Nat.reduceAdd]
  refine wpPi_any (v := ?_) rfl (fun w' => ?_) ?_; rotate_left; · (go_simp; try with_reducible rfl)
  simp only [pl, pn, el, ec, sz, ss, gz, gs, if_true, if_false, Bool.false_eq_true, Bool.not_true, Bool.not_false, Nat.add_zero, Nat.zero_add, Nat.reduceAdd]
  refine wpPi_move _ rfl rfl ?_
  simp only [pl, pn, el, ec, sz, ss, gz, gs, if_true, if_false, Bool.false_eq_true, Bool.not_true, Bool.not_false, Nat.add_zero, Nat.zero_add, Nat.reduceAdd]
  refine wpPi_field _ _ _ _ _ _ rfl rfl rfl fo_101_1 ?_
  simp only [pl, pn, el, ec, sz, ss, gz, gs, if_true, if_false, Bool.false_eq_true, Bool.not_true, Bool.not_false, Nat.add_zero, Nat.zero_add, Nat.reduceAdd]
  refine wpPi_do rfl (fun K hK => ?_)
  refine wp_exec (exec_load1 49 _ (by rfl) b1 1 (by rfl) _ h1 _ Tryz.underlying49 rfl) ?_
  refine hK _ _ trivial ?_
  clear hK K
  try simp only [pl, pn, el, ec, sz, ss, gz, gs, if_true, if_false, Bool.false_eq_true, Bool.not_true, Bool.not_false, Nat.add_zero, Nat.zero_add, Nat.reduceAdd]
  refine wpPi_len _ _ _ _ _ rfl rfl rfl (by kernel_rfl) ?_
  simp only [pl, pn, el, ec, sz, ss, gz, gs, if_true, if_false, Bool.false_eq_true, Bool.not_true, Bool.not_false, Nat.add_zero, Nat.zero_add, Nat.reduceAdd]
  refine wpPi_any (v := ?_) rfl (fun w' => ?_) ?_; rotate_left; · (go_simp; try with_reducible rfl)
  simp only [pl, pn, el, ec, sz, ss, gz, gs, if_true, if_false, Bool.false_eq_true, Bool.not_true, Bool.not_false, Nat.add_zero, Nat.zero_add, Nat.reduceAdd]
  refine wpPi_pick _ _ _ _ rfl rfl rfl ?_
  simp only [pl, pn, el, ec, sz, ss, gz, gs, if_true, if_false, Bool.false_eq_true, Bool.not_true, Bool.not_false, Nat.add_zero, Nat.zero_add, Nat.reduceAdd]
  refine wpPi_assign _ rfl rfl ?_
  simp only [pl, pn, el, ec, sz, ss, gz, gs, if_true, if_false, Bool.false_eq_true, Bool.not_true, Bool.not_false, Nat.add_zero, Nat.zero_add, Nat.reduceAdd]
  refine wpPi_nil ?_
  go_upto_region 5 with (fail)
  refine wp_region_seq [1, 1] (fun _ => True) (by rfl) (by rfl) trivial ?_
  simp only [List.zip_cons_cons, List.zip_nil_right]
  refine wpPi_do rfl (fun K hK => ?_)
  refine wp_alloc 101 _ (by rfl) pairZ (fun w4 hB4 hm4 hs4 => ?_)
  replace hB4 : w4.heap[w3.heap.size]? = some (.cells #[.slice none 0 0, .slice none 0 0] 101 (0, 0)) := hB4
  refine hK _ _ trivial ?_
  clear hK K
  try simp only [pl, pn, el, ec, sz, ss, gz, gs, if_true, if_false, Bool.false_eq_true, Bool.not_true, Bool.not_false, Nat.add_zero, Nat.zero_add, Nat.reduceAdd]
  refine wpPi_do rfl (fun K hK => ?_)
  refine wp_alloc 101 _ (by rfl) pairZ (fun w5 hB5 hm5 hs5 => ?_)
  replace hB5 : w5.heap[w4.heap.size]? = some (.cells #[.slice none 0 0, .slice none 0 0] 101 (0, 0)) := hB5
  refine hK _ _ trivial ?_
  clear hK K
  try simp only [pl, pn, el, ec, sz, ss, gz, gs, if_true, if_false, Bool.false_eq_true, Bool.not_true, Bool.not_false, Nat.add_zero, Nat.zero_add, Nat.reduceAdd]
  refine wpPi_nil ?_
  replace hB4 := hm5.obj id hB4
  have hM5 := (hm4.trans0 hm5)
  have hs35 : w3.heap.size < w4.heap.size := hs4
  generalize hb6 : w3.heap.size = b6 at *
  generalize hb7 : w4.heap.size = b7 at *
  clear hm4 hm5
  go_upto_region 6 with (fail)
  refine wp_region_seq [3, 1, 3, 1, 3, 3, 3, 3, 1, 3, 1] (fun _ => True) (by rfl) (by rfl) trivial ?_
  simp only [List.zip_cons_cons, List.zip_nil_right]
  refine wpPi_field _ _ _ _ _ _ rfl rfl rfl fo_101_0 ?_
  simp only [pl, pn, el, ec, sz, ss, gz, gs, if_true, if_false, Bool.false_eq_true, Bool.not_true, Bool.not_false, Nat.add_zero, Nat.zero_add, Nat.reduceAdd]
  refine wpPi_do rfl (fun K hK => ?_)
  refine wp_exec (exec_load1 49 _ (by rfl) b1 0 (by rfl) _ (hM5.cell id h0) _ Tryz.underlying49 rfl) ?_
  refine hK _ _ trivial ?_
  clear hK K
  try simp only [pl, pn, el, ec, sz, ss, gz, gs, if_true, if_false, Bool.false_eq_true, Bool.not_true, Bool.not_false, Nat.add_zero, Nat.zero_add, Nat.reduceAdd]
  refine wpPi_move _ rfl rfl ?_
  simp only [pl, pn, el, ec, sz, ss, gz, gs, if_true, if_false, Bool.false_eq_true, Bool.not_true, Bool.not_false, Nat.add_zero, Nat.zero_add, Nat.reduceAdd]
  refine wpPi_do rfl (fun K hK => ?_)
  refine wp_enterQ (run_call 46 [.tmp 41, .tmp 42] _ rfl _ Tryz.func46 rfl (by kernel_rfl) [.slice aa a.length ca, .int .i64 (i : Int)] rfl _) (cut_any (HA.out.keep0 (hM3.trans0 hM5)) i (by omega) HP.out (by omega)) ?_
  rintro e w6 ⟨v1, v2, rfl, hc1, hc2, hm6⟩
  replace hB4 := hm6.obj id hB4
  replace hB5 := hm6.obj id hB5
  have hv1 := Sl.one hc1
  have hv2 := Sl.one hc2
  refine ⟨_, rfl, hK _ _ trivial ?_⟩
  clear hK K
  try simp only [pl, pn, el, ec, sz, ss, gz, gs, if_true, if_false, Bool.false_eq_true, Bool.not_true, Bool.not_false, Nat.add_zero, Nat.zero_add, Nat.reduceAdd]
  refine wpPi_move _ rfl rfl ?_
  simp only [pl, pn, el, ec, sz, ss, gz, gs, if_true, if_false, Bool.false_eq_true, Bool.not_true, Bool.not_false, Nat.add_zero, Nat.zero_add, Nat.reduceAdd]
  refine wpPi_any (v := ?_) rfl (fun w' => ?_) ?_; rotate_left; · (go_simp; try with_reducible rfl)
  simp only [pl, pn, el, ec, sz, ss, gz, gs, if_true, if_false, Bool.false_eq_true, Bool.not_true, Bool.not_false, Nat.add_zero, Nat.zero_add, Nat.reduceAdd]
  refine wpPi_any (v := ?_) rfl (fun w' => ?_) ?_; rotate_left; · (go_simp; try with_reducible rfl)
  simp only [pl, pn, el, ec, sz, ss, gz, gs, if_true, if_false, Bool.false_eq_true, Bool.not_true, Bool.not_false, Nat.add_zero, Nat.zero_add, Nat.reduceAdd]
  refine wpPi_field _ _ _ _ _ _ rfl rfl rfl fo_101_0 ?_
  simp only [pl, pn, el, ec, sz, ss, gz, gs, if_true, if_false, Bool.false_eq_true, Bool.not_true, Bool.not_false, Nat.add_zero, Nat.zero_add, Nat.reduceAdd]
  refine wpPi_do rfl (fun K hK => ?_)
  refine wp_store1 49 _ _ b6 0 v1 (by rfl) (by rfl) (by rfl) hv1 (by kernel_rfl) _ _ hB4 (by simp) (fun w7 hB7 hm7 => ?_)
  replace hB7 : w7.heap[b6]? = some (.cells #[v1, .slice none 0 0] 101 (0, 0)) := hB7
  replace hB5 := hm7.objB (by omega) hB5
  refine hK _ _ trivial ?_
  clear hK K
  try simp only [pl, pn, el, ec, sz, ss, gz, gs, if_true, if_false, Bool.false_eq_true, Bool.not_true, Bool.not_false, Nat.add_zero, Nat.zero_add, Nat.reduceAdd]
  refine wpPi_field _ _ _ _ _ _ rfl rfl rfl fo_101_0 ?_
  simp only [pl, pn, el, ec, sz, ss, gz, gs, if_true, if_false, Bool.false_eq_true, Bool.not_true, Bool.not_false, Nat.add_zero, Nat.zero_add, Nat.reduceAdd]
  refine wpPi_do rfl (fun K hK => ?_)
  refine wp_store1 49 _ _ b7 0 v2 (by rfl) (by rfl) (by rfl) hv2 (by kernel_rfl) _ _ hB5 (by simp) (fun w8 hB8 hm8 => ?_)
  replace hB8 : w8.heap[b7]? = some (.cells #[v2, .slice none 0 0] 101 (0, 0)) := hB8
  replace hB7 := hm8.objB (by omega) hB7
  refine hK _ _ trivial ?_
  clear hK K
  try simp only [pl, pn, el, ec, sz, ss, gz, gs, if_true, if_false, Bool.false_eq_true, Bool.not_true, Bool.not_false, Nat.add_zero, Nat.zero_add, Nat.reduceAdd]
  refine wpPi_nil ?_
  have hM8 : Mod NoB w3 w8 := ((hM5.trans0 hm6).transB hm7 (by omega)).transB hm8 (by omega)
  replace hc1 := (hc1.keepB hm7 (fun k hk => by omega)).keepB hm8 (fun k hk => by omega)
  replace hc2 := (hc2.keepB hm7 (fun k hk => by omega)).keepB hm8 (fun k hk => by omega)
  clear hM5 hm6 hm7 hm8 hB4 hB5
  go_upto_region 7 with (fail)
  refine wp_region_seq [3, 1, 3, 1, 3, 3, 3, 3, 1, 3, 1] (fun _ => True) (by rfl) (by rfl) trivial ?_
  simp only [List.zip_cons_cons, List.zip_nil_right]
  refine wpPi_field _ _ _ _ _ _ rfl rfl rfl fo_101_1 ?_
  simp only [pl, pn, el, ec, sz, ss, gz, gs, if_true, if_false, Bool.false_eq_true, Bool.not_true, Bool.not_false, Nat.add_zero, Nat.zero_add, Nat.reduceAdd]
  refine wpPi_do rfl (fun K hK => ?_)
  refine wp_exec (exec_load1 49 _ (by rfl) b1 1 (by rfl) _ (hM8.cell id h1) _ Tryz.underlying49 rfl) ?_
  refine hK _ _ trivial ?_
  clear hK K
  try simp only [pl, pn, el, ec, sz, ss, gz, gs, if_true, if_false, Bool.false_eq_true, Bool.not_true, Bool.not_false, Nat.add_zero, Nat.zero_add, Nat.reduceAdd]
  refine wpPi_move _ rfl rfl ?_
  simp only [pl, pn, el, ec, sz, ss, gz, gs, if_true, if_false, Bool.false_eq_true, Bool.not_true, Bool.not_false, Nat.add_zero, Nat.zero_add, Nat.reduceAdd]
  refine wpPi_do rfl (fun K hK => ?_)
  refine wp_enterQ (run_call 46 [.tmp 50, .tmp 51] _ rfl _ Tryz.func46 rfl (by kernel_rfl) [.slice ab b.length cb, .int .i64 (i : Int)] rfl _) (cut_any (HB.out.keep0 (hM3.trans0 hM8)) i (by omega) HQ.out (by omega)) ?_
  rintro e w9 ⟨u1, u2, rfl, hd1, hd2, hm9⟩
  replace hB7 := hm9.obj id hB7
  replace hB8 := hm9.obj id hB8
  have hu1 := Sl.one hd1
  have hu2 := Sl.one hd2
  refine ⟨_, rfl, hK _ _ trivial ?_⟩
  clear hK K
  try simp only [pl, pn, el, ec, sz, ss, gz, gs, if_true, if_false, Bool.false_eq_true, Bool.not_true, Bool.not_false, Nat.add_zero, Nat.zero_add, Nat.reduceAdd]
  refine wpPi_move _ rfl rfl ?_
  simp only [pl, pn, el, ec, sz, ss, gz, gs, if_true, if_false, Bool.false_eq_true, Bool.not_true, Bool.not_false, Nat.add_zero, Nat.zero_add, Nat.reduceAdd]
  refine wpPi_any (v := ?_) rfl (fun w' => ?_) ?_; rotate_left; · (go_simp; try with_reducible rfl)
  simp only [pl, pn, el, ec, sz, ss, gz, gs, if_true, if_false, Bool.false_eq_true, Bool.not_true, Bool.not_false, Nat.add_zero, Nat.zero_add, Nat.reduceAdd]
  refine wpPi_any (v := ?_) rfl (fun w' => ?_) ?_; rotate_left; · (go_simp; try with_reducible rfl)
  simp only [pl, pn, el, ec, sz, ss, gz, gs, if_true, if_false, Bool.false_eq_true, Bool.not_true, Bool.not_false, Nat.add_zero, Nat.zero_add, Nat.reduceAdd]
  refine wpPi_field _ _ _ _ _ _ rfl rfl rfl fo_101_1 ?_
  simp only [pl, pn, el, ec, sz, ss, gz, gs, if_true, if_false, Bool.false_eq_true, Bool.not_true, Bool.not_false, Nat.add_zero, Nat.zero_add, Nat.reduceAdd]
  refine wpPi_do rfl (fun K hK => ?_)
  refine wp_store1 49 _ _ b6 1 u1 (by rfl) (by rfl) (by rfl) hu1 (by kernel_rfl) _ _ hB7 (by simp) (fun w10 hB10 hm10 => ?_)
  replace hB10 : w10.heap[b6]? = some (.cells #[v1, u1] 101 (0, 0)) := hB10
  replace hB8 := hm10.objB (by omega) hB8
  refine hK _ _ trivial ?_
  clear hK K
  try simp only [pl, pn, el, ec, sz, ss, gz, gs, if_true, if_false, Bool.false_eq_true, Bool.not_true, Bool.not_false, Nat.add_zero, Nat.zero_add, Nat.reduceAdd]
  refine wpPi_field _ _ _ _ _ _ rfl rfl rfl fo_101_1 ?_
  simp only [pl, pn, el, ec, sz, ss, gz, gs, if_true, if_false, Bool.false_eq_true, Bool.not_true, Bool.not_false, Nat.add_zero, Nat.zero_add, Nat.reduceAdd]
  refine wpPi_do rfl (fun K hK => ?_)
  refine wp_store1 49 _ _ b7 1 u2 (by rfl) (by rfl) (by rfl) hu2 (by kernel_rfl) _ _ hB8 (by simp) (fun w11 hB11 hm11 => ?_)
  replace hB11 : w11.heap[b7]? = some (.cells #[v2, u2] 101 (0, 0)) := hB11
  replace hB10 := hm11.objB (by omega) hB10
  refine hK _ _ trivial ?_
  clear hK K
  try simp only [pl, pn, el, ec, sz, ss, gz, gs, if_true, if_false, Bool.false_eq_true, Bool.not_true, Bool.not_false, Nat.add_zero, Nat.zero_add, Nat.reduceAdd]
  refine wpPi_nil ?_
  have hM11 : Mod NoB w3 w11 := ((hM8.trans0 hm9).transB hm10 (by omega)).transB hm11 (by omega)
  replace hc1 := ((hc1.keep0 hm9).keepB hm10 (fun k hk => by omega)).keepB hm11 (fun k hk => by omega)
  replace hc2 := ((hc2.keep0 hm9).keepB hm10 (fun k hk => by omega)).keepB hm11 (fun k hk => by omega)
  replace hd1 := (hd1.keepB hm10 (fun k hk => by omega)).keepB hm11 (fun k hk => by omega)
  replace hd2 := (hd2.keepB hm10 (fun k hk => by omega)).keepB hm11 (fun k hk => by omega)
  clear hM8 hm9 hm10 hm11 hB7 hB8
  generalize hA1 : sideL false i a = a1 at *
  generalize hA2 : sideL true i a = a2 at *
  generalize hE1 : sideL false i b = e1 at *
  generalize hE2 : sideL true i b = e2 at *
  clear hA1 hA2 hE1 hE2
  have hM11s := hM11.size
  go_upto_region 8 with (fail)
  refine wp_region_seq [1, 3, 3, 1, 3, 3, 3, 3, 3] (fun _ => True) (by rfl) (by rfl) trivial ?_
  simp only [List.zip_cons_cons, List.zip_nil_right]
  refine wpPi_do rfl (fun K hK => ?_)
  refine wp_exec (exec_loadA 101 _ (by rfl) b6 0 (by rfl) _ (CellsAt.whole hB10) _ Tryz.underlying101 rfl 2 (by kernel_rfl) rfl) ?_
  refine hK _ _ trivial ?_
  clear hK K
  try simp only [pl, pn, el, ec, sz, ss, gz, gs, if_true, if_false, Bool.false_eq_true, Bool.not_true, Bool.not_false, Nat.add_zero, Nat.zero_add, Nat.reduceAdd]
  refine wpPi_move _ rfl rfl ?_
  simp only [pl, pn, el, ec, sz, ss, gz, gs, if_true, if_false, Bool.false_eq_true, Bool.not_true, Bool.not_false, Nat.add_zero, Nat.zero_add, Nat.reduceAdd]
  refine wpPi_addR _ _ _ _ (i : Int) 1 ((i + 1 : Nat) : Int) rfl rfl rfl rfl (by omega) (by omega) (by omega) ?_
  simp only [pl, pn, el, ec, sz, ss, gz, gs, if_true, if_false, Bool.false_eq_true, Bool.not_true, Bool.not_false, Nat.add_zero, Nat.zero_add, Nat.reduceAdd]
  refine wpPi_do rfl (fun K hK => ?_)
  refine wp_enterQ (run_call 60 [.tmp 58, .tmp 60] _ rfl _ Tryz.func60 rfl (by kernel_rfl) [.agg #[v1, u1], .int .i64 ((i + 1 : Nat) : Int)] rfl _) (IH.out a1 e1 v1 u1 _ hc1.all hd1.all hal1 hbl1 (by omega) (by omega)) ?_
  rintro e w12 ⟨vl, rfl, hg12, hm12⟩
  generalize dif f (i + 1) a1 e1 = p1 at *
  refine ⟨_, rfl, hK _ _ trivial ?_⟩
  clear hK K
  try simp only [pl, pn, el, ec, sz, ss, gz, gs, if_true, if_false, Bool.false_eq_true, Bool.not_true, Bool.not_false, Nat.add_zero, Nat.zero_add, Nat.reduceAdd]
  refine wpPi_move _ rfl rfl ?_
  simp only [pl, pn, el, ec, sz, ss, gz, gs, if_true, if_false, Bool.false_eq_true, Bool.not_true, Bool.not_false, Nat.add_zero, Nat.zero_add, Nat.reduceAdd]
  refine wpPi_any (v := ?_) rfl (fun w' => ?_) ?_; rotate_left; · (go_simp; try with_reducible rfl)
  simp only [pl, pn, el, ec, sz, ss, gz, gs, if_true, if_false, Bool.false_eq_true, Bool.not_true, Bool.not_false, Nat.add_zero, Nat.zero_add, Nat.reduceAdd]
  refine wpPi_any (v := ?_) rfl (fun w' => ?_) ?_; rotate_left; · (go_simp; try with_reducible rfl)
  simp only [pl, pn, el, ec, sz, ss, gz, gs, if_true, if_false, Bool.false_eq_true, Bool.not_true, Bool.not_false, Nat.add_zero, Nat.zero_add, Nat.reduceAdd]
  refine wpPi_assign _ rfl rfl ?_
  simp only [pl, pn, el, ec, sz, ss, gz, gs, if_true, if_false, Bool.false_eq_true, Bool.not_true, Bool.not_false, Nat.add_zero, Nat.zero_add, Nat.reduceAdd]
  refine wpPi_assign _ rfl rfl ?_
  simp only [pl, pn, el, ec, sz, ss, gz, gs, if_true, if_false, Bool.false_eq_true, Bool.not_true, Bool.not_false, Nat.add_zero, Nat.zero_add, Nat.reduceAdd]
  refine wpPi_nil ?_
  replace hB11 := hm12.obj id hB11
  go_upto_region 9 with (fail)
  refine wp_region_seq [1, 3, 3, 1, 3, 3, 3, 3, 3] (fun _ => True) (by rfl) (by rfl) trivial ?_
  simp only [List.zip_cons_cons, List.zip_nil_right]
  refine wpPi_do rfl (fun K hK => ?_)
  refine wp_exec (exec_loadA 101 _ (by rfl) b7 0 (by rfl) _ (CellsAt.whole hB11) _ Tryz.underlying101 rfl 2 (by kernel_rfl) rfl) ?_
  refine hK _ _ trivial ?_
  clear hK K
  try simp only [pl, pn, el, ec, sz, ss, gz, gs, if_true, if_false, Bool.false_eq_true, Bool.not_true, Bool.not_false, Nat.add_zero, Nat.zero_add, Nat.reduceAdd]
  refine wpPi_move _ rfl rfl ?_
  simp only [pl, pn, el, ec, sz, ss, gz, gs, if_true, if_false, Bool.false_eq_true, Bool.not_true, Bool.not_false, Nat.add_zero, Nat.zero_add, Nat.reduceAdd]
  refine wpPi_addR _ _ _ _ (i : Int) 1 ((i + 1 : Nat) : Int) rfl rfl rfl rfl (by omega) (by omega) (by omega) ?_
  simp only [pl, pn, el, ec, sz, ss, gz, gs, if_true, if_false, Bool.false_eq_true, Bool.not_true, Bool.not_false, Nat.add_zero, Nat.zero_add, Nat.reduceAdd]
  refine wpPi_do rfl (fun K hK => ?_)
  refine wp_enterQ (run_call 60 [.tmp 65, .tmp 67] _ rfl _ Tryz.func60 rfl (by kernel_rfl) [.agg #[v2, u2], .int .i64 ((i + 1 : Nat) : Int)] rfl _) (IH.out a2 e2 v2 u2 _ (hc2.keep0 hm12).all (hd2.keep0 hm12).all hal2 hbl2 (by omega) (by omega)) ?_
  rintro e w13 ⟨vr, rfl, hg13, hm13⟩
  generalize dif f (i + 1) a2 e2 = p2 at *
  replace hg12 := hg12.keep0 hm13
  refine ⟨_, rfl, hK _ _ trivial ?_⟩
  clear hK K
  try simp only [pl, pn, el, ec, sz, ss, gz, gs, if_true, if_false, Bool.false_eq_true, Bool.not_true, Bool.not_false, Nat.add_zero, Nat.zero_add, Nat.reduceAdd]
  refine wpPi_move _ rfl rfl ?_
  simp only [pl, pn, el, ec, sz, ss, gz, gs, if_true, if_false, Bool.false_eq_true, Bool.not_true, Bool.not_false, Nat.add_zero, Nat.zero_add, Nat.reduceAdd]
  refine wpPi_any (v := ?_) rfl (fun w' => ?_) ?_; rotate_left; · (go_simp; try with_reducible rfl)
  simp only [pl, pn, el, ec, sz, ss, gz, gs, if_true, if_false, Bool.false_eq_true, Bool.not_true, Bool.not_false, Nat.add_zero, Nat.zero_add, Nat.reduceAdd]
  refine wpPi_any (v := ?_) rfl (fun w' => ?_) ?_; rotate_left; · (go_simp; try with_reducible rfl)
  simp only [pl, pn, el, ec, sz, ss, gz, gs, if_true, if_false, Bool.false_eq_true, Bool.not_true, Bool.not_false, Nat.add_zero, Nat.zero_add, Nat.reduceAdd]
  refine wpPi_assign _ rfl rfl ?_
  simp only [pl, pn, el, ec, sz, ss, gz, gs, if_true, if_false, Bool.false_eq_true, Bool.not_true, Bool.not_false, Nat.add_zero, Nat.zero_add, Nat.reduceAdd]
  refine wpPi_assign _ rfl rfl ?_
  simp only [pl, pn, el, ec, sz, ss, gz, gs, if_true, if_false, Bool.false_eq_true, Bool.not_true, Bool.not_false, Nat.add_zero, Nat.zero_add, Nat.reduceAdd]
  refine wpPi_nil ?_
  have hM13 := (hM11.trans0 hm12).trans0 hm13
  have hM13s := hM13.size
  have hM12s := hm12.size
  have hM13t := hm13.size
  clear hm12 hm13 hM11 hB10 hB11 hc1 hc2 hd1 hd2
  go_upto_region 10 with (fail)
  refine wp_region_seq [3, 3, 1, 3, 3, 3, 3, 3, 3] (fun _ => True) (by rfl) (by rfl) trivial ?_
  simp only [List.zip_cons_cons, List.zip_nil_right]
  refine wpPi_move _ rfl rfl ?_
  simp only [pl, pn, el, ec, sz, ss, gz, gs, if_true, if_false, Bool.false_eq_true, Bool.not_true, Bool.not_false, Nat.add_zero, Nat.zero_add, Nat.reduceAdd]
  refine wpPi_move _ rfl rfl ?_
  simp only [pl, pn, el, ec, sz, ss, gz, gs, if_true, if_false, Bool.false_eq_true, Bool.not_true, Bool.not_false, Nat.add_zero, Nat.zero_add, Nat.reduceAdd]
  refine wpPi_do rfl (fun K hK => ?_)
  refine wp_gat strEnc _ _ 67 9 (.string ⟨#[]⟩) 1 16 (by rfl) Tryz.underlying67 str_i (by kernel_rfl) (by omega) strEnc_one b6 _ _ (by rfl) (hg12.base (by omega)) vr _ (by rfl) hg13.src (by unfold maxLen; omega) (by omega) (by omega) (fun v14 w14 hg14 hm14 => ?_)
  have hM14 : Mod NoB w3 w14 := hM13.trans hm14 (fun k hk e => by have := (hg12.lt e).1; omega)
  refine hK _ _ trivial ?_
  clear hK K
  try simp only [pl, pn, el, ec, sz, ss, gz, gs, if_true, if_false, Bool.false_eq_true, Bool.not_true, Bool.not_false, Nat.add_zero, Nat.zero_add, Nat.reduceAdd]
  refine wpPi_move _ rfl rfl ?_
  simp only [pl, pn, el, ec, sz, ss, gz, gs, if_true, if_false, Bool.false_eq_true, Bool.not_true, Bool.not_false, Nat.add_zero, Nat.zero_add, Nat.reduceAdd]
  refine wpPi_move _ rfl rfl ?_
  simp only [pl, pn, el, ec, sz, ss, gz, gs, if_true, if_false, Bool.false_eq_true, Bool.not_true, Bool.not_false, Nat.add_zero, Nat.zero_add, Nat.reduceAdd]
  refine wpPi_addR _ _ _ _ (p1.2 : Int) (p2.2 : Int) ((p1.2 + p2.2 : Nat) : Int) rfl rfl rfl rfl (by omega) (by omega) (by omega) ?_
  simp only [pl, pn, el, ec, sz, ss, gz, gs, if_true, if_false, Bool.false_eq_true, Bool.not_true, Bool.not_false, Nat.add_zero, Nat.zero_add, Nat.reduceAdd]
  refine wpPi_addR _ _ _ _ ((p1.2 + p2.2 : Nat) : Int) 1 ((p1.2 + p2.2 + 1 : Nat) : Int) rfl rfl rfl rfl (by omega) (by omega) (by omega) ?_
  simp only [pl, pn, el, ec, sz, ss, gz, gs, if_true, if_false, Bool.false_eq_true, Bool.not_true, Bool.not_false, Nat.add_zero, Nat.zero_add, Nat.reduceAdd]
  refine wpPi_assign _ rfl rfl ?_
  simp only [pl, pn, el, ec, sz, ss, gz, gs, if_true, if_false, Bool.false_eq_true, Bool.not_true, Bool.not_false, Nat.add_zero, Nat.zero_add, Nat.reduceAdd]
  refine wpPi_assign _ rfl rfl ?_
  simp only [pl, pn, el, ec, sz, ss, gz, gs, if_true, if_false, Bool.false_eq_true, Bool.not_true, Bool.not_false, Nat.add_zero, Nat.zero_add, Nat.reduceAdd]
  refine wpPi_nil ?_
  have hMr := hM3.trans0 hM14
  have hgr := hg14.base (b' := w.heap.size) (by omega)
  clear hm14 hM14 hM13 hg12 hg13 hM3
  go_wp2
  go_ret2
  exact ⟨_, rfl, hgr, hMr⟩
theorem differ_any : ∀ (f i : Nat) (a b : List Leaf) (va vb : Value) (w : World), f + i = 256 → Ls w (fun _ => True) va a → Ls w (fun _ => True) vb b → Placed i a → Placed i b → a.length ≤ 65536 → b.length ≤ 65536 → Calls Tryz.prog 60 #[.agg #[va, vb], .int .i64 (i : Int)] w (DifferR w (dif f i a b)) := by
  intro f
  induction f with
  | zero =>
    intro i a b va vb w hi ha hb hpa hpb hal hbl
    rcases dif_ways 0 i a b with h | ⟨h, h2⟩ | ⟨g, hg, -⟩
    · exact differ_same 0 i hi ha hb hpa hpb hal hbl h
    · exact differ_few 0 i hi ha hb hpa hpb hal hbl h h2
    · cases hg
  | succ f ih =>
    intro i a b va vb w hi ha hb hpa hpb hal hbl
    rcases dif_ways (f + 1) i a b with h | ⟨h, h2⟩ | ⟨g, hg, h, h2, h3⟩
    · exact differ_same _ i hi ha hb hpa hpb hal hbl h
    · exact differ_few _ i hi ha hb hpa hpb hal hbl h h2
    · exact differ_more f i hi ha hb hpa hpb hal hbl h h2 h3 (fun a' b' va vb w h1 h2 h3 h4 h5 h6 => ih (i + 1) a' b' va vb w (by omega) h1 h2 h3 h4 h5 h6)
end Go.Proofs.YtchkikmmcmjcgaaGreat

/- (tree.leaves).path: the sides of a way, from the leaf up. -/
namespace Go.Proofs.YtchkikmmcmjcgaaGreat
set_option linter.unusedSimpArgs false
set_option linter.unusedVariables false
set_option linter.unnecessarySimpa false
set_option linter.unusedSectionVars false
open Go.RowKit Go.Shelf


theorem out_keep {w w1 w' : World} {bo : Nat} {v : Value} {ps qs : List SideL} (hg : Gat sideEnc 41 33 0 w v ps) (hm : Mod NoB w w1) (h : OutR w1 bo v qs w') : OutR w bo v qs w' := by
  obtain ⟨v', h1, h2, h3, h4⟩ := h
  have hs := hm.size
  exact ⟨v', h1, h2, fun g hg => (h3 g hg).imp id fun h => Nat.le_trans hs h, (hm.mono fun _ _ h => h.elim).trans h4 (fun _ _ h => h)⟩
set_option maxRecDepth 10000 in
theorem path_none {w : World} {G : Nat → Prop} {vl v : Value} {l : List Leaf} {ps : List SideL} (hl : Ls w G vl l) (way : List UInt8) (i bo : Nat) (h2 : l.length < 2) (hbo : w.heap[bo]? = some (.cells #[v] 28 (0, 0))) (hg : Gat sideEnc 41 33 0 w v ps) :
    Calls Tryz.prog 27 #[vl, .agg (idCells way), .int .i64 (i : Int), .pointer (some ⟨bo, 0, none⟩)] w (fun e w' => e = .returned (.tuple #[]) ∧ OutR w bo v ps w') := by
  obtain ⟨ad, cap, rfl, -, -⟩ := Sl.at hl
  have hz : (l.length : Int) < 2 := by omega
  obtain ⟨C, hC⟩ : ∃ C, idCells way = C := ⟨_, rfl⟩
  rw [hC]
  clear hl hC
  go_enter_defers Tryz.func27, Tryz.ntmps27
  go_upto_region 0 with (fail)
  refine wp_region_seq [1, 1] (fun _ => True) (by rfl) (by rfl) trivial ?_
  simp only [List.zip_cons_cons, List.zip_nil_right]
  refine wpPi_do rfl (fun K hK => ?_)
  refine wp_box 24 _ _ (by rfl) (by rfl) (fun w1 hB1 hm1 hs1 => ?_)
  refine hK _ _ trivial ?_
  clear hK K
  try simp only [pl, pn, el, ec, sz, ss, gz, gs, if_true, if_false, Bool.false_eq_true, Bool.not_true, Bool.not_false, Nat.add_zero, Nat.zero_add, Nat.reduceAdd]
  refine wpPi_do rfl (fun K hK => ?_)
  refine wp_box 61 _ _ (by rfl) (by rfl) (fun w2 hB2 hm2 hs2 => ?_)
  refine hK _ _ trivial ?_
  clear hK K
  try simp only [pl, pn, el, ec, sz, ss, gz, gs, if_true, if_false, Bool.false_eq_true, Bool.not_true, Bool.not_false, Nat.add_zero, Nat.zero_add, Nat.reduceAdd]
  refine wpPi_nil ?_
  have hM := hm1.trans0 hm2
  clear hB1 hB2
  go_wp2
  exact ⟨_, results_none rfl _ _ _, rfl, out_keep hg hM ⟨v, hM.obj id hbo, hg.keep0 hM, fun g h => .inl h, Mod.refl _ _⟩⟩
set_option maxRecDepth 10000 in
set_option maxHeartbeats 2000000 in
theorem path_two (f i : Nat) (hi : f + 1 + i = 256) {w : World} {G : Nat → Prop} {vl v : Value} {l : List Leaf} {ps : List SideL} (hl : Ls w G vl l) (hp : Placed i l) (hlen : l.length ≤ 65536) (way : List UInt8) (hway : way.length = 32) (bo : Nat) (h2 : 2 ≤ l.length) (hbo : w.heap[bo]? = some (.cells #[v] 28 (0, 0))) (hg : Gat sideEnc 41 33 0 w v ps) (hps : ps.length + (f + 1) ≤ 1000000)
    (ih : ∀ (l' : List Leaf) (vl : Value) (w : World), Ls w (fun _ => True) vl l' → Placed (i + 1) l' → l'.length ≤ 65536 → w.heap[bo]? = some (.cells #[v] 28 (0, 0)) → Gat sideEnc 41 33 0 w v ps →
      Calls Tryz.prog 27 #[vl, .agg (idCells way), .int .i64 ((i + 1 : Nat) : Int), .pointer (some ⟨bo, 0, none⟩)] w (fun e w' => e = .returned (.tuple #[]) ∧ OutR w bo v (ps ++ pathL way f (i + 1) l') w')) :
    Calls Tryz.prog 27 #[vl, .agg (idCells way), .int .i64 (i : Int), .pointer (some ⟨bo, 0, none⟩)] w (fun e w' => e = .returned (.tuple #[]) ∧ OutR w bo v (ps ++ pathL way (f + 1) i l) w') := by
  rw [path_more h2]
  have HL := Lib.hid hl.bound
  have IH := Lib.hid ih
  have HP := Lib.hid hp
  have HG := Lib.hid hg
  have HBO := Lib.hid hbo
  obtain ⟨ad, cap, rfl, -, -⟩ := Sl.at hl
  have hz : ¬ (l.length : Int) < 2 := by omega
  have hsl := side_len i l
  have hpa := hp.side false
  have hpb := hp.side true
  have hda : (dig f (i + 1) (sideL false i l)).length = 32 := dig_len (by omega) hpa.lie
  have hdb : (dig f (i + 1) (sideL true i l)).length = 32 := dig_len (by omega) hpb.lie
  have hpl := path_len way f (i + 1) (sideL (bitAt way i) i l)
  have hmf : ∀ (fn : Fn) (first cap : Array Value) (w : World), (Instr.makeFunc fn first cap).run Tryz.prog w = .ok (.func fn first cap) w := fun _ _ _ _ => rfl
  have hsz32 : (idCells way).size = 32 := by rw [idCells_size, hway]
  obtain ⟨C, hC⟩ : ∃ C, idCells way = C := ⟨_, rfl⟩
  have HC := Lib.hid hC
  rw [hC] at hsz32 ⊢
  clear hl ih hp hg hbo hC
  go_enter_defers Tryz.func27, Tryz.ntmps27
  go_upto_region 0 with (fail)
  refine wp_region_seq [1, 1] (fun _ => True) (by rfl) (by rfl) trivial ?_
  simp only [List.zip_cons_cons, List.zip_nil_right]
  refine wpPi_do rfl (fun K hK => ?_)
  refine wp_box 24 _ _ (by rfl) (by rfl) (fun w1 hB1 hm1 hs1 => ?_)
  replace hB1 : w1.heap[w.heap.size]? = some (.cells C 24 (0, 0)) := hB1
  refine hK _ _ trivial ?_
  clear hK K
  try simp only [pl, pn, el, ec, sz, ss, gz, gs, if_true, if_false, Bool.false_eq_true, Bool.not_true, Bool.not_false, Nat.add_zero, Nat.zero_add, Nat.reduceAdd]
  refine wpPi_do rfl (fun K hK => ?_)
  refine wp_box 61 _ _ (by rfl) (by rfl) (fun w2 hB2 hm2 hs2 => ?_)
  replace hB2 : w2.heap[w1.heap.size]? = some (.cells #[.pointer (some ⟨bo, 0, none⟩)] 61 (0, 0)) := hB2
  replace hB1 := hm2.obj id hB1
  refine hK _ _ trivial ?_
  clear hK K
  try simp only [pl, pn, el, ec, sz, ss, gz, gs, if_true, if_false, Bool.false_eq_true, Bool.not_true, Bool.not_false, Nat.add_zero, Nat.zero_add, Nat.reduceAdd]
  refine wpPi_nil ?_
  have hM2 := hm1.trans0 hm2
  have hb5 : w.heap.size < w2.heap.size := by omega
  have hb7 : w1.heap.size < w2.heap.size := hs2
  have hb7' : w.heap.size ≤ w1.heap.size := by omega
  generalize hb5e : w.heap.size = b5 at *
  generalize w1.heap.size = b7 at *
  clear hm1 hm2
  go_upto_region 2 with (fail)
  refine wp_region_seq [3, 3, 1, 3, 3, 3, 3, 3] (fun _ => True) (by rfl) (by rfl) trivial ?_
  simp only [List.zip_cons_cons, List.zip_nil_right]
  refine wpPi_move _ rfl rfl ?_
  simp only [pl, pn, el, ec, sz, ss, gz, gs, if_true, if_false, Bool.false_eq_true, Bool.not_true, Bool.not_false, Nat.add_zero, Nat.zero_add, Nat.reduceAdd]
  refine wpPi_move _ rfl rfl ?_
  simp only [pl, pn, el, ec, sz, ss, gz, gs, if_true, if_false, Bool.false_eq_true, Bool.not_true, Bool.not_false, Nat.add_zero, Nat.zero_add, Nat.reduceAdd]
  refine wpPi_do rfl (fun K hK => ?_)
  refine wp_enterQ (run_call 46 [.tmp 16, .tmp 17] _ rfl _ Tryz.func46 rfl (by kernel_rfl) [.slice ad l.length cap, .int .i64 (i : Int)] rfl _) (cut_any (HL.out.keep0 hM2) i (by omega) HP.out (by omega)) ?_
  rintro e w3 ⟨v1, v2, rfl, hc1, hc2, hm3⟩
  replace hB1 := hm3.obj id hB1
  replace hB2 := hm3.obj id hB2
  have hM3 := hM2.trans0 hm3
  have hs3 := hm3.size
  refine ⟨_, rfl, hK _ _ trivial ?_⟩
  clear hK K hm3
  try simp only [pl, pn, el, ec, sz, ss, gz, gs, if_true, if_false, Bool.false_eq_true, Bool.not_true, Bool.not_false, Nat.add_zero, Nat.zero_add, Nat.reduceAdd]
  refine wpPi_move _ rfl rfl ?_
  simp only [pl, pn, el, ec, sz, ss, gz, gs, if_true, if_false, Bool.false_eq_true, Bool.not_true, Bool.not_false, Nat.add_zero, Nat.zero_add, Nat.reduceAdd]
  refine wpPi_any (v := ?_) rfl (fun w' => ?_) ?_; rotate_left; · (go_simp; try with_reducible rfl)
  simp only [pl, pn, el, ec, sz, ss, gz, gs, if_true, if_false, Bool.false_eq_true, Bool.not_true, Bool.not_false, Nat.add_zero, Nat.zero_add, Nat.reduceAdd]
  refine wpPi_any (v := ?_) rfl (fun w' => ?_) ?_; rotate_left; · (go_simp; try with_reducible rfl)
  simp only [pl, pn, el, ec, sz, ss, gz, gs, if_true, if_false, Bool.false_eq_true, Bool.not_true, Bool.not_false, Nat.add_zero, Nat.zero_add, Nat.reduceAdd]
  refine wpPi_assign _ rfl rfl ?_
  simp only [pl, pn, el, ec, sz, ss, gz, gs, if_true, if_false, Bool.false_eq_true, Bool.not_true, Bool.not_false, Nat.add_zero, Nat.zero_add, Nat.reduceAdd]
  refine wpPi_assign _ rfl rfl ?_
  simp only [pl, pn, el, ec, sz, ss, gz, gs, if_true, if_false, Bool.false_eq_true, Bool.not_true, Bool.not_false, Nat.add_zero, Nat.zero_add, Nat.reduceAdd]
  refine wpPi_nil ?_
  have hbs := built_side0 (dig f (i + 1) (sideL true i l)) hdb
  have hss := sideCells_size (false, dig f (i + 1) (sideL true i l))
  go_upto_region 3 with (fail)
  refine wp_region_seq [3, 3, 3, 1, 0, 3, 1, 1, 3] (fun _ => True) (by rfl) (by rfl) trivial ?_
  simp only [List.zip_cons_cons, List.zip_nil_right]
  refine wpPi_move _ rfl rfl ?_
  simp only [pl, pn, el, ec, sz, ss, gz, gs, if_true, if_false, Bool.false_eq_true, Bool.not_true, Bool.not_false, Nat.add_zero, Nat.zero_add, Nat.reduceAdd]
  refine wpPi_move _ rfl rfl ?_
  simp only [pl, pn, el, ec, sz, ss, gz, gs, if_true, if_false, Bool.false_eq_true, Bool.not_true, Bool.not_false, Nat.add_zero, Nat.zero_add, Nat.reduceAdd]
  refine wpPi_addR _ _ _ _ (i : Int) 1 ((i + 1 : Nat) : Int) rfl rfl rfl rfl (by omega) (by omega) (by omega) ?_
  simp only [pl, pn, el, ec, sz, ss, gz, gs, if_true, if_false, Bool.false_eq_true, Bool.not_true, Bool.not_false, Nat.add_zero, Nat.zero_add, Nat.reduceAdd]
  refine wpPi_do rfl (fun K hK => ?_)
  refine wp_enterQ (run_call 22 [.tmp 21, .tmp 23] _ rfl _ Tryz.func22 rfl (by kernel_rfl) [v2, .int .i64 ((i + 1 : Nat) : Int)] rfl _) (digest_any _ f (i + 1) _ v2 _ (by omega) hc2 hpb (by omega)) ?_
  rintro e w4 ⟨rfl, hm4⟩
  replace hB1 := hm4.obj id hB1
  replace hB2 := hm4.obj id hB2
  have hM4 := hM3.trans0 hm4
  have hs4 := hm4.size
  replace hc1 := hc1.keep0 hm4
  replace hc2 := hc2.keep0 hm4
  refine ⟨_, rfl, hK _ _ trivial ?_⟩
  clear hK K hm4
  try simp only [pl, pn, el, ec, sz, ss, gz, gs, if_true, if_false, Bool.false_eq_true, Bool.not_true, Bool.not_false, Nat.add_zero, Nat.zero_add, Nat.reduceAdd]
  refine wpPi_val rfl (fun w' hS => exec_build_of 41 [(1, _)] [(1, .agg (idCells (dig f (i + 1) (sideL true i l))))] _ (by rfl) (by rfl) hbs) ?_
  simp only [pl, pn, el, ec, sz, ss, gz, gs, if_true, if_false, Bool.false_eq_true, Bool.not_true, Bool.not_false, Nat.add_zero, Nat.zero_add, Nat.reduceAdd]
  refine wpPi_move _ rfl rfl ?_
  simp only [pl, pn, el, ec, sz, ss, gz, gs, if_true, if_false, Bool.false_eq_true, Bool.not_true, Bool.not_false, Nat.add_zero, Nat.zero_add, Nat.reduceAdd]
  refine wpPi_do rfl (fun K hK => ?_)
  refine wp_alloc 41 _ (by rfl) sideZ (fun w5 hB5 hm5 hs5 => ?_)
  replace hB5 : w5.heap[w4.heap.size]? = some (.cells (sideCells (false, zeroID)) 41 (0, 0)) := hB5
  refine hK _ _ trivial ?_
  clear hK K
  try simp only [pl, pn, el, ec, sz, ss, gz, gs, if_true, if_false, Bool.false_eq_true, Bool.not_true, Bool.not_false, Nat.add_zero, Nat.zero_add, Nat.reduceAdd]
  refine wpPi_do rfl (fun K hK => ?_)
  refine wp_storeA 41 _ _ w4.heap.size 0 (sideCells (false, dig f (i + 1) (sideL true i l))) (by rfl) (by rfl) (by rfl) (sideCells_one _) 33 (by kernel_rfl) hss _ _ hB5 (by rw [hss, sideCells_size]; exact Nat.le_refl _) (fun w6 hB6 hm6 => ?_)
  rw [putRow_whole (by rw [hss, sideCells_size])] at hB6
  refine hK _ _ trivial ?_
  clear hK K
  try simp only [pl, pn, el, ec, sz, ss, gz, gs, if_true, if_false, Bool.false_eq_true, Bool.not_true, Bool.not_false, Nat.add_zero, Nat.zero_add, Nat.reduceAdd]
  refine wpPi_assign _ rfl rfl ?_
  simp only [pl, pn, el, ec, sz, ss, gz, gs, if_true, if_false, Bool.false_eq_true, Bool.not_true, Bool.not_false, Nat.add_zero, Nat.zero_add, Nat.reduceAdd]
  refine wpPi_nil ?_
  have hm46 : Mod NoB w4 w6 := hm5.transB hm6 (Nat.le_refl _)
  have hM6 := hM4.trans0 hm46
  replace hB1 := hm46.obj id hB1
  replace hB2 := hm46.obj id hB2
  replace hc1 := hc1.keep0 hm46
  replace hc2 := hc2.keep0 hm46
  have hs6 : w4.heap.size < w6.heap.size := Nat.lt_of_lt_of_le hs5 hm6.size
  have hb10 : b7 < w4.heap.size := by omega
  generalize w4.heap.size = b10 at *
  clear hm5 hm6 hm46 hB5 hM4 hM3 hM2 hbs
  have hw5 := CellsAt.whole hB1
  have hptr := CellsAt.one.1 (CellsAt.whole hB2)
  cases hbit : bitAt way i with
  | true =>
    have HBB := Lib.hid hbit
    rw [hbit] at hpl
    go_upto_region 4 with (fail)
    refine wp_region_seq [1, 3, 1] (fun _ => True) (by rfl) (by rfl) trivial ?_
    simp only [List.zip_cons_cons, List.zip_nil_right]
    refine wpPi_do rfl (fun K hK => ?_)
    refine wp_exec (exec_loadA 24 _ (by rfl) b5 0 (by rfl) C hw5 _ Tryz.underlying24 rfl 32 (by kernel_rfl) hsz32) ?_
    refine hK _ _ trivial ?_
    clear hK K
    try simp only [pl, pn, el, ec, sz, ss, gz, gs, if_true, if_false, Bool.false_eq_true, Bool.not_true, Bool.not_false, Nat.add_zero, Nat.zero_add, Nat.reduceAdd]
    refine wpPi_move _ rfl rfl ?_
    simp only [pl, pn, el, ec, sz, ss, gz, gs, if_true, if_false, Bool.false_eq_true, Bool.not_true, Bool.not_false, Nat.add_zero, Nat.zero_add, Nat.reduceAdd]
    refine wpPi_do rfl (fun K hK => ?_)
    refine wp_enterQ (run_call 49 [.tmp 27, .tmp 28] _ rfl _ Tryz.func49 rfl (by kernel_rfl) [.agg C, .int .i64 (i : Int)] rfl _) (by rw [← HC.out]; exact right_any way hway i (by omega) _) ?_
    rintro e w7 ⟨rfl, hm7⟩
    rw [hbit]
    have hM7 := hM6.trans0 hm7
    have hs7 := hm7.size
    replace hw5 := hw5.keep hm7 id
    replace hptr := hm7.cell id hptr
    replace hB2 := hm7.obj id hB2
    replace hB6 := hm7.obj id hB6
    replace hc1 := hc1.keep0 hm7
    replace hc2 := hc2.keep0 hm7
    refine ⟨_, rfl, hK _ _ trivial ?_⟩
    clear hK K hm7
    try simp only [pl, pn, el, ec, sz, ss, gz, gs, if_true, if_false, Bool.false_eq_true, Bool.not_true, Bool.not_false, Nat.add_zero, Nat.zero_add, Nat.reduceAdd]
    refine wpPi_nil ?_
    clear hM6 hbit
    have hbs := built_side1 (dig f (i + 1) (sideL false i l)) hda
    have hss1 := sideCells_size (true, dig f (i + 1) (sideL false i l))
    go_upto_region 5 with (fail)
    refine wp_region_seq [3, 3, 3, 1, 0, 3, 1, 3] (fun _ => True) (by rfl) (by rfl) trivial ?_
    simp only [List.zip_cons_cons, List.zip_nil_right]
    refine wpPi_move _ rfl rfl ?_
    simp only [pl, pn, el, ec, sz, ss, gz, gs, if_true, if_false, Bool.false_eq_true, Bool.not_true, Bool.not_false, Nat.add_zero, Nat.zero_add, Nat.reduceAdd]
    refine wpPi_move _ rfl rfl ?_
    simp only [pl, pn, el, ec, sz, ss, gz, gs, if_true, if_false, Bool.false_eq_true, Bool.not_true, Bool.not_false, Nat.add_zero, Nat.zero_add, Nat.reduceAdd]
    refine wpPi_addR _ _ _ _ (i : Int) 1 ((i + 1 : Nat) : Int) rfl rfl rfl rfl (by omega) (by omega) (by omega) ?_
    simp only [pl, pn, el, ec, sz, ss, gz, gs, if_true, if_false, Bool.false_eq_true, Bool.not_true, Bool.not_false, Nat.add_zero, Nat.zero_add, Nat.reduceAdd]
    refine wpPi_do rfl (fun K hK => ?_)
    refine wp_enterQ (run_call 22 [.tmp 30, .tmp 32] _ rfl _ Tryz.func22 rfl (by kernel_rfl) [v1, .int .i64 ((i + 1 : Nat) : Int)] rfl _) (digest_any _ f (i + 1) _ v1 _ (by omega) hc1 hpa (by omega)) ?_
    rintro e w8 ⟨rfl, hm8⟩
    replace hB6 := hm8.obj id hB6
    refine ⟨_, rfl, hK _ _ trivial ?_⟩
    clear hK K
    try simp only [pl, pn, el, ec, sz, ss, gz, gs, if_true, if_false, Bool.false_eq_true, Bool.not_true, Bool.not_false, Nat.add_zero, Nat.zero_add, Nat.reduceAdd]
    refine wpPi_val rfl (fun w' hS => exec_build_of 41 [(0, _), (1, _)] [(0, .bool true), (1, .agg (idCells (dig f (i + 1) (sideL false i l))))] _ (by rfl) (by rfl) hbs) ?_
    simp only [pl, pn, el, ec, sz, ss, gz, gs, if_true, if_false, Bool.false_eq_true, Bool.not_true, Bool.not_false, Nat.add_zero, Nat.zero_add, Nat.reduceAdd]
    refine wpPi_move _ rfl rfl ?_
    simp only [pl, pn, el, ec, sz, ss, gz, gs, if_true, if_false, Bool.false_eq_true, Bool.not_true, Bool.not_false, Nat.add_zero, Nat.zero_add, Nat.reduceAdd]
    refine wpPi_do rfl (fun K hK => ?_)
    refine wp_storeA 41 _ _ b10 0 (sideCells (true, dig f (i + 1) (sideL false i l))) (by rfl) (by rfl) (by rfl) (sideCells_one _) 33 (by kernel_rfl) hss1 _ _ hB6 (by rw [hss1, sideCells_size]; exact Nat.le_refl _) (fun w9 hB9 hm9 => ?_)
    rw [putRow_whole (by rw [hss1, sideCells_size])] at hB9
    refine hK _ _ trivial ?_
    clear hK K
    try simp only [pl, pn, el, ec, sz, ss, gz, gs, if_true, if_false, Bool.false_eq_true, Bool.not_true, Bool.not_false, Nat.add_zero, Nat.zero_add, Nat.reduceAdd]
    refine wpPi_assign _ rfl rfl ?_
    simp only [pl, pn, el, ec, sz, ss, gz, gs, if_true, if_false, Bool.false_eq_true, Bool.not_true, Bool.not_false, Nat.add_zero, Nat.zero_add, Nat.reduceAdd]
    refine wpPi_nil ?_
    have hM9 : Mod NoB w w9 := (hM7.trans0 hm8).transB hm9 (by omega)
    have hs9 : w7.heap.size ≤ w9.heap.size := Nat.le_trans hm8.size hm9.size
    replace hw5 := (hw5.keep hm8 id).keep hm9 (by omega)
    replace hB2 := hm9.objB (by omega) (hm8.obj id hB2)
    replace hptr := CellsAt.one.1 (CellsAt.whole hB2)
    replace hc2 := (hc2.keep0 hm8).keepB hm9 (fun k hk => by omega)
    clear hm8 hm9 hB6 hM7 hbs
    have hbo9 := hM9.obj id HBO.out
    have hg9 := HG.out.keep0 hM9
    have hog : ∀ g, v.ownBlock = some g → g < b5 := fun g e => by have := (HG.out.lt e).2; omega
    have hboL : bo < b5 := by rw [← hb5e]; exact (Array.getElem?_eq_some_iff.1 HBO.out).1
    go_upto_region 7 with (fail)
    refine wp_region_seq [3, 1, 3, 3, 1, 1] (fun _ => True) (by rfl) (by rfl) trivial ?_
    simp only [List.zip_cons_cons, List.zip_nil_right]
    refine wpPi_move _ rfl rfl ?_
    simp only [pl, pn, el, ec, sz, ss, gz, gs, if_true, if_false, Bool.false_eq_true, Bool.not_true, Bool.not_false, Nat.add_zero, Nat.zero_add, Nat.reduceAdd]
    refine wpPi_do rfl (fun K hK => ?_)
    refine wp_exec (exec_loadA 24 _ (by rfl) b5 0 (by rfl) C hw5 _ Tryz.underlying24 rfl 32 (by kernel_rfl) hsz32) ?_
    refine hK _ _ trivial ?_
    clear hK K
    try simp only [pl, pn, el, ec, sz, ss, gz, gs, if_true, if_false, Bool.false_eq_true, Bool.not_true, Bool.not_false, Nat.add_zero, Nat.zero_add, Nat.reduceAdd]
    refine wpPi_move _ rfl rfl ?_
    simp only [pl, pn, el, ec, sz, ss, gz, gs, if_true, if_false, Bool.false_eq_true, Bool.not_true, Bool.not_false, Nat.add_zero, Nat.zero_add, Nat.reduceAdd]
    refine wpPi_addR _ _ _ _ (i : Int) 1 ((i + 1 : Nat) : Int) rfl rfl rfl rfl (by omega) (by omega) (by omega) ?_
    simp only [pl, pn, el, ec, sz, ss, gz, gs, if_true, if_false, Bool.false_eq_true, Bool.not_true, Bool.not_false, Nat.add_zero, Nat.zero_add, Nat.reduceAdd]
    refine wpPi_do rfl (fun K hK => ?_)
    refine wp_exec (exec_load1 61 _ (by rfl) b7 0 (by rfl) _ hptr _ Tryz.underlying61 rfl) ?_
    refine hK _ _ trivial ?_
    clear hK K
    try simp only [pl, pn, el, ec, sz, ss, gz, gs, if_true, if_false, Bool.false_eq_true, Bool.not_true, Bool.not_false, Nat.add_zero, Nat.zero_add, Nat.reduceAdd]
    refine wpPi_do rfl (fun K hK => ?_)
    refine wp_enterQ (run_call 27 [.tmp 37, .tmp 38, .tmp 40, .tmp 41] _ rfl _ Tryz.func27 rfl (by kernel_rfl) [v2, .agg C, .int .i64 ((i + 1 : Nat) : Int), .pointer (some ⟨bo, 0, none⟩)] rfl _) (by rw [← HC.out]; exact IH.out (sideL true i l) v2 w9 hc2.all hpb (by omega) hbo9 hg9) ?_
    rintro e w10 ⟨rfl, v10, h10a, h10b, h10c, h10d⟩
    refine ⟨_, rfl, hK _ _ trivial ?_⟩
    clear hK K
    try simp only [pl, pn, el, ec, sz, ss, gz, gs, if_true, if_false, Bool.false_eq_true, Bool.not_true, Bool.not_false, Nat.add_zero, Nat.zero_add, Nat.reduceAdd]
    refine wpPi_nil ?_
    have hsz10 := h10d.size
    have hB2' := h10d.obj (fun h => h.elim (by omega) (fun e => by have := hog _ e; omega)) hB2
    have hB10' := h10d.obj (fun h => h.elim (by omega) (fun e => by have := hog _ e; omega)) hB9
    have hne : v10.ownBlock ≠ some b10 := fun e => (h10c _ e).elim (fun e => by have := hog _ e; omega) (fun h => by omega)
    have HOUT : Hid (∀ ps' w', OutR w10 bo v10 ps' w' → OutR w bo v ps' w') := by
      rintro ps' w' ⟨v', k1, k2, k3, k4⟩
      have hsM := hM9.size
      refine ⟨v', k1, k2, fun g hg => ?_, ((hM9.mono fun _ _ h => h.elim).trans h10d (fun _ _ h => h)).trans k4 (fun k hk h => ?_)⟩
      · rcases k3 g hg with h | h
        · exact (h10c g h).imp id (fun h => by omega)
        · right; omega
      · rcases h with h | h
        · exact .inl h
        · rcases h10c k h with h | h
          · exact .inr h
          · omega
    go_wp2
    refine leaves_cons (f := 50) (args := #[.pointer (some ⟨b7, 0, none⟩), .pointer (some ⟨b10, 0, none⟩)]) (by simp) (by simp [go_sem]) ?_
    refine (pathD_any (true, dig f (i + 1) (sideL false i l)) h10a h10b hB2' hB10' hne (by rw [List.length_append]; omega) .returning).mono ?_
    rintro e u' w'' ⟨rfl, rfl, hout⟩
    exact ⟨_, results_none rfl _ _ _, rfl, by rw [← List.append_assoc, HBB.out]; exact HOUT.out _ _ hout⟩
  | false =>
    have HBB := Lib.hid hbit
    rw [hbit] at hpl
    go_upto_region 4 with (fail)
    refine wp_region_seq [1, 3, 1] (fun _ => True) (by rfl) (by rfl) trivial ?_
    simp only [List.zip_cons_cons, List.zip_nil_right]
    refine wpPi_do rfl (fun K hK => ?_)
    refine wp_exec (exec_loadA 24 _ (by rfl) b5 0 (by rfl) C hw5 _ Tryz.underlying24 rfl 32 (by kernel_rfl) hsz32) ?_
    refine hK _ _ trivial ?_
    clear hK K
    try simp only [pl, pn, el, ec, sz, ss, gz, gs, if_true, if_false, Bool.false_eq_true, Bool.not_true, Bool.not_false, Nat.add_zero, Nat.zero_add, Nat.reduceAdd]
    refine wpPi_move _ rfl rfl ?_
    simp only [pl, pn, el, ec, sz, ss, gz, gs, if_true, if_false, Bool.false_eq_true, Bool.not_true, Bool.not_false, Nat.add_zero, Nat.zero_add, Nat.reduceAdd]
    refine wpPi_do rfl (fun K hK => ?_)
    refine wp_enterQ (run_call 49 [.tmp 27, .tmp 28] _ rfl _ Tryz.func49 rfl (by kernel_rfl) [.agg C, .int .i64 (i : Int)] rfl _) (by rw [← HC.out]; exact right_any way hway i (by omega) _) ?_
    rintro e w7 ⟨rfl, hm7⟩
    rw [hbit]
    have hM7 := hM6.trans0 hm7
    have hs7 := hm7.size
    replace hw5 := hw5.keep hm7 id
    replace hptr := hm7.cell id hptr
    replace hB2 := hm7.obj id hB2
    replace hB6 := hm7.obj id hB6
    replace hc1 := hc1.keep0 hm7
    replace hc2 := hc2.keep0 hm7
    refine ⟨_, rfl, hK _ _ trivial ?_⟩
    clear hK K hm7
    try simp only [pl, pn, el, ec, sz, ss, gz, gs, if_true, if_false, Bool.false_eq_true, Bool.not_true, Bool.not_false, Nat.add_zero, Nat.zero_add, Nat.reduceAdd]
    refine wpPi_nil ?_
    clear hM6 hbit
    have hbo9 := hM7.obj id HBO.out
    have hg9 := HG.out.keep0 hM7
    have hog : ∀ g, v.ownBlock = some g → g < b5 := fun g e => by have := (HG.out.lt e).2; omega
    have hboL : bo < b5 := by rw [← hb5e]; exact (Array.getElem?_eq_some_iff.1 HBO.out).1
    go_upto_region 7 with (fail)
    refine wp_region_seq [3, 1, 3, 3, 1, 1] (fun _ => True) (by rfl) (by rfl) trivial ?_
    simp only [List.zip_cons_cons, List.zip_nil_right]
    refine wpPi_move _ rfl rfl ?_
    simp only [pl, pn, el, ec, sz, ss, gz, gs, if_true, if_false, Bool.false_eq_true, Bool.not_true, Bool.not_false, Nat.add_zero, Nat.zero_add, Nat.reduceAdd]
    refine wpPi_do rfl (fun K hK => ?_)
    refine wp_exec (exec_loadA 24 _ (by rfl) b5 0 (by rfl) C hw5 _ Tryz.underlying24 rfl 32 (by kernel_rfl) hsz32) ?_
    refine hK _ _ trivial ?_
    clear hK K
    try simp only [pl, pn, el, ec, sz, ss, gz, gs, if_true, if_false, Bool.false_eq_true, Bool.not_true, Bool.not_false, Nat.add_zero, Nat.zero_add, Nat.reduceAdd]
    refine wpPi_move _ rfl rfl ?_
    simp only [pl, pn, el, ec, sz, ss, gz, gs, if_true, if_false, Bool.false_eq_true, Bool.not_true, Bool.not_false, Nat.add_zero, Nat.zero_add, Nat.reduceAdd]
    refine wpPi_addR _ _ _ _ (i : Int) 1 ((i + 1 : Nat) : Int) rfl rfl rfl rfl (by omega) (by omega) (by omega) ?_
    simp only [pl, pn, el, ec, sz, ss, gz, gs, if_true, if_false, Bool.false_eq_true, Bool.not_true, Bool.not_false, Nat.add_zero, Nat.zero_add, Nat.reduceAdd]
    refine wpPi_do rfl (fun K hK => ?_)
    refine wp_exec (exec_load1 61 _ (by rfl) b7 0 (by rfl) _ hptr _ Tryz.underlying61 rfl) ?_
    refine hK _ _ trivial ?_
    clear hK K
    try simp only [pl, pn, el, ec, sz, ss, gz, gs, if_true, if_false, Bool.false_eq_true, Bool.not_true, Bool.not_false, Nat.add_zero, Nat.zero_add, Nat.reduceAdd]
    refine wpPi_do rfl (fun K hK => ?_)
    refine wp_enterQ (run_call 27 [.tmp 37, .tmp 38, .tmp 40, .tmp 41] _ rfl _ Tryz.func27 rfl (by kernel_rfl) [v1, .agg C, .int .i64 ((i + 1 : Nat) : Int), .pointer (some ⟨bo, 0, none⟩)] rfl _) (by rw [← HC.out]; exact IH.out (sideL false i l) v1 w7 hc1.all hpa (by omega) hbo9 hg9) ?_
    rintro e w10 ⟨rfl, v10, h10a, h10b, h10c, h10d⟩
    refine ⟨_, rfl, hK _ _ trivial ?_⟩
    clear hK K
    try simp only [pl, pn, el, ec, sz, ss, gz, gs, if_true, if_false, Bool.false_eq_true, Bool.not_true, Bool.not_false, Nat.add_zero, Nat.zero_add, Nat.reduceAdd]
    refine wpPi_nil ?_
    have hsz10 := h10d.size
    have hB2' := h10d.obj (fun h => h.elim (by omega) (fun e => by have := hog _ e; omega)) hB2
    have hB10' := h10d.obj (fun h => h.elim (by omega) (fun e => by have := hog _ e; omega)) hB6
    have hne : v10.ownBlock ≠ some b10 := fun e => (h10c _ e).elim (fun e => by have := hog _ e; omega) (fun h => by omega)
    have HOUT : Hid (∀ ps' w', OutR w10 bo v10 ps' w' → OutR w bo v ps' w') := by
      rintro ps' w' ⟨v', k1, k2, k3, k4⟩
      have hsM := hM7.size
      refine ⟨v', k1, k2, fun g hg => ?_, ((hM7.mono fun _ _ h => h.elim).trans h10d (fun _ _ h => h)).trans k4 (fun k hk h => ?_)⟩
      · rcases k3 g hg with h | h
        · exact (h10c g h).imp id (fun h => by omega)
        · right; omega
      · rcases h with h | h
        · exact .inl h
        · rcases h10c k h with h | h
          · exact .inr h
          · omega
    go_wp2
    refine leaves_cons (f := 50) (args := #[.pointer (some ⟨b7, 0, none⟩), .pointer (some ⟨b10, 0, none⟩)]) (by simp) (by simp [go_sem]) ?_
    refine (pathD_any (false, dig f (i + 1) (sideL true i l)) h10a h10b hB2' hB10' hne (by rw [List.length_append]; omega) .returning).mono ?_
    rintro e u' w'' ⟨rfl, rfl, hout⟩
    exact ⟨_, results_none rfl _ _ _, rfl, by rw [← List.append_assoc, HBB.out]; exact HOUT.out _ _ hout⟩
theorem path_any : ∀ (f i : Nat) (l : List Leaf) (vl v : Value) (w : World) (ps : List SideL) (way : List UInt8) (bo : Nat), f + i = 256 → Ls w (fun _ => True) vl l → Placed i l → l.length ≤ 65536 → way.length = 32 → w.heap[bo]? = some (.cells #[v] 28 (0, 0)) → Gat sideEnc 41 33 0 w v ps → ps.length + f ≤ 1000000 →
    Calls Tryz.prog 27 #[vl, .agg (idCells way), .int .i64 (i : Int), .pointer (some ⟨bo, 0, none⟩)] w (fun e w' => e = .returned (.tuple #[]) ∧ OutR w bo v (ps ++ pathL way f i l) w') := by
  intro f
  induction f with
  | zero =>
    intro i l vl v w ps way bo hi hl hp hlen hway hbo hg hps
    rcases Nat.lt_or_ge l.length 2 with h | h
    · rw [path_few h, List.append_nil]; exact path_none hl way i bo h hbo hg
    · have := hp.bits h; omega
  | succ f ih =>
    intro i l vl v w ps way bo hi hl hp hlen hway hbo hg hps
    rcases Nat.lt_or_ge l.length 2 with h | h
    · rw [path_few h, List.append_nil]; exact path_none hl way i bo h hbo hg
    · exact path_two f i hi hl hp hlen way hway bo h hbo hg hps (fun l' vl' w' h1 h2 h3 h4 h5 => ih (i + 1) l' vl' v w' ps way bo (by omega) h1 h2 h3 hway h4 h5 (by omega))
end Go.Proofs.YtchkikmmcmjcgaaGreat

/- slices.ContainsFunc over entries; tree.Path. -/
namespace Go.Proofs.YtchkikmmcmjcgaaGreat
set_option linter.unusedSimpArgs false
set_option linter.unusedVariables false
set_option linter.unnecessarySimpa false
set_option linter.unusedSectionVars false
open Go.RowKit Go.Shelf


def keysE (es : List Ent) : List ByteArray := es.map (·.1)
def hasK (es : List Ent) (key : ByteArray) : Bool := (keysE es).any fun k => decide (k = key)
theorem hasK_iff {es : List Ent} {key : ByteArray} : hasK es key = true ↔ key ∈ keysE es := by simp [hasK]
set_option maxRecDepth 10000 in
theorem pathF_any {w : World} {G : Nat → Prop} {cs : Array Value} {e : Ent} (he : EntC w G cs e) (key : ByteArray) (b : Nat) (hb : w.heap[b]? = some (.cells #[.string key] 9 (0, 0))) :
    Calls Tryz.prog 26 #[.agg cs, .pointer (some ⟨b, 0, none⟩)] w (RetM (.bool (decide (e.1 = key))) w) := by
  obtain ⟨v, rfl, -⟩ := he
  have hcb := CellsAt.one.1 (CellsAt.whole hb)
  obtain ⟨k, val⟩ := e
  change Calls Tryz.prog 26 #[.agg #[.string k, v], .pointer (some ⟨b, 0, none⟩)] w (RetM (.bool (decide (k = key))) w)
  clear hb
  go_enter Tryz.func26, Tryz.ntmps26
  go_upto_region 0 with (fail)
  refine wp_region_seq [1, 3] (fun _ => True) (by rfl) (by rfl) trivial ?_
  simp only [List.zip_cons_cons, List.zip_nil_right]
  refine wpPi_do rfl (fun K hK => ?_)
  refine wp_box 27 _ _ (by rfl) (by rfl) (fun w1 hB1 hm1 hs1 => ?_)
  replace hB1 : w1.heap[w.heap.size]? = some (.cells #[.string k, v] 27 (0, 0)) := hB1
  refine hK _ _ trivial ?_
  clear hK K
  try simp only [pl, pn, el, ec, sz, ss, gz, gs, if_true, if_false, Bool.false_eq_true, Bool.not_true, Bool.not_false, Nat.add_zero, Nat.zero_add, Nat.reduceAdd]
  refine wpPi_assign _ rfl rfl ?_
  simp only [pl, pn, el, ec, sz, ss, gz, gs, if_true, if_false, Bool.false_eq_true, Bool.not_true, Bool.not_false, Nat.add_zero, Nat.zero_add, Nat.reduceAdd]
  refine wpPi_nil ?_
  have hck := (CellsAt.whole hB1).cell (j := 0) (v := .string k) rfl
  replace hcb := hm1.cell id hcb
  generalize w.heap.size = b2 at *
  clear hB1
  go_upto_region 1 with (fail)
  refine wp_region_seq [3, 1, 1, 0, 3] (fun _ => True) (by rfl) (by rfl) trivial ?_
  simp only [List.zip_cons_cons, List.zip_nil_right]
  refine wpPi_field _ _ _ _ _ _ rfl rfl rfl fo_27_0 ?_
  simp only [pl, pn, el, ec, sz, ss, gz, gs, if_true, if_false, Bool.false_eq_true, Bool.not_true, Bool.not_false, Nat.add_zero, Nat.zero_add, Nat.reduceAdd]
  refine wpPi_do rfl (fun K hK => ?_)
  refine wp_exec (exec_load1 9 _ (by rfl) b2 0 (by rfl) _ hck _ Tryz.underlying9 rfl) ?_
  refine hK _ _ trivial ?_
  clear hK K
  try simp only [pl, pn, el, ec, sz, ss, gz, gs, if_true, if_false, Bool.false_eq_true, Bool.not_true, Bool.not_false, Nat.add_zero, Nat.zero_add, Nat.reduceAdd]
  refine wpPi_do rfl (fun K hK => ?_)
  refine wp_exec (exec_load1 9 _ (by rfl) b 0 (by rfl) _ hcb _ Tryz.underlying9 rfl) ?_
  refine hK _ _ trivial ?_
  clear hK K
  try simp only [pl, pn, el, ec, sz, ss, gz, gs, if_true, if_false, Bool.false_eq_true, Bool.not_true, Bool.not_false, Nat.add_zero, Nat.zero_add, Nat.reduceAdd]
  refine wpPi_val rfl (fun w' hS => exec_eql_str _ _ _ _ rfl k key rfl rfl _ rfl) ?_
  simp only [pl, pn, el, ec, sz, ss, gz, gs, if_true, if_false, Bool.false_eq_true, Bool.not_true, Bool.not_false, Nat.add_zero, Nat.zero_add, Nat.reduceAdd]
  refine wpPi_assign _ rfl rfl ?_
  simp only [pl, pn, el, ec, sz, ss, gz, gs, if_true, if_false, Bool.false_eq_true, Bool.not_true, Bool.not_false, Nat.add_zero, Nat.zero_add, Nat.reduceAdd]
  refine wpPi_nil ?_
  go_wp2
  go_ret
  exact ⟨rfl, hm1⟩
theorem eg_pathF : ∀ args w, (callFunc 26 args).run Tryz.prog w = .ok (.enter 26 args) w := enters_of Tryz.func26 (by kernel_rfl) rfl
def IdxFRel (key : ByteArray) (es : List Ent) (w0 : World) (i : Value) (w : World) : Prop := ∃ k : Nat, k ≤ es.length ∧ i = .int .i64 k ∧ (∀ j (_ : j < k) (h : j < es.length), es[j].1 ≠ key) ∧ Mod NoB w0 w
def IdxFR (key : ByteArray) (es : List Ent) (w : World) : Ending → World → Prop := fun e w' => ∃ r : Int, e = .returned (.int .i64 r) ∧ (0 ≤ r ↔ key ∈ keysE es) ∧ Mod NoB w w'
set_option maxRecDepth 10000 in
theorem indexFn_any {own : Bool} {w : World} {G : Nat → Prop} {v : Value} {es : List Ent} (h : Es own w G v es) (key : ByteArray) (b : Nat) (hb : w.heap[b]? = some (.cells #[.string key] 9 (0, 0))) :
    Calls Tryz.prog 48 #[v, .func (.func 26) #[] #[.pointer (some ⟨b, 0, none⟩)]] w (IdxFR key es w) := by
  have HS := Lib.hid h
  obtain ⟨ad, cap, rfl, hlm, -⟩ := Sl.at h
  have HB := Lib.hid hb
  clear h hb
  go_enter Tryz.func48, Tryz.ntmps48
  go_wp2
  go_loopw [8] (IdxFRel key es w) (fun i _ => es.length - (intOf i).toNat)
  case atStart => exact ⟨0, by omega, rfl, fun j h1 h2 => by omega, Mod.refl _ _⟩
  case round =>
    rename World => wr
    obtain ⟨k, hk, rfl, hne, hm⟩ := hrel
    have HNE := Lib.hid hne
    clear hne
    by_cases hlt : k < es.length
    · have hz : (k : Int) < (es.length : Int) := by omega
      obtain ⟨_, _, hv, -, hat⟩ := Sl.at (HS.out.keep0 hm)
      cases hv
      obtain ⟨bq, off, rfl, -, -, hc⟩ := hat k hlt
      obtain ⟨cs, hcs2, hec, hc⟩ := hc k hlt
      clear hat
      go_upto_region 4 with (fail)
      by_cases heq : es[k].1 = key
      · have hmem : key ∈ keysE es := List.mem_map.2 ⟨es[k], List.getElem_mem hlt, heq⟩
        generalize es[k] = x at *
        refine wp_region_seq [3, 3, 3, 3, 1, 1] (fun _ => True) (by rfl) (by rfl) trivial ?_
        simp only [List.zip_cons_cons, List.zip_nil_right]
        refine wpPi_move _ rfl rfl ?_
        simp only [pl, pn, el, ec, sz, ss, gz, gs, if_true, if_false, Bool.false_eq_true, Bool.not_true, Bool.not_false, Nat.add_zero, Nat.zero_add, Nat.reduceAdd]
        refine wpPi_move _ rfl rfl ?_
        simp only [pl, pn, el, ec, sz, ss, gz, gs, if_true, if_false, Bool.false_eq_true, Bool.not_true, Bool.not_false, Nat.add_zero, Nat.zero_add, Nat.reduceAdd]
        refine wpPi_move _ rfl rfl ?_
        simp only [pl, pn, el, ec, sz, ss, gz, gs, if_true, if_false, Bool.false_eq_true, Bool.not_true, Bool.not_false, Nat.add_zero, Nat.zero_add, Nat.reduceAdd]
        refine wpPi_index _ _ _ _ _ _ _ _ _ rfl rfl rfl rfl Tryz.underlying22 (n := 2) (by kernel_rfl) hlt ?_
        simp only [pl, pn, el, ec, sz, ss, gz, gs, if_true, if_false, Bool.false_eq_true, Bool.not_true, Bool.not_false, Nat.add_zero, Nat.zero_add, Nat.reduceAdd]
        refine wpPi_do rfl (fun K hK => ?_)
        refine wp_exec (exec_loadA 27 _ (by rfl) bq (off + k * 2) (by rfl) cs hc _ Tryz.underlying27 rfl 2 (by kernel_rfl) hcs2) ?_
        refine hK _ _ trivial ?_
        clear hK K
        try simp only [pl, pn, el, ec, sz, ss, gz, gs, if_true, if_false, Bool.false_eq_true, Bool.not_true, Bool.not_false, Nat.add_zero, Nat.zero_add, Nat.reduceAdd]
        refine wpPi_do rfl (fun K hK => ?_)
        refine wp_enterQ (run_callV 26 _ [.tmp 15] _ #[.pointer (some ⟨b, 0, none⟩)] rfl rfl eg_pathF [.agg cs] rfl _) (pathF_any hec key b (hm.obj id HB.out)) ?_
        rintro e w2 ⟨rfl, hm2⟩
        rw [decide_eq_true heq]
        have hMr := hm.trans0 hm2
        refine ⟨_, rfl, hK _ _ trivial ?_⟩
        clear hK K
        try simp only [pl, pn, el, ec, sz, ss, gz, gs, if_true, if_false, Bool.false_eq_true, Bool.not_true, Bool.not_false, Nat.add_zero, Nat.zero_add, Nat.reduceAdd]
        refine wpPi_nil ?_
        clear hm hm2
        go_wp2
        go_ret
        exact ⟨k, rfl, ⟨fun _ => hmem, fun _ => by omega⟩, hMr⟩
      · have hstep : ∀ j (_ : j < k + 1) (h : j < es.length), es[j].1 ≠ key := fun j h1 h2 => by
          rcases Nat.lt_or_ge j k with h4 | h4
          · exact HNE.out j h4 h2
          · obtain rfl : j = k := by omega
            exact heq
        have HSTEP := Lib.hid hstep
        clear hstep
        generalize es[k] = x at *
        refine wp_region_seq [3, 3, 3, 3, 1, 1] (fun _ => True) (by rfl) (by rfl) trivial ?_
        simp only [List.zip_cons_cons, List.zip_nil_right]
        refine wpPi_move _ rfl rfl ?_
        simp only [pl, pn, el, ec, sz, ss, gz, gs, if_true, if_false, Bool.false_eq_true, Bool.not_true, Bool.not_false, Nat.add_zero, Nat.zero_add, Nat.reduceAdd]
        refine wpPi_move _ rfl rfl ?_
        simp only [pl, pn, el, ec, sz, ss, gz, gs, if_true, if_false, Bool.false_eq_true, Bool.not_true, Bool.not_false, Nat.add_zero, Nat.zero_add, Nat.reduceAdd]
        refine wpPi_move _ rfl rfl ?_
        simp only [pl, pn, el, ec, sz, ss, gz, gs, if_true, if_false, Bool.false_eq_true, Bool.not_true, Bool.not_false, Nat.add_zero, Nat.zero_add, Nat.reduceAdd]
        refine wpPi_index _ _ _ _ _ _ _ _ _ rfl rfl rfl rfl Tryz.underlying22 (n := 2) (by kernel_rfl) hlt ?_
        simp only [pl, pn, el, ec, sz, ss, gz, gs, if_true, if_false, Bool.false_eq_true, Bool.not_true, Bool.not_false, Nat.add_zero, Nat.zero_add, Nat.reduceAdd]
        refine wpPi_do rfl (fun K hK => ?_)
        refine wp_exec (exec_loadA 27 _ (by rfl) bq (off + k * 2) (by rfl) cs hc _ Tryz.underlying27 rfl 2 (by kernel_rfl) hcs2) ?_
        refine hK _ _ trivial ?_
        clear hK K
        try simp only [pl, pn, el, ec, sz, ss, gz, gs, if_true, if_false, Bool.false_eq_true, Bool.not_true, Bool.not_false, Nat.add_zero, Nat.zero_add, Nat.reduceAdd]
        refine wpPi_do rfl (fun K hK => ?_)
        refine wp_enterQ (run_callV 26 _ [.tmp 15] _ #[.pointer (some ⟨b, 0, none⟩)] rfl rfl eg_pathF [.agg cs] rfl _) (pathF_any hec key b (hm.obj id HB.out)) ?_
        rintro e w2 ⟨rfl, hm2⟩
        rw [decide_eq_false heq]
        have hMr := hm.trans0 hm2
        refine ⟨_, rfl, hK _ _ trivial ?_⟩
        clear hK K
        try simp only [pl, pn, el, ec, sz, ss, gz, gs, if_true, if_false, Bool.false_eq_true, Bool.not_true, Bool.not_false, Nat.add_zero, Nat.zero_add, Nat.reduceAdd]
        refine wpPi_nil ?_
        clear hm hm2
        go_wp2
        go_roundw
        case rel => exact ⟨k + 1, by omega, by go_num, HSTEP.out, hMr⟩
        case measure => simp [intOf]; omega
    · have hz : ¬ (k : Int) < (es.length : Int) := by omega
      have hnm : key ∉ keysE es := fun hm => by
        obtain ⟨x, hx, rfl⟩ := List.mem_map.1 hm
        obtain ⟨j, hj, rfl⟩ := List.getElem_of_mem hx
        exact HNE.out j (by omega) hj rfl
      go_wp2
      go_ret
      exact ⟨-1, rfl, ⟨fun h => by omega, fun h => absurd h hnm⟩, hm⟩
set_option maxRecDepth 10000 in
theorem containsFn_any {own : Bool} {w : World} {G : Nat → Prop} {v : Value} {es : List Ent} (h : Es own w G v es) (key : ByteArray) (b : Nat) (hb : w.heap[b]? = some (.cells #[.string key] 9 (0, 0))) :
    Calls Tryz.prog 25 #[v, .func (.func 26) #[] #[.pointer (some ⟨b, 0, none⟩)]] w (RetM (.bool (hasK es key)) w) := by
  go_enter Tryz.func25, Tryz.ntmps25
  go_upto_region 1 with (fail)
  refine wp_region_seq [3, 3, 1, 3, 3] (fun _ => True) (by rfl) (by rfl) trivial ?_
  simp only [List.zip_cons_cons, List.zip_nil_right]
  refine wpPi_move _ rfl rfl ?_
  simp only [pl, pn, el, ec, sz, ss, gz, gs, if_true, if_false, Bool.false_eq_true, Bool.not_true, Bool.not_false, Nat.add_zero, Nat.zero_add, Nat.reduceAdd]
  refine wpPi_move _ rfl rfl ?_
  simp only [pl, pn, el, ec, sz, ss, gz, gs, if_true, if_false, Bool.false_eq_true, Bool.not_true, Bool.not_false, Nat.add_zero, Nat.zero_add, Nat.reduceAdd]
  refine wpPi_do rfl (fun K hK => ?_)
  refine wp_enterQ (run_call 48 [.tmp 5, .tmp 6] _ rfl _ Tryz.func48 rfl (by kernel_rfl) [v, .func (.func 26) #[] #[.pointer (some ⟨b, 0, none⟩)]] rfl _) (indexFn_any h key b hb) ?_
  rintro e w2 ⟨r, rfl, hr, hm2⟩
  refine ⟨_, rfl, hK _ _ trivial ?_⟩
  clear hK K
  try simp only [pl, pn, el, ec, sz, ss, gz, gs, if_true, if_false, Bool.false_eq_true, Bool.not_true, Bool.not_false, Nat.add_zero, Nat.zero_add, Nat.reduceAdd]
  refine wpPi_cmp _ _ _ _ _ _ _ _ rfl rfl rfl rfl rfl (hasK es key) (by simp only [cmpB]; rw [Bool.eq_iff_iff, decide_eq_true_iff, hasK_iff]; exact hr) ?_
  simp only [pl, pn, el, ec, sz, ss, gz, gs, if_true, if_false, Bool.false_eq_true, Bool.not_true, Bool.not_false, Nat.add_zero, Nat.zero_add, Nat.reduceAdd]
  refine wpPi_assign _ rfl rfl ?_
  simp only [pl, pn, el, ec, sz, ss, gz, gs, if_true, if_false, Bool.false_eq_true, Bool.not_true, Bool.not_false, Nat.add_zero, Nat.zero_add, Nat.reduceAdd]
  refine wpPi_nil ?_
  go_wp2
  go_ret
  exact ⟨rfl, hm2⟩
def errP (es : List Ent) (key : ByteArray) : Nat := if chkE es ≠ 0 then chkE es else if hasK es key then 0 else 26
def pathOut (es : List Ent) (key : ByteArray) : List SideL := if errP es key = 0 then pathL (shaL key.data.toList) 256 0 (leavesE es) else []
def PtR (w : World) (es : List Ent) (key : ByteArray) : Ending → World → Prop := fun e w' => ∃ v, e = .returned (.tuple #[v, .int .i64 ((errP es key : Nat) : Int)]) ∧ Gat sideEnc 41 33 w.heap.size w' v (pathOut es key) ∧ Mod NoB w w'
theorem Gat.rebase {α : Type} {enc : α → List Value} {e k base b' : Nat} {w : World} {v : Value} {l : List α} (h : Gat enc e k base w v l) (hb : ∀ g, v.ownBlock = some g → b' ≤ g) : Gat enc e k b' w v l := by
  refine ⟨h.1, ?_⟩
  rcases h.2 with h2 | ⟨g, cap, cur, rfl, h1, h2⟩
  · exact .inl h2
  · exact .inr ⟨g, cap, cur, rfl, hb g rfl, h2⟩
theorem sSideZ : (Tryz.prog.info? 28).bind (·.zero) = some (.slice none 0 0) := by kernel_rfl
theorem built_entK (key : ByteArray) : Tryz.prog.built 27 [(0, .string key)] = some #[.string key, .slice none 0 0] := by kernel_rfl
set_option maxRecDepth 20000 in
theorem exec_field_way {w : World} {o : Oper} {a : Act} (x : Operand) (u : Leaf) (hu : LeafOk u) (ho : o.op = .field 59 x 1) (hx : a.eval x = .agg (leafCells u)) : (execOp a.eval o).run Tryz.prog w = .ok (.value (.agg (idCells u.way))) w := by
  unfold execOp
  simp only [ho, hx]
  have hr : (Instr.field 59 (.agg (leafCells u)) 1).run Tryz.prog w = .ok (.agg (idCells u.way)) w := by
    unfold Instr.field
    simp only [Sem.run_bind, run_underlying Tryz.underlying59, Result.andThen_ok]
    show ((asAgg (.agg (leafCells u))).run Tryz.prog w).andThen (fun cs w => (part 24 cs 1).run Tryz.prog w) = _
    simp [asAgg, part_way hu]
  simp only [Sem.run_bind, hr, Result.andThen_ok, Sem.run_pure]
end Go.Proofs.YtchkikmmcmjcgaaGreat

/- tree.Path: a key's path. -/
namespace Go.Proofs.YtchkikmmcmjcgaaGreat
set_option linter.unusedSimpArgs false
set_option linter.unusedVariables false
set_option linter.unnecessarySimpa false
set_option linter.unusedSectionVars false
open Go.RowKit Go.Shelf


theorem results_one_tmp {P : Program} {fn : Func} {p u : Tmp} {ty : TypeId} (h : fn.results = #[.cell p ty, .tmp u]) (tmps : Array Value) (w : World) (g : Nat) (v : Value) (d : TypeDesc)
    (hp : tmps.getD p undef = .pointer (some ⟨g, 0, none⟩)) (hg : w.cell? ⟨g, 0, none⟩ = some v)
    (hu : P.underlying ty = some d) (hd : (match d with | .struct _ | .array _ _ => true | _ => false) = false) :
    (results fn tmps).run P w = .ok (.tuple #[v, tmps.getD u undef]) w := by
  have hp' : tmps[p]?.getD undef = .pointer (some ⟨g, 0, none⟩) := by simpa using hp
  have hagg : (isAgg ty).run P w = .ok false w := by
    unfold isAgg
    rw [Sem.run_bind, run_underlying hu w]
    cases d <;> simp_all
  have hl : (loadVar ty ⟨g, 0, none⟩).run P w = .ok v w := by
    simp only [loadVar, Sem.run_bind, hagg, Result.andThen_ok, Bool.false_eq_true, if_false]
    simp [load, Sem.run, hg]
  simp [results, h, hp', asAddr, hl]
set_option maxRecDepth 10000 in
set_option maxHeartbeats 1000000 in
theorem treePath_any {own : Bool} {w : World} {G : Nat → Prop} {v : Value} {es : List Ent} (h : Es own w G v es) (hs : Short es) (hlen : es.length ≤ 4096) (key : ByteArray) (hkey : key.size ≤ 1000000) : Calls Tryz.prog 9 #[v, .string key] w (PtR w es key) := by
  have HS := Lib.hid h
  have HSH := Lib.hid hs
  obtain ⟨ad, cap, rfl, -, -⟩ := Sl.at h
  clear h hs
  go_enter Tryz.func9, Tryz.ntmps9
  go_upto_region 0 with (fail)
  refine wp_region_seq [1, 1, 3] (fun _ => True) (by rfl) (by rfl) trivial ?_
  simp only [List.zip_cons_cons, List.zip_nil_right]
  refine wpPi_do rfl (fun K hK => ?_)
  refine wp_box 9 _ _ (by rfl) (by rfl) (fun w1 hB1 hm1 hs1 => ?_)
  replace hB1 : w1.heap[w.heap.size]? = some (.cells #[.string key] 9 (0, 0)) := hB1
  refine hK _ _ trivial ?_
  clear hK K
  try simp only [pl, pn, el, ec, sz, ss, gz, gs, if_true, if_false, Bool.false_eq_true, Bool.not_true, Bool.not_false, Nat.add_zero, Nat.zero_add, Nat.reduceAdd]
  refine wpPi_do rfl (fun K hK => ?_)
  refine wp_alloc 28 _ (by rfl) sSideZ (fun w2 hB2 hm2 hs2 => ?_)
  replace hB2 : w2.heap[w1.heap.size]? = some (.cells #[.slice none 0 0] 28 (0, 0)) := hB2
  refine hK _ _ trivial ?_
  clear hK K
  try simp only [pl, pn, el, ec, sz, ss, gz, gs, if_true, if_false, Bool.false_eq_true, Bool.not_true, Bool.not_false, Nat.add_zero, Nat.zero_add, Nat.reduceAdd]
  refine wpPi_assign _ rfl rfl ?_
  simp only [pl, pn, el, ec, sz, ss, gz, gs, if_true, if_false, Bool.false_eq_true, Bool.not_true, Bool.not_false, Nat.add_zero, Nat.zero_add, Nat.reduceAdd]
  refine wpPi_nil ?_
  replace hB1 := hm2.obj id hB1
  have hM2 := hm1.trans0 hm2
  have hb3 : w.heap.size < w1.heap.size := hs1
  have hb4 : w1.heap.size < w2.heap.size := hs2
  generalize hb3e : w.heap.size = b3 at *
  generalize hb4e : w1.heap.size = b4 at *
  clear hm1 hm2
  go_upto_region 1 with (fail)
  refine wp_region_seq [3, 1, 3] (fun _ => True) (by rfl) (by rfl) trivial ?_
  simp only [List.zip_cons_cons, List.zip_nil_right]
  refine wpPi_move _ rfl rfl ?_
  simp only [pl, pn, el, ec, sz, ss, gz, gs, if_true, if_false, Bool.false_eq_true, Bool.not_true, Bool.not_false, Nat.add_zero, Nat.zero_add, Nat.reduceAdd]
  refine wpPi_do rfl (fun K hK => ?_)
  refine wp_enterQ (run_call 12 [.tmp 7] _ rfl _ Tryz.func12 rfl (by kernel_rfl) [.slice ad es.length cap] rfl _) (check_any (HS.out.keep0 hM2) HSH.out hlen) ?_
  rintro e w3 ⟨rfl, hm3⟩
  have hM3 := hM2.trans0 hm3
  replace hB1 := hm3.obj id hB1
  replace hB2 := hm3.obj id hB2
  have hs3 := hm3.size
  refine ⟨_, rfl, hK _ _ trivial ?_⟩
  clear hK K hm3
  try simp only [pl, pn, el, ec, sz, ss, gz, gs, if_true, if_false, Bool.false_eq_true, Bool.not_true, Bool.not_false, Nat.add_zero, Nat.zero_add, Nat.reduceAdd]
  refine wpPi_assign _ rfl rfl ?_
  simp only [pl, pn, el, ec, sz, ss, gz, gs, if_true, if_false, Bool.false_eq_true, Bool.not_true, Bool.not_false, Nat.add_zero, Nat.zero_add, Nat.reduceAdd]
  refine wpPi_nil ?_
  by_cases hc : chkE es = 0
  · have HC := Lib.hid hc
    rw [hc]
    clear hc hM2
    cases hh : hasK es key with
    | true =>
      have HH := Lib.hid hh
      have herr : errP es key = 0 := by unfold errP; rw [if_neg (by rw [HC.out]; simp), if_pos hh]
      have HE := Lib.hid herr
      go_upto_region 4 with (fail)
      refine wp_region_seq [3, 1, 1, 3] (fun _ => True) (by rfl) (by rfl) trivial ?_
      simp only [List.zip_cons_cons, List.zip_nil_right]
      refine wpPi_move _ rfl rfl ?_
      simp only [pl, pn, el, ec, sz, ss, gz, gs, if_true, if_false, Bool.false_eq_true, Bool.not_true, Bool.not_false, Nat.add_zero, Nat.zero_add, Nat.reduceAdd]
      refine wpPi_do rfl (fun K hK => ?_)
      refine wp_exec (exec_makeFunc 26 [.tmp 3] (by rfl) [.pointer (some ⟨b3, 0, none⟩)] (by rfl)) ?_
      refine hK _ _ trivial ?_
      clear hK K
      try simp only [pl, pn, el, ec, sz, ss, gz, gs, if_true, if_false, Bool.false_eq_true, Bool.not_true, Bool.not_false, Nat.add_zero, Nat.zero_add, Nat.reduceAdd]
      refine wpPi_do rfl (fun K hK => ?_)
      refine wp_enterQ (run_call 25 [.tmp 12, .tmp 13] _ rfl _ Tryz.func25 rfl (by kernel_rfl) [.slice ad es.length cap, .func (.func 26) #[] #[.pointer (some ⟨b3, 0, none⟩)]] rfl _) (containsFn_any (HS.out.keep0 hM3) key b3 hB1) ?_
      rintro e w4 ⟨rfl, hm4⟩
      rw [hh]
      have hM4 := hM3.trans0 hm4
      replace hB1 := hm4.obj id hB1
      replace hB2 := hm4.obj id hB2
      have hs4 := hm4.size
      refine ⟨_, rfl, hK _ _ trivial ?_⟩
      clear hK K hm4
      try simp only [pl, pn, el, ec, sz, ss, gz, gs, if_true, if_false, Bool.false_eq_true, Bool.not_true, Bool.not_false, Nat.add_zero, Nat.zero_add, Nat.reduceAdd]
      refine wpPi_not _ _ _ rfl rfl rfl ?_
      simp only [pl, pn, el, ec, sz, ss, gz, gs, if_true, if_false, Bool.false_eq_true, Bool.not_true, Bool.not_false, Nat.add_zero, Nat.zero_add, Nat.reduceAdd]
      refine wpPi_nil ?_
      have hkc := CellsAt.one.1 (CellsAt.whole hB1)
      have hoc := hB2
      have hlz : (shaL key.data.toList).length = 32 := shaL_len _
      have hbE := built_entK key
      clear hM3 hh herr
      go_upto_region 6 with (fail)
      have hd : Mod NoB w4 w4.drew := (Mod.refl _ _).drew
      have hS : Mod (fun k => k = b4) w4 w4.drew := (Mod.refl _ _).drew
      refine wp_region_pi [(0, 3), (2, 0), (3, 0), (1, 1), (4, 1), (5, 0), (6, 1)] [] (fun w' => Mod (fun k => k = b4) w4 w') (by kernel_rfl) (by kernel_rfl) (by kernel_rfl) (by kernel_rfl) (fun _ _ _ _ hd h => ⟨hd.trans h.1, h.2⟩) hS ?_
      simp only [List.map_cons, List.map_nil, List.getD_cons_zero, List.getD_cons_succ]
      refine wpPi_move _ rfl rfl ?_
      simp only [pl, pn, el, ec, sz, ss, gz, gs, if_true, if_false, Bool.false_eq_true, Bool.not_true, Bool.not_false, Nat.add_zero, Nat.zero_add, Nat.reduceAdd]
      refine wpPi_val rfl (fun w' hS => exec_load1 9 _ (by rfl) b3 0 (by rfl) (.string key) (hS.cell (by omega) hkc) _ Tryz.underlying9 rfl) ?_
      simp only [pl, pn, el, ec, sz, ss, gz, gs, if_true, if_false, Bool.false_eq_true, Bool.not_true, Bool.not_false, Nat.add_zero, Nat.zero_add, Nat.reduceAdd]
      refine wpPi_val rfl (fun w' hS => exec_build_of 27 [(0, _)] [(0, .string key)] _ (by rfl) (by rfl) hbE) ?_
      simp only [pl, pn, el, ec, sz, ss, gz, gs, if_true, if_false, Bool.false_eq_true, Bool.not_true, Bool.not_false, Nat.add_zero, Nat.zero_add, Nat.reduceAdd]
      refine wpPi_do rfl (fun K hK => ?_)
      refine wp_enterQ (run_call 21 [.tmp 16] _ rfl _ Tryz.func21 rfl (by kernel_rfl) [.slice ad es.length cap] rfl _) (sorted_any (HS.out.keep0 (hM4.trans0 hd)) HSH.out (by omega)) ?_
      rintro e w5 ⟨v5, ls, rfl, hl5, hsr5, hm5⟩
      have hd5 := hd.trans0 hm5
      refine ⟨_, rfl, hK _ _ (hd5.mono fun _ _ h => h.elim) ?_⟩
      clear hK K
      try simp only [pl, pn, el, ec, sz, ss, gz, gs, if_true, if_false, Bool.false_eq_true, Bool.not_true, Bool.not_false, Nat.add_zero, Nat.zero_add, Nat.reduceAdd]
      refine wpPi_do rfl (fun K hK => ?_)
      refine wp_enterQ (run_call 28 [.tmp 19] _ rfl _ Tryz.func28 rfl (by kernel_rfl) [.agg #[.string key, .slice none 0 0]] rfl _) (of_any (G := fun _ => True) (e := (key, [])) ⟨_, rfl, Sl.nil _ _ _ _ _⟩ hkey (by simp)) ?_
      rintro e w6 ⟨rfl, hm6⟩
      have hd6 := hd5.trans0 hm6
      refine ⟨_, rfl, hK _ _ (hd6.mono fun _ _ h => h.elim) ?_⟩
      clear hK K
      try simp only [pl, pn, el, ec, sz, ss, gz, gs, if_true, if_false, Bool.false_eq_true, Bool.not_true, Bool.not_false, Nat.add_zero, Nat.zero_add, Nat.reduceAdd]
      refine wpPi_val rfl (fun w' hS => exec_field_way _ (leafOf (key, [])) (leaf_len _) rfl rfl) ?_
      simp only [pl, pn, el, ec, sz, ss, gz, gs, if_true, if_false, Bool.false_eq_true, Bool.not_true, Bool.not_false, Nat.add_zero, Nat.zero_add, Nat.reduceAdd]
      refine wpPi_do rfl (fun K hK => ?_)
      refine wp_enterQ (run_call 27 [.tmp 17, .tmp 21, .const (.int .i64 0), .tmp 4] _ rfl _ Tryz.func27 rfl (by kernel_rfl) [v5, .agg (idCells (shaL key.data.toList)), .int .i64 ((0 : Nat) : Int), .pointer (some ⟨b4, 0, none⟩)] rfl _) (path_any 256 0 ls v5 (.slice none 0 0) _ [] (shaL key.data.toList) b4 rfl (Ls.keep0 hl5 hm6).all (placed_of hsr5 HC.out) (by rw [sorted_len hsr5]; omega) hlz (hd6.obj id hoc) (Gat.nil _ _ _ _ _) (by simp)) ?_
      rintro e w7 ⟨rfl, v7, h7a, h7b, h7c, h7d⟩
      have hsz6 := hd6.size
      have h7m : Mod (fun k => k = b4) _ w7 := h7d.mono (fun k _ h => h.elim id (fun e => by cases e))
      have hS7 : Mod (fun k => k = b4) w4 w7 := (hd6.mono fun _ _ h => h.elim).trans h7m (fun _ _ h => h)
      have hpp : [] ++ pathL (shaL key.data.toList) 256 0 ls = pathOut es key := by unfold pathOut; rw [if_pos HE.out, List.nil_append]; exact path_perm _ _ _ hsr5.1
      rw [hpp] at h7b
      have hv7 : v7.oneCell' = true := owns_one h7b
      have hg7 : Gat sideEnc 41 33 w.heap.size w7 v7 (pathOut es key) := h7b.rebase (fun g hg => (h7c g hg).elim (fun e => by cases e) (fun h => by omega))
      refine ⟨_, rfl, hK _ _ hS7 ?_⟩
      clear hK K
      try simp only [pl, pn, el, ec, sz, ss, gz, gs, if_true, if_false, Bool.false_eq_true, Bool.not_true, Bool.not_false, Nat.add_zero, Nat.zero_add, Nat.reduceAdd]
      refine wpPi_nil ?_
      have hM7 : Mod NoB w w7 := hM4.trans hS7 (fun k hk e => by have e' : k = b4 := e; omega)
      have hg74 : ∀ g, v7.ownBlock = some g → g ≠ b4 := fun g hg e => by
        subst e
        exact own_ne h7b h7a (by decide) hg
      clear h7m h7d hS7 hd hd5 hd6 hS hm5 hm6 hl5 hM4 hB2 hoc
      have h7cell := CellsAt.one.1 (CellsAt.whole h7a)
      go_upto_region 7 with (fail)
      refine wp_region_seq [1, 1, 3] (fun _ => True) (by rfl) (by rfl) trivial ?_
      simp only [List.zip_cons_cons, List.zip_nil_right]
      refine wpPi_do rfl (fun K hK => ?_)
      refine wp_exec (exec_load1 28 _ (by rfl) b4 0 (by rfl) v7 h7cell _ Tryz.underlying28 rfl) ?_
      refine hK _ _ trivial ?_
      clear hK K
      try simp only [pl, pn, el, ec, sz, ss, gz, gs, if_true, if_false, Bool.false_eq_true, Bool.not_true, Bool.not_false, Nat.add_zero, Nat.zero_add, Nat.reduceAdd]
      refine wpPi_do rfl (fun K hK => ?_)
      refine wp_store1 28 _ _ b4 0 v7 (by rfl) (by rfl) (by rfl) hv7 (by kernel_rfl) _ _ h7a (by simp) (fun w8 hB8 hm8 => ?_)
      replace hB8 : w8.heap[b4]? = some (.cells #[v7] 28 (0, 0)) := hB8
      refine hK _ _ trivial ?_
      clear hK K
      try simp only [pl, pn, el, ec, sz, ss, gz, gs, if_true, if_false, Bool.false_eq_true, Bool.not_true, Bool.not_false, Nat.add_zero, Nat.zero_add, Nat.reduceAdd]
      refine wpPi_assign _ rfl rfl ?_
      simp only [pl, pn, el, ec, sz, ss, gz, gs, if_true, if_false, Bool.false_eq_true, Bool.not_true, Bool.not_false, Nat.add_zero, Nat.zero_add, Nat.reduceAdd]
      refine wpPi_nil ?_
      have hM8 : Mod NoB w w8 := hM7.transB hm8 (by omega)
      have hg8 := hg7.keep hm8 hg74
      have h8c := CellsAt.one.1 (CellsAt.whole hB8)
      clear hm8 hM7 hg7 h7b h7a
      go_wp2
      refine bodyPost_ret (results_one_tmp (P := Tryz.prog) (ty := 28) rfl _ _ b4 _ _ (by rfl) h8c Tryz.underlying28 rfl) rfl ?_
      exact ⟨_, by rw [HE.out]; rfl, hg8, hM8⟩
    | false =>
      have herr : errP es key = 26 := by unfold errP; rw [if_neg (by rw [HC.out]; simp), if_neg (by rw [hh]; simp)]
      have hout : pathOut es key = [] := by unfold pathOut; rw [if_neg (by rw [herr]; simp)]
      have HE := Lib.hid herr
      have HO := Lib.hid hout
      go_upto_region 4 with (fail)
      refine wp_region_seq [3, 1, 1, 3] (fun _ => True) (by rfl) (by rfl) trivial ?_
      simp only [List.zip_cons_cons, List.zip_nil_right]
      refine wpPi_move _ rfl rfl ?_
      simp only [pl, pn, el, ec, sz, ss, gz, gs, if_true, if_false, Bool.false_eq_true, Bool.not_true, Bool.not_false, Nat.add_zero, Nat.zero_add, Nat.reduceAdd]
      refine wpPi_do rfl (fun K hK => ?_)
      refine wp_exec (exec_makeFunc 26 [.tmp 3] (by rfl) [.pointer (some ⟨b3, 0, none⟩)] (by rfl)) ?_
      refine hK _ _ trivial ?_
      clear hK K
      try simp only [pl, pn, el, ec, sz, ss, gz, gs, if_true, if_false, Bool.false_eq_true, Bool.not_true, Bool.not_false, Nat.add_zero, Nat.zero_add, Nat.reduceAdd]
      refine wpPi_do rfl (fun K hK => ?_)
      refine wp_enterQ (run_call 25 [.tmp 12, .tmp 13] _ rfl _ Tryz.func25 rfl (by kernel_rfl) [.slice ad es.length cap, .func (.func 26) #[] #[.pointer (some ⟨b3, 0, none⟩)]] rfl _) (containsFn_any (HS.out.keep0 hM3) key b3 hB1) ?_
      rintro e w4 ⟨rfl, hm4⟩
      rw [hh]
      have hM4 := hM3.trans0 hm4
      replace hB2 := hm4.obj id hB2
      refine ⟨_, rfl, hK _ _ trivial ?_⟩
      clear hK K hm4
      try simp only [pl, pn, el, ec, sz, ss, gz, gs, if_true, if_false, Bool.false_eq_true, Bool.not_true, Bool.not_false, Nat.add_zero, Nat.zero_add, Nat.reduceAdd]
      refine wpPi_not _ _ _ rfl rfl rfl ?_
      simp only [pl, pn, el, ec, sz, ss, gz, gs, if_true, if_false, Bool.false_eq_true, Bool.not_true, Bool.not_false, Nat.add_zero, Nat.zero_add, Nat.reduceAdd]
      refine wpPi_nil ?_
      clear hM3 hh herr hout hB1
      go_upto_region 5 with (fail)
      refine wp_region_seq [1, 3] (fun _ => True) (by rfl) (by rfl) trivial ?_
      simp only [List.zip_cons_cons, List.zip_nil_right]
      refine wpPi_do rfl (fun K hK => ?_)
      refine wp_store1 28 _ _ b4 0 (.slice none 0 0) (by rfl) (by rfl) (by rfl) rfl (by kernel_rfl) _ _ hB2 (by simp) (fun w8 hB8 hm8 => ?_)
      replace hB8 : w8.heap[b4]? = some (.cells #[.slice none 0 0] 28 (0, 0)) := hB8
      refine hK _ _ trivial ?_
      clear hK K
      try simp only [pl, pn, el, ec, sz, ss, gz, gs, if_true, if_false, Bool.false_eq_true, Bool.not_true, Bool.not_false, Nat.add_zero, Nat.zero_add, Nat.reduceAdd]
      refine wpPi_assign _ rfl rfl ?_
      simp only [pl, pn, el, ec, sz, ss, gz, gs, if_true, if_false, Bool.false_eq_true, Bool.not_true, Bool.not_false, Nat.add_zero, Nat.zero_add, Nat.reduceAdd]
      refine wpPi_nil ?_
      have hM8 : Mod NoB w w8 := hM4.transB hm8 (by omega)
      have h8c := CellsAt.one.1 (CellsAt.whole hB8)
      clear hm8 hM4 hB2
      go_wp2
      refine bodyPost_ret (results_one_tmp (P := Tryz.prog) (ty := 28) rfl _ _ b4 _ _ (by rfl) h8c Tryz.underlying28 rfl) rfl ?_
      exact ⟨_, by rw [HE.out]; rfl, by rw [HO.out]; exact Gat.nil _ _ _ _ _, hM8⟩
  · have hc2 : ¬ ((chkE es : Nat) : Int) = 0 := by omega
    have herr : errP es key = chkE es := by unfold errP; rw [if_pos hc]
    have hout : pathOut es key = [] := by unfold pathOut; rw [if_neg (by rw [herr]; exact hc)]
    have HE := Lib.hid herr
    have HO := Lib.hid hout
    clear hc herr hout hB1 hM2
    go_upto_region 3 with (fail)
    refine wp_region_seq [3, 1, 3] (fun _ => True) (by rfl) (by rfl) trivial ?_
    simp only [List.zip_cons_cons, List.zip_nil_right]
    refine wpPi_move _ rfl rfl ?_
    simp only [pl, pn, el, ec, sz, ss, gz, gs, if_true, if_false, Bool.false_eq_true, Bool.not_true, Bool.not_false, Nat.add_zero, Nat.zero_add, Nat.reduceAdd]
    refine wpPi_do rfl (fun K hK => ?_)
    refine wp_store1 28 _ _ b4 0 (.slice none 0 0) (by rfl) (by rfl) (by rfl) rfl (by kernel_rfl) _ _ hB2 (by simp) (fun w8 hB8 hm8 => ?_)
    replace hB8 : w8.heap[b4]? = some (.cells #[.slice none 0 0] 28 (0, 0)) := hB8
    refine hK _ _ trivial ?_
    clear hK K
    try simp only [pl, pn, el, ec, sz, ss, gz, gs, if_true, if_false, Bool.false_eq_true, Bool.not_true, Bool.not_false, Nat.add_zero, Nat.zero_add, Nat.reduceAdd]
    refine wpPi_assign _ rfl rfl ?_
    simp only [pl, pn, el, ec, sz, ss, gz, gs, if_true, if_false, Bool.false_eq_true, Bool.not_true, Bool.not_false, Nat.add_zero, Nat.zero_add, Nat.reduceAdd]
    refine wpPi_nil ?_
    have hM8 : Mod NoB w w8 := hM3.transB hm8 (by omega)
    have h8c := CellsAt.one.1 (CellsAt.whole hB8)
    clear hm8 hM3 hB2
    go_wp2
    refine bodyPost_ret (results_one_tmp (P := Tryz.prog) (ty := 28) rfl _ _ b4 _ _ (by rfl) h8c Tryz.underlying28 rfl) rfl ?_
    exact ⟨_, by rw [HE.out]; rfl, by rw [HO.out]; exact Gat.nil _ _ _ _ _, hM8⟩
end Go.Proofs.YtchkikmmcmjcgaaGreat

/- tree.Proves: does a path prove an entry. -/
namespace Go.Proofs.YtchkikmmcmjcgaaGreat
set_option linter.unusedSimpArgs false
set_option linter.unusedVariables false
set_option linter.unnecessarySimpa false
set_option linter.unusedSectionVars false
open Go.RowKit Go.Shelf

theorem fo_41_0 : fieldOff Tryz.prog 41 0 = some 0 := by kernel_rfl
theorem fo_41_1 : fieldOff Tryz.prog 41 1 = some 1 := by kernel_rfl
theorem Sl.inside {α : Type} {own : Bool} {w : World} {G : Nat → Prop} {sz : Nat} {R : Array Value → α → Prop} {v : Value} {l : List α} (h : Sl own w G sz R v l) (hz : 0 < sz) : Sl own w (fun k => k < w.heap.size) sz R v l := by
  obtain ⟨ad, cap, e, h1, h2, h3⟩ := h
  refine ⟨ad, cap, e, h1, h2, fun hne => ?_⟩
  obtain ⟨b, off, ha, hG, ho, hc⟩ := h3 hne
  refine ⟨b, off, ha, ?_, ho, hc⟩
  cases l with
  | nil => exact absurd rfl hne
  | cons x l =>
    obtain ⟨cs, hs, _, hcs⟩ := hc 0 (by simp)
    have h0 := hcs 0 (by omega)
    rw [Array.getElem?_eq_getElem (by omega : 0 < cs.size)] at h0
    exact block_lt_of_cell h0
def SideC (cs : Array Value) (s : SideL) : Prop := cs = sideCells s ∧ s.2.length = 32
def Ss (own : Bool) (w : World) (G : Nat → Prop) (v : Value) (ps : List SideL) : Prop := Sl own w G 33 SideC v ps
theorem side_flag {w : World} {b off : Nat} {s : SideL} (h : CellsAt w b off (sideCells s)) : w.cell? ⟨b, off + 0, none⟩ = some (.bool s.1) := h.cell (j := 0) (by simp [sideCells, sideEnc])
theorem side_other {w : World} {b off : Nat} {s : SideL} (hs : s.2.length = 32) (h : CellsAt w b off (sideCells s)) : CellsAt w b (off + 1) (idCells s.2) := by
  have := h.part (i := 1) (j := 33) (by rw [sideCells_size]; omega)
  have e : (sideCells s).extract 1 33 = idCells s.2 := by
    simp only [sideCells, sideEnc, idCells, List.extract_toArray, List.extract_eq_take_drop, fit32_eq hs]
    congr 1
    show List.take 32 (List.map byteV s.2) = _
    rw [List.take_of_length_le (by simp [hs])]
  rwa [e] at this
theorem climb_len (d : List UInt8) (s : SideL) : (climb d s).length = 32 := by unfold climb; split <;> exact shaL_len _
theorem fold_len (ps : List SideL) (d : List UInt8) (hd : d.length = 32) : (ps.foldl climb d).length = 32 := by
  induction ps generalizing d with
  | nil => exact hd
  | cons s ps ih => exact ih _ (climb_len d s)
theorem fold_succ {ps : List SideL} {k : Nat} (h : k < ps.length) (d : List UInt8) : (ps.take (k + 1)).foldl climb d = climb ((ps.take k).foldl climb d) ps[k] := by
  rw [List.take_succ_eq_append_getElem h, List.foldl_append]; rfl
def PvRel (ps : List SideL) (d0 : List UInt8) (b7 : Nat) (w0 : World) (i : Value) (w : World) : Prop := ∃ k : Nat, k ≤ ps.length ∧ i = .int .i64 k ∧ w.heap[b7]? = some (.cells (idCells ((ps.take k).foldl climb d0)) 24 (0, 0)) ∧ Mod (fun q => q = b7) w0 w
set_option maxRecDepth 10000 in
theorem proves_long {own : Bool} {w : World} {G' : Nat → Prop} {cs : Array Value} {vp : Value} {ps : List SideL} (root : List UInt8) (x : Leaf) (hp : Ss own w G' vp ps) (hlen : 256 < ps.length) :
    Calls Tryz.prog 14 #[.agg (idCells root), .agg cs, vp] w (RetM (.bool (provesL root x ps)) w) := by
  obtain ⟨ad, cap, rfl, -, -⟩ := Sl.at hp
  have e : provesL root x ps = false := by unfold provesL; rw [decide_eq_false (by omega)]; rfl
  have hz : (ps.length : Int) > 256 := by omega
  rw [e]
  obtain ⟨C, hC⟩ : ∃ C, idCells root = C := ⟨_, rfl⟩
  rw [hC]
  clear hp e hC
  go_enter Tryz.func14, Tryz.ntmps14
  go_upto_region 0 with (fail)
  refine wp_region_seq [1, 1, 3] (fun _ => True) (by rfl) (by rfl) trivial ?_
  simp only [List.zip_cons_cons, List.zip_nil_right]
  refine wpPi_do rfl (fun K hK => ?_)
  refine wp_box 24 _ _ (by rfl) (by rfl) (fun w1 hB1 hm1 hs1 => ?_)
  refine hK _ _ trivial ?_
  clear hK K
  try simp only [pl, pn, el, ec, sz, ss, gz, gs, if_true, if_false, Bool.false_eq_true, Bool.not_true, Bool.not_false, Nat.add_zero, Nat.zero_add, Nat.reduceAdd]
  refine wpPi_do rfl (fun K hK => ?_)
  refine wp_box 27 _ _ (by rfl) (by rfl) (fun w2 hB2 hm2 hs2 => ?_)
  refine hK _ _ trivial ?_
  clear hK K
  try simp only [pl, pn, el, ec, sz, ss, gz, gs, if_true, if_false, Bool.false_eq_true, Bool.not_true, Bool.not_false, Nat.add_zero, Nat.zero_add, Nat.reduceAdd]
  refine wpPi_assign _ rfl rfl ?_
  simp only [pl, pn, el, ec, sz, ss, gz, gs, if_true, if_false, Bool.false_eq_true, Bool.not_true, Bool.not_false, Nat.add_zero, Nat.zero_add, Nat.reduceAdd]
  refine wpPi_nil ?_
  have hM := hm1.trans0 hm2
  clear hB1 hB2
  go_wp2
  go_ret
  exact ⟨rfl, hM⟩
set_option maxRecDepth 10000 in
set_option maxHeartbeats 1000000 in
theorem proves_any {own : Bool} {w : World} {G G' : Nat → Prop} {cs : Array Value} {e : Ent} {vp : Value} {ps : List SideL} (root : List UInt8) (hroot : root.length = 32) (he : EntC w G cs e) (h1 : e.1.size ≤ 1000000) (h2 : e.2.length ≤ 1000000) (hp : Ss own w G' vp ps) :
    Calls Tryz.prog 14 #[.agg (idCells root), .agg cs, vp] w (RetM (.bool (provesL root (leafOf e) ps)) w) := by
  rcases Nat.lt_or_ge 256 ps.length with hlong | hlen
  · exact proves_long root _ hp hlong
  have HP := Lib.hid hp
  have HE := Lib.hid he
  have hcs2 : cs.size = 2 := by obtain ⟨v, rfl, -⟩ := he; rfl
  have hce : (Value.agg cs).cells = cs := rfl
  obtain ⟨ad, cap, rfl, -, -⟩ := Sl.at hp
  have hz : ¬ (ps.length : Int) > 256 := by omega
  have hpl : provesL root (leafOf e) ps = decide (ps.foldl climb (oneD (leafOf e)) = root) := by unfold provesL; rw [decide_eq_true hlen]; rfl
  have hd0 : (oneD (leafOf e)).length = 32 := shaL_len _
  have hls := leaf_len e
  rw [hpl]
  have hrs : (idCells root).size = 32 := by rw [idCells_size, hroot]
  obtain ⟨C, hC⟩ : ∃ C, idCells root = C := ⟨_, rfl⟩
  have HC := Lib.hid hC
  rw [hC] at hrs ⊢
  clear hp hC hpl he
  go_enter Tryz.func14, Tryz.ntmps14
  go_upto_region 0 with (fail)
  refine wp_region_seq [1, 1, 3] (fun _ => True) (by rfl) (by rfl) trivial ?_
  simp only [List.zip_cons_cons, List.zip_nil_right]
  refine wpPi_do rfl (fun K hK => ?_)
  refine wp_box 24 _ _ (by rfl) (by rfl) (fun w1 hB1 hm1 hs1 => ?_)
  replace hB1 : w1.heap[w.heap.size]? = some (.cells C 24 (0, 0)) := hB1
  refine hK _ _ trivial ?_
  clear hK K
  try simp only [pl, pn, el, ec, sz, ss, gz, gs, if_true, if_false, Bool.false_eq_true, Bool.not_true, Bool.not_false, Nat.add_zero, Nat.zero_add, Nat.reduceAdd]
  refine wpPi_do rfl (fun K hK => ?_)
  refine wp_box 27 _ _ (by rfl) (by rfl) (fun w2 hB2 hm2 hs2 => ?_)
  replace hB2 : w2.heap[w1.heap.size]? = some (.cells cs 27 (0, 0)) := hB2
  replace hB1 := hm2.obj id hB1
  refine hK _ _ trivial ?_
  clear hK K
  try simp only [pl, pn, el, ec, sz, ss, gz, gs, if_true, if_false, Bool.false_eq_true, Bool.not_true, Bool.not_false, Nat.add_zero, Nat.zero_add, Nat.reduceAdd]
  refine wpPi_assign _ rfl rfl ?_
  simp only [pl, pn, el, ec, sz, ss, gz, gs, if_true, if_false, Bool.false_eq_true, Bool.not_true, Bool.not_false, Nat.add_zero, Nat.zero_add, Nat.reduceAdd]
  refine wpPi_nil ?_
  have hM2 := hm1.trans0 hm2
  have hb3 : w.heap.size < w2.heap.size := by omega
  generalize w1.heap.size = b4 at *
  clear hm1 hm2
  go_upto_region 3 with (fail)
  refine wp_region_seq [1, 1, 1, 1, 1] (fun _ => True) (by rfl) (by rfl) trivial ?_
  simp only [List.zip_cons_cons, List.zip_nil_right]
  refine wpPi_do rfl (fun K hK => ?_)
  refine wp_exec (exec_loadA 27 _ (by rfl) b4 0 (by rfl) cs (CellsAt.whole hB2) _ Tryz.underlying27 rfl 2 (by kernel_rfl) hcs2) ?_
  refine hK _ _ trivial ?_
  clear hK K
  try simp only [pl, pn, el, ec, sz, ss, gz, gs, if_true, if_false, Bool.false_eq_true, Bool.not_true, Bool.not_false, Nat.add_zero, Nat.zero_add, Nat.reduceAdd]
  refine wpPi_do rfl (fun K hK => ?_)
  refine wp_enterQ (run_call 28 [.tmp 13] _ rfl _ Tryz.func28 rfl (by kernel_rfl) [.agg cs] rfl _) (of_any (HE.out.keep hM2 (fun _ _ => id)) h1 h2) ?_
  rintro e3 w3 ⟨rfl, hm3⟩
  refine ⟨_, rfl, hK _ _ trivial ?_⟩
  clear hK K
  try simp only [pl, pn, el, ec, sz, ss, gz, gs, if_true, if_false, Bool.false_eq_true, Bool.not_true, Bool.not_false, Nat.add_zero, Nat.zero_add, Nat.reduceAdd]
  refine wpPi_do rfl (fun K hK => ?_)
  refine wp_enterQ (run_call 33 [.tmp 14] _ rfl _ Tryz.func33 rfl (by kernel_rfl) [.agg (leafCells (leafOf e))] rfl _) (one_any _ hls _) ?_
  rintro e4 w4 ⟨rfl, hm4⟩
  generalize hdd : oneD (leafOf e) = d0 at *
  refine ⟨_, rfl, hK _ _ trivial ?_⟩
  clear hK K
  try simp only [pl, pn, el, ec, sz, ss, gz, gs, if_true, if_false, Bool.false_eq_true, Bool.not_true, Bool.not_false, Nat.add_zero, Nat.zero_add, Nat.reduceAdd]
  refine wpPi_do rfl (fun K hK => ?_)
  refine wp_alloc 24 _ (by rfl) idZ (fun w5 hB5 hm5 hs5 => ?_)
  replace hB5 : w5.heap[w4.heap.size]? = some (.cells (idCells (List.replicate 32 0)) 24 (0, 0)) := hB5
  refine hK _ _ trivial ?_
  clear hK K
  try simp only [pl, pn, el, ec, sz, ss, gz, gs, if_true, if_false, Bool.false_eq_true, Bool.not_true, Bool.not_false, Nat.add_zero, Nat.zero_add, Nat.reduceAdd]
  refine wpPi_do rfl (fun K hK => ?_)
  have hrd : (idCells d0).size = 32 := by rw [idCells_size, hd0]
  refine wp_storeA 24 _ _ w4.heap.size 0 (idCells d0) (by rfl) (by rfl) (by rfl) (idCells_one _) 32 (by kernel_rfl) hrd _ _ hB5 (by rw [hrd, idCells_size]; simp) (fun w6 hB6 hm6 => ?_)
  rw [putRow_whole (by rw [hrd, idCells_size]; rfl)] at hB6
  refine hK _ _ trivial ?_
  clear hK K
  try simp only [pl, pn, el, ec, sz, ss, gz, gs, if_true, if_false, Bool.false_eq_true, Bool.not_true, Bool.not_false, Nat.add_zero, Nat.zero_add, Nat.reduceAdd]
  refine wpPi_nil ?_
  have hM24 := hm3.trans0 hm4
  have hM6 : Mod NoB w2 w6 := (hM24.trans0 hm5).transB hm6 hM24.size
  have hMw := hM2.trans0 hM6
  replace hB1 := hM6.obj id hB1
  have hb7 : w2.heap.size ≤ w4.heap.size := hM24.size
  have HP6 := Lib.hid (Sl.keep0 (Sl.inside HP.out (by omega)) hMw)
  generalize w4.heap.size = b7 at *
  clear hm3 hm4 hm5 hm6 hM24 hB5 hB2 hM6 hM2
  go_wp2
  go_loopw [18] (PvRel ps d0 b7 w6) (fun i _ => ps.length - (intOf i).toNat)
  case atStart => exact ⟨0, by omega, rfl, by simpa using hB6, Mod.refl _ _⟩
  case round =>
    rename World => wr
    obtain ⟨k, hk, rfl, hrow, hm⟩ := hrel
    by_cases hlt : k < ps.length
    · have hz2 : (k : Int) < (ps.length : Int) := by omega
      have hpk := Sl.keepB HP6.out hm (fun q hq => by omega)
      obtain ⟨_, _, hv, -, hat⟩ := Sl.at hpk
      cases hv
      obtain ⟨bq, off, rfl, -, -, hc⟩ := hat k hlt
      obtain ⟨_, -, ⟨rfl, hso⟩, hc⟩ := hc k hlt
      have hss := sideCells_size ps[k]
      have hfs := fold_succ hlt d0
      have hfl := fold_len (ps.take k) d0 hd0
      have hfl2 := climb_len ((ps.take k).foldl climb d0) ps[k]
      have HFS := Lib.hid hfs
      clear hat hpk hfs
      generalize ps[k] = s at *
      obtain ⟨d, hd⟩ : ∃ d, (ps.take k).foldl climb d0 = d := ⟨_, rfl⟩
      rw [hd] at hrow hfl hfl2 HFS
      clear hd
      have hrd : (idCells d).size = 32 := by rw [idCells_size, hfl]
      have hro : (idCells s.2).size = 32 := by rw [idCells_size, hso]
      have hrc : (idCells (climb d s)).size = 32 := by rw [idCells_size, hfl2]
      go_upto_region 6 with (fail)
      refine wp_region_seq [3, 1, 1, 1] (fun _ => True) (by rfl) (by rfl) trivial ?_
      simp only [List.zip_cons_cons, List.zip_nil_right]
      refine wpPi_index _ _ _ _ _ _ _ _ _ rfl rfl rfl rfl Tryz.underlying28 (n := 33) (by kernel_rfl) hlt ?_
      simp only [pl, pn, el, ec, sz, ss, gz, gs, if_true, if_false, Bool.false_eq_true, Bool.not_true, Bool.not_false, Nat.add_zero, Nat.zero_add, Nat.reduceAdd]
      refine wpPi_do rfl (fun K hK => ?_)
      refine wp_exec (exec_loadA 41 _ (by rfl) bq (off + k * 33) (by rfl) (sideCells s) hc _ Tryz.underlying41 rfl 33 (by kernel_rfl) hss) ?_
      refine hK _ _ trivial ?_
      clear hK K
      try simp only [pl, pn, el, ec, sz, ss, gz, gs, if_true, if_false, Bool.false_eq_true, Bool.not_true, Bool.not_false, Nat.add_zero, Nat.zero_add, Nat.reduceAdd]
      refine wpPi_do rfl (fun K hK => ?_)
      refine wp_alloc 41 _ (by rfl) sideZ (fun w7 hB7 hm7 hs7 => ?_)
      replace hB7 : w7.heap[wr.heap.size]? = some (.cells (sideCells (false, zeroID)) 41 (0, 0)) := hB7
      refine hK _ _ trivial ?_
      clear hK K
      try simp only [pl, pn, el, ec, sz, ss, gz, gs, if_true, if_false, Bool.false_eq_true, Bool.not_true, Bool.not_false, Nat.add_zero, Nat.zero_add, Nat.reduceAdd]
      refine wpPi_do rfl (fun K hK => ?_)
      refine wp_storeA 41 _ _ wr.heap.size 0 (sideCells s) (by rfl) (by rfl) (by rfl) (sideCells_one _) 33 (by kernel_rfl) hss _ _ hB7 (by rw [hss, sideCells_size]; exact Nat.le_refl _) (fun w8 hB8 hm8 => ?_)
      rw [putRow_whole (by rw [hss, sideCells_size])] at hB8
      refine hK _ _ trivial ?_
      clear hK K
      try simp only [pl, pn, el, ec, sz, ss, gz, gs, if_true, if_false, Bool.false_eq_true, Bool.not_true, Bool.not_false, Nat.add_zero, Nat.zero_add, Nat.reduceAdd]
      refine wpPi_nil ?_
      have hm78 : Mod NoB wr w8 := hm7.transB hm8 (Nat.le_refl _)
      have hM8 : Mod (fun q => q = b7) w6 w8 := hm.trans (hm78.mono fun _ _ h => h.elim) (fun _ _ h => h)
      replace hrow := hm78.obj id hrow
      generalize wr.heap.size = b9 at *
      clear hm7 hm8 hm78 hm hB7 hc
      have hcs := CellsAt.whole hB8
      have hfg := side_flag hcs
      have hot := side_other hso hcs
      simp only [Nat.zero_add] at hfg hot
      have hcr := CellsAt.whole hrow
      go_upto_region 7 with (fail)
      cases hleft : s.1 with
      | true =>
        have hcl : climb d s = twoD s.2 d := by unfold climb; rw [if_pos hleft]
        rw [hcl] at hrc hfl2 HFS
        refine wp_region_seq [3, 1] (fun _ => True) (by rfl) (by rfl) trivial ?_
        simp only [List.zip_cons_cons, List.zip_nil_right]
        refine wpPi_field _ _ _ _ _ _ rfl rfl rfl fo_41_0 ?_
        simp only [pl, pn, el, ec, sz, ss, gz, gs, if_true, if_false, Bool.false_eq_true, Bool.not_true, Bool.not_false, Nat.add_zero, Nat.zero_add, Nat.reduceAdd]
        refine wpPi_do rfl (fun K hK => ?_)
        refine wp_exec (exec_load1 4 _ (by rfl) b9 0 (by rfl) (.bool true) (by rw [← hleft]; exact hfg) _ Tryz.underlying4 rfl) ?_
        refine hK _ _ trivial ?_
        clear hK K
        try simp only [pl, pn, el, ec, sz, ss, gz, gs, if_true, if_false, Bool.false_eq_true, Bool.not_true, Bool.not_false, Nat.add_zero, Nat.zero_add, Nat.reduceAdd]
        refine wpPi_nil ?_
        go_upto_region 8 with (fail)
        refine wp_region_seq [3, 1, 1, 1, 1] (fun _ => True) (by rfl) (by rfl) trivial ?_
        simp only [List.zip_cons_cons, List.zip_nil_right]
        refine wpPi_field _ _ _ _ _ _ rfl rfl rfl fo_41_1 ?_
        simp only [pl, pn, el, ec, sz, ss, gz, gs, if_true, if_false, Bool.false_eq_true, Bool.not_true, Bool.not_false, Nat.add_zero, Nat.zero_add, Nat.reduceAdd]
        refine wpPi_do rfl (fun K hK => ?_)
        refine wp_exec (exec_loadA 24 _ (by rfl) b9 1 (by rfl) (idCells s.2) hot _ Tryz.underlying24 rfl 32 (by kernel_rfl) hro) ?_
        refine hK _ _ trivial ?_
        clear hK K
        try simp only [pl, pn, el, ec, sz, ss, gz, gs, if_true, if_false, Bool.false_eq_true, Bool.not_true, Bool.not_false, Nat.add_zero, Nat.zero_add, Nat.reduceAdd]
        refine wpPi_do rfl (fun K hK => ?_)
        refine wp_exec (exec_loadA 24 _ (by rfl) b7 0 (by rfl) (idCells d) hcr _ Tryz.underlying24 rfl 32 (by kernel_rfl) hrd) ?_
        refine hK _ _ trivial ?_
        clear hK K
        try simp only [pl, pn, el, ec, sz, ss, gz, gs, if_true, if_false, Bool.false_eq_true, Bool.not_true, Bool.not_false, Nat.add_zero, Nat.zero_add, Nat.reduceAdd]
        refine wpPi_do rfl (fun K hK => ?_)
        refine wp_enterQ (run_call 34 [.tmp 25, .tmp 26] _ rfl _ Tryz.func34 rfl (by kernel_rfl) [.agg (idCells s.2), .agg (idCells d)] rfl _) (two_any s.2 d hso hfl _) ?_
        rintro e9 w9 ⟨rfl, hm9⟩
        replace hrow := hm9.obj id hrow
        generalize twoD s.2 d = y at *
        refine ⟨_, rfl, hK _ _ trivial ?_⟩
        clear hK K
        try simp only [pl, pn, el, ec, sz, ss, gz, gs, if_true, if_false, Bool.false_eq_true, Bool.not_true, Bool.not_false, Nat.add_zero, Nat.zero_add, Nat.reduceAdd]
        refine wpPi_do rfl (fun K hK => ?_)
        refine wp_storeA 24 _ _ b7 0 (idCells y) (by rfl) (by rfl) (by rfl) (idCells_one _) 32 (by kernel_rfl) hrc _ _ hrow (by rw [hrc, hrd]; exact Nat.le_refl _) (fun w10 hB10 hm10 => ?_)
        rw [putRow_whole (by rw [hrc, hrd])] at hB10
        have hM10 : Mod (fun q => q = b7) w6 w10 := (hM8.trans (hm9.mono fun _ _ h => h.elim) (fun _ _ h => h)).trans hm10 (fun _ _ h => h)
        refine hK _ _ trivial ?_
        clear hK K
        try simp only [pl, pn, el, ec, sz, ss, gz, gs, if_true, if_false, Bool.false_eq_true, Bool.not_true, Bool.not_false, Nat.add_zero, Nat.zero_add, Nat.reduceAdd]
        refine wpPi_nil ?_
        clear hm9 hm10 hM8 hrow hcr hot hfg hcs hB8
        go_wp2
        go_roundw
        case rel => exact ⟨k + 1, by omega, by go_num, by rw [HFS.out]; exact hB10, hM10⟩
        case measure => simp [intOf]; omega
      | false =>
        have hcl : climb d s = twoD d s.2 := by unfold climb; rw [if_neg (by rw [hleft]; simp)]
        rw [hcl] at hrc hfl2 HFS
        refine wp_region_seq [3, 1] (fun _ => True) (by rfl) (by rfl) trivial ?_
        simp only [List.zip_cons_cons, List.zip_nil_right]
        refine wpPi_field _ _ _ _ _ _ rfl rfl rfl fo_41_0 ?_
        simp only [pl, pn, el, ec, sz, ss, gz, gs, if_true, if_false, Bool.false_eq_true, Bool.not_true, Bool.not_false, Nat.add_zero, Nat.zero_add, Nat.reduceAdd]
        refine wpPi_do rfl (fun K hK => ?_)
        refine wp_exec (exec_load1 4 _ (by rfl) b9 0 (by rfl) (.bool false) (by rw [← hleft]; exact hfg) _ Tryz.underlying4 rfl) ?_
        refine hK _ _ trivial ?_
        clear hK K
        try simp only [pl, pn, el, ec, sz, ss, gz, gs, if_true, if_false, Bool.false_eq_true, Bool.not_true, Bool.not_false, Nat.add_zero, Nat.zero_add, Nat.reduceAdd]
        refine wpPi_nil ?_
        go_upto_region 9 with (fail)
        refine wp_region_seq [1, 3, 1, 1, 1] (fun _ => True) (by rfl) (by rfl) trivial ?_
        simp only [List.zip_cons_cons, List.zip_nil_right]
        refine wpPi_do rfl (fun K hK => ?_)
        refine wp_exec (exec_loadA 24 _ (by rfl) b7 0 (by rfl) (idCells d) hcr _ Tryz.underlying24 rfl 32 (by kernel_rfl) hrd) ?_
        refine hK _ _ trivial ?_
        clear hK K
        try simp only [pl, pn, el, ec, sz, ss, gz, gs, if_true, if_false, Bool.false_eq_true, Bool.not_true, Bool.not_false, Nat.add_zero, Nat.zero_add, Nat.reduceAdd]
        refine wpPi_field _ _ _ _ _ _ rfl rfl rfl fo_41_1 ?_
        simp only [pl, pn, el, ec, sz, ss, gz, gs, if_true, if_false, Bool.false_eq_true, Bool.not_true, Bool.not_false, Nat.add_zero, Nat.zero_add, Nat.reduceAdd]
        refine wpPi_do rfl (fun K hK => ?_)
        refine wp_exec (exec_loadA 24 _ (by rfl) b9 1 (by rfl) (idCells s.2) hot _ Tryz.underlying24 rfl 32 (by kernel_rfl) hro) ?_
        refine hK _ _ trivial ?_
        clear hK K
        try simp only [pl, pn, el, ec, sz, ss, gz, gs, if_true, if_false, Bool.false_eq_true, Bool.not_true, Bool.not_false, Nat.add_zero, Nat.zero_add, Nat.reduceAdd]
        refine wpPi_do rfl (fun K hK => ?_)
        refine wp_enterQ (run_call 34 [.tmp 28, .tmp 30] _ rfl _ Tryz.func34 rfl (by kernel_rfl) [.agg (idCells d), .agg (idCells s.2)] rfl _) (two_any d s.2 hfl hso _) ?_
        rintro e9 w9 ⟨rfl, hm9⟩
        replace hrow := hm9.obj id hrow
        generalize twoD d s.2 = y at *
        refine ⟨_, rfl, hK _ _ trivial ?_⟩
        clear hK K
        try simp only [pl, pn, el, ec, sz, ss, gz, gs, if_true, if_false, Bool.false_eq_true, Bool.not_true, Bool.not_false, Nat.add_zero, Nat.zero_add, Nat.reduceAdd]
        refine wpPi_do rfl (fun K hK => ?_)
        refine wp_storeA 24 _ _ b7 0 (idCells y) (by rfl) (by rfl) (by rfl) (idCells_one _) 32 (by kernel_rfl) hrc _ _ hrow (by rw [hrc, hrd]; exact Nat.le_refl _) (fun w10 hB10 hm10 => ?_)
        rw [putRow_whole (by rw [hrc, hrd])] at hB10
        have hM10 : Mod (fun q => q = b7) w6 w10 := (hM8.trans (hm9.mono fun _ _ h => h.elim) (fun _ _ h => h)).trans hm10 (fun _ _ h => h)
        refine hK _ _ trivial ?_
        clear hK K
        try simp only [pl, pn, el, ec, sz, ss, gz, gs, if_true, if_false, Bool.false_eq_true, Bool.not_true, Bool.not_false, Nat.add_zero, Nat.zero_add, Nat.reduceAdd]
        refine wpPi_nil ?_
        clear hm9 hm10 hM8 hrow hcr hot hfg hcs hB8
        go_wp2
        go_roundw
        case rel => exact ⟨k + 1, by omega, by go_num, by rw [HFS.out]; exact hB10, hM10⟩
        case measure => simp [intOf]; omega
    · have hz2 : ¬ (k : Int) < (ps.length : Int) := by omega
      obtain rfl : k = ps.length := by omega
      rw [List.take_length] at hrow
      have hfl := fold_len ps d0 hd0
      obtain ⟨d, hd⟩ : ∃ d, ps.foldl climb d0 = d := ⟨_, rfl⟩
      rw [hd] at hrow hfl
      have HD := Lib.hid hd
      clear hd
      have hrd : (idCells d).size = 32 := by rw [idCells_size, hfl]
      have hb1 := hm.obj (by omega) hB1
      have hMr : Mod NoB w wr := hMw.transB hm (by omega)
      clear hm
      go_upto_region 11 with (fail)
      refine wp_region_seq [1, 1, 0, 3] (fun _ => True) (by rfl) (by rfl) trivial ?_
      simp only [List.zip_cons_cons, List.zip_nil_right]
      refine wpPi_do rfl (fun K hK => ?_)
      refine wp_exec (exec_loadA 24 _ (by rfl) b7 0 (by rfl) (idCells d) (CellsAt.whole hrow) _ Tryz.underlying24 rfl 32 (by kernel_rfl) hrd) ?_
      refine hK _ _ trivial ?_
      clear hK K
      try simp only [pl, pn, el, ec, sz, ss, gz, gs, if_true, if_false, Bool.false_eq_true, Bool.not_true, Bool.not_false, Nat.add_zero, Nat.zero_add, Nat.reduceAdd]
      refine wpPi_do rfl (fun K hK => ?_)
      refine wp_exec (exec_loadA 24 _ (by rfl) w.heap.size 0 (by rfl) C (CellsAt.whole hb1) _ Tryz.underlying24 rfl 32 (by kernel_rfl) hrs) ?_
      refine hK _ _ trivial ?_
      clear hK K
      try simp only [pl, pn, el, ec, sz, ss, gz, gs, if_true, if_false, Bool.false_eq_true, Bool.not_true, Bool.not_false, Nat.add_zero, Nat.zero_add, Nat.reduceAdd]
      refine wpPi_val rfl (fun w' hS => exec_eql_id _ _ _ _ rfl d root rfl (by rw [HC.out]; rfl) 32 5 Tryz.underlying24 Tryz.underlying5 (by kernel_rfl) (by kernel_rfl) hfl hroot _ rfl) ?_
      simp only [pl, pn, el, ec, sz, ss, gz, gs, if_true, if_false, Bool.false_eq_true, Bool.not_true, Bool.not_false, Nat.add_zero, Nat.zero_add, Nat.reduceAdd]
      refine wpPi_assign _ rfl rfl ?_
      simp only [pl, pn, el, ec, sz, ss, gz, gs, if_true, if_false, Bool.false_eq_true, Bool.not_true, Bool.not_false, Nat.add_zero, Nat.zero_add, Nat.reduceAdd]
      refine wpPi_nil ?_
      go_wp2
      go_ret
      exact ⟨by rw [HD.out]; rfl, hMr⟩
end Go.Proofs.YtchkikmmcmjcgaaGreat
