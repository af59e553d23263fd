/- Operations that make or write memory: each leaves a world of which only what is told is known. -/
import Derived.Test.YtcfcahflkhgapaaGreatMem
import Derived.Deep.AppendLies
namespace Go.Proofs.YtcfcahflkhgapaaGreat
set_option linter.unusedSimpArgs false
set_option linter.unusedVariables false
set_option linter.unnecessarySimpa false
set_option linter.unusedSectionVars false
open Go.RowKit

theorem mod_alloc (w : World) (o : Obj) : Mod NoB w (w.alloc o) := (Mod.refl _ _).alloc _

section
variable {P : Program} {o : Oper} {a : Act} {w : World} {K : Act → World → Prop} {Q : Exit → Act → World → Prop}

theorem wp_box (elem : TypeId) (x : Operand) (v : Value) (ho : o.op = .box elem x) (hx : a.eval x = v)
    (h : ∀ w', w'.heap[w.heap.size]? = some (.cells v.cells elem (0, 0)) → Mod NoB w w' → w.heap.size < w'.heap.size → K (a.put o.dst (.pointer (some ⟨w.heap.size, 0, none⟩))) w') : o.wp P a w K Q := by
  unfold Oper.wp execOp
  simp only [ho, hx]
  have hr : (Instr.box elem v).run P w = .ok (.pointer (some ⟨w.heap.size, 0, none⟩)) (w.alloc (.cells v.cells elem)) := by
    simp [Instr.box, newVar, newRow]
  simp only [Sem.run_bind, hr, Result.andThen_ok, Sem.run_pure]
  exact h _ (heap_alloc_new _ _) (mod_alloc _ _) (by simp)

theorem wp_alloc (elem : TypeId) (z : Value) (ho : o.op = .alloc elem) (hz : (P.info? elem).bind (·.zero) = some z)
    (h : ∀ w', w'.heap[w.heap.size]? = some (.cells z.cells elem (0, 0)) → Mod NoB w w' → w.heap.size < w'.heap.size → K (a.put o.dst (.pointer (some ⟨w.heap.size, 0, none⟩))) w') : o.wp P a w K Q := by
  unfold Oper.wp execOp
  simp only [ho]
  cases hi : P.info? elem with
  | none => simp [hi] at hz
  | some i =>
    simp only [hi, Option.bind_some] at hz
    have hr : (Instr.alloc elem true (.tuple #[])).run P w = .ok (.pointer (some ⟨w.heap.size, 0, none⟩)) (w.alloc (.cells z.cells elem)) := by
      simp [Instr.alloc, zeroValue, typeInfo, hi, hz, newVar, newRow]
    simp only [Sem.run_bind, hr, Result.andThen_ok, Sem.run_pure]
    exact h _ (heap_alloc_new _ _) (mod_alloc _ _) (by simp)

theorem wp_buildSlice0 (t e : TypeId) (ho : o.op = .buildSlice t 0 #[]) (hu : P.underlying t = some (.slice e)) (hi : (P.info? e).isSome = true)
    (h : ∀ w', w'.heap[w.heap.size]? = some (.cells #[] e (0, 0)) → Mod NoB w w' → w.heap.size < w'.heap.size → K (a.put o.dst (.slice (some ⟨w.heap.size, 0, none⟩) 0 0)) w') : o.wp P a w K Q := by
  unfold Oper.wp execOp
  simp only [ho]
  cases hi' : P.info? e with
  | none => simp [hi'] at hi
  | some i =>
    have hr : (Instr.buildSlice t 0 (Array.map (fun (x : Nat × Operand) => (x.1, a.eval x.2)) #[])).run P w = .ok (.slice (some ⟨w.heap.size, 0, none⟩) 0 0) (w.alloc (.cells #[] e)) := by
      simp [Instr.buildSlice, run_underlying hu, sizeOf, typeInfo, hi', Instr.fill, newRow]
      rw [show Array.range 0 = #[] from Array.eq_empty_of_size_eq_zero (by simp), Array.map_empty]
    simp only [Sem.run_bind, hr, Result.andThen_ok, Sem.run_pure]
    exact h _ (heap_alloc_new _ _) (mod_alloc _ _) (by simp)

theorem foldl_set_tail : ∀ (l : List Value) (k : Nat) (pre : List Value) (old tail : List Value), pre.length = k → old.length = l.length →
    (l.zipIdx k).foldl (fun (cs : Array Value) (x : Value × Nat) => cs.setIfInBounds x.2 x.1) (pre ++ (old ++ tail)).toArray = (pre ++ (l ++ tail)).toArray
  | [], k, pre, old, tail, _, ho => by
    have : old = [] := List.eq_nil_of_length_eq_zero (by simpa using ho)
    simp [this]
  | v :: l, k, pre, old, tail, hp, ho => by
    match old, ho with
    | u :: old, ho =>
      rw [List.zipIdx_cons, List.foldl_cons]
      have e : (pre ++ (u :: old ++ tail)).toArray.setIfInBounds k v = ((pre ++ [v]) ++ (old ++ tail)).toArray := by
        subst hp
        simp
      rw [e, foldl_set_tail l (k + 1) (pre ++ [v]) old tail (by simp [hp]) (by simpa using ho)]
      simp
theorem foldl_set_all (l : List Value) (k : Nat) (pre : List Value) (old : List Value) (hp : pre.length = k) (ho : old.length = l.length) :
    (l.zipIdx k).foldl (fun (cs : Array Value) (x : Value × Nat) => cs.setIfInBounds x.2 x.1) (pre ++ old).toArray = (pre ++ l).toArray := by
  simpa using foldl_set_tail l k pre old [] hp ho

theorem wp_buildSlice1 (t e : TypeId) (x : Operand) (v : Value) (z : Value) (n : Nat) (ho : o.op = .buildSlice t 1 #[(0, x)]) (hx : a.eval x = v) (hu : P.underlying t = some (.slice e))
    (hi : (P.info? e).map (fun i => (i.zero, i.size)) = some (some z, n)) (hn : 0 < n) (hn' : n ≤ 16777216) (hv : v.cells.size = n)
    (h : ∀ w', w'.heap[w.heap.size]? = some (.cells v.cells e (0, 0)) → Mod NoB w w' → w.heap.size < w'.heap.size → K (a.put o.dst (.slice (some ⟨w.heap.size, 0, none⟩) 1 1)) w') : o.wp P a w K Q := by
  unfold Oper.wp execOp
  simp only [ho]
  cases hi' : P.info? e with
  | none => simp [hi'] at hi
  | some i =>
    simp only [hi', Option.map_some, Option.some.injEq, Prod.mk.injEq] at hi
    obtain ⟨hz0, hz1⟩ := hi
    have hr : (Instr.buildSlice t 1 (Array.map (fun x => (x.1, a.eval x.2)) #[(0, x)])).run P w = .ok (.slice (some ⟨w.heap.size, 0, none⟩) 1 1) (w.alloc (.cells v.cells e)) := by
      have hf : (v.cells.zipIdx.foldl (fun (cs : Array Value) (x : Value × Nat) => cs.setIfInBounds x.2 x.1) (Array.map (fun x => z.cells[x % z.cells.size]!) (Array.range n))) = v.cells := by
        have := foldl_set_all v.cells.toList 0 [] (Array.map (fun x => z.cells[x % z.cells.size]!) (Array.range n)).toList rfl (by simp [hv])
        simp only [List.nil_append, Array.toArray_toList] at this
        rw [← Array.foldl_toList, Array.toList_zipIdx]
        exact this
      have hf' := hf
      rw [← Array.foldl_toList, Array.toList_zipIdx] at hf'
      simp [Instr.buildSlice, run_underlying hu, sizeOf, typeInfo, hi', hz1, zeroValue, hz0, Nat.not_lt.2 hn', Nat.pos_iff_ne_zero.1 hn, Instr.fill, hx, hv, newRow]
      congr 2
      rw [← hv] at hf ⊢
      have hsz : v.cells.zipIdx.size = v.cells.size := by simp
      rw [hsz] at hf; exact hf
    simp only [Sem.run_bind, hr, Result.andThen_ok, Sem.run_pure]
    exact h _ (heap_alloc_new _ _) (mod_alloc _ _) (by simp)

theorem wp_store1 (ty : TypeId) (p x : Operand) (b off : Nat) (v : Value) (ho : o.op = .store ty p x) (hp : a.eval p = .pointer (some ⟨b, off, none⟩)) (hx : a.eval x = v) (h1 : v.oneCell' = true)
    (hs : (P.info? ty).map (·.size) = some 1) (cur : Array Value) (T : TypeId) (hb : w.heap[b]? = some (.cells cur T (0, 0))) (hoff : off < cur.size)
    (h : ∀ w', w'.heap[b]? = some (.cells (cur.setIfInBounds off v) T (0, 0)) → Mod (fun k => k = b) w w' → K (a.put o.dst undef) w') : o.wp P a w K Q := by
  unfold Oper.wp execOp
  simp only [ho, hp, hx]
  have hsz : (sizeOf ty).run P w = .ok 1 w := by
    cases hq : P.info? ty with
    | none => simp [hq] at hs
    | some i => simp [hq] at hs; simp [sizeOf, typeInfo, hq, hs]
  have hc : v.cells = #[v] := by cases v <;> simp_all [Value.cells, Value.oneCell']
  have hr : (Instr.storeAt ty (.pointer (some ⟨b, off, none⟩)) v).run P w = .ok () (w.setCell ⟨b, off, none⟩ v) := by
    have hcell : w.cell? ⟨b, off, none⟩ = some cur[off] := by simp [World.cell?, hb, hoff]
    have hfro : w.frozen? ⟨b, off, none⟩ = false := by simp [World.frozen?, hb]
    simp [Instr.storeAt, Instr.sureAddr, storeVar, hsz, hc, storeCells, run_store, h1, hcell, hfro, Addr.add]
  simp only [Sem.run_bind, hr, Result.andThen_ok, Sem.run_pure]
  refine h _ ?_ (Mod.setCell (S := fun k => k = b) (Mod.refl _ _) (fun _ => rfl) v)
  simp [World.setCell, hb, Array.getElem?_modify]

/-- A struct or an array stored into a row, from off on. -/
def putRow (cur : Array Value) (off : Nat) (cs : Array Value) : Array Value := (cur.toList.take off ++ cs.toList ++ cur.toList.drop (off + cs.size)).toArray
theorem putRow_size {cur : Array Value} {off : Nat} {cs : Array Value} (h : off + cs.size ≤ cur.size) : (putRow cur off cs).size = cur.size := by
  simp [putRow]; omega
theorem putRow_whole {cur cs : Array Value} (h : cs.size = cur.size) : putRow cur 0 cs = cs := by
  apply Array.toList_inj.1
  simp only [putRow, List.take_zero, List.nil_append, Nat.zero_add]
  rw [List.drop_eq_nil_of_le (by simp [h])]
  simp

theorem wp_storeA (ty : TypeId) (p x : Operand) (b off : Nat) (cs : Array Value) (ho : o.op = .store ty p x) (hp : a.eval p = .pointer (some ⟨b, off, none⟩)) (hx : a.eval x = .agg cs) (h1 : ∀ c ∈ cs, c.oneCell' = true)
    (n : Nat) (hs : (P.info? ty).map (·.size) = some n) (hn : cs.size = n) (cur : Array Value) (T : TypeId) (hb : w.heap[b]? = some (.cells cur T (0, 0))) (hoff : off + cs.size ≤ cur.size)
    (h : ∀ w', w'.heap[b]? = some (.cells (putRow cur off cs) T (0, 0)) → Mod (fun k => k = b) w w' → K (a.put o.dst undef) w') : o.wp P a w K Q := by
  unfold Oper.wp execOp
  simp only [ho, hp, hx]
  have hsz : (sizeOf ty).run P w = .ok n w := by
    cases hq : P.info? ty with
    | none => simp [hq] at hs
    | some i => simp [hq] at hs; simp [sizeOf, typeInfo, hq, hs]
  have hr : (Instr.storeAt ty (.pointer (some ⟨b, off, none⟩)) (.agg cs)).run P w = .ok () (w.setRow b (putRow cur off cs)) := by
    have := run_storeCells_at P b off T cs.toList 0 cur w hb (by simpa using hoff) (fun v hv => h1 v (by simpa using hv))
    simp only [Nat.add_zero, Array.length_toList] at this
    simp [Instr.storeAt, Instr.sureAddr, storeVar, hsz, hn, Value.cells, this, putRow]
  simp only [Sem.run_bind, hr, Result.andThen_ok, Sem.run_pure]
  refine h _ (setRow_heap w b cur _ T _ hb) ⟨rfl, rfl, rfl, by simp, fun k _ hk => setRow_other w b k _ (fun e => hk e)⟩

end

/-- A value whose cells can be read: what append takes. -/
def Src (w : World) (sz : Nat) (u : Value) (m : Nat) (news : List Value) : Prop :=
  news.length = m * sz ∧ ∃ ad c, u = .slice ad m c ∧ (m ≠ 0 → ∃ b off, ad = some ⟨b, off, none⟩ ∧ ∀ j x, news[j]? = some x → w.cell? ⟨b, off + j, none⟩ = some x)

theorem flat_get {sz : Nat} : ∀ (css : List (Array Value)) (i : Nat) (hic : i < css.length), (∀ c ∈ css, c.size = sz) → ∀ j, j < sz → (css.flatMap Array.toList)[i * sz + j]? = css[i][j]?
  | c :: css, 0, _, hs, j, hj => by
    have hc : c.toList.length = sz := by simpa using hs c (by simp)
    simp only [List.flatMap_cons, Nat.zero_mul, Nat.zero_add, List.getElem_cons_zero]; rw [List.getElem?_append_left (by omega)]; simp
  | c :: css, i + 1, hic, hs, j, hj => by
    have hc : c.toList.length = sz := by simpa using hs c (by simp)
    simp only [List.flatMap_cons, List.getElem_cons_succ]
    rw [List.getElem?_append_right (by rw [hc, Nat.succ_mul]; omega), hc, show (i + 1) * sz + j - sz = i * sz + j by rw [Nat.succ_mul]; omega]
    exact flat_get css i (by simpa using hic) (fun c hc => hs c (by simp [hc])) j hj
theorem flat_len {sz : Nat} : ∀ (css : List (Array Value)), (∀ c ∈ css, c.size = sz) → (css.flatMap Array.toList).length = css.length * sz
  | [], _ => by simp
  | c :: css, hs => by
    have hc : c.size = sz := hs c (by simp)
    simp [flat_len css (fun c h => hs c (by simp [h])), hc, Nat.add_mul]; omega

theorem Sl.src {α : Type} {own : Bool} {w : World} {G : Nat → Prop} {sz : Nat} {R : Array Value → α → Prop} {v : Value} {l : List α} (h : Sl own w G sz R v l) (hz : 0 < sz) :
    ∃ css, All2 R css l ∧ (∀ c ∈ css, c.size = sz) ∧ Src w sz v l.length (css.flatMap Array.toList) := by
  obtain ⟨a, cap, rfl, hl, hc, h⟩ := h
  by_cases hne : l = []
  · subst hne
    exact ⟨[], All2.nil, by simp, by simp, a, cap, rfl, fun h => absurd rfl h⟩
  · obtain ⟨b, off, ha, _, _, h⟩ := h hne
    have key : ∀ k, k ≤ l.length → ∃ css : List (Array Value), css.length = k ∧ (∀ i (hi : i < css.length) (hi' : i < l.length), R css[i] l[i]) ∧ (∀ c ∈ css, c.size = sz) ∧ (∀ i (hi : i < css.length), CellsAt w b (off + i * sz) css[i]) := by
      intro k
      induction k with
      | zero => intro _; exact ⟨[], rfl, fun i hi => by simp at hi, by simp, fun i hi => by simp at hi⟩
      | succ k ih =>
        intro hk
        obtain ⟨css, h1, h2, h3, h4⟩ := ih (by omega)
        obtain ⟨cs, hs, hR, hcs⟩ := h k (by omega)
        have hlast : ∀ (i : Nat) (hi : i < (css ++ [cs]).length), i = k → (css ++ [cs])[i] = cs := fun i hi e => by subst e; subst h1; simp
        refine ⟨css ++ [cs], by simp [h1], fun i hi hi' => ?_, fun c hc => ?_, fun i hi => ?_⟩
        · by_cases hik : i < css.length
          · rw [List.getElem_append_left hik]; exact h2 i hik hi'
          · have e : i = k := by simp at hi; omega
            rw [hlast i hi e]; subst e; exact hR
        · rcases List.mem_append.1 hc with hc | hc
          · exact h3 c hc
          · have : c = cs := by simpa using hc
            rw [this, hs]
        · by_cases hik : i < css.length
          · rw [List.getElem_append_left hik]; exact h4 i hik
          · have e : i = k := by simp at hi; omega
            rw [hlast i hi e, e]; exact hcs
    obtain ⟨css, h1, h2, h3, h4⟩ := key l.length (Nat.le_refl _)
    refine ⟨css, ⟨h1, h2⟩, h3, by rw [flat_len css h3, h1], a, cap, rfl, fun _ => ⟨b, off, ha, fun j x hj => ?_⟩⟩
    have hjl : j < (css.flatMap Array.toList).length := by
      rcases Nat.lt_or_ge j (css.flatMap Array.toList).length with h | h
      · exact h
      · rw [List.getElem?_eq_none h] at hj; cases hj
    rw [flat_len css h3] at hjl
    have hi : j / sz < css.length := Nat.div_lt_of_lt_mul (by rw [Nat.mul_comm]; exact hjl)
    have hm : j % sz < sz := Nat.mod_lt _ hz
    have e : j / sz * sz + j % sz = j := by rw [Nat.mul_comm]; exact Nat.div_add_mod j sz
    have hg := flat_get css (j / sz) hi h3 (j % sz) hm
    rw [e, hj] at hg
    have := (h4 (j / sz) hi).cell hg.symm
    rw [← this, Nat.add_assoc, e]

section
variable {P : Program} {o : Oper} {a : Act} {w : World} {K : Act → World → Prop} {Q : Exit → Act → World → Prop}

/-- append onto a slice that the call itself has made. -/
theorem wp_append (s x : Operand) (t e : TypeId) (z : Value) (size bytes : Nat)
    (ho : o.op = .call { callee := .builtin .append, args := #[s, x], argTypes := #[t, t] }) (ht : P.underlying t = some (.slice e))
    (hi : (P.info? e).map (fun i => (i.zero, i.size, i.bytes)) = some (some z, size, bytes)) (hzs : z.cells.size = size) (hsz : 0 < size)
    (base : Nat) (v : Value) (n : Nat) (xs : List Value) (hs : a.eval s = v) (hown : w.ownsRow base e size v n xs)
    (u : Value) (m : Nat) (news : List Value) (hx : a.eval x = u) (hsrc : Src w size u m news) (h1 : ∀ c ∈ news, c.oneCell' = true)
    (h63 : n + m ≤ maxLen) (hbytes : (n + m) * bytes ≤ 140737488355328) (hbase : base ≤ w.heap.size)
    (h : ∀ v' w', w'.ownsRow base e size v' (n + m) (xs ++ news) → w.grownBy w' v.ownBlock → (v'.ownBlock = v.ownBlock ∨ v'.ownBlock = some w.heap.size) → K (a.put o.dst v') w') : o.wp P a w K Q := by
  obtain ⟨i, hi0, hi1, hi2, hi3⟩ := info_parts hi
  obtain ⟨hl, ad, c, rfl, hsrc⟩ := hsrc
  by_cases hm : m = 0
  · subst hm
    have hn0 : news = [] := List.eq_nil_of_length_eq_zero (by simpa using hl)
    subst hn0
    have hr : (Builtin.append_ #[t, t] o.type #[v, .slice ad 0 c]).run P w = .ok v w := by
      rcases hown.2 with ⟨rfl, rfl⟩ | ⟨g, cap, cur, rfl, hb, hg, hc, hm, hcs, htk⟩
      · cases ad <;> simp [Builtin.append_, run_underlying ht, sizeOf, typeInfo, hi0, Builtin.lenOf, Builtin.firstCells, loadCells, loadCellsFrom]
      · cases ad <;> simp [Builtin.append_, run_underlying ht, sizeOf, typeInfo, hi0, Builtin.lenOf, Builtin.firstCells, loadCells, loadCellsFrom, hc, storeCells]
    unfold Oper.wp execOp
    simp only [ho, resolve, invoke, builtin, Sem.run_bind, Sem.run_pure, Result.andThen_ok, List.map_toArray, List.map_cons, List.map_nil, hs, hx, hr]
    exact h v w (by simpa using hown) ⟨rfl, rfl, rfl, Nat.le_refl _, fun _ _ _ => rfl⟩ (.inl rfl)
  · obtain ⟨b, off, rfl, hc⟩ := hsrc hm
    obtain ⟨v', w', hr, h2, h3, _, h5⟩ := run_append_own_at (P := P) w base t o.type e i z size bytes ht hi0 hi1 hi2 hi3 hzs hsz v n xs hown ⟨b, off, none⟩ m c news hl (fun j y hy => by
      have hadd : (⟨b, off, none⟩ : Addr).add j = ⟨b, off + j, none⟩ := by unfold Addr.add; split <;> simp_all
      rw [hadd]; exact hc j y hy) h1 h63 hbytes hbase
    unfold Oper.wp execOp
    simp only [ho, resolve, invoke, builtin, Sem.run_bind, Sem.run_pure, Result.andThen_ok, List.map_toArray, List.map_cons, List.map_nil, hs, hx, hr]
    exact h v' w' h2 h3 h5

/-- The row of no elements that 'T{}' lays is owned. -/
theorem owns_empty {w : World} {b e size : Nat} (base : Nat) (hb : w.heap[b]? = some (.cells #[] e (0, 0))) (h : base ≤ b) : w.ownsRow base e size (.slice (some ⟨b, 0, none⟩) 0 0) 0 [] :=
  ⟨by simp, .inr ⟨b, 0, #[], rfl, h, hb, Nat.le_refl _, Nat.zero_le _, by simp, by simp⟩⟩
end

/-- An operation that leaves the world as it is, at the world at hand. -/
theorem wp_exec {P : Program} {o : Oper} {a : Act} {w : World} {K : Act → World → Prop} {Q : Exit → Act → World → Prop} {v : Value} (h : (execOp a.eval o).run P w = .ok (.value v) w) (k : K (a.put o.dst v) w) : o.wp P a w K Q := by
  unfold Oper.wp
  rw [h]
  exact k

/-- A block that has been made since. -/
def New (w w' : World) : Nat → Prop := fun k => w.heap.size ≤ k ∧ k < w'.heap.size

theorem intC_one {cs : Array Value} {x : Int} (h : IntC cs x) : ∀ c ∈ cs, c.oneCell' = true := by subst h; simp [Value.oneCell']
theorem byteC_one {cs : Array Value} {x : UInt8} (h : ByteC cs x) : ∀ c ∈ cs, c.oneCell' = true := by subst h; simp [byteV, Value.oneCell']
theorem idCells_one (x : List UInt8) : ∀ c ∈ idCells x, c.oneCell' = true := by
  intro c hc
  simp only [idCells, List.mem_toArray, List.mem_map] at hc
  obtain ⟨b, _, rfl⟩ := hc
  rfl
theorem idC_one {cs : Array Value} {x : List UInt8} (h : IdC cs x) : ∀ c ∈ cs, c.oneCell' = true := by
  rw [h.1]; exact idCells_one x
theorem all2_one {α : Type} {R : Array Value → α → Prop} {css : List (Array Value)} {l : List α} (h : All2 R css l) (h1 : ∀ cs x, R cs x → ∀ c ∈ cs, c.oneCell' = true) : ∀ c ∈ css.flatMap Array.toList, c.oneCell' = true := by
  intro c hc
  obtain ⟨cs, hcs, hc⟩ := List.mem_flatMap.1 hc
  obtain ⟨i, hi, rfl⟩ := List.getElem_of_mem hcs
  exact h1 _ _ (h.2 i hi (h.1 ▸ hi)) c (by simpa using hc)

theorem grown_mod {S : Nat → Prop} {a w w' : World} {row : Option Nat} (h : Mod S a w) (hg : w.grownBy w' row) (hr : ∀ k, row = some k → k < a.heap.size → S k) : Mod S a w' := h.grown hg hr

end Go.Proofs.YtcfcahflkhgapaaGreat
