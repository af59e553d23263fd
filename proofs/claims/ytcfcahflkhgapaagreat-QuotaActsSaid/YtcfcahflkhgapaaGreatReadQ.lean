/- Arguments, read: digests, slices of them, and calls. -/
import Derived.Test.YtcfcahflkhgapaaGreatWrap
import Derived.Test.YtcfcahflkhgapaaGreatEff
namespace Go.Proofs.YtcfcahflkhgapaaGreat
set_option linter.unusedSimpArgs false
set_option linter.unusedVariables false
set_option linter.unnecessarySimpa false
set_option linter.unusedSectionVars false
open Go.ChangeShapes Go.WideShapes Go.ChangeAt Go.RowKit

theorem fit_i64 {n : Int} (h : (Lit.int .i64 n).wf = true) : -9223372036854775808 ≤ n ∧ n ≤ 9223372036854775807 := bounds_i64 h

theorem addr_add {w : World} {a : Addr} {v : Value} (i : Nat) (h0 : ∃ u, w.cell? (a.add 0) = some u) (h : w.cell? (a.add i) = some v) : a = ⟨a.block, a.off, none⟩ ∧ w.cell? ⟨a.block, a.off + i, none⟩ = some v := by
  obtain ⟨u, h0⟩ := h0
  obtain ⟨b, off, spot⟩ := a
  have hs : spot = none := by
    simp only [Addr.add, if_true] at h0
    unfold World.cell? at h0
    cases spot with
    | none => rfl
    | some s => cases hw : w.heap[b]? with
      | none => simp [hw] at h0
      | some o => cases o <;> simp [hw] at h0
  subst hs
  refine ⟨rfl, ?_⟩
  unfold Addr.add at h
  split at h
  · rename_i hi; subst hi; exact h
  · exact h

theorem list_of_all {α : Type} {n : Nat} {Q : Nat → α → Prop} (h : ∀ i, i < n → ∃ a, Q i a) : ∃ l : List α, l.length = n ∧ ∀ i (hi : i < l.length), Q i l[i] := by
  refine ⟨List.ofFn fun i : Fin n => Classical.choose (h i.1 i.2), by simp, fun i hi => ?_⟩
  rw [List.getElem_ofFn]
  exact Classical.choose_spec (h i (by simpa using hi))

theorem addr_cells {w : World} {a : Addr} {i j : Nat} {u v : Value} (h0 : w.cell? ((a.add 0).add 0) = some u) (h : w.cell? ((a.add i).add j) = some v) : a = ⟨a.block, a.off, none⟩ ∧ w.cell? ⟨a.block, a.off + i + j, none⟩ = some v := by
  have e0 : (a.add 0).add 0 = a.add 0 := by simp [Addr.add]
  have h1 := (addr_add 0 ⟨u, e0 ▸ h0⟩ (e0 ▸ h0)).1
  refine ⟨h1, ?_⟩
  rw [h1] at h
  have e : ∀ (b o k : Nat), Addr.add ⟨b, o, none⟩ k = ⟨b, o + k, none⟩ := fun b o k => by
    unfold Addr.add
    split
    · rename_i hk; subst hk; rfl
    · rfl
  rwa [e, e] at h

section
variable {H : Type} {enc : TypeId × Value → H} {P : Program} {W : World} {sp : Nat → Bool} {held : Bool}

theorem sl_of_trod {α : Type} {R : Array Value → α → Prop} {t e : TypeId} {sz fuel : Nat} {cs : List Value} {x : DataW H × List MemPlace} (ht : P.underlying t = some (.slice e)) (hsz : P.cellsOf e = sz) (hpos : 0 < sz)
    (hR : ∀ n cs x, DataW.trod enc P W 0 sp held n e cs = some x → ∃ a, R cs.toArray a) (h : DataW.trod enc P W 0 sp held fuel t cs = some x) : ∃ v l, cs = [v] ∧ Sl false W (fun k => k < W.heap.size) sz R v l := by
  rcases DataW.trod_slice ht h with ⟨rfl, _⟩ | ⟨a, len, cap, elems, rest, n, _, rfl, _, _, hlc, hcm, hel, helem, _, _⟩
  · exact ⟨_, [], rfl, Sl.nil _ _ _ _ _⟩
  · subst hsz
    have hall : ∀ i, i < len → ∃ y : α, ∃ cs : List Value, cs.length = P.cellsOf e ∧ R cs.toArray y ∧ ∀ j, j < P.cellsOf e → W.cell? ((a.add (i * P.cellsOf e)).add j) = cs[j]? := by
      intro i hi
      have h1 := helem i hi
      rw [List.getElem?_eq_getElem (by omega)] at h1
      obtain ⟨cs, h2, h3⟩ := Option.bind_eq_some_iff.1 h1
      obtain ⟨_, hl, hc⟩ := World.cells?_some h2
      obtain ⟨y, hy⟩ := hR _ _ _ h3
      exact ⟨y, cs, hl, hy, hc⟩
    obtain ⟨l, hl, hq⟩ := list_of_all hall
    refine ⟨_, l, rfl, some a, cap, by rw [hl], by omega, hcm, fun hne => ?_⟩
    have hp : 0 < l.length := List.length_pos_iff.2 hne
    have h0 : ∃ u, W.cell? ((a.add 0).add 0) = some u := by
      obtain ⟨cs, h1, _, h3⟩ := hq 0 hp
      have := h3 0 hpos
      rw [List.getElem?_eq_getElem (by omega), Nat.zero_mul] at this
      exact ⟨_, this⟩
    obtain ⟨u, h0⟩ := h0
    refine ⟨a.block, a.off, by rw [← (addr_cells h0 h0).1], (block_lt_of_cell (a := ⟨a.block, a.off + 0 + 0, none⟩) (addr_cells h0 h0).2), fun h => (by cases h), fun i hi => ?_⟩
    obtain ⟨cs, h1, h2, h3⟩ := hq i hi
    refine ⟨cs.toArray, by simpa using h1, h2, fun j hj => ?_⟩
    have hj' : j < cs.length := by simpa using hj
    have := h3 j (by omega)
    rw [List.getElem?_eq_getElem hj'] at this
    rw [(addr_cells h0 this).2]
    simp [List.getElem?_eq_getElem hj']

theorem field_of_trod {t : TypeId} {fs : Array Field} {fuel : Nat} {cs : List Value} {x : DataW H × List MemPlace} (ht : P.underlying t = some (.struct fs)) (h : DataW.trod enc P W 0 sp held fuel t cs = some x) :
    cs.length = P.cellsOf t ∧ ∀ (i : Nat) (f : Field), fs[i]? = some f → ∃ n y, DataW.trod enc P W 0 sp held n f.type ((cs.drop f.offset).take (P.cellsOf f.type)) = some y := by
  obtain ⟨xs, n, _, _, hl, hx, hf⟩ := DataW.trod_struct ht h
  refine ⟨hl, fun i f hi => ⟨n, ?_⟩⟩
  have hi' : i < xs.length := by
    rcases Nat.lt_or_ge i fs.size with h | h
    · omega
    · rw [Array.getElem?_eq_none h] at hi; cases hi
  have := hf i f hi
  rw [List.getElem?_eq_getElem hi'] at this
  exact ⟨_, this⟩

theorem drop_step (cs : List Value) (k n : Nat) : cs.drop k = (cs.drop k).take n ++ cs.drop (k + n) := by
  rw [← List.drop_drop, List.take_append_drop]
end


theorem okWide_array {P : Program} {w : World} {r : Reach} {base : Nat} {t : TypeId} {v : Value} {n : Nat} {e : TypeId} (ht : P.underlying t = some (.array n e)) (h : Value.okWide P w r base t v) : ∃ cs, v = .agg cs ∧ cs.size = P.cellsOf t := by
  simp only [Value.okWide, ht] at h
  obtain ⟨cs, h1, h2, _⟩ := h
  exact ⟨cs, h1, h2⟩

/-- A call: kind, two names, a digest, a size. -/
structure Actn where
  kind : Int
  repo : ByteArray
  dest : ByteArray
  id : List UInt8
  size : Int
def actCells (x : Actn) : Array Value := #[.int .i64 x.kind, .string x.repo, .string x.dest] ++ idCells x.id ++ #[.int .i64 x.size]
def ActR (cs : Array Value) (x : Actn) : Prop := cs = actCells x ∧ x.id.length = 32 ∧ x.repo.size ≤ maxLen ∧ x.dest.size ≤ maxLen ∧ (-9223372036854775808 ≤ x.size ∧ x.size ≤ 9223372036854775807)

section
variable {H : Type} {enc : TypeId × Value → H} {W : World} {sp : Nat → Bool} {held : Bool} {fuel : Nat} {cs : List Value} {x : DataW H × List MemPlace}

theorem read_u8 (h : DataW.trod enc Tryz.prog W 0 sp held fuel 5 cs = some x) : ∃ b, cs = [byteV b] := by
  obtain ⟨n, rfl, _, hw⟩ := DataW.trod_int Tryz.underlying5 h
  have := bounds_u8 hw
  refine ⟨UInt8.ofNat n.toNat, ?_⟩
  unfold byteV
  rw [UInt8.toNat_ofNat_of_lt' (by rw [show UInt8.size = 256 from rfl]; omega), Int.toNat_of_nonneg this.1]

theorem read_id (h : DataW.trod enc Tryz.prog W 0 sp held fuel 32 cs = some x) : ∃ i : List UInt8, i.length = 32 ∧ cs = i.map byteV := by
  obtain ⟨xs, m, _, _, hl, hx, hf⟩ := DataW.trod_array Tryz.underlying32 h
  have hc : Tryz.prog.cellsOf 32 = 32 := by kernel_rfl
  have h5 : Tryz.prog.cellsOf 5 = 1 := by kernel_rfl
  rw [hc] at hl
  have hall : ∀ i, i < 32 → ∃ b, cs[i]? = some (byteV b) := by
    intro i hi
    have h1 := hf i hi
    rw [List.getElem?_eq_getElem (by omega)] at h1
    obtain ⟨b, hb⟩ := read_u8 h1
    rw [h5, Nat.mul_one] at hb
    refine ⟨b, ?_⟩
    have := congrArg (fun l => l[0]?) hb
    simpa using this
  obtain ⟨l, hl', hq⟩ := list_of_all hall
  refine ⟨l, hl', List.ext_getElem (by simp; omega) fun i h1 h2 => ?_⟩
  have := hq i (by simpa using h2)
  rw [List.getElem?_eq_getElem h1] at this
  simpa using this
theorem read_ids (h : DataW.trod enc Tryz.prog W 0 sp held fuel 75 cs = some x) : ∃ v l, cs = [v] ∧ Sl false W (fun k => k < W.heap.size) 32 IdC v l :=
  sl_of_trod Tryz.underlying75 (by kernel_rfl) (by decide) (fun _ _ _ h => by
    obtain ⟨n, hn, rfl⟩ := read_id h
    exact ⟨n, rfl, hn⟩) h

set_option maxRecDepth 10000 in
theorem read_act (h : DataW.trod enc Tryz.prog W 0 sp held fuel 34 cs = some x) : ∃ a, ActR cs.toArray a := by
  obtain ⟨hl, hf⟩ := field_of_trod Tryz.underlying34 h
  have c3 : Tryz.prog.cellsOf 3 = 1 := by kernel_rfl
  have c9 : Tryz.prog.cellsOf 9 = 1 := by kernel_rfl
  have c35 : Tryz.prog.cellsOf 32 = 32 := by kernel_rfl
  have hc : Tryz.prog.cellsOf 34 = 36 := by kernel_rfl
  obtain ⟨_, _, h0⟩ : ∃ n y, DataW.trod enc Tryz.prog W 0 sp held n 3 ((cs.drop 0).take (Tryz.prog.cellsOf 3)) = some y := hf 0 _ rfl
  obtain ⟨_, _, h1⟩ : ∃ n y, DataW.trod enc Tryz.prog W 0 sp held n 9 ((cs.drop 1).take (Tryz.prog.cellsOf 9)) = some y := hf 1 _ rfl
  obtain ⟨_, _, h2⟩ : ∃ n y, DataW.trod enc Tryz.prog W 0 sp held n 9 ((cs.drop 2).take (Tryz.prog.cellsOf 9)) = some y := hf 2 _ rfl
  obtain ⟨_, _, h3⟩ : ∃ n y, DataW.trod enc Tryz.prog W 0 sp held n 32 ((cs.drop 3).take (Tryz.prog.cellsOf 32)) = some y := hf 3 _ rfl
  obtain ⟨_, _, h4⟩ : ∃ n y, DataW.trod enc Tryz.prog W 0 sp held n 3 ((cs.drop 35).take (Tryz.prog.cellsOf 3)) = some y := hf 4 _ rfl
  obtain ⟨k, e0, _⟩ := DataW.trod_int Tryz.underlying3 h0
  obtain ⟨r, e1, _, b1⟩ := DataW.trod_string Tryz.underlying9 h1
  obtain ⟨t, e2, _, b2⟩ := DataW.trod_string Tryz.underlying9 h2
  obtain ⟨id, hid, e3⟩ := read_id h3
  obtain ⟨s, e4, _, w4⟩ := DataW.trod_int Tryz.underlying3 h4
  rw [hc] at hl
  rw [c3] at e0 e4
  rw [c9] at e1 e2
  rw [c35] at e3
  refine ⟨⟨k, r, t, id, s⟩, ?_, hid, b1, b2, bounds_i64 w4⟩
  have := drop_step cs 0 1
  rw [e0, drop_step cs (0 + 1) 1, e1, drop_step cs (0 + 1 + 1) 1, e2, drop_step cs (0 + 1 + 1 + 1) 32, e3, drop_step cs (0 + 1 + 1 + 1 + 32) 1, e4, show 0 + 1 + 1 + 1 + 32 + 1 = 36 from rfl, List.drop_of_length_le (i := 36) (by omega), List.drop_zero] at this
  rw [this]
  simp [actCells, idCells]
theorem read_acts (h : DataW.trod enc Tryz.prog W 0 sp held fuel 22 cs = some x) : ∃ v l, cs = [v] ∧ Sl false W (fun k => k < W.heap.size) 36 ActR v l :=
  sl_of_trod Tryz.underlying22 (by kernel_rfl) (by decide) (fun _ _ _ h => read_act h) h
end

section
variable {H : Type} {enc : TypeId × Value → H} {W W0 : World} {sp : Nat → Bool} {r : Reach} {b0 : Nat} {v : Value} {d : DataW H} {ps : List MemPlace}
set_option maxRecDepth 10000 in
theorem open_id (hval : Value.okWide Tryz.prog W0 r b0 32 v) (h : DataW.Trod enc Tryz.prog W 0 sp true 32 v d ps) : ∃ x, v = .agg (idCells x) ∧ x.length = 32 := by
  obtain ⟨cs, rfl, _⟩ := okWide_array Tryz.underlying32 hval
  obtain ⟨fuel, h⟩ := h
  obtain ⟨l, hl, e⟩ := read_id h
  refine ⟨l, ?_, hl⟩
  congr 1
  apply Array.toList_inj.1
  rw [show cs.toList = l.map byteV from e]
  simp [idCells]
set_option maxRecDepth 10000 in
theorem open_ids (hval : Value.okWide Tryz.prog W0 r b0 75 v) (h : DataW.Trod enc Tryz.prog W 0 sp true 75 v d ps) : ∃ l, Sl false W (fun k => k < W.heap.size) 32 IdC v l := by
  obtain ⟨a0, n0, c0, rfl⟩ := okWide_slice Tryz.underlying75 hval
  obtain ⟨fuel, h⟩ := h
  obtain ⟨v, l, hv, hl⟩ := read_ids h
  have : Value.slice a0 n0 c0 = v := by simpa [Value.cells] using hv
  rw [this]
  exact ⟨l, hl⟩
set_option maxRecDepth 10000 in
theorem open_acts (hval : Value.okWide Tryz.prog W0 r b0 22 v) (h : DataW.Trod enc Tryz.prog W 0 sp true 22 v d ps) : ∃ l, Sl false W (fun k => k < W.heap.size) 36 ActR v l := by
  obtain ⟨a0, n0, c0, rfl⟩ := okWide_slice Tryz.underlying22 hval
  obtain ⟨fuel, h⟩ := h
  obtain ⟨v, l, hv, hl⟩ := read_acts h
  have : Value.slice a0 n0 c0 = v := by simpa [Value.cells] using hv
  rw [this]
  exact ⟨l, hl⟩
end
end Go.Proofs.YtcfcahflkhgapaaGreat
