/- Arguments, read: a letter. -/
import Derived.Test.YtdllpakdhnanbaaReadA
namespace Go.Proofs.Ytdllpakdhnanbaa
set_option linter.unusedSimpArgs false
set_option linter.unusedVariables false
set_option linter.unnecessarySimpa false
open Go.ChangeShapes Go.WideShapes Go.ChangeAt Go.RowKit

theorem list_of_all {α : Type} {n : Nat} {Q : Nat → α → Prop} (h : ∀ i, i < n → ∃ a, Q i a) : ∃ l : List α, l.length = n ∧ ∀ i (hi : i < l.length), Q i l[i] := by
  refine ⟨List.ofFn fun i : Fin n => Classical.choose (h i.1 i.2), by simp, fun i hi => ?_⟩
  rw [List.getElem_ofFn]
  exact Classical.choose_spec (h i (by simpa using hi))

theorem addr_cells {w : World} {a : Addr} {i j : Nat} {u v : Value} (h0 : w.cell? ((a.add 0).add 0) = some u) (h : w.cell? ((a.add i).add j) = some v) : a = ⟨a.block, a.off, none⟩ ∧ w.cell? ⟨a.block, a.off + i + j, none⟩ = some v := by
  have e0 : (a.add 0).add 0 = a.add 0 := by simp [Addr.add]
  have h1 := (addr_add 0 ⟨u, e0 ▸ h0⟩ (e0 ▸ h0)).1
  refine ⟨h1, ?_⟩
  rw [h1] at h
  have e : ∀ (b o k : Nat), Addr.add ⟨b, o, none⟩ k = ⟨b, o + k, none⟩ := fun b o k => by
    unfold Addr.add
    split
    · rename_i hk; subst hk; rfl
    · rfl
  rwa [e, e] at h

section
variable {H : Type} {enc : TypeId × Value → H} {P : Program} {W : World} {sp : Nat → Bool} {held : Bool}

theorem sl_of_trod {α : Type} {R : Array Value → α → Prop} {t e : TypeId} {sz fuel : Nat} {cs : List Value} {x : DataW H × List MemPlace} (ht : P.underlying t = some (.slice e)) (hsz : P.cellsOf e = sz) (hpos : 0 < sz)
    (hR : ∀ n cs x, DataW.trod enc P W 0 sp held n e cs = some x → ∃ a, R cs.toArray a) (h : DataW.trod enc P W 0 sp held fuel t cs = some x) : ∃ v l, cs = [v] ∧ Sl false W (fun k => k < W.heap.size) sz R v l := by
  rcases DataW.trod_slice ht h with ⟨rfl, _⟩ | ⟨a, len, cap, elems, rest, n, _, rfl, _, _, hlc, hcm, hel, helem, _, _⟩
  · exact ⟨_, [], rfl, Sl.nil _ _ _ _ _⟩
  · subst hsz
    have hall : ∀ i, i < len → ∃ y : α, ∃ cs : List Value, cs.length = P.cellsOf e ∧ R cs.toArray y ∧ ∀ j, j < P.cellsOf e → W.cell? ((a.add (i * P.cellsOf e)).add j) = cs[j]? := by
      intro i hi
      have h1 := helem i hi
      rw [List.getElem?_eq_getElem (by omega)] at h1
      obtain ⟨cs, h2, h3⟩ := Option.bind_eq_some_iff.1 h1
      obtain ⟨_, hl, hc⟩ := World.cells?_some h2
      obtain ⟨y, hy⟩ := hR _ _ _ h3
      exact ⟨y, cs, hl, hy, hc⟩
    obtain ⟨l, hl, hq⟩ := list_of_all hall
    refine ⟨_, l, rfl, some a, cap, by rw [hl], by omega, hcm, fun hne => ?_⟩
    have hp : 0 < l.length := List.length_pos_iff.2 hne
    have h0 : ∃ u, W.cell? ((a.add 0).add 0) = some u := by
      obtain ⟨cs, h1, _, h3⟩ := hq 0 hp
      have := h3 0 hpos
      rw [List.getElem?_eq_getElem (by omega), Nat.zero_mul] at this
      exact ⟨_, this⟩
    obtain ⟨u, h0⟩ := h0
    refine ⟨a.block, a.off, by rw [← (addr_cells h0 h0).1], (block_lt_of_cell (a := ⟨a.block, a.off + 0 + 0, none⟩) (addr_cells h0 h0).2), fun h => (by cases h), fun i hi => ?_⟩
    obtain ⟨cs, h1, h2, h3⟩ := hq i hi
    refine ⟨cs.toArray, by simpa using h1, h2, fun j hj => ?_⟩
    have hj' : j < cs.length := by simpa using hj
    have := h3 j (by omega)
    rw [List.getElem?_eq_getElem hj'] at this
    rw [(addr_cells h0 this).2]
    simp [List.getElem?_eq_getElem hj']

theorem field_of_trod {t : TypeId} {fs : Array Field} {fuel : Nat} {cs : List Value} {x : DataW H × List MemPlace} (ht : P.underlying t = some (.struct fs)) (h : DataW.trod enc P W 0 sp held fuel t cs = some x) :
    cs.length = P.cellsOf t ∧ ∀ (i : Nat) (f : Field), fs[i]? = some f → ∃ n y, DataW.trod enc P W 0 sp held n f.type ((cs.drop f.offset).take (P.cellsOf f.type)) = some y := by
  obtain ⟨xs, n, _, _, hl, hx, hf⟩ := DataW.trod_struct ht h
  refine ⟨hl, fun i f hi => ⟨n, ?_⟩⟩
  have hi' : i < xs.length := by
    rcases Nat.lt_or_ge i fs.size with h | h
    · omega
    · rw [Array.getElem?_eq_none h] at hi; cases hi
  have := hf i f hi
  rw [List.getElem?_eq_getElem hi'] at this
  exact ⟨_, this⟩

theorem drop_step (cs : List Value) (k n : Nat) : cs.drop k = (cs.drop k).take n ++ cs.drop (k + n) := by
  rw [← List.drop_drop, List.take_append_drop]
end

section
variable {H : Type} {enc : TypeId × Value → H} {W : World} {sp : Nat → Bool} {held : Bool} {fuel : Nat} {cs : List Value} {x : DataW H × List MemPlace}

theorem read_u8 (h : DataW.trod enc Try.prog W 0 sp held fuel 5 cs = some x) : ∃ b, cs = [byteV b] := by
  obtain ⟨n, rfl, _, hw⟩ := DataW.trod_int Try.underlying5 h
  have := bounds_u8 hw
  refine ⟨UInt8.ofNat n.toNat, ?_⟩
  unfold byteV
  rw [UInt8.toNat_ofNat_of_lt' (by rw [show UInt8.size = 256 from rfl]; omega), Int.toNat_of_nonneg this.1]

theorem read_id (h : DataW.trod enc Try.prog W 0 sp held fuel 35 cs = some x) : ∃ i : List UInt8, i.length = 32 ∧ cs = i.map byteV := by
  obtain ⟨xs, m, _, _, hl, hx, hf⟩ := DataW.trod_array Try.underlying35 h
  have hc : Try.prog.cellsOf 35 = 32 := by kernel_rfl
  have h5 : Try.prog.cellsOf 5 = 1 := by kernel_rfl
  rw [hc] at hl
  have hall : ∀ i, i < 32 → ∃ b, cs[i]? = some (byteV b) := by
    intro i hi
    have h1 := hf i hi
    rw [List.getElem?_eq_getElem (by omega)] at h1
    obtain ⟨b, hb⟩ := read_u8 h1
    rw [h5, Nat.mul_one] at hb
    refine ⟨b, ?_⟩
    have := congrArg (fun l => l[0]?) hb
    simpa using this
  obtain ⟨l, hl', hq⟩ := list_of_all hall
  refine ⟨l, hl', List.ext_getElem (by simp; omega) fun i h1 h2 => ?_⟩
  have := hq i (by simpa using h2)
  rw [List.getElem?_eq_getElem h1] at this
  simpa using this

theorem read_ints (h : DataW.trod enc Try.prog W 0 sp held fuel 30 cs = some x) : ∃ v l, cs = [v] ∧ Sl false W (fun k => k < W.heap.size) 1 IntC v l :=
  sl_of_trod Try.underlying30 (by kernel_rfl) (by decide) (fun _ _ _ h => by
    obtain ⟨n, rfl, _, _⟩ := DataW.trod_int Try.underlying3 h
    exact ⟨n, rfl⟩) h
theorem read_bytes (h : DataW.trod enc Try.prog W 0 sp held fuel 36 cs = some x) : ∃ v l, cs = [v] ∧ Sl false W (fun k => k < W.heap.size) 1 ByteC v l :=
  sl_of_trod Try.underlying36 (by kernel_rfl) (by decide) (fun _ _ _ h => by
    obtain ⟨n, rfl⟩ := read_u8 h
    exact ⟨n, rfl⟩) h
theorem read_ids (h : DataW.trod enc Try.prog W 0 sp held fuel 102 cs = some x) : ∃ v l, cs = [v] ∧ Sl false W (fun k => k < W.heap.size) 32 IdC v l :=
  sl_of_trod Try.underlying102 (by kernel_rfl) (by decide) (fun _ _ _ h => by
    obtain ⟨n, hn, rfl⟩ := read_id h
    exact ⟨n, rfl, hn⟩) h

set_option maxRecDepth 10000 in
theorem read_dot (h : DataW.trod enc Try.prog W 0 sp held fuel 33 cs = some x) : ∃ r n : Int, cs = [.int .i64 r, .int .i64 n] := by
  obtain ⟨hl, hf⟩ := field_of_trod Try.underlying33 h
  have h3 : Try.prog.cellsOf 3 = 1 := by kernel_rfl
  have hc : Try.prog.cellsOf 33 = 2 := by kernel_rfl
  obtain ⟨_, _, h0⟩ : ∃ n y, DataW.trod enc Try.prog W 0 sp held n 3 ((cs.drop 0).take (Try.prog.cellsOf 3)) = some y := hf 0 _ rfl
  obtain ⟨_, _, h1⟩ : ∃ n y, DataW.trod enc Try.prog W 0 sp held n 3 ((cs.drop 1).take (Try.prog.cellsOf 3)) = some y := hf 1 _ rfl
  obtain ⟨r, e0, _⟩ := DataW.trod_int Try.underlying3 h0
  obtain ⟨n, e1, _⟩ := DataW.trod_int Try.underlying3 h1
  rw [h3] at e0 e1
  rw [hc] at hl
  refine ⟨r, n, ?_⟩
  have := drop_step cs 0 1
  rw [e0, drop_step cs (0 + 1) 1, e1, show 0 + 1 + 1 = 2 from rfl, List.drop_of_length_le (i := 2) (by omega), List.drop_zero] at this
  simpa using this

set_option maxRecDepth 10000 in
theorem read_event (h : DataW.trod enc Try.prog W 0 sp held fuel 104 cs = some x) : ∃ e, EvR false W (fun k => k < W.heap.size) cs.toArray e := by
  obtain ⟨hl, hf⟩ := field_of_trod Try.underlying104 h
  have c3 : Try.prog.cellsOf 3 = 1 := by kernel_rfl
  have c9 : Try.prog.cellsOf 9 = 1 := by kernel_rfl
  have c30 : Try.prog.cellsOf 30 = 1 := by kernel_rfl
  have c33 : Try.prog.cellsOf 33 = 2 := by kernel_rfl
  have c35 : Try.prog.cellsOf 35 = 32 := by kernel_rfl
  have c102 : Try.prog.cellsOf 102 = 1 := by kernel_rfl
  have hc : Try.prog.cellsOf 104 = 39 := by kernel_rfl
  obtain ⟨_, _, h0⟩ : ∃ n y, DataW.trod enc Try.prog W 0 sp held n 33 ((cs.drop 0).take (Try.prog.cellsOf 33)) = some y := hf 0 _ rfl
  obtain ⟨_, _, h1⟩ : ∃ n y, DataW.trod enc Try.prog W 0 sp held n 30 ((cs.drop 2).take (Try.prog.cellsOf 30)) = some y := hf 1 _ rfl
  obtain ⟨_, _, h2⟩ : ∃ n y, DataW.trod enc Try.prog W 0 sp held n 3 ((cs.drop 3).take (Try.prog.cellsOf 3)) = some y := hf 2 _ rfl
  obtain ⟨_, _, h3⟩ : ∃ n y, DataW.trod enc Try.prog W 0 sp held n 9 ((cs.drop 4).take (Try.prog.cellsOf 9)) = some y := hf 3 _ rfl
  obtain ⟨_, _, h4⟩ : ∃ n y, DataW.trod enc Try.prog W 0 sp held n 9 ((cs.drop 5).take (Try.prog.cellsOf 9)) = some y := hf 4 _ rfl
  obtain ⟨_, _, h5⟩ : ∃ n y, DataW.trod enc Try.prog W 0 sp held n 35 ((cs.drop 6).take (Try.prog.cellsOf 35)) = some y := hf 5 _ rfl
  obtain ⟨_, _, h6⟩ : ∃ n y, DataW.trod enc Try.prog W 0 sp held n 102 ((cs.drop 38).take (Try.prog.cellsOf 102)) = some y := hf 6 _ rfl
  obtain ⟨r, n, e0⟩ := read_dot h0
  obtain ⟨dv, dl, e1, s1⟩ := read_ints h1
  obtain ⟨k, e2, _⟩ := DataW.trod_int Try.underlying3 h2
  obtain ⟨repo, e3, _, b3⟩ := DataW.trod_string Try.underlying9 h3
  obtain ⟨tag, e4, _, b4⟩ := DataW.trod_string Try.underlying9 h4
  obtain ⟨id, hid, e5⟩ := read_id h5
  obtain ⟨rv, rl, e6, s6⟩ := read_ids h6
  rw [hc] at hl
  rw [c33] at e0
  rw [c30] at e1
  rw [c3] at e2
  rw [c9] at e3 e4
  rw [c35] at e5
  rw [c102] at e6
  refine ⟨⟨r, n, dl, k, repo, tag, id, rl⟩, dv, rv, ?_, hid, s1, s6, b3, b4⟩
  have := drop_step cs 0 2
  rw [e0, drop_step cs (0 + 2) 1, e1, drop_step cs (0 + 2 + 1) 1, e2, drop_step cs (0 + 2 + 1 + 1) 1, e3, drop_step cs (0 + 2 + 1 + 1 + 1) 1, e4, drop_step cs (0 + 2 + 1 + 1 + 1 + 1) 32, e5,
    drop_step cs (0 + 2 + 1 + 1 + 1 + 1 + 32) 1, e6, show 0 + 2 + 1 + 1 + 1 + 1 + 32 + 1 = 39 from rfl, List.drop_of_length_le (i := 39) (by omega), List.drop_zero] at this
  rw [this]
  simp [evCells, idCells]

theorem read_events (h : DataW.trod enc Try.prog W 0 sp held fuel 31 cs = some x) : ∃ v l, cs = [v] ∧ Sl false W (fun k => k < W.heap.size) 39 (EvR false W (fun k => k < W.heap.size)) v l :=
  sl_of_trod Try.underlying31 (by kernel_rfl) (by decide) (fun _ _ _ h => read_event h) h

set_option maxRecDepth 10000 in
theorem read_letter (h : DataW.trod enc Try.prog W 0 sp held fuel 38 cs = some x) : ∃ l, LetR false W (fun k => k < W.heap.size) (fun k => k < W.heap.size) cs.toArray l := by
  obtain ⟨hl, hf⟩ := field_of_trod Try.underlying38 h
  have c3 : Try.prog.cellsOf 3 = 1 := by kernel_rfl
  have c30 : Try.prog.cellsOf 30 = 1 := by kernel_rfl
  have c31 : Try.prog.cellsOf 31 = 1 := by kernel_rfl
  have c33 : Try.prog.cellsOf 33 = 2 := by kernel_rfl
  have c35 : Try.prog.cellsOf 35 = 32 := by kernel_rfl
  have c36 : Try.prog.cellsOf 36 = 1 := by kernel_rfl
  have hc : Try.prog.cellsOf 38 = 40 := by kernel_rfl
  obtain ⟨_, _, h0⟩ : ∃ n y, DataW.trod enc Try.prog W 0 sp held n 3 ((cs.drop 0).take (Try.prog.cellsOf 3)) = some y := hf 0 _ rfl
  obtain ⟨_, _, h1⟩ : ∃ n y, DataW.trod enc Try.prog W 0 sp held n 3 ((cs.drop 1).take (Try.prog.cellsOf 3)) = some y := hf 1 _ rfl
  obtain ⟨_, _, h2⟩ : ∃ n y, DataW.trod enc Try.prog W 0 sp held n 3 ((cs.drop 2).take (Try.prog.cellsOf 3)) = some y := hf 2 _ rfl
  obtain ⟨_, _, h3⟩ : ∃ n y, DataW.trod enc Try.prog W 0 sp held n 30 ((cs.drop 3).take (Try.prog.cellsOf 30)) = some y := hf 3 _ rfl
  obtain ⟨_, _, h4⟩ : ∃ n y, DataW.trod enc Try.prog W 0 sp held n 31 ((cs.drop 4).take (Try.prog.cellsOf 31)) = some y := hf 4 _ rfl
  obtain ⟨_, _, h5⟩ : ∃ n y, DataW.trod enc Try.prog W 0 sp held n 33 ((cs.drop 5).take (Try.prog.cellsOf 33)) = some y := hf 5 _ rfl
  obtain ⟨_, _, h6⟩ : ∃ n y, DataW.trod enc Try.prog W 0 sp held n 35 ((cs.drop 7).take (Try.prog.cellsOf 35)) = some y := hf 6 _ rfl
  obtain ⟨_, _, h7⟩ : ∃ n y, DataW.trod enc Try.prog W 0 sp held n 36 ((cs.drop 39).take (Try.prog.cellsOf 36)) = some y := hf 7 _ rfl
  obtain ⟨k, e0, _⟩ := DataW.trod_int Try.underlying3 h0
  obtain ⟨f, e1, _⟩ := DataW.trod_int Try.underlying3 h1
  obtain ⟨t, e2, _⟩ := DataW.trod_int Try.underlying3 h2
  obtain ⟨sv, sl, e3, s3⟩ := read_ints h3
  obtain ⟨ev, el, e4, s4⟩ := read_events h4
  obtain ⟨r, n, e5⟩ := read_dot h5
  obtain ⟨id, hid, e6⟩ := read_id h6
  obtain ⟨bv, bl, e7, s7⟩ := read_bytes h7
  rw [hc] at hl
  rw [c3] at e0 e1 e2
  rw [c30] at e3
  rw [c31] at e4
  rw [c33] at e5
  rw [c35] at e6
  rw [c36] at e7
  refine ⟨⟨k, f, t, sl, el, r, n, id, bl⟩, sv, ev, bv, ?_, hid, s3, s4, s7⟩
  have := drop_step cs 0 1
  rw [e0, drop_step cs (0 + 1) 1, e1, drop_step cs (0 + 1 + 1) 1, e2, drop_step cs (0 + 1 + 1 + 1) 1, e3, drop_step cs (0 + 1 + 1 + 1 + 1) 1, e4, drop_step cs (0 + 1 + 1 + 1 + 1 + 1) 2, e5,
    drop_step cs (0 + 1 + 1 + 1 + 1 + 1 + 2) 32, e6, drop_step cs (0 + 1 + 1 + 1 + 1 + 1 + 2 + 32) 1, e7, show 0 + 1 + 1 + 1 + 1 + 1 + 2 + 32 + 1 = 40 from rfl, List.drop_of_length_le (i := 40) (by omega), List.drop_zero] at this
  rw [this]
  simp [ltrCells, idCells]
end

set_option maxRecDepth 10000 in
theorem open_letter {H : Type} {enc : TypeId × Value → H} {W W0 : World} {sp : Nat → Bool} {r : Reach} {b0 : Nat} {v : Value} {d : DataW H} {ps : List MemPlace} (hval : Value.okWide Try.prog W0 r b0 38 v) (h : DataW.Trod enc Try.prog W 0 sp true 38 v d ps) :
    ∃ cs l, v = .agg cs ∧ LetR false W (fun k => k < W.heap.size) (fun k => k < W.heap.size) cs l := by
  obtain ⟨cs, rfl, _⟩ := okWide_struct Try.underlying38 hval
  obtain ⟨fuel, h⟩ := h
  obtain ⟨l, hl⟩ := read_letter h
  exact ⟨cs, l, rfl, hl⟩
end Go.Proofs.Ytdllpakdhnanbaa
