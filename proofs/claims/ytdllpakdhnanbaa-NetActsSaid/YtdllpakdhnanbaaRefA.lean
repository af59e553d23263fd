/- The document's net (entrepotref30): how it lies in memory. -/
import Derived.Test.YtdllpakdhnanbaaListA
import Derived.Laws.MakeOwn
namespace Go.Proofs.Ytdllpakdhnanbaa
set_option linter.unusedSimpArgs false
set_option linter.unusedVariables false
set_option linter.unnecessarySimpa false
open Go.RowKit

theorem LtAcc.monoQ {own : Bool} {base : Nat} {Q Q' : Nat → Prop} {l : List Ltr} {v : Value} {w : World} (h : LtAcc own base Q l v w) (hq : ∀ k, k < w.heap.size → Q k → Q' k) : LtAcc own base Q' l v w := by
  obtain ⟨css, h1, h2, h3⟩ := h
  exact ⟨css, h1, h2, h3.imp fun _ _ h => h.mono (fun k hk => ⟨hq k hk.2.1 hk.1, hk.2⟩) (fun k hk => ⟨hq k hk.2.1 hk.1, hk.2⟩)⟩
theorem All2.append {α β : Type} {R : α → β → Prop} {a a' : List α} {b b' : List β} (h : All2 R a b) (h' : All2 R a' b') : All2 R (a ++ a') (b ++ b') := by
  refine ⟨by simp [h.1, h'.1], fun i h1 h2 => ?_⟩
  have hl := h.1
  by_cases hi : i < a.length
  · rw [List.getElem_append_left hi, List.getElem_append_left (by omega)]; exact h.2 i hi (by omega)
  · rw [List.getElem_append_right (by omega), List.getElem_append_right (by omega)]
    simp only [← hl]
    exact h'.2 _ (by simp at h1; omega) (by simp at h2; omega)
theorem All2.take {α β : Type} {R : α → β → Prop} {a : List α} {b : List β} (h : All2 R a b) (n : Nat) : All2 R (a.take n) (b.take n) := by
  refine ⟨by simp [h.1], fun i h1 h2 => ?_⟩
  simp only [List.getElem_take]
  exact h.2 i (by simp at h1; omega) (by simp at h2; omega)
theorem All2.drop {α β : Type} {R : α → β → Prop} {a : List α} {b : List β} (h : All2 R a b) (n : Nat) : All2 R (a.drop n) (b.drop n) := by
  refine ⟨by simp [h.1], fun i h1 h2 => ?_⟩
  simp only [List.getElem_drop]
  exact h.2 (n + i) (by simp at h1; omega) (by simp at h2; omega)
/-- Some letters more. -/
theorem LtAcc.steps {own : Bool} {base : Nat} {Q : Nat → Prop} {l l' : List Ltr} {v v' : Value} {w w' : World} {css css' : List (Array Value)} (h2 : ∀ c ∈ css, c.size = 40) (h2' : ∀ c ∈ css', c.size = 40)
    (h3 : All2 (LetR own w (Fp Q v w) (Fp Q v w)) css l) (h3' : All2 (LetR own w (Fp Q v w) (Fp Q v w)) css' l')
    (hown : w'.ownsRow base 38 40 v' (l.length + l'.length) (css.flatMap Array.toList ++ css'.flatMap Array.toList)) (hg : w.grownBy w' v.ownBlock) (hv : v'.ownBlock = v.ownBlock ∨ v'.ownBlock = some w.heap.size) :
    LtAcc own base Q (l ++ l') v' w' := by
  have hm : Mod (fun k => v.ownBlock = some k) w w' := (Mod.refl _ _).grown hg (fun k hk _ => hk)
  have mv : ∀ k, Fp Q v w k → Fp Q v' w' k := fun k hk => ⟨hk.1, Nat.lt_of_lt_of_le hk.2.1 hm.size, by
      rcases hv with hv | hv <;> rw [hv]
      · exact hk.2.2
      · have := hk.2.1; intro e; cases e; omega⟩
  have up : ∀ x y, LetR own w (Fp Q v w) (Fp Q v w) x y → LetR own w' (Fp Q v' w') (Fp Q v' w') x y := fun x y h =>
    (h.keep hm (fun k hk => hk.2.2) (fun k hk => hk.2.2)).mono mv mv
  refine ⟨css ++ css', by simpa using hown, fun c hc' => ?_, (h3.imp up).append (h3'.imp up)⟩
  rcases List.mem_append.1 hc' with h | h
  · exact h2 c h
  · exact h2' c h

def refCells (n gone : Int) (Lv : Value) (bw : Nat) : Array Value := #[.int .i64 n, .int .i64 gone, Lv, .slice (some ⟨bw, 0, none⟩) (n * n).toNat (n * n).toNat]

structure RefOk (w : World) (br bw : Nat) (Lv : Value) (ways : Array Value) (N : Ns) : Prop where
  obj : w.heap[br]? = some (.cells (refCells N.n N.lost Lv bw) 46 (0, 0))
  wobj : w.heap[bw]? = some (.cells ways 4 (0, 0))
  wsz : ways.size = (N.n * N.n).toNat
  way : ∀ a b, twoB N.n a b = true → ways[((a - 1) * N.n + b - 1).toNat]? = some (.bool (N.cut (a, b)))
  hn : 1 ≤ N.n ∧ N.n ≤ 16
  few : N.ls.length ≤ 4096
  oks : ∀ l ∈ N.ls, LtrOk l

/-- The document's net is as N says, in memory of R; it is newer than w0, of which nothing has turned. -/
structure RefAt (w0 w : World) (q : Value) (N : Ns) (R : Nat → Prop) : Prop where
  mod : Mod NoB w0 w
  ok : ∃ br bw Lv ways, q = .pointer (some ⟨br, 0, none⟩) ∧ RefOk w br bw Lv ways N ∧ LtAcc false w0.heap.size (fun k => R k ∧ k ≠ br ∧ k ≠ bw) N.ls Lv w ∧ br ≠ bw ∧ R br ∧ R bw ∧ ∀ g, Lv.ownBlock = some g → R g ∧ g ≠ br ∧ g ≠ bw
  old : ∀ k, R k → w0.heap.size ≤ k
  lt : ∀ k, R k → k < w.heap.size
def RStep (w0 w : World) (q : Value) (R : Nat → Prop) (w' : World) (N : Ns) : Prop := ∃ R', RefAt w0 w' q N R' ∧ Mod R w w' ∧ ∀ k, R' k → R k ∨ New w w' k

section
variable {w0 w : World} {q : Value} {N : Ns} {R : Nat → Prop}
theorem RefOk.keep {S : Nat → Prop} {w' : World} {br bw : Nat} {Lv : Value} {ways : Array Value} (h : RefOk w br bw Lv ways N) (hm : Mod S w w') (h1 : ¬ S br) (h2 : ¬ S bw) : RefOk w' br bw Lv ways N :=
  ⟨hm.obj h1 h.obj, hm.obj h2 h.wobj, h.wsz, h.way, h.hn, h.few, h.oks⟩
theorem RefAt.keep {w' : World} {S : Nat → Prop} (h : RefAt w0 w q N R) (hm : Mod S w w') (hS : ∀ k, R k → ¬ S k) (hS0 : ∀ k, k < w0.heap.size → ¬ S k) : RefAt w0 w' q N R := by
  obtain ⟨hM, ⟨br, bw, Lv, ways, rfl, ho, ha, hne, h1, h2, h3⟩, hold, hlt⟩ := h
  exact ⟨hM.trans hm (fun k hk hs => hS0 k hk hs), ⟨br, bw, Lv, ways, rfl, ho.keep hm (hS _ h1) (hS _ h2), ha.keep hm (fun k hk => hS k hk.1.1) (fun k hk => hS k (h3 k hk).1), hne, h1, h2, h3⟩, hold, fun k hk => Nat.lt_of_lt_of_le (hlt k hk) hm.size⟩
theorem RefAt.keep0 {w' : World} (h : RefAt w0 w q N R) (hm : Mod NoB w w') : RefAt w0 w' q N R := h.keep hm (fun _ _ => id) (fun _ _ => id)
theorem RefAt.step {w' : World} (h : RefAt w0 w q N R) (hm : Mod NoB w w') : RStep w0 w q R w' N := ⟨R, h.keep0 hm, hm.mono (fun _ _ h => False.elim h), fun k hk => .inl hk⟩
theorem RefOk.cell {br bw : Nat} {Lv : Value} {ways : Array Value} (h : RefOk w br bw Lv ways N) : w.cell? ⟨br, 0, none⟩ = some (.int .i64 N.n) ∧ w.cell? ⟨br, 1, none⟩ = some (.int .i64 N.lost) ∧ w.cell? ⟨br, 2, none⟩ = some Lv ∧ w.cell? ⟨br, 3, none⟩ = some (.slice (some ⟨bw, 0, none⟩) (N.n * N.n).toNat (N.n * N.n).toNat) := by
  refine ⟨?_, ?_, ?_, ?_⟩ <;> rw [cell_of_row w br _ _ _ _ h.obj] <;> rfl
theorem RefAt.few (h : RefAt w0 w q N R) : N.ls.length ≤ 4096 := by
  obtain ⟨hM, ⟨br, bw, Lv, ways, rfl, ho, _⟩, _⟩ := h
  exact ho.few
/-- The net has become N'. -/
theorem RStep.mk {br bw : Nat} {Lv' : Value} {ways' : Array Value} {N' : Ns} {w' : World} {S : Nat → Prop} (h : RefAt w0 w (.pointer (some ⟨br, 0, none⟩)) N R) (hbr : R br) (hbw : R bw) (hne : br ≠ bw) (ho : RefOk w' br bw Lv' ways' N')
    (ha : LtAcc false w0.heap.size (fun k => (R k ∨ New w w' k) ∧ k ≠ br ∧ k ≠ bw) N'.ls Lv' w') (hg : ∀ g, Lv'.ownBlock = some g → (R g ∨ New w w' g) ∧ g ≠ br ∧ g ≠ bw) (hm : Mod S w w') (hS : ∀ k, S k → R k) :
    RStep w0 w (.pointer (some ⟨br, 0, none⟩)) R w' N' :=
  ⟨fun k => R k ∨ New w w' k, ⟨h.mod.trans hm (fun k hk hs => by have := h.old k (hS k hs); omega), ⟨br, bw, Lv', ways', rfl, ho, ha, hne, .inl hbr, .inl hbw, hg⟩, fun k hk => by
    rcases hk with hk | hk
    · exact h.old k hk
    · have h1 := hk.1; have h2 := h.mod.size; omega, fun k hk => by
    rcases hk with hk | hk
    · exact Nat.lt_of_lt_of_le (h.lt k hk) hm.size
    · exact hk.2⟩, hm.mono (fun k _ hk => hS k hk), fun k hk => hk⟩
end

/-! The ways' places. -/
theorem way_in {n a b : Int} (h : twoB n a b = true) : 0 ≤ (a - 1) * n + b - 1 ∧ (a - 1) * n + b - 1 < n * n := by
  have h1 := of_decide_eq_true h
  have h2 : 0 ≤ (a - 1) * n := Int.mul_nonneg (by omega) (by omega)
  have h3 : (a - 1) * n ≤ (n - 1) * n := Int.mul_le_mul_of_nonneg_right (by omega) (by omega)
  rw [Int.sub_mul n 1 n, Int.one_mul] at h3
  omega
theorem way_inj {n a b c d : Int} (h : twoB n a b = true) (h' : twoB n c d = true) (e : (a - 1) * n + b - 1 = (c - 1) * n + d - 1) : a = c ∧ b = d := by
  have h1 := of_decide_eq_true h
  have h2 := of_decide_eq_true h'
  have key : ∀ x y : Int, x < y → 1 * n ≤ (y - x) * n := fun x y hxy => Int.mul_le_mul_of_nonneg_right (by omega) (by omega)
  rw [Int.sub_mul, Int.sub_mul] at e
  rcases Int.lt_trichotomy a c with hl | hl | hl
  · have := key a c hl
    rw [Int.sub_mul] at this
    omega
  · subst hl
    exact ⟨rfl, by omega⟩
  · have := key c a hl
    rw [Int.sub_mul] at this
    omega

section
variable {P : Program} {o : Oper} {a : Act} {w : World} {K : Act → World → Prop} {Q : Exit → Act → World → Prop}
theorem wp_makeBools (t : TypeId) (x : Operand) (yt : Operand) (z : Int) (n : Nat) (hz : z = n) (ho : o.op = .makeSlice t x yt) (hx : a.eval x = .int .i64 z) (hy : a.eval yt = .int .i64 z) (ht : P.underlying t = some (.slice 4))
    (hi : (P.info? 4).map (fun i => (i.zero, i.size, i.bytes)) = some (some (.bool false), 1, 1)) (hn : n ≤ 16777216)
    (h : ∀ w' (cs : Array Value), cs.size = n → (∀ j, j < n → cs[j]? = some (.bool false)) → w'.heap[w.heap.size]? = some (.cells cs 4 (0, 0)) → Mod NoB w w' → w.heap.size < w'.heap.size → K (a.put o.dst (.slice (some ⟨w.heap.size, 0, none⟩) n n)) w') : o.wp P a w K Q := by
  subst hz
  obtain ⟨i, hi0, hi1, hi2, hi3⟩ := info_parts hi
  unfold Oper.wp execOp
  simp only [ho, hx, hy]
  have hr := run_makeSlice (P := P) w t 4 i (.bool false) ht hi0 hi1 .i64 .i64 n n (by omega) (by omega) (by rw [hi2]; simp; omega) (by rw [hi3]; omega) (by omega)
  simp only [Sem.run_bind, hr, Result.andThen_ok, Sem.run_pure, Int.toNat_natCast, hi2, Nat.mul_one]
  refine h _ (madeCells #[.bool false] n) (by simp [madeCells]) (fun j hj => ?_) (heap_alloc_new _ _) (mod_alloc _ _) (by simp)
  simp [madeCells, hj]
  rw [Nat.mod_one]; rfl
end
end Go.Proofs.Ytdllpakdhnanbaa
