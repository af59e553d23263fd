/- The document's links: how a list that lies in a row is turned. -/
import Derived.Test.YtcfcahflkhgapaaGreatRfE
import Derived.Laws.Slices
namespace Go.Proofs.YtcfcahflkhgapaaGreat
set_option linter.unusedSimpArgs false
set_option linter.unusedVariables false
set_option linter.unnecessarySimpa false
set_option linter.unusedSectionVars false
open Go.RowKit

section
variable {P : Program} {ops : Array Oper} {Q : Exit → Act → World → Prop} {S : World → Prop} {o : Oper} {r : List (Oper × Nat)} {a : Act} {w : World}
theorem wpPi_sliceTo (t e : TypeId) (x h : Operand) (ad : Option Addr) (len cap i n : Nat) (hw : Region.wanted o (yielded ops a.tmps) = true) (ho : o.op = .slice t x none (some h) none) (hx : a.eval x = .slice ad len cap) (hh : a.eval h = .int .i64 (i : Int))
    (hu : P.underlying t = some (.slice e)) (hs : (P.info? e).map (·.size) = some n) (hi : i ≤ cap) (hk : wpPi P ops Q S r (a.put o.dst (sliced ad 0 i cap n)) w) : wpPi P ops Q S ((o, 3) :: r) a w :=
  wpPi_any hw (fun w => by
    have he : P.elem t = e := by simp [Program.elem, hu]
    have hsz : (sizeOf e).run P w = .ok n w := by
      cases hq : P.info? e with
      | none => simp [hq] at hs
      | some i => simp [hq] at hs; simp [sizeOf, typeInfo, hq, hs]
    unfold execOp
    simp only [ho, hx, hh, Option.map_none, Option.map_some]
    have h1 := run_sliceAt_slice (P := P) (w := w) t (.slice ad len cap) none (some (.int .i64 (i : Int))) none (by rw [he]; exact hu)
    have h2 := run_slice_h (P := P) (w := w) t ad len cap (by rw [he]; exact hu) .i64 (i : Int) (by omega) (by omega)
    simp only [Sem.run_bind, h1, h2, he, hsz, Result.andThen_ok, Sem.run_pure, Int.toNat_natCast]) hk
theorem wpPi_sliceFrom (t e : TypeId) (x l : Operand) (ad : Option Addr) (len cap i n : Nat) (hw : Region.wanted o (yielded ops a.tmps) = true) (ho : o.op = .slice t x (some l) none none) (hx : a.eval x = .slice ad len cap) (hl : a.eval l = .int .i64 (i : Int))
    (hu : P.underlying t = some (.slice e)) (hs : (P.info? e).map (·.size) = some n) (hi : i ≤ len) (hk : wpPi P ops Q S r (a.put o.dst (sliced ad i len cap n)) w) : wpPi P ops Q S ((o, 3) :: r) a w :=
  wpPi_any hw (fun w => by
    have he : P.elem t = e := by simp [Program.elem, hu]
    have hsz : (sizeOf e).run P w = .ok n w := by
      cases hq : P.info? e with
      | none => simp [hq] at hs
      | some i => simp [hq] at hs; simp [sizeOf, typeInfo, hq, hs]
    unfold execOp
    simp only [ho, hx, hl, Option.map_none, Option.map_some]
    have h1 := run_sliceAt_slice (P := P) (w := w) t (.slice ad len cap) (some (.int .i64 (i : Int))) none none (by rw [he]; exact hu)
    have h2 := run_slice_l (P := P) (w := w) t ad len cap (by rw [he]; exact hu) .i64 (i : Int) (by omega) (by omega)
    simp only [Sem.run_bind, h1, h2, he, hsz, Result.andThen_ok, Sem.run_pure, Int.toNat_natCast]) hk
end
theorem addr_add0 (b off k : Nat) : Addr.add ⟨b, off, none⟩ k = ⟨b, off + k, none⟩ := by
  unfold Addr.add
  split
  · rename_i hk; subst hk; rfl
  · rfl
section
variable {w w' : World} {base e sz n i cap : Nat} {v : Value} {xs : List Value} {ad : Option Addr}
theorem owns_one (h : w.ownsRow base e sz v n xs) : v.oneCell' = true := by
  rcases h.2 with ⟨rfl, _⟩ | ⟨g, cap, cur, rfl, _⟩ <;> rfl
theorem owns_base {base' : Nat} (h : w.ownsRow base e sz v n xs) (hb : base' ≤ base) : w.ownsRow base' e sz v n xs := by
  refine ⟨h.1, ?_⟩
  rcases h.2 with h | ⟨g, cap, cur, h1, h2, h3⟩
  · exact .inl h
  · exact .inr ⟨g, cap, cur, h1, Nat.le_trans hb h2, h3⟩
/-- The first i of them. -/
theorem owns_to (h : w.ownsRow base e sz (.slice ad n cap) n xs) (hi : i ≤ n) : w.ownsRow base e sz (sliced ad 0 i cap sz) i (xs.take (i * sz)) ∧ (sliced ad 0 i cap sz).ownBlock = (Value.slice ad n cap).ownBlock := by
  have hm : i * sz ≤ n * sz := Nat.mul_le_mul_right _ hi
  rcases h.2 with ⟨h1, h2⟩ | ⟨g, c, cur, h1, hb, hg, hc, hm', hcs, ht⟩
  · cases h1
    obtain rfl : i = 0 := by omega
    have e1 : xs = [] := List.eq_nil_of_length_eq_zero (by rw [h.1]; simp)
    refine ⟨⟨by simp, .inl ⟨by simp [sliced], rfl⟩⟩, by simp [sliced, Value.ownBlock]⟩
  · cases h1
    have e1 : sliced (some ⟨g, 0, none⟩) 0 i cap sz = .slice (some ⟨g, 0, none⟩) i cap := by
      simp only [sliced, Option.map_some, addr_add0, Nat.zero_mul, Nat.add_zero, Nat.sub_zero, ite_self]
    rw [e1]
    refine ⟨⟨by rw [List.length_take, h.1]; omega, .inr ⟨g, cap, cur, rfl, hb, hg, by omega, hm', hcs, ?_⟩⟩, rfl⟩
    rw [← ht, List.take_take, Nat.min_eq_left hm]
theorem owns_src (h : w.ownsRow base e sz v n xs) : Src w sz v n xs := by
  rcases h.2 with ⟨rfl, rfl⟩ | ⟨g, c, cur, rfl, hb, hg, hc, hm', hcs, ht⟩
  · exact ⟨h.1, _, _, rfl, fun h => absurd rfl h⟩
  · refine ⟨h.1, _, _, rfl, fun _ => ⟨g, 0, rfl, fun j x hj => ?_⟩⟩
    have hjl : j < xs.length := by
      rcases Nat.lt_or_ge j xs.length with h | h
      · exact h
      · rw [List.getElem?_eq_none h] at hj; cases hj
    rw [cell_of_row _ _ _ _ _ _ hg, Nat.zero_add, ← hj, ← ht, List.getElem?_take_of_lt (by rw [← h.1]; exact hjl)]
    simp
theorem Src.keep {S : Nat → Prop} {m : Nat} {u : Value} (h : Src w sz u m xs) (hm : Mod S w w') (hS : ∀ g, u.ownBlock = some g → ¬ S g) : Src w' sz u m xs := by
  obtain ⟨h1, a, c, rfl, h2⟩ := h
  refine ⟨h1, a, c, rfl, fun h0 => ?_⟩
  obtain ⟨b, off, rfl, h3⟩ := h2 h0
  exact ⟨b, off, rfl, fun j x hj => hm.cell (hS b rfl) (h3 j x hj)⟩
theorem Src.drop {m : Nat} (h : Src w sz (.slice ad m cap) m xs) (hi : i ≤ m) (hm : m ≤ cap) : Src w sz (sliced ad i m cap sz) (m - i) (xs.drop (i * sz)) := by
  obtain ⟨h1, ad', c', e, h2⟩ := h
  obtain ⟨rfl, rfl⟩ : ad = ad' ∧ cap = c' := by simpa using e
  refine ⟨by rw [List.length_drop, h1, Nat.sub_mul], _, _, rfl, fun hi0 => ?_⟩
  obtain ⟨b, off, rfl, hc⟩ := h2 (by omega)
  refine ⟨b, off + i * sz, ?_, fun j x hj => ?_⟩
  · rw [if_neg (by omega)]
    simp [addr_add0]
  · rw [Nat.add_assoc]
    exact hc _ _ (by rw [← hj, List.getElem?_drop])
theorem sliced_block {m : Nat} (hm : ∀ a, ad = some a → ∃ b o, a = ⟨b, o, none⟩) : ∀ g, (sliced ad i m cap sz).ownBlock = some g → (Value.slice ad m cap).ownBlock = some g := by
  intro g h
  cases ad with
  | none => simp [sliced, Value.ownBlock] at h
  | some a =>
    obtain ⟨b, o, rfl⟩ := hm a rfl
    simp only [sliced, Option.map_some] at h
    split at h
    · exact h
    · simp only [Value.ownBlock] at h ⊢
      rw [← h, addr_add0]
end
theorem flat_take : ∀ {r : LinkL} {i : Nat}, (∀ p ∈ r, KeyOk p.1) → (r.flatMap entL).take (i * 34) = (r.take i).flatMap entL
  | [], i, _ => by simp
  | p :: r, 0, _ => by simp
  | p :: r, i + 1, h => by
    have hp : (entL p).length = 34 := by have := entCells_size (h p (by simp)); simpa [entL] using this
    rw [List.take_succ_cons, List.flatMap_cons, List.flatMap_cons, Nat.succ_mul, List.take_append, hp]
    rw [List.take_of_length_le (by omega), show i * 34 + 34 - 34 = i * 34 by omega, flat_take (fun q hq => h q (by simp [hq]))]
theorem flat_drop : ∀ {r : LinkL} {i : Nat}, (∀ p ∈ r, KeyOk p.1) → (r.flatMap entL).drop (i * 34) = (r.drop i).flatMap entL
  | [], i, _ => by simp
  | p :: r, 0, _ => by simp
  | p :: r, i + 1, h => by
    have hp : (entL p).length = 34 := by have := entCells_size (h p (by simp)); simpa [entL] using this
    rw [List.drop_succ_cons, List.flatMap_cons, Nat.succ_mul, List.drop_append, hp]
    rw [List.drop_of_length_le (by omega), show i * 34 + 34 - 34 = i * 34 by omega, flat_drop (fun q hq => h q (by simp [hq])), List.nil_append]
theorem entL_one (p : Key × Int) : ∀ c ∈ entL p, c.oneCell' = true := by
  intro c hc
  simp only [entL, entCells, Array.toList_append, List.mem_append] at hc
  rcases hc with (hc | hc) | hc
  · simp at hc; subst hc; rfl
  · exact idCells_one p.1.2 c (by simpa using hc)
  · simp at hc; subst hc; rfl
theorem ents_one (r : LinkL) : ∀ c ∈ r.flatMap entL, c.oneCell' = true := fun c hc => by
  obtain ⟨p, _, hp⟩ := List.mem_flatMap.1 hc
  exact entL_one p c hp
theorem forget_length (r : LinkL) (x : List UInt8) : r.length = forgetN r x + (forgetL r x).length := by
  unfold forgetN forgetL
  show List.length (r : List (Key × Int)) = _
  induction (r : List (Key × Int)) with
  | nil => rfl
  | cons p r ih =>
    rw [List.filter_cons, List.filter_cons]
    by_cases h : p.1.2 = x
    · rw [if_pos (by simp [h]), if_neg (by simp [h]), List.length_cons, List.length_cons, ih]; omega
    · rw [if_neg (by simp [h]), if_pos (by simp [h]), List.length_cons, List.length_cons, ih]; omega
section
variable {w0 w w6 w7 : World} {b : Nat} {v : Value} {limit : Int} {r r' : LinkL} {R : Nat → Prop}
/-- The list has become r', and then the field. -/
theorem RfStep.mk (h : RAt w0 w (.pointer (some ⟨b, 0, none⟩)) limit r R) (hb : R b) (ho : w6.ownsRow w0.heap.size 61 34 v r'.length (r'.flatMap entL)) (hg : ∀ g, v.ownBlock = some g → (R g ∨ New w w6 g) ∧ g ≠ b)
    (hm6 : Mod (fun k => R k ∧ k ≠ b) w w6) (hB : w7.heap[b]? = some (.cells #[.int .i64 limit, v] 56 (0, 0))) (hm7 : Mod (fun k => k = b) w6 w7)
    (hk : ∀ p ∈ r', KeyOk p.1) (hf : r'.length ≤ 65536) (hv : ∀ p ∈ r', 0 ≤ p.2 ∧ p.2 ≤ 4096) : RfStep w0 w (.pointer (some ⟨b, 0, none⟩)) limit R w7 r' := by
  have hs7 := hm7.size
  have hM : Mod R w w7 := hm6.mono (S' := R) (fun _ _ h => h.1) |>.trans hm7 (fun k _ e => by rw [show k = b from e]; exact hb)
  refine ⟨fun k => R k ∨ New w w7 k, ⟨h.mod.trans hM (fun k hk hs => by have := h.old k hs; omega), ⟨b, v, rfl, hB, owns_keep ho hm7 (fun g e => (hg g e).2), .inl hb, fun g e => ⟨(hg g e).1.imp id fun hn => ⟨hn.1, Nat.lt_of_lt_of_le hn.2 hs7⟩, (hg g e).2⟩⟩, hk, hf, hv, fun k hk => ?_, fun k hk => ?_⟩, hM, fun k hk => hk⟩
  · rcases hk with hk | hk
    · exact h.old k hk
    · have h1 := hk.1; have h2 := h.mod.size; omega
  · rcases hk with hk | hk
    · exact Nat.lt_of_lt_of_le (h.lt k hk) hM.size
    · exact hk.2
end
end Go.Proofs.YtcfcahflkhgapaaGreat
