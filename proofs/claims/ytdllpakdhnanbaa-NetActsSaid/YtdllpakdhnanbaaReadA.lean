/- Arguments, read: numbers and slices of numbers. -/
import Derived.Test.YtdllpakdhnanbaaWrap
import Derived.Test.YtdllpakdhnanbaaLawE
namespace Go.Proofs.Ytdllpakdhnanbaa
set_option linter.unusedSimpArgs false
set_option linter.unusedVariables false
set_option linter.unnecessarySimpa false
open Go.ChangeShapes Go.WideShapes Go.ChangeAt Go.RowKit

theorem fit_i64 {n : Int} (h : (Lit.int .i64 n).wf = true) : -9223372036854775808 ≤ n ∧ n ≤ 9223372036854775807 := bounds_i64 h

theorem addr_add {w : World} {a : Addr} {v : Value} (i : Nat) (h0 : ∃ u, w.cell? (a.add 0) = some u) (h : w.cell? (a.add i) = some v) : a = ⟨a.block, a.off, none⟩ ∧ w.cell? ⟨a.block, a.off + i, none⟩ = some v := by
  obtain ⟨u, h0⟩ := h0
  obtain ⟨b, off, spot⟩ := a
  have hs : spot = none := by
    simp only [Addr.add, if_true] at h0
    unfold World.cell? at h0
    cases spot with
    | none => rfl
    | some s => cases hw : w.heap[b]? with
      | none => simp [hw] at h0
      | some o => cases o <;> simp [hw] at h0
  subst hs
  refine ⟨rfl, ?_⟩
  unfold Addr.add at h
  split at h
  · rename_i hi; subst hi; exact h
  · exact h

set_option maxRecDepth 10000 in
theorem open_int_slice {H : Type} {enc : TypeId × Value → H} {W W0 : World} {sp : Nat → Bool} {r : Reach} {b0 : Nat} {v : Value} {d : DataW H} {ps : List MemPlace} (hval : Value.okWide Try.prog W0 r b0 30 v) (h : DataW.Trod enc Try.prog W 0 sp true 30 v d ps) :
    ∃ l, Sl false W (fun _ => True) 1 IntC v l ∧ Fits l := by
  obtain ⟨a0, n0, c0, rfl⟩ := okWide_slice Try.underlying30 hval
  obtain ⟨fuel, h⟩ := h
  rcases open_ints Try.underlying30 Try.underlying3 (by kernel_rfl) h with ⟨hc, _⟩ | ⟨a, len, cap, zs, hc, _, hl, hm, hz, _, hcell, hw⟩
  · have e : a0 = none ∧ n0 = 0 ∧ c0 = 0 := by simpa [Value.cells] using hc
    obtain ⟨rfl, rfl, rfl⟩ := e
    exact ⟨[], Sl.nil _ _ _ _ _, by simp [Fits]⟩
  · have e : a0 = some a ∧ n0 = len ∧ c0 = cap := by simpa [Value.cells] using hc
    obtain ⟨rfl, rfl, rfl⟩ := e
    have hlen : n0 ≤ zs.length := by rw [hz]; split <;> omega
    have htl : (zs.take n0).length = n0 := by simp; omega
    refine ⟨zs.take n0, ⟨some a, c0, by rw [htl], by omega, hm, fun hne => ?_⟩, fun x hx => fit_i64 (hw x (List.mem_of_mem_take hx))⟩
    have hpos : 0 < zs.length := by
      have := List.length_pos_iff.2 hne
      omega
    have h0 : ∃ u, W.cell? (a.add 0) = some u := ⟨_, hcell 0 hpos⟩
    refine ⟨a.block, a.off, by rw [← (addr_add 0 h0 (hcell 0 hpos)).1], trivial, fun h => (by cases h), fun i hi => ?_⟩
    have hi' : i < zs.length := by omega
    refine ⟨_, rfl, rfl, ?_⟩
    rw [Nat.mul_one, CellsAt.one, (addr_add i h0 (hcell i hi')).2]
    simp [List.getD, List.getElem?_eq_getElem hi']
end Go.Proofs.Ytdllpakdhnanbaa
