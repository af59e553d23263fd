/- Rows that are written out, and two rules for numbers. -/
import Derived.Test.YtcfcahflkhgapaaSumA
namespace Go.Proofs.Ytcfcahflkhgapaa
set_option linter.unusedSimpArgs false
set_option linter.unusedVariables false
set_option linter.unnecessarySimpa false
set_option linter.unusedSectionVars false
open Go.RowKit

theorem sl_of_lit {α : Type} {w : World} {t b sz : Nat} {R : Array Value → α → Prop} {l : List α} {cells : α → Array Value} {cur : Array Value} (hB : w.heap[b]? = some (.cells cur t (0, 0))) (hc : cur.toList = l.flatMap fun x => (cells x).toList) (hs : ∀ x, (cells x).size = sz) (hR : ∀ x, R (cells x) x) (hl : l.length ≤ maxLen) :
    Sl true w (fun k => k = b) sz R (.slice (some ⟨b, 0, none⟩) l.length l.length) l := by
  refine ⟨_, l.length, rfl, Nat.le_refl _, hl, fun _ => ⟨b, 0, rfl, rfl, fun _ => ⟨_, _, hB⟩, fun i hi => ⟨cells l[i], hs _, hR _, fun j hj => ?_⟩⟩⟩
  rw [cell_of_row _ _ _ _ _ _ hB, Nat.zero_add]
  have h1 := flat_get (sz := sz) (l.map cells) i (by simpa using hi) (fun c hc => by obtain ⟨x, _, rfl⟩ := List.mem_map.1 hc; exact hs x) j (by rw [hs] at hj; exact hj)
  rw [List.flatMap_map] at h1
  rw [← Array.getElem?_toList, hc]
  simpa using h1

theorem built4s : ∃ i, Try.prog.info? 9 = some i ∧ i.zero = some (.string ⟨#[]⟩) ∧ i.size = 1 := stringI
theorem built4i : ∃ i, Try.prog.info? 3 = some i ∧ i.zero = some (.int .i64 0) ∧ i.size = 1 := by
  have h : (Try.prog.info? 3).map (fun i => (i.zero, i.size)) = some (some (.int .i64 0), 1) := by kernel_rfl
  cases hi : Try.prog.info? 3 with
  | none => simp [hi] at h
  | some i => simp [hi] at h; exact ⟨i, rfl, h⟩
theorem wp_lit {P : Program} {o : Oper} {act : Act} {w : World} {K : Act → World → Prop} {Q : Exit → Act → World → Prop} (t e n : Nat) (parts : Array (Nat × Operand)) (cells : Array Value) (z : Value) (ho : o.op = .buildSlice t n parts) (hu : P.underlying t = some (.slice e)) (hi : ∃ i, P.info? e = some i ∧ i.zero = some z ∧ i.size = 1) (hn : n ≤ 1000) (hp : 0 < n)
    (hf : Instr.fill (fun i => some (i * 1, 1)) (Array.map (fun x => z.cells[x % z.cells.size]!) (Array.range (n * 1))) (Array.map (fun (ix : Nat × Operand) => (ix.1, act.eval ix.2)) parts).toList = some cells)
    (h : ∀ w', w'.heap[w.heap.size]? = some (.cells cells e (0, 0)) → Mod NoB w w' → w.heap.size < w'.heap.size → K (act.put o.dst (.slice (some ⟨w.heap.size, 0, none⟩) n n)) w') : o.wp P act w K Q := by
  obtain ⟨i, hi, hz⟩ := hi
  refine wp_buildSlice t e n _ ho cells i z hu hi hz.1 (by rw [hz.2]; simp; omega) (by rw [hz.2]; simp; omega) ?_ ?_
  · simp only [hz.2]
    exact hf
  · exact h _ (heap_alloc_new _ _) (mod_alloc _ _) (by simp)

theorem wpPi_subR {P : Program} {ops : Array Oper} {Q : Exit → Act → World → Prop} {S : World → Prop} {o : Oper} {r : List (Oper × Nat)} {a : Act} {w : World} (t : TypeId) (x y : Operand) (yt : TypeId) (m n d : Int) (hw : Region.wanted o (yielded ops a.tmps) = true) (ho : o.op = .binOp .sub t x y yt) (hx : a.eval x = .int .i64 m) (hy : a.eval y = .int .i64 n)
    (hd : m - n = d) (h1 : -9223372036854775808 ≤ d) (h2 : d ≤ 9223372036854775807) (h : wpPi P ops Q S r (a.put o.dst (.int .i64 d)) w) : wpPi P ops Q S ((o, 3) :: r) a w := by
  subst hd
  exact wpPi_sub t x y yt m n hw ho hx hy h1 h2 h
theorem nat_of {x m : Int} (h : 0 ≤ x ∧ x < m) : ∃ k : Nat, x = (k : Int) ∧ (k : Int) < m := ⟨x.toNat, by omega, by omega⟩
end Go.Proofs.Ytcfcahflkhgapaa
