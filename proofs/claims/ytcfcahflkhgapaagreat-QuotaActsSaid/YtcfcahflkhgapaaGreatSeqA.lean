/- A loop over a function's values: the steps that the other walks lack. -/
import Derived.Test.YtcfcahflkhgapaaGreatQI
import Derived.Test.YtcfcahflkhgapaaGreatCmpA
import Derived.RangeFuncGives
import Derived.RangeFuncLeaves
import Derived.RangeFuncCalls
import Derived.RangeFuncIn
import Derived.Maps.RangeRun
import Derived.RangeFuncNested
namespace Go.Proofs.YtcfcahflkhgapaaGreat
set_option linter.unusedSimpArgs false
set_option linter.unusedVariables false
set_option linter.unnecessarySimpa false
set_option linter.unusedSectionVars false
open Go.RowKit Go.Shelf

section
variable {P : Program} {o : Oper} {a : Act} {w : World} {K : Act → World → Prop} {Q : Exit → Act → World → Prop} {n : Nat}
theorem wpIn_of_wp (hd : ∀ c, o.op ≠ .defer c) (h : o.wp P a w K Q) : o.wpIn Fence.wide n P a w K Q := by
  unfold Oper.wpIn
  refine ⟨fun _ _ => trivial, ?_⟩
  rw [Oper.semAt_eq _ _ _ hd]
  unfold Oper.wp at h
  generalize (execOp a.eval o).run P w = r at h ⊢
  cases r with
  | halt x w' => cases x <;> simp only [Oper.upon, Oper.uponIn] at h ⊢ <;> exact h
  | ok x w' =>
    cases x <;> simp only [Oper.upon, Oper.uponIn] at h ⊢
    case value => exact h
    case skip => exact h
    case defer => exact h
    case enter f args =>
      refine ⟨fun h => by simp [Fence.wide] at h, callsIn_wide.2 (Calls.mono h fun e w'' he => ?_)⟩
      cases e <;> exact he
    case row row args => exact ⟨fun h => by simp [Fence.wide] at h, fun c cs _ => by obtain ⟨v, w', r, s⟩ := h c cs; exact ⟨v, w', r, stepsIn_wide.2 s⟩⟩
theorem wpIn_round_of_wp {l : Nat} (hd : ∀ c, o.op ≠ .defer c) (hr : ∀ row args w', (execOp a.eval o).run P w ≠ .ok (.row row args) w') (h : o.wp P a w K Q) : o.wpIn (Fence.wide.inRound l) n P a w K Q := by
  unfold Oper.wpIn
  refine ⟨fun _ _ => trivial, ?_⟩
  rw [Oper.semAt_eq _ _ _ hd]
  unfold Oper.wp at h
  generalize (execOp a.eval o).run P w = r at h hr ⊢
  cases r with
  | halt x w' => cases x <;> simp only [Oper.upon, Oper.uponIn] at h ⊢ <;> exact h
  | ok x w' =>
    cases x <;> simp only [Oper.upon, Oper.uponIn] at h ⊢
    case value => exact h
    case skip => exact h
    case defer => exact h
    case enter f args =>
      refine ⟨fun h => by simp [Fence.wide] at h, CallsIn.inRound l (callsIn_wide.2 (Calls.mono h fun e w'' he => ?_))⟩
      cases e <;> exact he
    case row row args => exact absurd rfl (hr _ _ _)

/-- A call of yield. -/
theorem wpIn_yield {l : Nat} {R : Ending → World → Prop} (x y : Operand) (ts : Array TypeId) (ho : o.op = .call { callee := .value x, args := #[y], argTypes := ts }) (hx : a.eval x = .func (.yield l) #[] #[]) (v : Value) (hv : a.eval y = v)
    (hy : YieldAt Fence.wide (n - 1) P l #[v] w R) (hR : ∀ e w', R e w' → ∃ v, e = .returned v ∧ K (a.put o.dst v) w') : o.wpIn Fence.wide n P a w K Q := by
  subst hv
  obtain ⟨fn, tmps, assign, body, hrun, hround⟩ := hy
  unfold Oper.wpIn
  refine ⟨fun _ _ => trivial, ?_⟩
  rw [Oper.semAt_eq _ _ _ (fun c h => by rw [ho] at h; cases h)]
  have e : (execOp a.eval o).run P w = .ok (.round l fn tmps assign body) w := by
    unfold execOp
    simp [ho, resolve, hx, Deferred.ofValue, invoke, hrun]
  rw [e]
  refine ⟨fun h => by simp [Fence.wide] at h, hround.mono fun e w' he => ?_⟩
  obtain ⟨v, rfl, hk⟩ := hR e w' he
  exact hk

/-! ### In a round -/
def rowlessOp : Op → Bool
  | .move _ | .assign _ | .alloc _ | .box _ _ | .build _ _ | .buildSlice _ _ _ | .load _ _ | .store _ _ _ | .binOp _ _ _ _ _ | .unOp _ _ _ | .fieldAddr _ _ _ | .field _ _ _ | .indexAddr _ _ _ | .index _ _ _ | .lookup _ _ _ _ | .mapUpdate _ _ _ _ | .range _ _ | .next _ _ | .entry _ | .slice _ _ _ _ _ | .convert _ _ _ | .makeFunc _ _ _ | .extract _ _ => true
  | .call c => match c.callee with | .builtin .append | .builtin .len | .builtin .delete => true | _ => false
  | _ => false
theorem rowless {P : Program} {o : Oper} {a : Act} {w : World} (h : rowlessOp o.op = true) : ∀ row args w', (execOp a.eval o).run P w ≠ .ok (.row row args) w' := by
  intro row args w'
  have hv : ∀ (s : Sem Value), (do pure (.value (← s)) : Sem Next).run P w ≠ .ok (.row row args) w' := fun s => by
    rw [Sem.run_bind]
    generalize s.run P w = r
    cases r <;> simp [Result.andThen]
  have hu : ∀ (s : Sem Unit), (do s; pure .skip : Sem Next).run P w ≠ .ok (.row row args) w' := fun s => by
    rw [Sem.run_bind]
    generalize s.run P w = r
    cases r <;> simp [Result.andThen]
  unfold execOp
  cases ho : o.op <;> simp only [ho, rowlessOp] at h ⊢ <;> first | exact hv _ | exact hu _ | (cases h; done) | skip
  case move => simp
  case assign => simp
  case call c =>
    split at h
    all_goals first | (cases h; done) | skip
    all_goals
      rename_i hc
      simp only [resolve, hc, invoke, builtin, Sem.run_bind, Sem.run_pure, Result.andThen_ok]
      generalize Sem.run P _ w = r
      cases r <;> simp [Result.andThen]
theorem wpListIn_rnd {P : Program} {l n : Nat} {ops : Array Oper} {Q : Exit → Act → World → Prop} {o : Oper} {rest : List Oper} {a : Act} {w : World} (hg : o.guard = none) (hr : rowlessOp o.op = true)
    (h : ∀ K : Act → World → Prop, (∀ a w, wpListIn (Fence.wide.inRound l) n P ops Q rest a w → K a w) → o.wp P a w K Q) : wpListIn (Fence.wide.inRound l) n P ops Q (o :: rest) a w :=
  wpListIn_plain hg fun K hK => wpIn_round_of_wp (fun c e => by rw [e] at hr; cases hr) (rowless hr) (h K hK)
theorem Mod.keepsOthers {S : Nat → Prop} {w w' : World} (h : Mod S w w') (hS : ∀ k o, S k → w.heap[k]? = some o → o.isCells = true) : KeepsOthers w w' :=
  ⟨h.size, fun k o hk ho => (h.obj (fun hs => by rw [hS k o hs hk] at ho; cases ho) hk)⟩
theorem Mod.keepsOthers0 {w w' : World} (h : Mod NoB w w') : KeepsOthers w w' := h.keepsOthers fun _ _ h => h.elim
theorem Mod.below0 {w w' : World} (h : Mod NoB w w') : Below w.heap.size w w' := h.below fun _ _ => id
theorem Mod.own {w : World} (B : Nat) (hB : w.heap.size ≤ B) {β : Type} : OwnFrom B (fun (_ : β) W => Mod NoB w W) := fun s W W' row hs hg hr =>
  hs.trans ⟨hg.os, hg.tape, hg.output, hg.size, fun k hk hn => hg.block k hk (fun e => hn e)⟩ (S' := fun k => some k = row) (fun k hk e => by have := (hr k e.symm).1; omega)
theorem Mod.grownNone {w w' : World} (h : Mod NoB w w') : w.grownBy w' none := ⟨h.os, h.tape, h.output, h.size, fun k hk _ => h.block k hk id⟩
theorem Mod.grownAt {w w' : World} {r : Nat} (h : Mod (fun k => k = r) w w') : w.grownBy w' (some r) := ⟨h.os, h.tape, h.output, h.size, fun k hk hn => h.block k hk (fun e => hn (by rw [e]))⟩
theorem Mod.of_grown {S : Nat → Prop} {w w' : World} {row : Option Nat} (h : w.grownBy w' row) (hr : ∀ r, row = some r → S r) : Mod S w w' := ⟨h.os, h.tape, h.output, h.size, fun k hk hn => h.block k hk (fun e => hn (hr k e.symm))⟩

/-! ### A map's iterator -/
theorem wp_rangeM (t kt et : TypeId) (x : Operand) (mb : Nat) (es : Array MapEntry) (clk : Nat) (ho : o.op = .range t x) (hx : a.eval x = .map (some mb)) (ht : P.underlying t = some (.map kt et)) (hb : w.heap[mb]? = some (.map es clk))
    (h : ∀ w', w'.heap[w.heap.size]? = some (.mapIter (some mb) clk #[] clk) → Mod NoB w w' → w.heap.size < w'.heap.size → K (a.put o.dst (.pointer (some ⟨w.heap.size, 0, none⟩))) w') : o.wp P a w K Q := by
  unfold Oper.wp execOp
  have hr : (Instr.range t (.map (some mb))).run P w = .ok (.pointer (some ⟨w.heap.size, 0, none⟩)) (w.alloc (.mapIter (some mb) clk #[] clk)) := by
    simp [Instr.range, run_underlying ht, newObj, getObj, Sem.run, hb]
  simp only [ho, hx, Sem.run_bind, hr, Result.andThen_ok, Sem.run_pure]
  exact h _ (heap_alloc_new _ _) (mod_alloc _ _) (by simp)

/-- An iterator that has handed out the entries xs. -/
def IterAt (w : World) (mb it : Nat) (es : Array MapEntry) (clk : Nat) (xs : List MapEntry) : Prop :=
  w.heap[mb]? = some (.map es clk) ∧ ∃ c0, clk ≤ c0 ∧ w.heap[it]? = some (.mapIter (some mb) clk ⟨xs.map (·.born)⟩ c0) ∧ (∀ x ∈ xs, x ∈ es.toList) ∧ (xs.map (·.born)).Nodup

theorem born_inj : ∀ {l : List MapEntry}, (l.map (·.born)).Nodup → ∀ {x y : MapEntry}, x ∈ l → y ∈ l → x.born = y.born → x = y := fun h x y hx hy e => nodup_inj (f := fun (e : MapEntry) => e.born) h hx hy e

theorem wp_nextM (x : Operand) (mb it : Nat) (es : Array MapEntry) (clk : Nat) (xs : List MapEntry) (ho : o.op = .next x false) (hx : a.eval x = .pointer (some ⟨it, 0, none⟩)) (hI : IterAt w mb it es clk xs) (hbo : ∀ x ∈ es.toList, x.born < clk) (hbn : (es.toList.map (·.born)).Nodup)
    (hDone : xs.Perm es.toList → K (a.put o.dst (.tuple #[.bool false])) w)
    (hMore : ∀ e w', e ∈ es.toList → IterAt w' mb it es clk (xs ++ [e]) → xs.length < es.size → Mod (fun j => j = it) w w' → w.heap.size = w'.heap.size → w'.heap[it]? = some (.mapIter (some mb) clk ((⟨xs.map (·.born)⟩ : Array Nat).push e.born) clk) → K (a.put o.dst (.tuple #[.bool true, e.key, e.val])) w') : o.wp P a w K Q := by
  obtain ⟨hb, c0, hc0, hit, hsub, hnd⟩ := hI
  have hne : it ≠ mb := by rintro rfl; rw [hb] at hit; cases hit
  have hseen : ∀ e : MapEntry, (⟨xs.map (·.born)⟩ : Array Nat).contains e.born = true ↔ e.born ∈ xs.map (·.born) := fun e => by simp [Array.contains_iff_mem]
  unfold Oper.wp execOp
  rcases run_next_at (P := P) w o.type it mb clk c0 ⟨xs.map (·.born)⟩ es clk hit hb hbo hc0 with ⟨h0, hrun⟩ | ⟨e, he, w1, hw1, hrun⟩
  · simp only [ho, hx, Sem.run_bind, hrun, Result.andThen_ok, Sem.run_pure]
    refine hDone ?_
    have hall : ∀ e ∈ es.toList, e ∈ xs := by
      intro e he
      have hnot : e ∉ (_root_.Go.leftOf es ⟨xs.map (·.born)⟩).toList := by
        have : _root_.Go.leftOf es ⟨xs.map (·.born)⟩ = #[] := Array.eq_empty_of_size_eq_zero h0
        rw [this]; simp
      have hin : e.born ∈ xs.map (·.born) := by
        rw [← hseen]
        unfold _root_.Go.leftOf at hnot
        simp only [Array.toList_filter, List.mem_filter, he, true_and] at hnot
        simpa using hnot
      obtain ⟨y, hy, e1⟩ := List.mem_map.1 hin
      exact born_inj hbn he (hsub y hy) e1.symm ▸ hy
    have hxs : xs.Nodup := (List.pairwise_map.1 hnd).imp fun hne e => hne (by rw [e])
    have hes : es.toList.Nodup := (List.pairwise_map.1 hbn).imp fun hne e => hne (by rw [e])
    exact (List.perm_ext_iff_of_nodup hxs hes).2 fun e => ⟨hsub e, hall e⟩
  · simp only [ho, hx, Sem.run_bind, hrun, Result.andThen_ok, Sem.run_pure]
    have heM : e ∈ es.toList ∧ e.born ∉ xs.map (·.born) := by
      unfold _root_.Go.leftOf at he
      simp only [Array.toList_filter, List.mem_filter] at he
      refine ⟨he.1, fun hin => ?_⟩
      have h2 : (!((⟨xs.map (·.born)⟩ : Array Nat).contains e.born)) = true := he.2
      rw [(hseen e).2 hin] at h2
      cases h2
    have h1 : w1.heap = w.heap := by rcases hw1 with rfl | rfl <;> rfl
    have hlt : it < w.heap.size := (Array.getElem?_eq_some_iff.1 hit).1
    have hnd' : ((xs ++ [e]).map (·.born)).Nodup := by
      rw [List.map_append, List.nodup_append]
      exact ⟨hnd, by simp, by intro x hx y hy; simp at hy; subst hy; rintro rfl; exact heM.2 hx⟩
    have hit' : (ChangeMaps.setBlock w1 it (.mapIter (some mb) clk ((⟨xs.map (·.born)⟩ : Array Nat).push e.born) clk)).heap[it]? = some (.mapIter (some mb) clk ((⟨xs.map (·.born)⟩ : Array Nat).push e.born) clk) := by
      simp [ChangeMaps.setBlock, h1, hlt]
    have hoth : ∀ j, j ≠ it → (ChangeMaps.setBlock w1 it (.mapIter (some mb) clk ((⟨xs.map (·.born)⟩ : Array Nat).push e.born) clk)).heap[j]? = w.heap[j]? := fun j hj => by
      simp [ChangeMaps.setBlock, h1, Array.getElem?_setIfInBounds, Ne.symm hj]
    have hmem : ∀ x ∈ xs ++ [e], x ∈ es.toList := fun x hx => by
      rcases List.mem_append.1 hx with hx | hx
      · exact hsub x hx
      · simp at hx; subst hx; exact heM.1
    refine hMore e _ heM.1 ⟨(hoth mb (Ne.symm hne)).trans hb, clk, Nat.le_refl _, by rw [hit']; simp, hmem, hnd'⟩ ?_ ⟨?_, ?_, ?_, ?_, fun j _ hj => hoth j hj⟩ ?_ hit'
    · have := length_le_of_sub (l := (xs ++ [e]).map (·.born)) (m := es.toList.map (·.born)) hnd' (fun b hb => by
        obtain ⟨x, hx, rfl⟩ := List.mem_map.1 hb
        exact List.mem_map.2 ⟨x, hmem x hx, rfl⟩)
      simp at this; omega
    · rcases hw1 with rfl | rfl <;> rfl
    · rcases hw1 with rfl | rfl <;> rfl
    · rcases hw1 with rfl | rfl <;> rfl
    · simp [ChangeMaps.setBlock, h1]
    · simp [ChangeMaps.setBlock, h1]
theorem exec_entryM (x : Operand) (mb it : Nat) (es : Array MapEntry) (clk : Nat) (e : MapEntry) (seen : Array Nat) (ho : o.op = .entry x) (hx : a.eval x = .pointer (some ⟨it, 0, none⟩)) (hb : w.heap[mb]? = some (.map es clk)) (hit : w.heap[it]? = some (.mapIter (some mb) clk (seen.push e.born) clk)) (he : e ∈ es.toList) (hbn : (es.toList.map (·.born)).Nodup) :
    (execOp a.eval o).run P w = .ok (.value (.tuple #[e.key, e.val])) w := by
  unfold execOp
  simp only [ho, hx, Sem.run_bind, run_entry_at (P := P) w it mb clk seen es clk e hit hb he hbn, Result.andThen_ok, Sem.run_pure]
end
end Go.Proofs.YtcfcahflkhgapaaGreat
