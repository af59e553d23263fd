/- slices.Collect of a sequence of keys. -/
import Derived.Test.YtcfcahflkhgapaaGreatSeqB
import Derived.RangeFuncBox
import Derived.RangeFuncBound
namespace Go.Proofs.YtcfcahflkhgapaaGreat
set_option linter.unusedSimpArgs false
set_option linter.unusedVariables false
set_option linter.unnecessarySimpa false
set_option linter.unusedSectionVars false
open Go.RowKit Go.Shelf

theorem key_i : (Tryz.prog.info? 67).map (fun i => (i.zero, i.size, i.bytes)) = some (some (.agg keyZero), 33, 48) := by kernel_rfl
def keyL (k : KeyS) : List Value := (keyCells k.1).toList
theorem keyL_one (k : KeyS) : ∀ c ∈ keyL k, c.oneCell' = true := fun c hc => keyCells_one k.1 c (by simpa [keyL] using hc)
theorem keyL_len (k : KeyS) : (keyL k).length = 33 := by simp [keyL, keyCells_size k.2]

theorem ownsRow_mod {S : Nat → Prop} {w w' : World} {base e size k : Nat} {v : Value} {xs : List Value} (h : w.ownsRow base e size v k xs) (hm : Mod S w w') (hS : ∀ k, v.ownBlock = some k → ¬ S k) : w'.ownsRow base e size v k xs := by
  refine ⟨h.1, ?_⟩
  rcases h.2 with h | ⟨g, cap, cur, rfl, hb, hg, r⟩
  · exact .inl h
  · exact .inr ⟨g, cap, cur, rfl, hb, hm.obj (hS g rfl) hg, r⟩
def GotK (n0 : Nat) (Bs : Nat) (ks : List KeyS) (w : World) : Prop := ∃ v, Boxed w Bs 85 v ∧ w.ownsRow n0 67 33 v ks.length (ks.flatMap keyL)
theorem gotK_own (n0 Bs : Nat) : Own (GotK n0 Bs) := by
  intro s A B row hs hg hr
  obtain ⟨v, h1, h2⟩ := hs
  obtain ⟨v, h1, h2, _⟩ := holdsRow_own n0 Bs 85 67 33 (fun ks : List KeyS => ks.length) (fun ks => ks.flatMap keyL) (fun _ _ => True) s A B row ⟨v, h1, h2, trivial⟩ hg hr
  exact ⟨v, h1, h2⟩
def AxK (fv : Value) (Bs : Nat) (x : KeyS) (a : Act) (w : World) : Prop := ∃ Bx, w.heap[Bx]? = some (.cells (keyCells x.1) 67 (0, 0)) ∧ a = { tmps := #[.slice none 0 0, fv, .pointer (some ⟨Bs, 0, none⟩), undef, .slice none 0 0, .pointer (some ⟨Bx, 0, none⟩), fv, keyE x, undef, undef, undef, undef, undef], defers := [] }

set_option maxRecDepth 10000 in
set_option maxHeartbeats 4000000 in
theorem appendSeqK_any (n : Nat) (hn : 3 ≤ n) (g : Nat) (lb : Array Value) (eg : ∀ args w, (callFunc g args).run Tryz.prog w = .ok (.enter g args) w) (S Sp : List KeyS → Prop) (N : Nat) (hN : N ≤ 65536) (w : World) (hseq : SeqStopsK Fence.wide (n - 1) Tryz.prog g lb (fun k : KeyS => #[keyE k]) KeepsWalks S Sp N w) :
    Calls Tryz.prog 81 #[.slice none 0 0, .func (.func g) #[] lb] w fun e w' => ∃ v ks, e = .returned v ∧ S ks ∧ w'.ownsRow w.heap.size 67 33 v ks.length (ks.flatMap keyL) ∧ Below w.heap.size w w' := by
  refine (callsIn_wide (n := n)).1 (callsIn_of_wp_marks Tryz.func81 rfl trivial ?_ rfl)
  simp only [Tryz.ntmps81, List.size_toArray, List.length_cons, List.length_nil, Nat.reduceAdd, Nat.reduceSub, Array.replicate_succ, Array.replicate_zero, List.push_toArray, List.append_toArray, List.nil_append, List.cons_append]
  gi_wp2
  obtain ⟨W0, hW0⟩ : ∃ W0, w.alloc (.cells #[.slice none 0 0] 85) = W0 := ⟨_, rfl⟩
  have hs0 : W0.heap.size = w.heap.size + 1 := by rw [← hW0]; simp
  have hv0 : Boxed W0 w.heap.size 85 (.slice none 0 0) := by rw [← hW0]; exact World.alloc_heap_new w _
  have hb0 : Below w.heap.size w W0 := by rw [← hW0]; exact (Below.refl _ w).alloc (Nat.le_refl _) _
  rw [hW0]
  clear hW0
  refine wpIn_rangeFunc_ownH rfl (by omega) (gf := g) (lb := lb) (by rfl) trivial eg hseq walksK_t walksK_b hb0 (fun _ => rfl)
    (fun ks W => GotK w.heap.size w.heap.size ks W ∧ Below w.heap.size w W) (fun _ _ _ => False)
    (OwnFrom.and (Own.from (gotK_own _ _) _) (ownFrom_below (Nat.le_refl _) (by omega)))
    (fun _ _ _ _ _ hs _ _ => hs)
    ⟨⟨_, hv0, World.ownsRow_nil _ _ _ _⟩, hb0⟩
    (AxK (.func (.func g) #[] lb) w.heap.size)
    (fun x a' s A B row hs hg hr => by
      obtain ⟨Bx, h1, rfl⟩ := hs
      refine ⟨Bx, (hg.block Bx (Array.getElem?_eq_some_iff.1 h1).1 (fun e => ?_)).trans h1, rfl⟩
      obtain ⟨_, o, ho, hc⟩ := hr Bx e.symm
      rw [h1] at ho; cases ho; cases hc)
    ?assign ?body ?done ?stop
  case assign =>
    rintro l pre x W K ⟨⟨v, hv, hrow⟩, hB⟩ hK0
    simp only [List.zip_toArray, List.zip_cons_cons, List.zip_nil_right, List.foldl_toArray', List.foldl_cons, List.foldl_nil, List.setIfInBounds_toArray, ss, sz]
    refine wpIn_region_lit ?_
    refine wpListIn_rnd rfl rfl fun K hK => ?_
    refine wp_alloc 67 _ (by rfl) keyZ (fun w3 hB3 hm3 hs3 => ?_)
    replace hB3 : w3.heap[W.heap.size]? = some (.cells keyZero 67 (0, 0)) := hB3
    refine hK _ _ ?_
    clear hK K
    refine wpListIn_rnd rfl rfl fun K hK => ?_
    refine wp_storeA 67 _ _ W.heap.size 0 (keyCells x.1) (by rfl) (by rfl) (by rfl) (keyCells_one x.1) 33 (by kernel_rfl) (keyCells_size x.2) _ _ hB3 (by rw [keyCells_size x.2]; exact Nat.le_of_eq (by kernel_rfl)) (fun w4 hB4 hm4 => ?_)
    have hm24 : Mod NoB W w4 := hm3.transB hm4 (Nat.le_refl _)
    rw [putRow_whole (by rw [keyCells_size x.2]; kernel_rfl)] at hB4
    refine hK _ _ ?_
    clear hK K
    refine wpListIn_nil ?_
    refine hK0 _ _ (hm24.keepsOthers0.from _) hm24.keepsOthers0.walks ⟨⟨v, hm24.obj id hv, ownsRow_mod hrow hm24 (fun _ _ => id)⟩, hB.trans (hm24.below0.mono hB.size)⟩ ⟨W.heap.size, hB4, rfl⟩
  case body =>
    rintro l pre x a' W hl ⟨r, hr⟩ ⟨⟨v, hv, hrow⟩, hB⟩ ⟨Bx, hBx, rfl⟩ hlt
    have hvc := hv.cell
    have hca : CellsAt W Bx 0 (keyCells x.1) := CellsAt.whole hBx
    refine wpIn_block ?_
    refine wpIn_region_lit ?_
    refine wpListIn_rnd rfl rfl fun K hK => ?_
    refine wp_exec (exec_load1 85 _ (by rfl) w.heap.size 0 (by rfl) v hvc _ Tryz.underlying85 rfl) ?_
    refine hK _ _ ?_
    clear hK K
    refine wpListIn_rnd rfl rfl fun K hK => ?_
    refine wp_exec (exec_loadA 67 _ (by rfl) Bx 0 (by rfl) (keyCells x.1) hca _ Tryz.underlying67 rfl 33 (by kernel_rfl) (keyCells_size x.2)) ?_
    refine hK _ _ ?_
    clear hK K
    simp only [pl, pn, el, ec, sz, ss, gz, gs, if_true, if_false, Bool.false_eq_true, Bool.not_true, Bool.not_false, Nat.add_zero, Nat.zero_add, Nat.reduceAdd]
    refine wpListIn_rnd rfl rfl fun K hK => ?_
    refine wp_buildSlice1 85 67 _ (.agg (keyCells x.1)) (.agg keyZero) 33 (by rfl) (by rfl) Tryz.underlying85 (by kernel_rfl) (by omega) (by omega) (keyCells_size x.2) (fun w3 hB3 hm3 hs3 => ?_)
    refine hK _ _ ?_
    clear hK K
    simp only [pl, pn, el, ec, sz, ss, gz, gs, if_true, if_false, Bool.false_eq_true, Bool.not_true, Bool.not_false, Nat.add_zero, Nat.zero_add, Nat.reduceAdd]
    have hv3 : Boxed w3 w.heap.size 85 v := hm3.obj id hv
    have hrow3 := ownsRow_mod hrow hm3 (fun _ _ => id)
    have hb3 := hm3.below0.mono hB.size
    have hsz := hB.size
    have hplen := hlt
    refine wpListIn_rnd rfl rfl fun K hK => ?_
    refine wp_append _ _ 85 67 (.agg keyZero) 33 48 (by rfl) Tryz.underlying85 key_i (by kernel_rfl) (by omega) w.heap.size v pre.length (pre.flatMap keyL) (by rfl) hrow3 (.slice (some ⟨W.heap.size, 0, none⟩) 1 1) 1 (keyL x) (by rfl) ⟨by simp [keyL_len], _, _, rfl, fun _ => ⟨W.heap.size, 0, rfl, fun j y hj => ?_⟩⟩ (keyL_one x) (by unfold maxLen; omega) (by omega) (by omega) (fun v' w4 hrow4 hg4 hv4 => ?_)
    · have : (keyCells x.1)[j]? = some y := by simpa [keyL] using hj
      exact (CellsAt.whole hB3).cell this
    have hne : some w.heap.size ≠ v.ownBlock := hv.not_row (by decide) hrow
    have hbx4 : Boxed w4 w.heap.size 85 v := hv3.kept hg4 hne
    have hv1 : v'.oneCell' = true := by
      rcases hrow4.2 with ⟨rfl, _⟩ | ⟨g, cap, cur, rfl, _⟩ <;> rfl
    refine hK _ _ ?_
    clear hK K
    simp only [pl, pn, el, ec, sz, ss, gz, gs, if_true, if_false, Bool.false_eq_true, Bool.not_true, Bool.not_false, Nat.add_zero, Nat.zero_add, Nat.reduceAdd]
    refine wpListIn_rnd rfl rfl fun K hK => ?_
    refine wp_store1 85 _ _ w.heap.size 0 v' (by rfl) (by rfl) (by rfl) hv1 (by kernel_rfl) _ _ hbx4 (by simp) (fun w5 hB5 hm5 => ?_)
    replace hB5 : Boxed w5 w.heap.size 85 v' := hB5
    refine hK _ _ ?_
    clear hK K
    refine wpListIn_nil ?_
    have hne' : some w.heap.size ≠ v'.ownBlock := hbx4.not_row (by decide) hrow4
    have hrow5 := ownsRow_mod hrow4 hm5 (fun k hk e => hne' (by rw [hk, e]))
    have hk4 : KeepsOthers w3 w4 := KeepsOthers.of_grownBy hg4 (fun j o hj ho => by
      rcases hrow3.2 with ⟨rfl, _⟩ | ⟨g, cap, cur, rfl, _, hg, _⟩
      · cases hj
      · have e : g = j := by simpa [Value.ownBlock] using hj
        subst e; rw [hg] at ho; cases ho; rfl)
    have hk5 : KeepsOthers w4 w5 := hm5.keepsOthers (fun k o e ho => by rw [e, hbx4] at ho; cases ho; rfl)
    have hko := (hm3.keepsOthers0.trans hk4).trans hk5
    have hb4 : Below w.heap.size w w4 := (hB.trans hb3).grown hg4 (by have := hm3.size; omega) (fun k e => (hrow3.lt k e).1)
    have hb5 : Below w.heap.size w w5 := hb4.trans ⟨hm5.os, hm5.tape, hm5.output, hm5.size, fun k hk => hm5.block k (by have := hb4.size; omega) (fun e => by have e : k = w.heap.size := e; omega)⟩
    exact ⟨hko.from _, hko.walks, ⟨_, hB5, by simpa using hrow5⟩, hb5⟩
  case done =>
    rintro D ks W hD hks ⟨⟨v, hv, hrow⟩, hB⟩ hK
    have hvc := hv.cell
    gi_wp2
    refine ⟨by simp, .inl ⟨_, _, rfl, run_takeDeferred hK, ?_⟩⟩
    exact ⟨_, results_tmp rfl _ _ _, v, ks, rfl, hks, ownsRow_putObj hrow _ hK rfl, hB.trans (belowK_b (w := w) (Nat.le_refl _) W D _ _ (by omega) hK rfl rfl)⟩
  case stop =>
    rintro D c pre W _ _ h _
    exact h.elim

theorem wide_fn (f : Nat) : Fence.wide.fn f := trivial
theorem collectK_any (n : Nat) (hn : 3 ≤ n) (g : Nat) (lb : Array Value) (eg : ∀ args w, (callFunc g args).run Tryz.prog w = .ok (.enter g args) w) (S Sp : List KeyS → Prop) (N : Nat) (hN : N ≤ 65536) (w : World) (hseq : SeqStopsK Fence.wide (n - 1) Tryz.prog g lb (fun k : KeyS => #[keyE k]) KeepsWalks S Sp N w) :
    Calls Tryz.prog 64 #[.func (.func g) #[] lb] w fun e w' => ∃ v ks, e = .returned v ∧ S ks ∧ w'.ownsRow w.heap.size 67 33 v ks.length (ks.flatMap keyL) ∧ Below w.heap.size w w' := by
  go_enter Tryz.func64, Tryz.ntmps64
  go_wp2_with (go_at_call 81; refine (appendSeqK_any n hn g lb eg S Sp N hN _ hseq).mono ?_; rintro _ w1 ⟨v, ks, rfl, h1, h2, h3⟩)
  go_ret
  exact ⟨v, ks, rfl, h1, h2, h3⟩
end Go.Proofs.YtcfcahflkhgapaaGreat
