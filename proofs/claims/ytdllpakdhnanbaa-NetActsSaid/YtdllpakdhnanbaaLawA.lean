/- The statements' own small functions: from, sends, takes. -/
import Derived.Test.YtdllpakdhnanbaaNetK
import Derived.Great.BuildSlice
import Derived.Test.YtdllpakdhnanbaaSame2
namespace Go.Proofs.Ytdllpakdhnanbaa
set_option linter.unusedSimpArgs false
set_option linter.unusedVariables false
set_option linter.unnecessarySimpa false
open Go.RowKit

def fromL (a b : Int) : Ltr := ⟨2, a, b, [0, 0], [], 0, 0, List.replicate 32 0, []⟩

theorem fromL_ok (a b : Int) : LtrOk (fromL a b) := ⟨by simp [fromL], by simp [fromL], by simp [fromL], by simp [fromL]⟩

theorem built_from (a b : Int) (blk : Nat) : Try.prog.built 38 [(0, .int .i64 2), (1, .int .i64 a), (2, .int .i64 b), (3, .slice (some ⟨blk, 0, none⟩) 2 2)] = some (ltrCells (fromL a b) (.slice (some ⟨blk, 0, none⟩) 2 2) (.slice none 0 0) (.slice none 0 0)) := by kernel_rfl
theorem exec_build_from {w : World} {o : Oper} {act : Act} (x y z : Operand) (a b : Int) (blk : Nat) (ho : o.op = .build 38 #[(0, .const (.int .i64 2)), (1, x), (2, y), (3, z)]) (hx : act.eval x = .int .i64 a) (hy : act.eval y = .int .i64 b) (hz : act.eval z = .slice (some ⟨blk, 0, none⟩) 2 2) :
    (execOp act.eval o).run Try.prog w = .ok (.value (.agg (ltrCells (fromL a b) (.slice (some ⟨blk, 0, none⟩) 2 2) (.slice none 0 0) (.slice none 0 0)))) w := by
  unfold execOp
  simp only [ho]
  have h := run_build (P := Try.prog) w 38 #[(0, .int .i64 2), (1, .int .i64 a), (2, .int .i64 b), (3, .slice (some ⟨blk, 0, none⟩) 2 2)] _ (built_from a b blk)
  have e : (Array.map (fun (x : Nat × Operand) => (x.1, act.eval x.2)) #[(0, .const (.int .i64 2)), (1, x), (2, y), (3, z)]) = #[(0, .int .i64 2), (1, .int .i64 a), (2, .int .i64 b), (3, .slice (some ⟨blk, 0, none⟩) 2 2)] := by
    have hc : act.eval (.const (.int .i64 2)) = .int .i64 2 := rfl
    simp only [List.map_toArray, List.map_cons, List.map_nil, hx, hy, hz, hc]
  simp only [e, Sem.run_bind, h, Result.andThen_ok, Sem.run_pure]

theorem fill_two (a b : Int) : Instr.fill (fun i => some (i * 1, 1)) (Array.map (fun x => (Value.int .i64 0).cells[x % (Value.int .i64 0).cells.size]!) (Array.range (2 * 1))) [(0, .int .i64 a), (1, .int .i64 b)] = some #[.int .i64 a, .int .i64 b] := by kernel_rfl
theorem wp_two {o : Oper} {act : Act} {w : World} {K : Act → World → Prop} {Q : Exit → Act → World → Prop} (x y : Operand) (a b : Int) (ho : o.op = .buildSlice 30 2 #[(0, x), (1, y)]) (hx : act.eval x = .int .i64 a) (hy : act.eval y = .int .i64 b)
    (h : ∀ w', w'.heap[w.heap.size]? = some (.cells #[.int .i64 a, .int .i64 b] 3 (0, 0)) → Mod NoB w w' → w.heap.size < w'.heap.size → K (act.put o.dst (.slice (some ⟨w.heap.size, 0, none⟩) 2 2)) w') : o.wp Try.prog act w K Q := by
  obtain ⟨i, hi, hz⟩ : ∃ i, Try.prog.info? 3 = some i ∧ i.zero = some (.int .i64 0) ∧ i.size = 1 := by
    have h : (Try.prog.info? 3).map (fun i => (i.zero, i.size)) = some (some (.int .i64 0), 1) := by kernel_rfl
    cases hi : Try.prog.info? 3 with
    | none => simp [hi] at h
    | some i => simp [hi] at h; exact ⟨i, rfl, h⟩
  refine wp_buildSlice 30 3 2 _ ho #[.int .i64 a, .int .i64 b] i (.int .i64 0) Try.underlying30 hi hz.1 (by rw [hz.2]; omega) (by rw [hz.2]; omega) ?_ ?_
  · simp only [hz.2]
    have e : (Array.map (fun (x : Nat × Operand) => (x.1, act.eval x.2)) #[(0, x), (1, y)]) = #[(0, .int .i64 a), (1, .int .i64 b)] := by simp [hx, hy]
    have e' : (Array.map (fun (ix : Nat × Operand) => match ix with | (i, x) => (i, act.eval x)) #[(0, x), (1, y)]) = #[(0, .int .i64 a), (1, .int .i64 b)] := e
    rw [e']
    exact fill_two a b
  · exact h _ (heap_alloc_new _ _) (mod_alloc _ _) (by simp)

theorem Sl.two {w : World} {blk : Nat} {a b : Int} (h : w.heap[blk]? = some (.cells #[.int .i64 a, .int .i64 b] 3 (0, 0))) : Sl true w (fun k => k = blk) 1 IntC (.slice (some ⟨blk, 0, none⟩) 2 2) [a, b] := by
  refine ⟨_, 2, rfl, Nat.le_refl _, by decide, fun _ => ⟨blk, 0, rfl, rfl, fun _ => ⟨_, _, h⟩, fun i hi => ?_⟩⟩
  match i, hi with
  | 0, _ => exact ⟨_, rfl, rfl, CellsAt.one.2 (by rw [cell_of_row _ _ _ _ _ _ h]; rfl)⟩
  | 1, _ => exact ⟨_, rfl, rfl, CellsAt.one.2 (by rw [cell_of_row _ _ _ _ _ _ h]; rfl)⟩

set_option maxRecDepth 10000 in
set_option maxHeartbeats 400000 in
theorem from_any (a b : Int) (w : World) : Calls Try.prog 23 #[.int .i64 a, .int .i64 b] w (RetN w (IsCopy w (fromL a b))) := by
  go_enter Try.func23, Try.ntmps23
  go_upto_region 0 with (fail)
  refine wp_region_seq [1] (fun _ => True) (by rfl) (by rfl) trivial ?_
  simp only [List.zip_cons_cons, List.zip_nil_right]
  refine wpPi_do rfl (fun K hK => ?_)
  refine wp_alloc 38 ltrZero (by rfl) zero38 (fun w1 hB1 hM hs1 => ?_)
  replace hB1 : w1.heap[w.heap.size]? = some (.cells zeroLet 38 (0, 0)) := hB1
  refine hK _ _ trivial ?_
  clear hK K
  try simp only [pl, pn, el, ec, sz, ss, gz, gs, if_true, if_false, Bool.false_eq_true, Bool.not_true, Bool.not_false, Nat.add_zero, Nat.zero_add, Nat.reduceAdd]
  refine wpPi_nil ?_
  obtain ⟨cs, hcs⟩ : ∃ cs, cs = ltrCells (fromL a b) (.slice (some ⟨w1.heap.size, 0, none⟩) 2 2) (.slice none 0 0) (.slice none 0 0) := ⟨_, rfl⟩
  have HC := Lib.hid hcs
  have hsz : cs.size = 40 := by rw [hcs]; exact (ltrCells_spec _ _ _ _ (by simp [fromL])).size
  have hone := ltrCells_one (fromL a b) (.slice (some ⟨w1.heap.size, 0, none⟩) 2 2) (.slice none 0 0) (.slice none 0 0) rfl rfl rfl
  rw [← hcs] at hone
  clear hcs
  have hz : zeroLet.size = 40 := (ltrCells_spec ltr0 _ _ _ (by rfl)).size
  go_upto_region 1 with (fail)
  refine wp_region_seq [3, 3, 1, 1, 1] (fun _ => True) (by rfl) (by rfl) trivial ?_
  simp only [List.zip_cons_cons, List.zip_nil_right]
  refine wpPi_move _ rfl rfl ?_
  simp only [pl, pn, el, ec, sz, ss, gz, gs, if_true, if_false, Bool.false_eq_true, Bool.not_true, Bool.not_false, Nat.add_zero, Nat.zero_add, Nat.reduceAdd]
  refine wpPi_move _ rfl rfl ?_
  simp only [pl, pn, el, ec, sz, ss, gz, gs, if_true, if_false, Bool.false_eq_true, Bool.not_true, Bool.not_false, Nat.add_zero, Nat.zero_add, Nat.reduceAdd]
  refine wpPi_do rfl (fun K hK => ?_)
  refine wp_two _ _ 0 0 (by rfl) (by rfl) (by rfl) (fun w2 hB2 hm2 hs2 => ?_)
  replace hB1 := hm2.obj id hB1
  replace hM := hM.trans0 hm2
  refine hK _ _ trivial ?_
  clear hK K
  try simp only [pl, pn, el, ec, sz, ss, gz, gs, if_true, if_false, Bool.false_eq_true, Bool.not_true, Bool.not_false, Nat.add_zero, Nat.zero_add, Nat.reduceAdd]
  refine wpPi_do rfl (fun K hK => ?_)
  refine wp_exec (v := .agg cs) (by rw [HC.out]; exact exec_build_from _ _ _ a b w1.heap.size rfl rfl rfl rfl) ?_
  refine hK _ _ trivial ?_
  clear hK K
  try simp only [pl, pn, el, ec, sz, ss, gz, gs, if_true, if_false, Bool.false_eq_true, Bool.not_true, Bool.not_false, Nat.add_zero, Nat.zero_add, Nat.reduceAdd]
  refine wpPi_do rfl (fun K hK => ?_)
  refine wp_storeA 38 _ _ w.heap.size 0 cs (by rfl) (by rfl) (by rfl) hone 40 (by kernel_rfl) hsz _ _ hB1 (by rw [hsz, hz]; exact Nat.le_refl _) (fun w3 hB3 hm3 => ?_)
  rw [putRow_whole (by rw [hsz, hz])] at hB3
  replace hB2 := hm3.objB (by omega) hB2
  replace hM := hM.transB hm3 (by omega)
  have hs3 := hm3.size
  refine hK _ _ trivial ?_
  clear hK K
  try simp only [pl, pn, el, ec, sz, ss, gz, gs, if_true, if_false, Bool.false_eq_true, Bool.not_true, Bool.not_false, Nat.add_zero, Nat.zero_add, Nat.reduceAdd]
  refine wpPi_nil ?_
  go_wp2
  refine bodyPost_ret (results_cell_row rfl _ _ w.heap.size _ _ _ _ (by rfl) hB3 Try.underlying38 rfl (by rw [hsz]; kernel_rfl)) rfl ?_
  refine ⟨_, rfl, hM, _, NoB, fun k => k = w1.heap.size, rfl, ⟨_, _, _, HC.out, by simp [fromL], Sl.two hB2, Sl.nil _ _ _ _ _, Sl.nil _ _ _ _ _⟩, fun k hk => False.elim hk, fun k hk => ?_, fun k hk => False.elim hk⟩
  have e : k = w1.heap.size := hk
  exact ⟨by omega, by omega⟩

theorem Sl.lt {α : Type} {own : Bool} {w : World} {G : Nat → Prop} {sz : Nat} {R : Array Value → α → Prop} {v : Value} {l : List α} (h : Sl own w G sz R v l) (hsz : 0 < sz) : Sl own w (fun k => G k ∧ k < w.heap.size) sz R v l := by
  obtain ⟨a, cap, hv, hl, hc, h⟩ := h
  refine ⟨a, cap, hv, hl, hc, fun hne => ?_⟩
  obtain ⟨b, off, ha, hG, ho, h⟩ := h hne
  have hb : b < w.heap.size := by
    obtain ⟨cs, hs, _, hc⟩ := h 0 (List.length_pos_iff.2 hne)
    have := hc 0 (by omega)
    rw [Array.getElem?_eq_getElem (by omega)] at this
    exact block_lt_of_cell this
  exact ⟨b, off, ha, ⟨hG, hb⟩, ho, h⟩
theorem EvR.lt {own : Bool} {w : World} {G : Nat → Prop} {cs : Array Value} {e : Evt} (h : EvR own w G cs e) : EvR own w (fun k => G k ∧ k < w.heap.size) cs e := by
  obtain ⟨dv, rv, hc, hi, h1, h2, h3⟩ := h
  exact ⟨dv, rv, hc, hi, h1.lt (by omega), h2.lt (by omega), h3⟩
/-- The memory of a letter is there. -/
theorem LetR.lt {own : Bool} {w : World} {E G : Nat → Prop} {cs : Array Value} {l : Ltr} (h : LetR own w E G cs l) : LetR own w (fun k => E k ∧ k < w.heap.size) (fun k => G k ∧ k < w.heap.size) cs l := by
  obtain ⟨sv, ev, bv, hc, hi, h1, h2, h3⟩ := h
  exact ⟨sv, ev, bv, hc, hi, h1.lt (by omega), (h2.lt (by omega)).mono (fun _ h => h) (fun _ _ h => h.lt), h3.lt (by omega)⟩
/-- A letter stays where what turns is not its own. -/
theorem LetR.stay {own : Bool} {w w' : World} {E G S : Nat → Prop} {cs : Array Value} {l : Ltr} (h : LetR own w E G cs l) (hm : Mod S w w') (hd : ∀ k, k < w.heap.size → E k ∨ G k → ¬ S k) : LetR own w' E G cs l :=
  (h.lt.keep hm (fun k hk => hd k hk.2 (.inl hk.1)) (fun k hk => hd k hk.2 (.inr hk.1))).mono (fun _ h => h.1) (fun _ h => h.1)

theorem beq_dec (a b : Int) : (a == b) = decide (a = b) := rfl

section
variable {w0 w : World} {p : Value} {N : Ns} {F : Nat → Prop}

set_option maxRecDepth 10000 in
set_option maxHeartbeats 400000 in
theorem sends_at (h : NetAt w0 w p N F) (hl : 0 ≤ N.lost ∧ N.lost ≤ 1000000000) (own : Bool) (E G : Nat → Prop) (cs : Array Value) (l : Ltr) (hlet : LetR own w E G cs l) (hok : LtrOk l) (want : Bool) (err : Int) :
    Calls Try.prog 22 #[p, .agg cs, .bool want, .int .i64 err] w fun e w' => e = .returned (.bool (decide (sendB N l = want ∧ sendE N l = err))) ∧ Step w0 w p F w' (sendN N l) := by
  have hsz := hlet.size
  obtain ⟨sb, hsb⟩ : ∃ sb, sb = sendB N l := ⟨_, rfl⟩
  obtain ⟨se, hse⟩ : ∃ se, se = sendE N l := ⟨_, rfl⟩
  rw [← hsb, ← hse]
  have HB := Lib.hid hsb; have HE := Lib.hid hse; clear hsb hse
  go_enter Try.func22, Try.ntmps22
  go_upto_region 0 with (fail)
  refine wp_region_seq [1, 3] (fun _ => True) (by rfl) (by rfl) trivial ?_
  simp only [List.zip_cons_cons, List.zip_nil_right]
  refine wpPi_do rfl (fun K hK => ?_)
  refine wp_box 38 _ _ (by rfl) (by rfl) (fun w1 hB0 hM hs1 => ?_)
  replace hB0 : w1.heap[w.heap.size]? = some (.cells cs 38 (0, 0)) := hB0
  refine hK _ _ trivial ?_
  clear hK K
  try simp only [pl, pn, el, ec, sz, ss, gz, gs, if_true, if_false, Bool.false_eq_true, Bool.not_true, Bool.not_false, Nat.add_zero, Nat.zero_add, Nat.reduceAdd]
  refine wpPi_assign _ rfl rfl ?_
  simp only [pl, pn, el, ec, sz, ss, gz, gs, if_true, if_false, Bool.false_eq_true, Bool.not_true, Bool.not_false, Nat.add_zero, Nat.zero_add, Nat.reduceAdd]
  refine wpPi_nil ?_
  have hS := send_at (h.keep0 hM) hl own E G cs l (hlet.keep0 hM) hok
  rw [← HB.out, ← HE.out] at hS
  go_upto_region 1 with (fail)
  refine wp_region_seq [3, 1, 1, 3, 1, 1, 3, 3] (fun _ => True) (by rfl) (by rfl) trivial ?_
  simp only [List.zip_cons_cons, List.zip_nil_right]
  refine wpPi_move _ rfl rfl ?_
  simp only [pl, pn, el, ec, sz, ss, gz, gs, if_true, if_false, Bool.false_eq_true, Bool.not_true, Bool.not_false, Nat.add_zero, Nat.zero_add, Nat.reduceAdd]
  refine wpPi_do rfl (fun K hK => ?_)
  refine wp_exec (exec_loadA 38 _ (by rfl) w.heap.size 0 (by rfl) _ (CellsAt.whole hB0) _ Try.underlying38 rfl 40 (by kernel_rfl) hsz) ?_
  refine hK _ _ trivial ?_
  clear hK K
  try simp only [pl, pn, el, ec, sz, ss, gz, gs, if_true, if_false, Bool.false_eq_true, Bool.not_true, Bool.not_false, Nat.add_zero, Nat.zero_add, Nat.reduceAdd]
  refine wpPi_do rfl (fun K hK => ?_)
  go_wp2_with (go_at_call 12; refine hS.mono ?_; rintro _ w2 ⟨rfl, h2⟩)
  replace h2 := h2.trans0 hM
  refine hK _ _ trivial ?_
  clear hK K
  try simp only [pl, pn, el, ec, sz, ss, gz, gs, if_true, if_false, Bool.false_eq_true, Bool.not_true, Bool.not_false, Nat.add_zero, Nat.zero_add, Nat.reduceAdd]
  refine wpPi_move _ rfl rfl ?_
  simp only [pl, pn, el, ec, sz, ss, gz, gs, if_true, if_false, Bool.false_eq_true, Bool.not_true, Bool.not_false, Nat.add_zero, Nat.zero_add, Nat.reduceAdd]
  refine wpPi_do rfl (fun K hK => ?_)
  go_wp2
  refine hK _ _ trivial ?_
  clear hK K
  try simp only [pl, pn, el, ec, sz, ss, gz, gs, if_true, if_false, Bool.false_eq_true, Bool.not_true, Bool.not_false, Nat.add_zero, Nat.zero_add, Nat.reduceAdd]
  refine wpPi_do rfl (fun K hK => ?_)
  go_wp2
  refine hK _ _ trivial ?_
  clear hK K
  try simp only [pl, pn, el, ec, sz, ss, gz, gs, if_true, if_false, Bool.false_eq_true, Bool.not_true, Bool.not_false, Nat.add_zero, Nat.zero_add, Nat.reduceAdd]
  refine wpPi_assign _ rfl rfl ?_
  simp only [pl, pn, el, ec, sz, ss, gz, gs, if_true, if_false, Bool.false_eq_true, Bool.not_true, Bool.not_false, Nat.add_zero, Nat.zero_add, Nat.reduceAdd]
  refine wpPi_assign _ rfl rfl ?_
  simp only [pl, pn, el, ec, sz, ss, gz, gs, if_true, if_false, Bool.false_eq_true, Bool.not_true, Bool.not_false, Nat.add_zero, Nat.zero_add, Nat.reduceAdd]
  refine wpPi_nil ?_
  clear HB HE
  cases sb <;> cases want
  all_goals
    go_wp2
    go_ret
    first
      | exact ⟨ret_bool (beq_dec _ _), h2⟩
      | exact ⟨ret_bool (Eq.symm (decide_eq_false (by simp))), h2⟩

set_option maxRecDepth 10000 in
set_option maxHeartbeats 400000 in
theorem takes_at (h : NetAt w0 w p N F) (own : Bool) (E G : Nat → Prop) (cs : Array Value) (l : Ltr) (hlet : LetR own w E G cs l) (hd : ∀ k, E k ∨ G k → ¬ F k) (i err : Int) :
    Calls Try.prog 24 #[p, .int .i64 i, .agg cs, .int .i64 err] w fun e w' => e = .returned (.bool (decide (takeE N i = err ∧ takeL N i = l))) ∧ Step w0 w p F w' (takeN N i) := by
  have hsz := hlet.size
  obtain ⟨te, hte⟩ : ∃ te, te = takeE N i := ⟨_, rfl⟩
  obtain ⟨tl, htl⟩ : ∃ tl, tl = takeL N i := ⟨_, rfl⟩
  rw [← hte, ← htl]
  have HE := Lib.hid hte; have HL := Lib.hid htl; clear hte htl
  go_enter Try.func24, Try.ntmps24
  go_upto_region 0 with (fail)
  refine wp_region_seq [1, 3] (fun _ => True) (by rfl) (by rfl) trivial ?_
  simp only [List.zip_cons_cons, List.zip_nil_right]
  refine wpPi_do rfl (fun K hK => ?_)
  refine wp_box 38 _ _ (by rfl) (by rfl) (fun w1 hB0 hM hs1 => ?_)
  replace hB0 : w1.heap[w.heap.size]? = some (.cells cs 38 (0, 0)) := hB0
  refine hK _ _ trivial ?_
  clear hK K
  try simp only [pl, pn, el, ec, sz, ss, gz, gs, if_true, if_false, Bool.false_eq_true, Bool.not_true, Bool.not_false, Nat.add_zero, Nat.zero_add, Nat.reduceAdd]
  refine wpPi_assign _ rfl rfl ?_
  simp only [pl, pn, el, ec, sz, ss, gz, gs, if_true, if_false, Bool.false_eq_true, Bool.not_true, Bool.not_false, Nat.add_zero, Nat.zero_add, Nat.reduceAdd]
  refine wpPi_nil ?_
  have hz : zeroLet.size = 40 := (ltrCells_spec ltr0 _ _ _ (by rfl)).size
  have hS := take_at (h.keep0 hM) i
  rw [← HE.out, ← HL.out] at hS
  go_upto_region 1 with (fail)
  refine wp_region_seq [3, 3, 1, 3, 1, 1, 1, 1, 3] (fun _ => True) (by rfl) (by rfl) trivial ?_
  simp only [List.zip_cons_cons, List.zip_nil_right]
  refine wpPi_move _ rfl rfl ?_
  simp only [pl, pn, el, ec, sz, ss, gz, gs, if_true, if_false, Bool.false_eq_true, Bool.not_true, Bool.not_false, Nat.add_zero, Nat.zero_add, Nat.reduceAdd]
  refine wpPi_move _ rfl rfl ?_
  simp only [pl, pn, el, ec, sz, ss, gz, gs, if_true, if_false, Bool.false_eq_true, Bool.not_true, Bool.not_false, Nat.add_zero, Nat.zero_add, Nat.reduceAdd]
  refine wpPi_do rfl (fun K hK => ?_)
  go_wp2_with (go_at_call 18; refine hS.mono ?_; rintro _ w2 ⟨cs2, E2, G2, rfl, hl2, h2⟩)
  obtain ⟨F2, h2, hm2, hF2⟩ := h2
  replace hB0 := hm2.obj (fun hk => by have := h.lt _ hk; omega) hB0
  have hla := (hlet.stay hM (fun _ _ _ => id)).stay hm2 (fun k _ hk => hd k hk)
  refine hK _ _ trivial ?_
  clear hK K
  try simp only [pl, pn, el, ec, sz, ss, gz, gs, if_true, if_false, Bool.false_eq_true, Bool.not_true, Bool.not_false, Nat.add_zero, Nat.zero_add, Nat.reduceAdd]
  refine wpPi_move _ rfl rfl ?_
  simp only [pl, pn, el, ec, sz, ss, gz, gs, if_true, if_false, Bool.false_eq_true, Bool.not_true, Bool.not_false, Nat.add_zero, Nat.zero_add, Nat.reduceAdd]
  refine wpPi_do rfl (fun K hK => ?_)
  go_wp2
  refine hK _ _ trivial ?_
  clear hK K
  try simp only [pl, pn, el, ec, sz, ss, gz, gs, if_true, if_false, Bool.false_eq_true, Bool.not_true, Bool.not_false, Nat.add_zero, Nat.zero_add, Nat.reduceAdd]
  refine wpPi_do rfl (fun K hK => ?_)
  go_wp2
  refine hK _ _ trivial ?_
  clear hK K
  try simp only [pl, pn, el, ec, sz, ss, gz, gs, if_true, if_false, Bool.false_eq_true, Bool.not_true, Bool.not_false, Nat.add_zero, Nat.zero_add, Nat.reduceAdd]
  refine wpPi_do rfl (fun K hK => ?_)
  refine wp_alloc 38 ltrZero (by rfl) zero38 (fun w3 hB3 hm3 hs3 => ?_)
  replace hB3 : w3.heap[w2.heap.size]? = some (.cells zeroLet 38 (0, 0)) := hB3
  replace hB0 := hm3.obj id hB0
  refine hK _ _ trivial ?_
  clear hK K
  try simp only [pl, pn, el, ec, sz, ss, gz, gs, if_true, if_false, Bool.false_eq_true, Bool.not_true, Bool.not_false, Nat.add_zero, Nat.zero_add, Nat.reduceAdd]
  refine wpPi_do rfl (fun K hK => ?_)
  refine wp_storeA 38 _ _ w2.heap.size 0 cs2 (by rfl) (by rfl) (by rfl) hl2.one 40 (by kernel_rfl) hl2.size _ _ hB3 (by rw [hl2.size, hz]; exact Nat.le_refl _) (fun w4 hB4 hm4 => ?_)
  rw [putRow_whole (by rw [hl2.size, hz])] at hB4
  have hs2 := hm2.size
  have hm24 : Mod NoB w2 w4 := hm3.transB hm4 (Nat.le_refl _)
  replace hB0 := hm4.objB (by omega) hB0
  have hstep : Step w0 w p F w4 (takeN N i) := Step.trans0 hM (Step.keep0 ⟨F2, h2, hm2, hF2⟩ hm24)
  have hl4 := hl2.keep0 hm24
  have hla4 := hla.keep0 hm24
  refine hK _ _ trivial ?_
  clear hK K
  try simp only [pl, pn, el, ec, sz, ss, gz, gs, if_true, if_false, Bool.false_eq_true, Bool.not_true, Bool.not_false, Nat.add_zero, Nat.zero_add, Nat.reduceAdd]
  refine wpPi_assign _ rfl rfl ?_
  simp only [pl, pn, el, ec, sz, ss, gz, gs, if_true, if_false, Bool.false_eq_true, Bool.not_true, Bool.not_false, Nat.add_zero, Nat.zero_add, Nat.reduceAdd]
  refine wpPi_nil ?_
  have hs2 := hl2.size
  clear HE HL
  by_cases hte : te = err
  · go_upto_region 2 with (fail)
    refine wp_region_seq [3, 3, 3, 3, 1, 1, 1, 3, 3] (fun _ => True) (by rfl) (by rfl) trivial ?_
    simp only [List.zip_cons_cons, List.zip_nil_right]
    refine wpPi_move _ rfl rfl ?_
    simp only [pl, pn, el, ec, sz, ss, gz, gs, if_true, if_false, Bool.false_eq_true, Bool.not_true, Bool.not_false, Nat.add_zero, Nat.zero_add, Nat.reduceAdd]
    refine wpPi_move _ rfl rfl ?_
    simp only [pl, pn, el, ec, sz, ss, gz, gs, if_true, if_false, Bool.false_eq_true, Bool.not_true, Bool.not_false, Nat.add_zero, Nat.zero_add, Nat.reduceAdd]
    refine wpPi_cmp _ _ _ _ _ _ _ _ rfl rfl rfl rfl rfl true (by simp only [cmpB]; simpa using hte) ?_
    simp only [pl, pn, el, ec, sz, ss, gz, gs, if_true, if_false, Bool.false_eq_true, Bool.not_true, Bool.not_false, Nat.add_zero, Nat.zero_add, Nat.reduceAdd]
    refine wpPi_move _ rfl rfl ?_
    simp only [pl, pn, el, ec, sz, ss, gz, gs, if_true, if_false, Bool.false_eq_true, Bool.not_true, Bool.not_false, Nat.add_zero, Nat.zero_add, Nat.reduceAdd]
    refine wpPi_do rfl (fun K hK => ?_)
    refine wp_exec (exec_loadA 38 _ (by rfl) w2.heap.size 0 (by rfl) _ (CellsAt.whole hB4) _ Try.underlying38 rfl 40 (by kernel_rfl) hs2) ?_
    refine hK _ _ trivial ?_
    clear hK K
    try simp only [pl, pn, el, ec, sz, ss, gz, gs, if_true, if_false, Bool.false_eq_true, Bool.not_true, Bool.not_false, Nat.add_zero, Nat.zero_add, Nat.reduceAdd]
    refine wpPi_do rfl (fun K hK => ?_)
    refine wp_exec (exec_loadA 38 _ (by rfl) w.heap.size 0 (by rfl) _ (CellsAt.whole hB0) _ Try.underlying38 rfl 40 (by kernel_rfl) hsz) ?_
    refine hK _ _ trivial ?_
    clear hK K
    try simp only [pl, pn, el, ec, sz, ss, gz, gs, if_true, if_false, Bool.false_eq_true, Bool.not_true, Bool.not_false, Nat.add_zero, Nat.zero_add, Nat.reduceAdd]
    refine wpPi_do rfl (fun K hK => ?_)
    have hcall := sameLetter_any true own E2 G2 E G cs2 cs tl l w4 hl4 hla4
    go_wp2_with (go_at_call 20; refine hcall.mono ?_; rintro _ w5 ⟨rfl, hm5⟩)
    refine hK _ _ trivial ?_
    clear hK K
    try simp only [pl, pn, el, ec, sz, ss, gz, gs, if_true, if_false, Bool.false_eq_true, Bool.not_true, Bool.not_false, Nat.add_zero, Nat.zero_add, Nat.reduceAdd]
    refine wpPi_pick _ _ _ _ rfl rfl rfl ?_
    simp only [pl, pn, el, ec, sz, ss, gz, gs, if_true, if_false, Bool.false_eq_true, Bool.not_true, Bool.not_false, Nat.add_zero, Nat.zero_add, Nat.reduceAdd]
    refine wpPi_assign _ rfl rfl ?_
    simp only [pl, pn, el, ec, sz, ss, gz, gs, if_true, if_false, Bool.false_eq_true, Bool.not_true, Bool.not_false, Nat.add_zero, Nat.zero_add, Nat.reduceAdd]
    refine wpPi_nil ?_
    go_wp2
    go_ret
    exact ⟨ret_bool (by simp [hte]), hstep.keep0 hm5⟩
  · go_wp2
    go_ret
    exact ⟨ret_bool (by simp [hte]), hstep⟩
end
end Go.Proofs.Ytdllpakdhnanbaa
