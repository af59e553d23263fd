/- The net's list of links: at, push, pull. -/
import Derived.Test.YtdllpakdhnanbaaNetA
namespace Go.Proofs.Ytdllpakdhnanbaa
set_option linter.unusedSimpArgs false
set_option linter.unusedVariables false
set_option linter.unnecessarySimpa false
open Go.RowKit

/-- The pointer to the first of some links (each: its block, and its letter's cells). -/
def ptrOf : List (Nat × Array Value) → Value
  | [] => .pointer none
  | x :: _ => .pointer (some ⟨x.1, 0, none⟩)

def netCells (n lost : Int) (links : List (Nat × Array Value)) (mb : Nat) : Array Value := #[.int .i64 n, .int .i64 lost, ptrOf links, .int .i64 links.length, .map (some mb)]

structure NetW (w : World) (bx mb : Nat) (n lost : Int) (links : List (Nat × Array Value)) : Prop where
  obj : w.heap[bx]? = some (.cells (netCells n lost links mb) 72 (0, 0))
  link : ∀ i (h : i < links.length), w.heap[links[i].1]? = some (.cells (links[i].2.push (ptrOf (links.drop (i + 1)))) 97 (0, 0))
  size : ∀ x ∈ links, x.2.size = 40
  nd : (links.map (·.1)).Nodup
  few : links.length ≤ 1048576

/-- Where the i-th link hangs. -/
def plB (bx : Nat) (links : List (Nat × Array Value)) : Nat → Nat
  | 0 => bx
  | i + 1 => (links.getD i (0, #[])).1
def plO : Nat → Nat
  | 0 => 2
  | _ + 1 => 40

theorem NetW.place {w : World} {bx mb : Nat} {n lost : Int} {links : List (Nat × Array Value)} (h : NetW w bx mb n lost links) : ∀ i, i ≤ links.length → w.cell? ⟨plB bx links i, plO i, none⟩ = some (ptrOf (links.drop i))
  | 0, _ => by
    rw [show plB bx links 0 = bx from rfl, cell_of_row w bx _ _ _ _ h.obj]; rfl
  | i + 1, hi => by
    have hlt : i < links.length := by omega
    have e : plB bx links (i + 1) = links[i].1 := by simp [plB, List.getD, List.getElem?_eq_getElem hlt]
    have hs := h.size links[i] (List.getElem_mem _)
    rw [e, cell_of_row w _ _ _ _ _ (h.link i hlt)]
    rw [show plO (i + 1) = 40 from rfl, Array.getElem?_push, if_pos hs.symm]

theorem ptrOf_drop {links : List (Nat × Array Value)} {i : Nat} (h : i < links.length) : ptrOf (links.drop i) = .pointer (some ⟨links[i].1, 0, none⟩) := by
  rw [List.drop_eq_getElem_cons h]; rfl

set_option maxHeartbeats 400000 in
theorem none_nil (w : World) : Calls Try.prog 40 #[.pointer none] w (RetM (.bool true) w) := by
  go_enter Try.func40, Try.ntmps40
  go_wp2
  go_ret
  exact ⟨rfl, Mod.refl _ _⟩

set_option maxHeartbeats 400000 in
theorem none_some (b : Nat) (n : Int) (w : World) (h : w.cell? ⟨b, 0, none⟩ = some (.int .i64 n)) : Calls Try.prog 40 #[.pointer (some ⟨b, 0, none⟩)] w (RetM (.bool (n == 0)) w) := by
  go_enter Try.func40, Try.ntmps40
  go_wp2
  go_ret
  exact ⟨rfl, Mod.refl _ _⟩

def twoB (n x y : Int) : Bool := decide (1 ≤ x ∧ x ≤ n ∧ 1 ≤ y ∧ y ≤ n ∧ x ≠ y)

set_option maxHeartbeats 400000 in
theorem two_any (b : Nat) (n x y : Int) (w : World) (h : w.cell? ⟨b, 0, none⟩ = some (.int .i64 n)) :
    Calls Try.prog 41 #[.pointer (some ⟨b, 0, none⟩), .int .i64 x, .int .i64 y] w (RetM (.bool (twoB n x y)) w) := by
  have ht : ∃ t, t = twoB n x y := ⟨_, rfl⟩
  obtain ⟨t, ht⟩ := ht
  have HT := Lib.hid ht; clear ht
  rw [← HT.out]
  go_enter Try.func41, Try.ntmps41
  go_wp2
  all_goals
    go_ret
    refine ⟨ret_bool ?_, Mod.refl _ _⟩
    rw [HT.out]
    unfold twoB
    rw [Bool.eq_iff_iff]
    simp
    all_goals omega

def AtRel (bx : Nat) (links : List (Nat × Array Value)) (i : Nat) (p k : Value) : Prop :=
  ∃ j : Nat, j ≤ i ∧ k = .int .i64 j ∧ p = .pointer (some ⟨plB bx links j, plO j, none⟩)

set_option maxRecDepth 10000 in
set_option maxHeartbeats 400000 in
theorem at_any (w : World) (bx mb : Nat) (n lost : Int) (links : List (Nat × Array Value)) (h : NetW w bx mb n lost links) (i : Nat) (hi : i ≤ links.length) :
    Calls Try.prog 64 #[.pointer (some ⟨bx, 2, none⟩), .int .i64 i] w fun e w' => e = .returned (.pointer (some ⟨plB bx links i, plO i, none⟩)) ∧ w' = w := by
  have hfew := h.few
  go_enter Try.func64, Try.ntmps64
  go_wp2
  go_loop [5, 10] (AtRel bx links i) (fun _ k => i - (intOf k).toNat)
  case atStart => exact ⟨0, by omega, rfl, rfl⟩
  case round =>
    obtain ⟨j, hj, rfl, rfl⟩ := hrel
    by_cases hlt : j < i
    · have hc := h.place j (by omega)
      rw [ptrOf_drop (show j < links.length by omega)] at hc
      have e1 : plB bx links (j + 1) = links[j].1 := by simp [plB, List.getD, List.getElem?_eq_getElem (show j < links.length by omega)]
      have E1 := Lib.hid e1; clear e1
      generalize plB bx links j = pb at hc ⊢
      generalize plO j = po at hc ⊢
      go_wp2
      go_round
      case rel => exact ⟨j + 1, by omega, by go_num, by rw [E1.out]; rfl⟩
      case measure => simp [intOf]; omega
    · have e : j = i := by omega
      have E := Lib.hid e; clear e
      go_wp2
      go_ret
      refine ⟨?_, rfl⟩
      rw [← E.out]; rfl

theorem NetW.keep {S : Nat → Prop} {w w' : World} {bx mb : Nat} {n lost : Int} {links : List (Nat × Array Value)} (h : NetW w bx mb n lost links) (hm : Mod S w w') (h1 : ¬ S bx) (h2 : ∀ x ∈ links, ¬ S x.1) : NetW w' bx mb n lost links :=
  ⟨hm.obj h1 h.obj, fun i hi => hm.obj (h2 _ (List.getElem_mem _)) (h.link i hi), h.size, h.nd, h.few⟩
theorem NetW.keep0 {w w' : World} {bx mb : Nat} {n lost : Int} {links : List (Nat × Array Value)} (h : NetW w bx mb n lost links) (hm : Mod NoB w w') : NetW w' bx mb n lost links := h.keep hm id (fun _ _ => id)

/-- The net while its pointers are turned. -/
structure NetMid (w : World) (bx mb : Nat) (n lost : Int) (first : Value) (cnt : Int) (links : List (Nat × Array Value)) (nexts : Nat → Value) : Prop where
  obj : w.heap[bx]? = some (.cells #[.int .i64 n, .int .i64 lost, first, .int .i64 cnt, .map (some mb)] 72 (0, 0))
  link : ∀ i (h : i < links.length), w.heap[links[i].1]? = some (.cells (links[i].2.push (nexts i)) 97 (0, 0))
  size : ∀ x ∈ links, x.2.size = 40
  nd : (links.map (·.1)).Nodup

theorem NetW.mid {w : World} {bx mb : Nat} {n lost : Int} {links : List (Nat × Array Value)} (h : NetW w bx mb n lost links) : NetMid w bx mb n lost (ptrOf links) links.length links (fun i => ptrOf (links.drop (i + 1))) :=
  ⟨h.obj, h.link, h.size, h.nd⟩

/-- The blocks that the net's structure lies in. -/
def NetBl (bx : Nat) (links : List (Nat × Array Value)) : Nat → Prop := fun k => k = bx ∨ ∃ x ∈ links, x.1 = k

theorem NetMid.ne {w : World} {bx mb : Nat} {n lost cnt : Int} {first : Value} {links : List (Nat × Array Value)} {nexts : Nat → Value} (h : NetMid w bx mb n lost first cnt links nexts) (i : Nat) (hi : i < links.length) : links[i].1 ≠ bx := by
  intro e
  have := h.link i hi
  rw [e, h.obj] at this
  simp at this

/-- A store where the i-th link hangs. -/
theorem NetMid.row {w : World} {bx mb : Nat} {n lost cnt : Int} {first : Value} {links : List (Nat × Array Value)} {nexts : Nat → Value} (h : NetMid w bx mb n lost first cnt links nexts) :
    ∀ i, i ≤ links.length → ∃ cur T, w.heap[plB bx links i]? = some (.cells cur T (0, 0)) ∧ plO i < cur.size ∧ NetBl bx links (plB bx links i) ∧
      ∀ w' v, w'.heap[plB bx links i]? = some (.cells (cur.setIfInBounds (plO i) v) T (0, 0)) → Mod (fun k => k = plB bx links i) w w' →
        NetMid w' bx mb n lost (if i = 0 then v else first) cnt links (fun j => if i = j + 1 then v else nexts j)
  | 0, _ => by
    refine ⟨_, _, h.obj, by simp [plO], .inl rfl, fun w' v hb hm => ⟨hb, fun j hj => ?_, h.size, h.nd⟩⟩
    have := hm.objB (h.ne j hj) (h.link j hj)
    simpa using this
  | i + 1, hi => by
    have hlt : i < links.length := by omega
    have e : plB bx links (i + 1) = links[i].1 := by simp [plB, List.getD, List.getElem?_eq_getElem hlt]
    have hs := h.size links[i] (List.getElem_mem _)
    rw [e]
    refine ⟨_, _, h.link i hlt, by simp [plO, hs], .inr ⟨_, List.getElem_mem hlt, rfl⟩, fun w' v hb hm => ⟨?_, fun j hj => ?_, h.size, h.nd⟩⟩
    · have := hm.objB (Ne.symm (h.ne i hlt)) h.obj
      simpa using this
    · by_cases hij : i = j
      · subst hij
        rw [if_pos rfl, hb]
        congr 2
        apply Array.toList_inj.1
        have : links[i].2.toList.length = 40 := by simpa using hs
        simp [plO, List.set_append, this]
      · have hne : links[j].1 ≠ links[i].1 := by
          intro e
          have hp := List.pairwise_iff_getElem.1 h.nd
          rcases Nat.lt_or_gt_of_ne hij with hl | hl
          · exact hp i j (by simpa using hlt) (by simpa using hj) hl (by simpa using e.symm)
          · exact hp j i (by simpa using hj) (by simpa using hlt) hl (by simpa using e)
        rw [if_neg (by omega)]
        exact hm.objB hne (h.link j hj)

/-- A store of the count. -/
theorem NetMid.count {w w' : World} {bx mb : Nat} {n lost cnt : Int} {first : Value} {links : List (Nat × Array Value)} {nexts : Nat → Value} (h : NetMid w bx mb n lost first cnt links nexts) (c : Int)
    (hb : w'.heap[bx]? = some (.cells (#[.int .i64 n, .int .i64 lost, first, .int .i64 cnt, .map (some mb)].setIfInBounds 3 (.int .i64 c)) 72 (0, 0))) (hm : Mod (fun k => k = bx) w w') : NetMid w' bx mb n lost first c links nexts :=
  ⟨by rw [hb]; rfl, fun i hi => hm.objB (h.ne i hi) (h.link i hi), h.size, h.nd⟩
theorem NetMid.keep0 {w w' : World} {bx mb : Nat} {n lost cnt : Int} {first : Value} {links : List (Nat × Array Value)} {nexts : Nat → Value} (h : NetMid w bx mb n lost first cnt links nexts) (hm : Mod NoB w w') : NetMid w' bx mb n lost first cnt links nexts :=
  ⟨hm.obj id h.obj, fun i hi => hm.obj id (h.link i hi), h.size, h.nd⟩

theorem ptrOf_append {links l : List (Nat × Array Value)} (h : links ≠ []) : ptrOf (links ++ l) = ptrOf links := by
  cases links with
  | nil => exact absurd rfl h
  | cons x r => rfl

theorem push_net {w : World} {bx mb b : Nat} {n lost : Int} {links : List (Nat × Array Value)} {cs : Array Value}
    (h : NetMid w bx mb n lost (if links.length = 0 then .pointer (some ⟨b, 0, none⟩) else ptrOf links) (links.length + 1) links (fun j => if links.length = j + 1 then .pointer (some ⟨b, 0, none⟩) else ptrOf (links.drop (j + 1))))
    (hb : w.heap[b]? = some (.cells (cs.push (.pointer none)) 97 (0, 0))) (hcs : cs.size = 40) (hne : ∀ x ∈ links, x.1 ≠ b) (hfew : links.length < 1048576) : NetW w bx mb n lost (links ++ [(b, cs)]) := by
  refine ⟨?_, fun i hi => ?_, fun x hx => ?_, ?_, by simp; omega⟩
  · rw [h.obj]
    unfold netCells
    congr 2
    by_cases h0 : links.length = 0
    · have : links = [] := List.eq_nil_of_length_eq_zero h0
      subst this; rfl
    · rw [if_neg h0, ptrOf_append (by rintro rfl; exact h0 rfl)]
      simp
  · by_cases hlt : i < links.length
    · rw [List.getElem_append_left hlt, h.link i hlt]
      congr 3
      by_cases h1 : links.length = i + 1
      · rw [if_pos h1, List.drop_append_of_le_length (by omega), List.drop_of_length_le (by omega)]; rfl
      · rw [if_neg h1, List.drop_append_of_le_length (by omega), ptrOf_append]
        intro e
        have := congrArg List.length e
        simp at this; omega
    · have e : i = links.length := by simp at hi; omega
      subst e
      simp only [List.getElem_concat_length]
      rw [hb]
      congr 3
      rw [List.drop_of_length_le (by simp)]; rfl
  · rcases List.mem_append.1 hx with hx | hx
    · exact h.size x hx
    · have : x = (b, cs) := by simpa using hx
      rw [this]; exact hcs
  · rw [List.map_append, List.nodup_append]
    refine ⟨h.nd, by simp, fun x hx y hy => ?_⟩
    obtain ⟨z, hz, rfl⟩ := List.mem_map.1 hx
    have : y = b := by simpa using hy
    rw [this]; exact hne z hz

def linkZero : Value := .agg ((ltrCells ltr0 (.slice none 0 0) (.slice none 0 0) (.slice none 0 0)).push (.pointer none))
theorem info97 : (Try.prog.info? 97).bind (·.zero) = some linkZero := by kernel_rfl
theorem exec_build_link {w : World} {o : Oper} {a : Act} (x : Operand) (cs : Array Value) (ho : o.op = .build 97 #[(0, x)]) (hx : a.eval x = .agg cs) (hs : cs.size = 40) :
    (execOp a.eval o).run Try.prog w = .ok (.value (.agg (cs.push (.pointer none)))) w := by
  have hz : (zeroValue 97).run Try.prog w = .ok linkZero w := by
    have h := info97
    cases hi : Try.prog.info? 97 with
    | none => simp [hi] at h
    | some i => simp [hi] at h; simp [zeroValue, typeInfo, hi, h]
  have hs38 : (sizeOf 38).run Try.prog w = .ok 40 w := by
    obtain ⟨i, h0, h1, h2, h3⟩ := info_parts info38
    simp [sizeOf, typeInfo, h0, h2]
  have hs67 : (sizeOf 67).run Try.prog w = .ok 1 w := by
    have h : (Try.prog.info? 67).map (·.size) = some 1 := by kernel_rfl
    cases hi : Try.prog.info? 67 with
    | none => simp [hi] at h
    | some i => simp [hi] at h; simp [sizeOf, typeInfo, hi, h]
  have hf := foldl_set_tail cs.toList 0 [] (ltrCells ltr0 (.slice none 0 0) (.slice none 0 0) (.slice none 0 0)).toList [.pointer none] rfl (by rw [Array.length_toList, (ltrCells_spec ltr0 _ _ _ (by rfl)).size]; simpa using hs.symm)
  simp only [List.nil_append] at hf
  have hz' : ((ltrCells ltr0 (.slice none 0 0) (.slice none 0 0) (.slice none 0 0)).toList ++ [Value.pointer none]).toArray = linkZero.cells := by
    apply Array.toList_inj.1; simp [linkZero, Value.cells]
  have hsz : linkZero.cells.size = 41 := by kernel_rfl
  unfold execOp
  simp only [ho]
  have hb : (Instr.build 97 (Array.map (fun (x : Nat × Operand) => (x.1, a.eval x.2)) #[(0, x)])).run Try.prog w = .ok (.agg (cs.push (.pointer none))) w := by
    unfold Instr.build
    simp only [Sem.run_bind, hz, Result.andThen_ok, run_underlying Try.underlying97]
    have hf2 : Array.foldl (fun (cs : Array Value) (x : Value × Nat) => cs.setIfInBounds x.2 x.1) linkZero.cells cs.zipIdx = cs.push (.pointer none) := by
      rw [← hz', ← Array.foldl_toList, Array.toList_zipIdx, hf]
      apply Array.toList_inj.1; simp
    rw [show cs.zipIdx.size = 40 by simp [hs]] at hf2
    simp [hs38, hs67, hx, Instr.fill, show (Value.agg cs).cells = cs from rfl, hs]
    rw [if_neg (show ¬ linkZero.cells.size < 40 by rw [hsz]; omega)]
    have hf3 := congrArg (fun z => (Sem.run Try.prog (pure (Value.agg z)) w : Result Value)) hf2
    exact hf3
  simp only [Sem.run_bind, hb, Result.andThen_ok, Sem.run_pure]

set_option maxRecDepth 10000 in
set_option maxHeartbeats 400000 in
theorem push_any (w : World) (bx mb : Nat) (n lost : Int) (links : List (Nat × Array Value)) (h : NetW w bx mb n lost links) (hfew : links.length < 1048576) (cs : Array Value) (hcs : cs.size = 40) :
    Calls Try.prog 42 #[.pointer (some ⟨bx, 2, none⟩), .agg cs] w fun e w' => e = .returned (.tuple #[]) ∧ ∃ b, NetW w' bx mb n lost (links ++ [(b, cs)]) ∧ New w w' b ∧ Mod (NetBl bx links) w w' := by
  have hbx : bx < w.heap.size := by
    rcases Nat.lt_or_ge bx w.heap.size with h' | h'
    · exact h'
    · have := h.obj; rw [Array.getElem?_eq_none h'] at this; cases this
  have hlk : ∀ x ∈ links, x.1 < w.heap.size := by
    intro x hx
    obtain ⟨i, hi, rfl⟩ := List.getElem_of_mem hx
    have := h.link i hi
    rcases Nat.lt_or_ge links[i].1 w.heap.size with h' | h'
    · exact h'
    · rw [Array.getElem?_eq_none h'] at this; cases this
  go_enter Try.func42, Try.ntmps42
  go_upto_region 0 with (fail)
  refine wp_region_seq [1] (fun _ => True) (by rfl) (by rfl) trivial ?_
  simp only [List.zip_cons_cons, List.zip_nil_right]
  refine wpPi_do rfl (fun K hK => ?_)
  refine wp_box 38 _ _ (by rfl) (by rfl) (fun w1 hB0 hM hs1 => ?_)
  replace hB0 : w1.heap[w.heap.size]? = some (.cells cs 38 (0, 0)) := hB0
  refine hK _ _ trivial ?_
  clear hK K
  try simp only [pl, pn, el, ec, sz, ss, gz, gs, if_true, if_false, Bool.false_eq_true, Bool.not_true, Bool.not_false, Nat.add_zero, Nat.zero_add, Nat.reduceAdd]
  refine wpPi_nil ?_
  have h1 := h.keep0 hM
  have hcnt : w1.cell? ⟨bx, 3, none⟩ = some (.int .i64 links.length) := by rw [cell_of_row _ _ _ _ _ _ h1.obj]; rfl
  go_upto_region 1 with (fail)
  have hS : Mod NoB w1 w1.drew := (Mod.refl _ _).drew
  refine wp_region_pi [(0, 3), (1, 3), (2, 3), (3, 3), (4, 0), (5, 0), (6, 0), (7, 0), (8, 1), (9, 3), (10, 2)] [10] (fun w' => Mod NoB w1 w') (by kernel_rfl) (by kernel_rfl) (by kernel_rfl) (by kernel_rfl) (fun _ _ _ _ hd h => ⟨hd.trans h.1, h.2⟩) hS ?_
  simp only [List.map_cons, List.map_nil, List.getD_cons_zero, List.getD_cons_succ]
  refine wpPi_move _ rfl rfl ?_
  simp only [pl, pn, el, ec, sz, ss, gz, gs, if_true, if_false, Bool.false_eq_true, Bool.not_true, Bool.not_false, Nat.add_zero, Nat.zero_add, Nat.reduceAdd]
  refine wpPi_move _ rfl rfl ?_
  simp only [pl, pn, el, ec, sz, ss, gz, gs, if_true, if_false, Bool.false_eq_true, Bool.not_true, Bool.not_false, Nat.add_zero, Nat.zero_add, Nat.reduceAdd]
  refine wpPi_nilCheck _ _ rfl rfl rfl ?_
  simp only [pl, pn, el, ec, sz, ss, gz, gs, if_true, if_false, Bool.false_eq_true, Bool.not_true, Bool.not_false, Nat.add_zero, Nat.zero_add, Nat.reduceAdd]
  refine wpPi_field _ _ _ _ _ _ rfl rfl rfl fo_69_1 ?_
  simp only [pl, pn, el, ec, sz, ss, gz, gs, if_true, if_false, Bool.false_eq_true, Bool.not_true, Bool.not_false, Nat.add_zero, Nat.zero_add, Nat.reduceAdd]
  refine wpPi_val rfl (fun w' hS => exec_load1 _ _ rfl _ _ rfl _ (hS.cell id hcnt) _ Try.underlying3 rfl) ?_
  simp only [pl, pn, el, ec, sz, ss, gz, gs, if_true, if_false, Bool.false_eq_true, Bool.not_true, Bool.not_false, Nat.add_zero, Nat.zero_add, Nat.reduceAdd]
  refine wpPi_call (f := 64) rfl ?_ (fun w' hS => at_any w' bx mb n lost links (h1.keep0 hS) links.length (Nat.le_refl _)) ?_
  · exact run_call 64 _ _ rfl _ Try.func64 rfl (by kernel_rfl) _ rfl
  simp only [pl, pn, el, ec, sz, ss, gz, gs, if_true, if_false, Bool.false_eq_true, Bool.not_true, Bool.not_false, Nat.add_zero, Nat.zero_add, Nat.reduceAdd]
  refine wpPi_val rfl (fun w' hS => exec_loadA _ _ rfl _ _ rfl _ ((CellsAt.whole hB0).keep hS id) _ Try.underlying38 rfl 40 (by kernel_rfl) hcs) ?_
  simp only [pl, pn, el, ec, sz, ss, gz, gs, if_true, if_false, Bool.false_eq_true, Bool.not_true, Bool.not_false, Nat.add_zero, Nat.zero_add, Nat.reduceAdd]
  refine wpPi_val rfl (fun w' hS => exec_build_link _ _ rfl rfl hcs) ?_
  simp only [pl, pn, el, ec, sz, ss, gz, gs, if_true, if_false, Bool.false_eq_true, Bool.not_true, Bool.not_false, Nat.add_zero, Nat.zero_add, Nat.reduceAdd]
  refine wpPi_do rfl (fun K hK => ?_)
  refine wp_box 97 _ _ (by rfl) (by rfl) (fun w2 hB1 hm2 hs2 => ?_)
  replace hB1 : w2.heap[w1.heap.size]? = some (.cells (cs.push (.pointer none)) 97 (0, 0)) := hB1
  replace hS := hS.trans0 hm2
  refine hK _ _ hS ?_
  clear hK K
  try simp only [pl, pn, el, ec, sz, ss, gz, gs, if_true, if_false, Bool.false_eq_true, Bool.not_true, Bool.not_false, Nat.add_zero, Nat.zero_add, Nat.reduceAdd]
  refine wpPi_nilCheck _ _ rfl rfl rfl ?_
  simp only [pl, pn, el, ec, sz, ss, gz, gs, if_true, if_false, Bool.false_eq_true, Bool.not_true, Bool.not_false, Nat.add_zero, Nat.zero_add, Nat.reduceAdd]
  refine wpPi_last rfl (fun K hK => ?_)
  have h2 := (h1.keep0 hS).mid
  obtain ⟨cur, T, hrow, hlt, hbl, hput⟩ := h2.row links.length (Nat.le_refl _)
  refine wp_store1 67 _ _ _ _ (.pointer (some ⟨w1.heap.size, 0, none⟩)) (by rfl) (by rfl) (by rfl) rfl (by kernel_rfl) _ _ hrow hlt (fun w3 hrow' hm3 => ?_)
  have h3 := hput _ _ hrow' hm3
  have hbne : w1.heap.size ≠ plB bx links links.length := by
    rcases hbl with e | ⟨x, hx, e⟩
    · omega
    · have := hlk x hx; omega
  replace hB1 := hm3.objB hbne hB1
  have hM3 : Mod (NetBl bx links) w w3 := ((hM.trans0 hS).mono (S' := NetBl bx links) (fun k _ h => False.elim h)).trans hm3 (fun k hk e => by have e' : k = plB bx links links.length := e; rw [e']; exact hbl)
  have hs3 := hm3.size
  refine hK _ _ ?_
  clear hK K
  try simp only [pl, pn, el, ec, sz, ss, gz, gs, if_true, if_false, Bool.false_eq_true, Bool.not_true, Bool.not_false, Nat.add_zero, Nat.zero_add, Nat.reduceAdd]
  refine wpPi_nil ?_
  go_upto_region 2 with (fail)
  have hsd : w1.drew.heap.size = w1.heap.size := rfl
  refine wp_region_seq [3, 3, 3, 1, 3, 3, 3, 1] (fun _ => True) (by rfl) (by rfl) trivial ?_
  simp only [List.zip_cons_cons, List.zip_nil_right]
  refine wpPi_move _ rfl rfl ?_
  simp only [pl, pn, el, ec, sz, ss, gz, gs, if_true, if_false, Bool.false_eq_true, Bool.not_true, Bool.not_false, Nat.add_zero, Nat.zero_add, Nat.reduceAdd]
  refine wpPi_nilCheck _ _ rfl rfl rfl ?_
  simp only [pl, pn, el, ec, sz, ss, gz, gs, if_true, if_false, Bool.false_eq_true, Bool.not_true, Bool.not_false, Nat.add_zero, Nat.zero_add, Nat.reduceAdd]
  refine wpPi_field _ _ _ _ _ _ rfl rfl rfl fo_69_1 ?_
  simp only [pl, pn, el, ec, sz, ss, gz, gs, if_true, if_false, Bool.false_eq_true, Bool.not_true, Bool.not_false, Nat.add_zero, Nat.zero_add, Nat.reduceAdd]
  refine wpPi_do rfl (fun K hK => ?_)
  refine wp_exec (exec_load1 3 _ (by rfl) bx 3 (by rfl) (.int .i64 links.length) (by rw [cell_of_row _ _ _ _ _ _ h3.obj]; rfl) _ Try.underlying3 rfl) ?_
  refine hK _ _ trivial ?_
  clear hK K
  try simp only [pl, pn, el, ec, sz, ss, gz, gs, if_true, if_false, Bool.false_eq_true, Bool.not_true, Bool.not_false, Nat.add_zero, Nat.zero_add, Nat.reduceAdd]
  refine wpPi_add _ _ _ _ _ _ rfl rfl rfl rfl (by omega) (by omega) ?_
  simp only [pl, pn, el, ec, sz, ss, gz, gs, if_true, if_false, Bool.false_eq_true, Bool.not_true, Bool.not_false, Nat.add_zero, Nat.zero_add, Nat.reduceAdd]
  refine wpPi_nilCheck _ _ rfl rfl rfl ?_
  simp only [pl, pn, el, ec, sz, ss, gz, gs, if_true, if_false, Bool.false_eq_true, Bool.not_true, Bool.not_false, Nat.add_zero, Nat.zero_add, Nat.reduceAdd]
  refine wpPi_field _ _ _ _ _ _ rfl rfl rfl fo_69_1 ?_
  simp only [pl, pn, el, ec, sz, ss, gz, gs, if_true, if_false, Bool.false_eq_true, Bool.not_true, Bool.not_false, Nat.add_zero, Nat.zero_add, Nat.reduceAdd]
  refine wpPi_do rfl (fun K hK => ?_)
  refine wp_store1 3 _ _ bx 3 (.int .i64 (links.length + 1)) (by rfl) (by rfl) (by rfl) rfl (by kernel_rfl) _ _ h3.obj (by simp) (fun w4 hb4 hm4 => ?_)
  have h4 := h3.count _ hb4 hm4
  have hB4 := hm4.objB (show w1.heap.size ≠ bx by omega) hB1
  have hM4 : Mod (NetBl bx links) w w4 := hM3.trans hm4 (fun k hk e => .inl e)
  have hs4 := hm4.size
  refine hK _ _ trivial ?_
  clear hK K
  try simp only [pl, pn, el, ec, sz, ss, gz, gs, if_true, if_false, Bool.false_eq_true, Bool.not_true, Bool.not_false, Nat.add_zero, Nat.zero_add, Nat.reduceAdd]
  refine wpPi_nil ?_
  go_wp2
  go_end0
  refine ⟨rfl, w1.heap.size, push_net h4 hB4 hcs (fun x hx => by have := hlk x hx; omega) hfew, ⟨by omega, by omega⟩, hM4⟩

end Go.Proofs.Ytdllpakdhnanbaa
