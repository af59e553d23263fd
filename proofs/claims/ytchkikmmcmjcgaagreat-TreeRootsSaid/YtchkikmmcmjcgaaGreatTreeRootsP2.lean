/- What the statement TreeRoots needs, part 2. -/
import Derived.Laws.Slices
import Derived.Lib.SliceRun
import Derived.Lib.AppendZeros
import Derived.Test.YtchkikmmcmjcgaaGreatTreeRootsP1
/- SHA-256: a block is taken in. -/
namespace Go.Proofs.YtchkikmmcmjcgaaGreat
set_option linter.unusedSimpArgs false
set_option linter.unusedVariables false
set_option linter.unnecessarySimpa false
set_option linter.unusedSectionVars false
open Go.RowKit


theorem words_at {w : World} {ba oa : Nat} {cur : Array Value} {T : TypeId} {s : W8} (hcur : w.heap[ba]? = some (.cells cur T (0, 0))) (hs : ∀ k, k < 8 → cur[oa + k]? = some (wordV (s.list.getD k 0))) : CellsAt w ba oa (wordCells s.list) := by
  intro j hj
  rw [wordCells_size] at hj
  have hj8 : j < 8 := by simpa [W8.list] using hj
  rw [cell_of_row _ _ _ _ _ _ hcur, hs j hj8, wordCells_at hj, List.getD_eq_getElem?_getD, List.getElem?_eq_getElem hj]
  rfl
theorem built8 (x0 x1 x2 x3 x4 x5 x6 x7 : UInt32) : Tryz.prog.built 93 [(0, wordV x0), (1, wordV x1), (2, wordV x2), (3, wordV x3), (4, wordV x4), (5, wordV x5), (6, wordV x6), (7, wordV x7)] = some (wordCells [x0, x1, x2, x3, x4, x5, x6, x7]) := by kernel_rfl
theorem putRow_get {cur cs : Array Value} {off : Nat} (h : off + cs.size ≤ cur.size) (k : Nat) : (putRow cur off cs)[k]? = if off ≤ k ∧ k < off + cs.size then cs[k - off]? else cur[k]? := by
  have hl : (cur.toList.take off).length = off := by rw [List.length_take, Array.length_toList]; omega
  simp only [putRow, List.getElem?_toArray, List.append_assoc]
  rcases Nat.lt_or_ge k off with h1 | h1
  · rw [List.getElem?_append_left (by omega), if_neg (by omega), List.getElem?_take_of_lt h1, Array.getElem?_toList]
  · rw [List.getElem?_append_right (by omega), hl]
    rcases Nat.lt_or_ge k (off + cs.size) with h2 | h2
    · rw [List.getElem?_append_left (by rw [Array.length_toList]; omega), if_pos ⟨h1, h2⟩, Array.getElem?_toList]
    · rw [List.getElem?_append_right (by rw [Array.length_toList]; omega), if_neg (by omega), Array.length_toList, List.getElem?_drop, Array.getElem?_toList]
      congr 1; try omega
theorem putRow_none {cur : Array Value} {off : Nat} (h : off ≤ cur.size) : putRow cur off (wordCells []) = cur := by
  apply Array.ext_getElem?; intro k
  rw [putRow_get (by rw [show (wordCells []).size = 0 from rfl]; omega), if_neg (by rw [show (wordCells []).size = 0 from rfl]; omega)]
theorem putRow_step {cur : Array Value} {oa n : Nat} {l : List UInt32} (hn : n < l.length) (h : oa + l.length ≤ cur.size) : (putRow cur oa (wordCells (l.take n))).setIfInBounds (oa + n) (wordV (l.getD n 0)) = putRow cur oa (wordCells (l.take (n + 1))) := by
  have s1 : (wordCells (l.take n)).size = n := by rw [wordCells_size, List.length_take]; omega
  have s2 : (wordCells (l.take (n + 1))).size = n + 1 := by rw [wordCells_size, List.length_take]; omega
  have hp : (putRow cur oa (wordCells (l.take n))).size = cur.size := putRow_size (by omega)
  apply Array.ext_getElem?; intro k
  rw [putRow_get (by omega), Array.getElem?_setIfInBounds, hp, s2]
  by_cases e : oa + n = k
  · subst e
    rw [if_pos rfl, if_pos (by omega), if_pos (by omega), wordCells_at (by rw [List.length_take]; omega), List.getD_eq_getElem?_getD, List.getElem?_eq_getElem hn]
    simp
  · rw [if_neg e, putRow_get (by omega), s1]
    by_cases h2 : oa ≤ k ∧ k < oa + n
    · rw [if_pos h2, if_pos (by omega), wordCells_at (by rw [List.length_take]; omega), wordCells_at (by rw [List.length_take]; omega)]
      simp
    · rw [if_neg h2, if_neg (by omega)]
theorem addW_at (s t : W8) (n : Nat) (h : n < 8) : (addW s t).list.getD n 0 = s.list.getD n 0 + t.list.getD n 0 := by
  match n, h with
  | 0, _ | 1, _ | 2, _ | 3, _ | 4, _ | 5, _ | 6, _ | 7, _ => rfl
def AddRel (w0 : World) (ba oa : Nat) (cur : Array Value) (T : TypeId) (b4 : Nat) (s c : W8) (i : Value) (w : World) : Prop := ∃ n : Nat, n ≤ 8 ∧ i = .int .i64 n ∧ w.heap[ba]? = some (.cells (putRow cur oa (wordCells ((addW s c).list.take n))) T (0, 0)) ∧
  w.heap[b4]? = some (.cells (wordCells c.list) 93 (0, 0)) ∧ Mod (fun k => k = ba) w0 w
def BlockR (w : World) (ba oa : Nat) (cur : Array Value) (T : TypeId) (r : W8) : Ending → World → Prop := fun e w' => e = .returned (.tuple #[]) ∧ w'.heap[ba]? = some (.cells (putRow cur oa (wordCells r.list)) T (0, 0)) ∧ Mod (fun k => k = ba) w w'
def RoundRel (w0 : World) (b4 b5 b6 : Nat) (sp : List UInt32) (s : W8) (i : Value) (w : World) : Prop := ∃ n : Nat, n ≤ 64 ∧ i = .int .i64 n ∧ w.heap[b4]? = some (.cells (wordCells (rounds shaKeys sp n s).list) 93 (0, 0)) ∧
  w.heap[b5]? = some (.cells (wordCells shaKeys) 125 (0, 0)) ∧ w.heap[b6]? = some (.cells (wordCells sp) 125 (0, 0)) ∧ Mod NoB w0 w
set_option maxRecDepth 10000 in
set_option maxHeartbeats 4000000 in
theorem block_any {own : Bool} {G : Nat → Prop} {v : Value} {b : List UInt8} {w : World} (hb : Sl own w G 1 ByteC v b) (hl : b.length = 64) (ba oa : Nat) (cur : Array Value) (T : TypeId) (s : W8)
    (hcur : w.heap[ba]? = some (.cells cur T (0, 0))) (hsz : oa + 8 ≤ cur.size) (hs : ∀ k, k < 8 → cur[oa + k]? = some (wordV (s.list.getD k 0))) :
    Calls Tryz.prog 56 #[.pointer (some ⟨ba, oa, none⟩), v] w (BlockR w ba oa cur T (blockL s b)) := by
  obtain ⟨sp, hsp⟩ : ∃ sp, spreadL b 64 = sp := ⟨_, rfl⟩
  have hspl : sp.length = 64 := by rw [← hsp]; exact spreadL_len b 64
  have hspr : ∀ w1, Mod NoB w w1 → Calls Tryz.prog 79 #[v] w1 (RetM (.agg (wordCells sp)) w1) := fun w1 hm => by
    have := spread_any (hb.keep0 hm) hl
    rwa [hsp] at this
  have HSP := Lib.hid hsp
  have HSR := Lib.hid hspr
  have HSS := Lib.hid hs
  clear hsp hb hspr hs
  go_enter Tryz.func56, Tryz.ntmps56
  go_upto_region 0 with (fail)
  have hD : Mod NoB w w.drew := (Mod.refl _ _).drew
  refine wp_region_tree [(0, 3), (1, 3), (2, 0), (4, 3)] 5 [(9, 1), (10, 1), (11, 1)] [] (fun w' => Mod NoB w.drew w') #[true, true, true, false, true, false, false, false, false, false, false, false] (by kernel_rfl) (by kernel_rfl) (by kernel_rfl) (by kernel_rfl) (by kernel_rfl) (fun _ _ _ _ hd h => ⟨hd.trans h.1, h.2⟩) (Mod.refl _ _) ?_
  simp only [List.map_cons, List.map_nil, List.getD_cons_zero, List.getD_cons_succ]
  refine wpPi_move _ rfl rfl ?_
  simp only [pl, pn, el, ec, sz, ss, gz, gs, if_true, if_false, Bool.false_eq_true, Bool.not_true, Bool.not_false, Nat.add_zero, Nat.zero_add, Nat.reduceAdd]
  refine wpPi_nilCheck _ _ rfl rfl rfl ?_
  simp only [pl, pn, el, ec, sz, ss, gz, gs, if_true, if_false, Bool.false_eq_true, Bool.not_true, Bool.not_false, Nat.add_zero, Nat.zero_add, Nat.reduceAdd]
  refine wpPi_val rfl (fun w' hS => exec_loadA 93 _ (by rfl) ba oa (by rfl) (wordCells s.list) (words_at ((hD.trans0 hS).obj id hcur) HSS.out) _ Tryz.underlying93 rfl 8 (by kernel_rfl) (by rw [wordCells_size]; rfl)) ?_
  simp only [pl, pn, el, ec, sz, ss, gz, gs, if_true, if_false, Bool.false_eq_true, Bool.not_true, Bool.not_false, Nat.add_zero, Nat.zero_add, Nat.reduceAdd]
  refine wpPi_move _ rfl rfl ?_
  simp only [pl, pn, el, ec, sz, ss, gz, gs, if_true, if_false, Bool.false_eq_true, Bool.not_true, Bool.not_false, Nat.add_zero, Nat.zero_add, Nat.reduceAdd]
  refine wpPi_nil ?_
  refine wpTree_rows (grpG [(14, .inl (.agg (wordCells shaKeys))), (16, .inl (.agg (wordCells sp))), (4, .inr (.cells (wordCells (List.replicate 8 0)) 93 (0, 0))), (5, .inr (.cells (wordCells (List.replicate 64 0)) 125 (0, 0))), (6, .inr (.cells (wordCells (List.replicate 64 0)) 125 (0, 0)))]) [(3, 14), (5, 16), (6, 4), (7, 5), (8, 6)] (fun _ h => h) (by kernel_rfl) (by decide) ?hend ?hop
  case hop =>
    intro q hq ps w1 hm hps K hK
    simp only [List.mem_cons, List.not_mem_nil, or_false] at hq
    rcases hq with rfl | rfl | rfl | rfl | rfl
    · simp only [grpG, Nat.reduceEqDiff, if_true, if_false, reduceIte] at hK
      simp only [Array.getD_eq_getD_getElem?, List.getElem?_toArray, List.getElem?_cons_succ, List.getElem?_cons_zero, Option.getD_some]
      exact wp_enter (run_call 78 [] _ rfl _ Tryz.func78 rfl (by kernel_rfl) [] rfl _) (keys_any w1) hK
    · simp only [grpG, Nat.reduceEqDiff, if_true, if_false, reduceIte] at hK
      simp only [Array.getD_eq_getD_getElem?, List.getElem?_toArray, List.getElem?_cons_succ, List.getElem?_cons_zero, Option.getD_some]
      exact wp_enter (run_call 79 [.tmp 15] _ rfl _ Tryz.func79 rfl (by kernel_rfl) [v] (by rw [List.map_cons, puts_eval (fun p hp e => by have := (hps p hp).2; rw [e] at this; simp at this)]; rfl) _) (HSR.out _ (hD.trans0 hm)) hK
    · simp only [grpG, Nat.reduceEqDiff, if_true, if_false, reduceIte] at hK
      simp only [Array.getD_eq_getD_getElem?, List.getElem?_toArray, List.getElem?_cons_succ, List.getElem?_cons_zero, Option.getD_some]
      exact wp_alloc 93 _ (by rfl) wordsZ (fun w' hB hm' hs' => hK w' hB hm' hs')
    · simp only [grpG, Nat.reduceEqDiff, if_true, if_false, reduceIte] at hK
      simp only [Array.getD_eq_getD_getElem?, List.getElem?_toArray, List.getElem?_cons_succ, List.getElem?_cons_zero, Option.getD_some]
      exact wp_alloc 125 _ (by rfl) w64Z (fun w' hB hm' hs' => hK w' hB hm' hs')
    · simp only [grpG, Nat.reduceEqDiff, if_true, if_false, reduceIte] at hK
      simp only [Array.getD_eq_getD_getElem?, List.getElem?_toArray, List.getElem?_cons_succ, List.getElem?_cons_zero, Option.getD_some]
      exact wp_alloc 125 _ (by rfl) w64Z (fun w' hB hm' hs' => hK w' hB hm' hs')
  intro vals wz hvl hJ
  obtain ⟨v14, vals1, rfl, hvl1⟩ := vals_cons hvl
  obtain ⟨v16, vals2, rfl, hvl2⟩ := vals_cons hvl1
  obtain ⟨v4, vals3, rfl, hvl3⟩ := vals_cons hvl2
  obtain ⟨v5, vals4, rfl, hvl4⟩ := vals_cons hvl3
  obtain ⟨v6, vals5, rfl, hvl5⟩ := vals_cons hvl4
  obtain rfl := List.eq_nil_of_length_eq_zero hvl5
  simp only [List.map_cons, List.map_nil, List.zip_cons_cons, List.zip_nil_left] at hJ ⊢
  have h14 := hJ.2.1 (14, v14) (by simp)
  simp only [GrpF, grpG, Nat.reduceEqDiff, if_true, if_false, reduceIte] at h14
  subst h14
  have h16 := hJ.2.1 (16, v16) (by simp)
  simp only [GrpF, grpG, Nat.reduceEqDiff, if_true, if_false, reduceIte] at h16
  subst h16
  have h4 := hJ.2.1 (4, v4) (by simp)
  simp only [GrpF, grpG, Nat.reduceEqDiff, if_true, if_false, reduceIte] at h4
  obtain ⟨b4, rfl, hB4, hL4, hH4⟩ := h4
  have h5 := hJ.2.1 (5, v5) (by simp)
  simp only [GrpF, grpG, Nat.reduceEqDiff, if_true, if_false, reduceIte] at h5
  obtain ⟨b5, rfl, hB5, hL5, hH5⟩ := h5
  have h6 := hJ.2.1 (6, v6) (by simp)
  simp only [GrpF, grpG, Nat.reduceEqDiff, if_true, if_false, reduceIte] at h6
  obtain ⟨b6, rfl, hB6, hL6, hH6⟩ := h6
  have hN4_5 : b4 ≠ b5 := hJ.ne (d := 4) (e := 5) (by simp) (by simp) (by decide) (by simp only [grpG, Nat.reduceEqDiff, if_true, if_false, reduceIte]; rfl) (by simp only [grpG, Nat.reduceEqDiff, if_true, if_false, reduceIte]; rfl)
  have hN4_6 : b4 ≠ b6 := hJ.ne (d := 4) (e := 6) (by simp) (by simp) (by decide) (by simp only [grpG, Nat.reduceEqDiff, if_true, if_false, reduceIte]; rfl) (by simp only [grpG, Nat.reduceEqDiff, if_true, if_false, reduceIte]; rfl)
  have hN5_6 : b5 ≠ b6 := hJ.ne (d := 5) (e := 6) (by simp) (by simp) (by decide) (by simp only [grpG, Nat.reduceEqDiff, if_true, if_false, reduceIte]; rfl) (by simp only [grpG, Nat.reduceEqDiff, if_true, if_false, reduceIte]; rfl)
  have hGM := hJ.1
  clear hJ hvl hvl1 hvl2 hvl3 hvl4 hvl5
  simp only [puts]
  try simp only [pl, pn, el, ec, sz, ss, gz, gs, if_true, if_false, Bool.false_eq_true, Bool.not_true, Bool.not_false, Nat.add_zero, Nat.zero_add, Nat.reduceAdd]
  refine wpPi_do rfl (fun K hK => ?_)
  refine wp_storeA 93 _ _ b4 0 (wordCells s.list) (by rfl) (by rfl) (by rfl) (wordCells_one _) 8 (by kernel_rfl) (by rw [wordCells_size]; rfl) _ _ hB4 (by rw [wordCells_size, wordCells_size]; simp [W8.list]) (fun w2 hC4 hm2 => ?_)
  rw [putRow_whole (by rw [wordCells_size, wordCells_size]; simp [W8.list])] at hC4
  have hG2 := hGM.transB hm2 hL4
  replace hB5 := hm2.objB (by omega) hB5
  replace hB6 := hm2.objB (by omega) hB6
  clear hB4 hm2
  refine hK _ _ hG2 ?_
  clear hK K
  try simp only [pl, pn, el, ec, sz, ss, gz, gs, if_true, if_false, Bool.false_eq_true, Bool.not_true, Bool.not_false, Nat.add_zero, Nat.zero_add, Nat.reduceAdd]
  refine wpPi_do rfl (fun K hK => ?_)
  refine wp_storeA 125 _ _ b5 0 (wordCells shaKeys) (by rfl) (by rfl) (by rfl) (wordCells_one _) 64 (by kernel_rfl) (by rw [wordCells_size]; rfl) _ _ hB5 (by rw [wordCells_size, wordCells_size]; simp [shaKeys]) (fun w3 hC5 hm3 => ?_)
  rw [putRow_whole (by rw [wordCells_size, wordCells_size]; simp [shaKeys])] at hC5
  have hG3 := hG2.transB hm3 hL5
  replace hC4 := hm3.objB (by omega) hC4
  replace hB6 := hm3.objB (by omega) hB6
  clear hB5 hm3
  refine hK _ _ hG3 ?_
  clear hK K
  try simp only [pl, pn, el, ec, sz, ss, gz, gs, if_true, if_false, Bool.false_eq_true, Bool.not_true, Bool.not_false, Nat.add_zero, Nat.zero_add, Nat.reduceAdd]
  refine wpPi_do rfl (fun K hK => ?_)
  refine wp_storeA 125 _ _ b6 0 (wordCells sp) (by rfl) (by rfl) (by rfl) (wordCells_one _) 64 (by kernel_rfl) (by rw [wordCells_size]; exact hspl) _ _ hB6 (by rw [wordCells_size, wordCells_size, hspl]; simp) (fun w4 hC6 hm4 => ?_)
  rw [putRow_whole (by rw [wordCells_size, wordCells_size, hspl]; simp)] at hC6
  have hG4 := hG3.transB hm4 hL6
  replace hC4 := hm4.objB (by omega) hC4
  replace hC5 := hm4.objB (by omega) hC5
  clear hB6 hm4
  refine hK _ _ hG4 ?_
  clear hK K
  try simp only [pl, pn, el, ec, sz, ss, gz, gs, if_true, if_false, Bool.false_eq_true, Bool.not_true, Bool.not_false, Nat.add_zero, Nat.zero_add, Nat.reduceAdd]
  refine wpPi_nil ?_
  have hM := hD.trans0 hG4
  have hba : ba < w.heap.size := by
    rcases Nat.lt_or_ge ba w.heap.size with h | h
    · exact h
    · rw [Array.getElem?_eq_none h] at hcur; cases hcur
  replace hL4 : w.heap.size ≤ b4 := hL4
  replace hL5 : w.heap.size ≤ b5 := hL5
  replace hL6 : w.heap.size ≤ b6 := hL6
  clear hG2 hG3 hG4 hGM hH4 hH5 hH6 hD
  go_wp2
  go_loopw [17] (RoundRel w b4 b5 b6 sp s) (fun i _ => 64 - (intOf i).toNat)
  case atStart => exact ⟨0, by omega, rfl, hC4, hC5, hC6, hM⟩
  case round =>
    rename World => wr
    clear hC4 hC5 hC6 hM
    obtain ⟨n, hn, rfl, hC4, hC5, hC6, hM⟩ := hrel
    by_cases hlt : n < 64
    · have hz : (n : Int) < 64 := by omega
      obtain ⟨c, hc⟩ : ∃ c, rounds shaKeys sp n s = c := ⟨_, rfl⟩
      have hnext : rounds shaKeys sp (n + 1) s = round c (shaKeys.getD n 0) (sp.getD n 0) := by rw [← hc]; rfl
      rw [hc] at hC4
      have HC := Lib.hid hc
      have HN := Lib.hid hnext
      clear hc hnext
      go_upto_region 4 with (fail)
      have hS : Mod NoB wr wr.drew := (Mod.refl _ _).drew
      refine wp_region_pi [(0, 3), (1, 0), (2, 3), (3, 0), (4, 0), (5, 3), (6, 0), (7, 0), (8, 3), (9, 3), (10, 0), (11, 0), (12, 3), (13, 3), (14, 3), (15, 0), (16, 3), (17, 0), (18, 3), (19, 3), (20, 0), (21, 3), (22, 3), (23, 0), (24, 3), (25, 3), (26, 3), (27, 3), (28, 3), (29, 0), (30, 3), (31, 3), (32, 3), (33, 0), (34, 3), (35, 3)] [] (fun w' => Mod NoB wr w') (by kernel_rfl) (by kernel_rfl) (by kernel_rfl) (by kernel_rfl) (fun _ _ _ _ hd h => ⟨hd.trans h.1, h.2⟩) hS ?_
      simp only [List.map_cons, List.map_nil, List.getD_cons_zero, List.getD_cons_succ]
      refine wpPi_indexA _ _ _ _ _ _ _ 7 rfl rfl rfl rfl Tryz.underlying93 (n := 1) (by kernel_rfl) (by omega) ?_
      simp only [pl, pn, el, ec, sz, ss, gz, gs, if_true, if_false, Bool.false_eq_true, Bool.not_true, Bool.not_false, Nat.add_zero, Nat.zero_add, Nat.reduceAdd]
      refine wpPi_val rfl (fun w' hS => exec_load1 91 _ (by rfl) b4 7 (by rfl) (wordV c.h) (word8 (hS.obj id hC4) 7 (by omega)) _ Tryz.underlying91 rfl) ?_
      simp only [pl, pn, el, ec, sz, ss, gz, gs, if_true, if_false, Bool.false_eq_true, Bool.not_true, Bool.not_false, Nat.add_zero, Nat.zero_add, Nat.reduceAdd]
      refine wpPi_indexA _ _ _ _ _ _ _ 4 rfl rfl rfl rfl Tryz.underlying93 (n := 1) (by kernel_rfl) (by omega) ?_
      simp only [pl, pn, el, ec, sz, ss, gz, gs, if_true, if_false, Bool.false_eq_true, Bool.not_true, Bool.not_false, Nat.add_zero, Nat.zero_add, Nat.reduceAdd]
      refine wpPi_val rfl (fun w' hS => exec_load1 91 _ (by rfl) b4 4 (by rfl) (wordV c.e) (word8 (hS.obj id hC4) 4 (by omega)) _ Tryz.underlying91 rfl) ?_
      simp only [pl, pn, el, ec, sz, ss, gz, gs, if_true, if_false, Bool.false_eq_true, Bool.not_true, Bool.not_false, Nat.add_zero, Nat.zero_add, Nat.reduceAdd]
      refine wpPi_call (f := 80) rfl ?_ (fun w' hS => turned_any c.e 6 (by omega) w') ?_
      · exact run_call 80 _ _ rfl _ Tryz.func80 rfl (by kernel_rfl) _ rfl
      simp only [pl, pn, el, ec, sz, ss, gz, gs, if_true, if_false, Bool.false_eq_true, Bool.not_true, Bool.not_false, Nat.add_zero, Nat.zero_add, Nat.reduceAdd]
      refine wpPi_indexA _ _ _ _ _ _ _ 4 rfl rfl rfl rfl Tryz.underlying93 (n := 1) (by kernel_rfl) (by omega) ?_
      simp only [pl, pn, el, ec, sz, ss, gz, gs, if_true, if_false, Bool.false_eq_true, Bool.not_true, Bool.not_false, Nat.add_zero, Nat.zero_add, Nat.reduceAdd]
      refine wpPi_val rfl (fun w' hS => exec_load1 91 _ (by rfl) b4 4 (by rfl) (wordV c.e) (word8 (hS.obj id hC4) 4 (by omega)) _ Tryz.underlying91 rfl) ?_
      simp only [pl, pn, el, ec, sz, ss, gz, gs, if_true, if_false, Bool.false_eq_true, Bool.not_true, Bool.not_false, Nat.add_zero, Nat.zero_add, Nat.reduceAdd]
      refine wpPi_call (f := 80) rfl ?_ (fun w' hS => turned_any c.e 11 (by omega) w') ?_
      · exact run_call 80 _ _ rfl _ Tryz.func80 rfl (by kernel_rfl) _ rfl
      simp only [pl, pn, el, ec, sz, ss, gz, gs, if_true, if_false, Bool.false_eq_true, Bool.not_true, Bool.not_false, Nat.add_zero, Nat.zero_add, Nat.reduceAdd]
      refine wpPi_xor32 _ _ _ _ _ _ rfl rfl rfl rfl ?_
      simp only [pl, pn, el, ec, sz, ss, gz, gs, if_true, if_false, Bool.false_eq_true, Bool.not_true, Bool.not_false, Nat.add_zero, Nat.zero_add, Nat.reduceAdd]
      refine wpPi_indexA _ _ _ _ _ _ _ 4 rfl rfl rfl rfl Tryz.underlying93 (n := 1) (by kernel_rfl) (by omega) ?_
      simp only [pl, pn, el, ec, sz, ss, gz, gs, if_true, if_false, Bool.false_eq_true, Bool.not_true, Bool.not_false, Nat.add_zero, Nat.zero_add, Nat.reduceAdd]
      refine wpPi_val rfl (fun w' hS => exec_load1 91 _ (by rfl) b4 4 (by rfl) (wordV c.e) (word8 (hS.obj id hC4) 4 (by omega)) _ Tryz.underlying91 rfl) ?_
      simp only [pl, pn, el, ec, sz, ss, gz, gs, if_true, if_false, Bool.false_eq_true, Bool.not_true, Bool.not_false, Nat.add_zero, Nat.zero_add, Nat.reduceAdd]
      refine wpPi_call (f := 80) rfl ?_ (fun w' hS => turned_any c.e 25 (by omega) w') ?_
      · exact run_call 80 _ _ rfl _ Tryz.func80 rfl (by kernel_rfl) _ rfl
      simp only [pl, pn, el, ec, sz, ss, gz, gs, if_true, if_false, Bool.false_eq_true, Bool.not_true, Bool.not_false, Nat.add_zero, Nat.zero_add, Nat.reduceAdd]
      refine wpPi_xor32 _ _ _ _ _ _ rfl rfl rfl rfl ?_
      simp only [pl, pn, el, ec, sz, ss, gz, gs, if_true, if_false, Bool.false_eq_true, Bool.not_true, Bool.not_false, Nat.add_zero, Nat.zero_add, Nat.reduceAdd]
      refine wpPi_add32 _ _ _ _ _ _ rfl rfl rfl rfl ?_
      simp only [pl, pn, el, ec, sz, ss, gz, gs, if_true, if_false, Bool.false_eq_true, Bool.not_true, Bool.not_false, Nat.add_zero, Nat.zero_add, Nat.reduceAdd]
      refine wpPi_indexA _ _ _ _ _ _ _ 4 rfl rfl rfl rfl Tryz.underlying93 (n := 1) (by kernel_rfl) (by omega) ?_
      simp only [pl, pn, el, ec, sz, ss, gz, gs, if_true, if_false, Bool.false_eq_true, Bool.not_true, Bool.not_false, Nat.add_zero, Nat.zero_add, Nat.reduceAdd]
      refine wpPi_val rfl (fun w' hS => exec_load1 91 _ (by rfl) b4 4 (by rfl) (wordV c.e) (word8 (hS.obj id hC4) 4 (by omega)) _ Tryz.underlying91 rfl) ?_
      simp only [pl, pn, el, ec, sz, ss, gz, gs, if_true, if_false, Bool.false_eq_true, Bool.not_true, Bool.not_false, Nat.add_zero, Nat.zero_add, Nat.reduceAdd]
      refine wpPi_indexA _ _ _ _ _ _ _ 5 rfl rfl rfl rfl Tryz.underlying93 (n := 1) (by kernel_rfl) (by omega) ?_
      simp only [pl, pn, el, ec, sz, ss, gz, gs, if_true, if_false, Bool.false_eq_true, Bool.not_true, Bool.not_false, Nat.add_zero, Nat.zero_add, Nat.reduceAdd]
      refine wpPi_val rfl (fun w' hS => exec_load1 91 _ (by rfl) b4 5 (by rfl) (wordV c.f) (word8 (hS.obj id hC4) 5 (by omega)) _ Tryz.underlying91 rfl) ?_
      simp only [pl, pn, el, ec, sz, ss, gz, gs, if_true, if_false, Bool.false_eq_true, Bool.not_true, Bool.not_false, Nat.add_zero, Nat.zero_add, Nat.reduceAdd]
      refine wpPi_and32 _ _ _ _ _ _ rfl rfl rfl rfl ?_
      simp only [pl, pn, el, ec, sz, ss, gz, gs, if_true, if_false, Bool.false_eq_true, Bool.not_true, Bool.not_false, Nat.add_zero, Nat.zero_add, Nat.reduceAdd]
      refine wpPi_indexA _ _ _ _ _ _ _ 4 rfl rfl rfl rfl Tryz.underlying93 (n := 1) (by kernel_rfl) (by omega) ?_
      simp only [pl, pn, el, ec, sz, ss, gz, gs, if_true, if_false, Bool.false_eq_true, Bool.not_true, Bool.not_false, Nat.add_zero, Nat.zero_add, Nat.reduceAdd]
      refine wpPi_val rfl (fun w' hS => exec_load1 91 _ (by rfl) b4 4 (by rfl) (wordV c.e) (word8 (hS.obj id hC4) 4 (by omega)) _ Tryz.underlying91 rfl) ?_
      simp only [pl, pn, el, ec, sz, ss, gz, gs, if_true, if_false, Bool.false_eq_true, Bool.not_true, Bool.not_false, Nat.add_zero, Nat.zero_add, Nat.reduceAdd]
      refine wpPi_not32 _ _ _ rfl rfl rfl ?_
      simp only [pl, pn, el, ec, sz, ss, gz, gs, if_true, if_false, Bool.false_eq_true, Bool.not_true, Bool.not_false, Nat.add_zero, Nat.zero_add, Nat.reduceAdd]
      refine wpPi_indexA _ _ _ _ _ _ _ 6 rfl rfl rfl rfl Tryz.underlying93 (n := 1) (by kernel_rfl) (by omega) ?_
      simp only [pl, pn, el, ec, sz, ss, gz, gs, if_true, if_false, Bool.false_eq_true, Bool.not_true, Bool.not_false, Nat.add_zero, Nat.zero_add, Nat.reduceAdd]
      refine wpPi_val rfl (fun w' hS => exec_load1 91 _ (by rfl) b4 6 (by rfl) (wordV c.g) (word8 (hS.obj id hC4) 6 (by omega)) _ Tryz.underlying91 rfl) ?_
      simp only [pl, pn, el, ec, sz, ss, gz, gs, if_true, if_false, Bool.false_eq_true, Bool.not_true, Bool.not_false, Nat.add_zero, Nat.zero_add, Nat.reduceAdd]
      refine wpPi_and32 _ _ _ _ _ _ rfl rfl rfl rfl ?_
      simp only [pl, pn, el, ec, sz, ss, gz, gs, if_true, if_false, Bool.false_eq_true, Bool.not_true, Bool.not_false, Nat.add_zero, Nat.zero_add, Nat.reduceAdd]
      refine wpPi_xor32 _ _ _ _ _ _ rfl rfl rfl rfl ?_
      simp only [pl, pn, el, ec, sz, ss, gz, gs, if_true, if_false, Bool.false_eq_true, Bool.not_true, Bool.not_false, Nat.add_zero, Nat.zero_add, Nat.reduceAdd]
      refine wpPi_add32 _ _ _ _ _ _ rfl rfl rfl rfl ?_
      simp only [pl, pn, el, ec, sz, ss, gz, gs, if_true, if_false, Bool.false_eq_true, Bool.not_true, Bool.not_false, Nat.add_zero, Nat.zero_add, Nat.reduceAdd]
      refine wpPi_move _ rfl rfl ?_
      simp only [pl, pn, el, ec, sz, ss, gz, gs, if_true, if_false, Bool.false_eq_true, Bool.not_true, Bool.not_false, Nat.add_zero, Nat.zero_add, Nat.reduceAdd]
      refine wpPi_indexA _ _ _ _ _ _ _ _ rfl rfl rfl rfl Tryz.underlying125 (n := 1) (by kernel_rfl) hlt ?_
      simp only [pl, pn, el, ec, sz, ss, gz, gs, if_true, if_false, Bool.false_eq_true, Bool.not_true, Bool.not_false, Nat.add_zero, Nat.zero_add, Nat.reduceAdd]
      refine wpPi_val rfl (fun w' hS => exec_load1 91 _ (by rfl) b5 (n * 1) (by rfl) (wordV (shaKeys.getD n 0)) (by rw [Nat.mul_one]; exact word64 (hS.obj id hC5) (by rfl) hlt) _ Tryz.underlying91 rfl) ?_
      simp only [pl, pn, el, ec, sz, ss, gz, gs, if_true, if_false, Bool.false_eq_true, Bool.not_true, Bool.not_false, Nat.add_zero, Nat.zero_add, Nat.reduceAdd]
      refine wpPi_add32 _ _ _ _ _ _ rfl rfl rfl rfl ?_
      simp only [pl, pn, el, ec, sz, ss, gz, gs, if_true, if_false, Bool.false_eq_true, Bool.not_true, Bool.not_false, Nat.add_zero, Nat.zero_add, Nat.reduceAdd]
      refine wpPi_move _ rfl rfl ?_
      simp only [pl, pn, el, ec, sz, ss, gz, gs, if_true, if_false, Bool.false_eq_true, Bool.not_true, Bool.not_false, Nat.add_zero, Nat.zero_add, Nat.reduceAdd]
      refine wpPi_indexA _ _ _ _ _ _ _ _ rfl rfl rfl rfl Tryz.underlying125 (n := 1) (by kernel_rfl) hlt ?_
      simp only [pl, pn, el, ec, sz, ss, gz, gs, if_true, if_false, Bool.false_eq_true, Bool.not_true, Bool.not_false, Nat.add_zero, Nat.zero_add, Nat.reduceAdd]
      refine wpPi_val rfl (fun w' hS => exec_load1 91 _ (by rfl) b6 (n * 1) (by rfl) (wordV (sp.getD n 0)) (by rw [Nat.mul_one]; exact word64 (hS.obj id hC6) hspl hlt) _ Tryz.underlying91 rfl) ?_
      simp only [pl, pn, el, ec, sz, ss, gz, gs, if_true, if_false, Bool.false_eq_true, Bool.not_true, Bool.not_false, Nat.add_zero, Nat.zero_add, Nat.reduceAdd]
      refine wpPi_add32 _ _ _ _ _ _ rfl rfl rfl rfl ?_
      simp only [pl, pn, el, ec, sz, ss, gz, gs, if_true, if_false, Bool.false_eq_true, Bool.not_true, Bool.not_false, Nat.add_zero, Nat.zero_add, Nat.reduceAdd]
      refine wpPi_assign _ rfl rfl ?_
      simp only [pl, pn, el, ec, sz, ss, gz, gs, if_true, if_false, Bool.false_eq_true, Bool.not_true, Bool.not_false, Nat.add_zero, Nat.zero_add, Nat.reduceAdd]
      refine wpPi_nil ?_
      replace hM := hM.trans0 hS
      replace hC4 := hS.obj id hC4
      replace hC5 := hS.obj id hC5
      replace hC6 := hS.obj id hC6
      clear hS
      generalize wr.drew = wy at *
      go_upto_region 5 with (fail)
      have hS : Mod NoB wy wy.drew := (Mod.refl _ _).drew
      refine wp_region_pi [(0, 3), (1, 0), (2, 0), (3, 3), (4, 0), (5, 0), (6, 3), (7, 3), (8, 0), (9, 0), (10, 3), (11, 3), (12, 0), (13, 3), (14, 0), (15, 3), (16, 3), (17, 0), (18, 3), (19, 0), (20, 3), (21, 3), (22, 3), (23, 0), (24, 3), (25, 0), (26, 3), (27, 3), (28, 3), (29, 3)] [] (fun w' => Mod NoB wy w') (by kernel_rfl) (by kernel_rfl) (by kernel_rfl) (by kernel_rfl) (fun _ _ _ _ hd h => ⟨hd.trans h.1, h.2⟩) hS ?_
      simp only [List.map_cons, List.map_nil, List.getD_cons_zero, List.getD_cons_succ]
      refine wpPi_indexA _ _ _ _ _ _ _ 0 rfl rfl rfl rfl Tryz.underlying93 (n := 1) (by kernel_rfl) (by omega) ?_
      simp only [pl, pn, el, ec, sz, ss, gz, gs, if_true, if_false, Bool.false_eq_true, Bool.not_true, Bool.not_false, Nat.add_zero, Nat.zero_add, Nat.reduceAdd]
      refine wpPi_val rfl (fun w' hS => exec_load1 91 _ (by rfl) b4 0 (by rfl) (wordV c.a) (word8 (hS.obj id hC4) 0 (by omega)) _ Tryz.underlying91 rfl) ?_
      simp only [pl, pn, el, ec, sz, ss, gz, gs, if_true, if_false, Bool.false_eq_true, Bool.not_true, Bool.not_false, Nat.add_zero, Nat.zero_add, Nat.reduceAdd]
      refine wpPi_call (f := 80) rfl ?_ (fun w' hS => turned_any c.a 2 (by omega) w') ?_
      · exact run_call 80 _ _ rfl _ Tryz.func80 rfl (by kernel_rfl) _ rfl
      simp only [pl, pn, el, ec, sz, ss, gz, gs, if_true, if_false, Bool.false_eq_true, Bool.not_true, Bool.not_false, Nat.add_zero, Nat.zero_add, Nat.reduceAdd]
      refine wpPi_indexA _ _ _ _ _ _ _ 0 rfl rfl rfl rfl Tryz.underlying93 (n := 1) (by kernel_rfl) (by omega) ?_
      simp only [pl, pn, el, ec, sz, ss, gz, gs, if_true, if_false, Bool.false_eq_true, Bool.not_true, Bool.not_false, Nat.add_zero, Nat.zero_add, Nat.reduceAdd]
      refine wpPi_val rfl (fun w' hS => exec_load1 91 _ (by rfl) b4 0 (by rfl) (wordV c.a) (word8 (hS.obj id hC4) 0 (by omega)) _ Tryz.underlying91 rfl) ?_
      simp only [pl, pn, el, ec, sz, ss, gz, gs, if_true, if_false, Bool.false_eq_true, Bool.not_true, Bool.not_false, Nat.add_zero, Nat.zero_add, Nat.reduceAdd]
      refine wpPi_call (f := 80) rfl ?_ (fun w' hS => turned_any c.a 13 (by omega) w') ?_
      · exact run_call 80 _ _ rfl _ Tryz.func80 rfl (by kernel_rfl) _ rfl
      simp only [pl, pn, el, ec, sz, ss, gz, gs, if_true, if_false, Bool.false_eq_true, Bool.not_true, Bool.not_false, Nat.add_zero, Nat.zero_add, Nat.reduceAdd]
      refine wpPi_xor32 _ _ _ _ _ _ rfl rfl rfl rfl ?_
      simp only [pl, pn, el, ec, sz, ss, gz, gs, if_true, if_false, Bool.false_eq_true, Bool.not_true, Bool.not_false, Nat.add_zero, Nat.zero_add, Nat.reduceAdd]
      refine wpPi_indexA _ _ _ _ _ _ _ 0 rfl rfl rfl rfl Tryz.underlying93 (n := 1) (by kernel_rfl) (by omega) ?_
      simp only [pl, pn, el, ec, sz, ss, gz, gs, if_true, if_false, Bool.false_eq_true, Bool.not_true, Bool.not_false, Nat.add_zero, Nat.zero_add, Nat.reduceAdd]
      refine wpPi_val rfl (fun w' hS => exec_load1 91 _ (by rfl) b4 0 (by rfl) (wordV c.a) (word8 (hS.obj id hC4) 0 (by omega)) _ Tryz.underlying91 rfl) ?_
      simp only [pl, pn, el, ec, sz, ss, gz, gs, if_true, if_false, Bool.false_eq_true, Bool.not_true, Bool.not_false, Nat.add_zero, Nat.zero_add, Nat.reduceAdd]
      refine wpPi_call (f := 80) rfl ?_ (fun w' hS => turned_any c.a 22 (by omega) w') ?_
      · exact run_call 80 _ _ rfl _ Tryz.func80 rfl (by kernel_rfl) _ rfl
      simp only [pl, pn, el, ec, sz, ss, gz, gs, if_true, if_false, Bool.false_eq_true, Bool.not_true, Bool.not_false, Nat.add_zero, Nat.zero_add, Nat.reduceAdd]
      refine wpPi_xor32 _ _ _ _ _ _ rfl rfl rfl rfl ?_
      simp only [pl, pn, el, ec, sz, ss, gz, gs, if_true, if_false, Bool.false_eq_true, Bool.not_true, Bool.not_false, Nat.add_zero, Nat.zero_add, Nat.reduceAdd]
      refine wpPi_indexA _ _ _ _ _ _ _ 0 rfl rfl rfl rfl Tryz.underlying93 (n := 1) (by kernel_rfl) (by omega) ?_
      simp only [pl, pn, el, ec, sz, ss, gz, gs, if_true, if_false, Bool.false_eq_true, Bool.not_true, Bool.not_false, Nat.add_zero, Nat.zero_add, Nat.reduceAdd]
      refine wpPi_val rfl (fun w' hS => exec_load1 91 _ (by rfl) b4 0 (by rfl) (wordV c.a) (word8 (hS.obj id hC4) 0 (by omega)) _ Tryz.underlying91 rfl) ?_
      simp only [pl, pn, el, ec, sz, ss, gz, gs, if_true, if_false, Bool.false_eq_true, Bool.not_true, Bool.not_false, Nat.add_zero, Nat.zero_add, Nat.reduceAdd]
      refine wpPi_indexA _ _ _ _ _ _ _ 1 rfl rfl rfl rfl Tryz.underlying93 (n := 1) (by kernel_rfl) (by omega) ?_
      simp only [pl, pn, el, ec, sz, ss, gz, gs, if_true, if_false, Bool.false_eq_true, Bool.not_true, Bool.not_false, Nat.add_zero, Nat.zero_add, Nat.reduceAdd]
      refine wpPi_val rfl (fun w' hS => exec_load1 91 _ (by rfl) b4 1 (by rfl) (wordV c.b) (word8 (hS.obj id hC4) 1 (by omega)) _ Tryz.underlying91 rfl) ?_
      simp only [pl, pn, el, ec, sz, ss, gz, gs, if_true, if_false, Bool.false_eq_true, Bool.not_true, Bool.not_false, Nat.add_zero, Nat.zero_add, Nat.reduceAdd]
      refine wpPi_and32 _ _ _ _ _ _ rfl rfl rfl rfl ?_
      simp only [pl, pn, el, ec, sz, ss, gz, gs, if_true, if_false, Bool.false_eq_true, Bool.not_true, Bool.not_false, Nat.add_zero, Nat.zero_add, Nat.reduceAdd]
      refine wpPi_indexA _ _ _ _ _ _ _ 0 rfl rfl rfl rfl Tryz.underlying93 (n := 1) (by kernel_rfl) (by omega) ?_
      simp only [pl, pn, el, ec, sz, ss, gz, gs, if_true, if_false, Bool.false_eq_true, Bool.not_true, Bool.not_false, Nat.add_zero, Nat.zero_add, Nat.reduceAdd]
      refine wpPi_val rfl (fun w' hS => exec_load1 91 _ (by rfl) b4 0 (by rfl) (wordV c.a) (word8 (hS.obj id hC4) 0 (by omega)) _ Tryz.underlying91 rfl) ?_
      simp only [pl, pn, el, ec, sz, ss, gz, gs, if_true, if_false, Bool.false_eq_true, Bool.not_true, Bool.not_false, Nat.add_zero, Nat.zero_add, Nat.reduceAdd]
      refine wpPi_indexA _ _ _ _ _ _ _ 2 rfl rfl rfl rfl Tryz.underlying93 (n := 1) (by kernel_rfl) (by omega) ?_
      simp only [pl, pn, el, ec, sz, ss, gz, gs, if_true, if_false, Bool.false_eq_true, Bool.not_true, Bool.not_false, Nat.add_zero, Nat.zero_add, Nat.reduceAdd]
      refine wpPi_val rfl (fun w' hS => exec_load1 91 _ (by rfl) b4 2 (by rfl) (wordV c.c) (word8 (hS.obj id hC4) 2 (by omega)) _ Tryz.underlying91 rfl) ?_
      simp only [pl, pn, el, ec, sz, ss, gz, gs, if_true, if_false, Bool.false_eq_true, Bool.not_true, Bool.not_false, Nat.add_zero, Nat.zero_add, Nat.reduceAdd]
      refine wpPi_and32 _ _ _ _ _ _ rfl rfl rfl rfl ?_
      simp only [pl, pn, el, ec, sz, ss, gz, gs, if_true, if_false, Bool.false_eq_true, Bool.not_true, Bool.not_false, Nat.add_zero, Nat.zero_add, Nat.reduceAdd]
      refine wpPi_xor32 _ _ _ _ _ _ rfl rfl rfl rfl ?_
      simp only [pl, pn, el, ec, sz, ss, gz, gs, if_true, if_false, Bool.false_eq_true, Bool.not_true, Bool.not_false, Nat.add_zero, Nat.zero_add, Nat.reduceAdd]
      refine wpPi_indexA _ _ _ _ _ _ _ 1 rfl rfl rfl rfl Tryz.underlying93 (n := 1) (by kernel_rfl) (by omega) ?_
      simp only [pl, pn, el, ec, sz, ss, gz, gs, if_true, if_false, Bool.false_eq_true, Bool.not_true, Bool.not_false, Nat.add_zero, Nat.zero_add, Nat.reduceAdd]
      refine wpPi_val rfl (fun w' hS => exec_load1 91 _ (by rfl) b4 1 (by rfl) (wordV c.b) (word8 (hS.obj id hC4) 1 (by omega)) _ Tryz.underlying91 rfl) ?_
      simp only [pl, pn, el, ec, sz, ss, gz, gs, if_true, if_false, Bool.false_eq_true, Bool.not_true, Bool.not_false, Nat.add_zero, Nat.zero_add, Nat.reduceAdd]
      refine wpPi_indexA _ _ _ _ _ _ _ 2 rfl rfl rfl rfl Tryz.underlying93 (n := 1) (by kernel_rfl) (by omega) ?_
      simp only [pl, pn, el, ec, sz, ss, gz, gs, if_true, if_false, Bool.false_eq_true, Bool.not_true, Bool.not_false, Nat.add_zero, Nat.zero_add, Nat.reduceAdd]
      refine wpPi_val rfl (fun w' hS => exec_load1 91 _ (by rfl) b4 2 (by rfl) (wordV c.c) (word8 (hS.obj id hC4) 2 (by omega)) _ Tryz.underlying91 rfl) ?_
      simp only [pl, pn, el, ec, sz, ss, gz, gs, if_true, if_false, Bool.false_eq_true, Bool.not_true, Bool.not_false, Nat.add_zero, Nat.zero_add, Nat.reduceAdd]
      refine wpPi_and32 _ _ _ _ _ _ rfl rfl rfl rfl ?_
      simp only [pl, pn, el, ec, sz, ss, gz, gs, if_true, if_false, Bool.false_eq_true, Bool.not_true, Bool.not_false, Nat.add_zero, Nat.zero_add, Nat.reduceAdd]
      refine wpPi_xor32 _ _ _ _ _ _ rfl rfl rfl rfl ?_
      simp only [pl, pn, el, ec, sz, ss, gz, gs, if_true, if_false, Bool.false_eq_true, Bool.not_true, Bool.not_false, Nat.add_zero, Nat.zero_add, Nat.reduceAdd]
      refine wpPi_add32 _ _ _ _ _ _ rfl rfl rfl rfl ?_
      simp only [pl, pn, el, ec, sz, ss, gz, gs, if_true, if_false, Bool.false_eq_true, Bool.not_true, Bool.not_false, Nat.add_zero, Nat.zero_add, Nat.reduceAdd]
      refine wpPi_assign _ rfl rfl ?_
      simp only [pl, pn, el, ec, sz, ss, gz, gs, if_true, if_false, Bool.false_eq_true, Bool.not_true, Bool.not_false, Nat.add_zero, Nat.zero_add, Nat.reduceAdd]
      refine wpPi_nil ?_
      replace hM := hM.trans0 hS
      replace hC4 := hS.obj id hC4
      replace hC5 := hS.obj id hC5
      replace hC6 := hS.obj id hC6
      clear hS
      generalize wy.drew = wz at *
      go_upto_region 6 with (fail)
      refine wp_region_seq [3, 3, 3, 3, 1, 3, 1, 3, 1, 3, 1, 3, 3, 3, 1, 3, 1, 3, 1, 3, 1] (fun _ => True) (by rfl) (by rfl) trivial ?_
      simp only [List.zip_cons_cons, List.zip_nil_right]
      refine wpPi_move _ rfl rfl ?_
      simp only [pl, pn, el, ec, sz, ss, gz, gs, if_true, if_false, Bool.false_eq_true, Bool.not_true, Bool.not_false, Nat.add_zero, Nat.zero_add, Nat.reduceAdd]
      refine wpPi_move _ rfl rfl ?_
      simp only [pl, pn, el, ec, sz, ss, gz, gs, if_true, if_false, Bool.false_eq_true, Bool.not_true, Bool.not_false, Nat.add_zero, Nat.zero_add, Nat.reduceAdd]
      refine wpPi_add32 _ _ _ _ _ _ rfl rfl rfl rfl ?_
      simp only [pl, pn, el, ec, sz, ss, gz, gs, if_true, if_false, Bool.false_eq_true, Bool.not_true, Bool.not_false, Nat.add_zero, Nat.zero_add, Nat.reduceAdd]
      refine wpPi_indexA _ _ _ _ _ _ _ 0 rfl rfl rfl rfl Tryz.underlying93 (n := 1) (by kernel_rfl) (by omega) ?_
      simp only [pl, pn, el, ec, sz, ss, gz, gs, if_true, if_false, Bool.false_eq_true, Bool.not_true, Bool.not_false, Nat.add_zero, Nat.zero_add, Nat.reduceAdd]
      refine wpPi_do rfl (fun K hK => ?_)
      refine wp_exec (exec_load1 91 _ (by rfl) b4 0 (by rfl) (wordV c.a) (word8 hC4 0 (by omega)) _ Tryz.underlying91 rfl) ?_
      refine hK _ _ trivial ?_
      clear hK K
      try simp only [pl, pn, el, ec, sz, ss, gz, gs, if_true, if_false, Bool.false_eq_true, Bool.not_true, Bool.not_false, Nat.add_zero, Nat.zero_add, Nat.reduceAdd]
      refine wpPi_indexA _ _ _ _ _ _ _ 1 rfl rfl rfl rfl Tryz.underlying93 (n := 1) (by kernel_rfl) (by omega) ?_
      simp only [pl, pn, el, ec, sz, ss, gz, gs, if_true, if_false, Bool.false_eq_true, Bool.not_true, Bool.not_false, Nat.add_zero, Nat.zero_add, Nat.reduceAdd]
      refine wpPi_do rfl (fun K hK => ?_)
      refine wp_exec (exec_load1 91 _ (by rfl) b4 1 (by rfl) (wordV c.b) (word8 hC4 1 (by omega)) _ Tryz.underlying91 rfl) ?_
      refine hK _ _ trivial ?_
      clear hK K
      try simp only [pl, pn, el, ec, sz, ss, gz, gs, if_true, if_false, Bool.false_eq_true, Bool.not_true, Bool.not_false, Nat.add_zero, Nat.zero_add, Nat.reduceAdd]
      refine wpPi_indexA _ _ _ _ _ _ _ 2 rfl rfl rfl rfl Tryz.underlying93 (n := 1) (by kernel_rfl) (by omega) ?_
      simp only [pl, pn, el, ec, sz, ss, gz, gs, if_true, if_false, Bool.false_eq_true, Bool.not_true, Bool.not_false, Nat.add_zero, Nat.zero_add, Nat.reduceAdd]
      refine wpPi_do rfl (fun K hK => ?_)
      refine wp_exec (exec_load1 91 _ (by rfl) b4 2 (by rfl) (wordV c.c) (word8 hC4 2 (by omega)) _ Tryz.underlying91 rfl) ?_
      refine hK _ _ trivial ?_
      clear hK K
      try simp only [pl, pn, el, ec, sz, ss, gz, gs, if_true, if_false, Bool.false_eq_true, Bool.not_true, Bool.not_false, Nat.add_zero, Nat.zero_add, Nat.reduceAdd]
      refine wpPi_indexA _ _ _ _ _ _ _ 3 rfl rfl rfl rfl Tryz.underlying93 (n := 1) (by kernel_rfl) (by omega) ?_
      simp only [pl, pn, el, ec, sz, ss, gz, gs, if_true, if_false, Bool.false_eq_true, Bool.not_true, Bool.not_false, Nat.add_zero, Nat.zero_add, Nat.reduceAdd]
      refine wpPi_do rfl (fun K hK => ?_)
      refine wp_exec (exec_load1 91 _ (by rfl) b4 3 (by rfl) (wordV c.d) (word8 hC4 3 (by omega)) _ Tryz.underlying91 rfl) ?_
      refine hK _ _ trivial ?_
      clear hK K
      try simp only [pl, pn, el, ec, sz, ss, gz, gs, if_true, if_false, Bool.false_eq_true, Bool.not_true, Bool.not_false, Nat.add_zero, Nat.zero_add, Nat.reduceAdd]
      refine wpPi_move _ rfl rfl ?_
      simp only [pl, pn, el, ec, sz, ss, gz, gs, if_true, if_false, Bool.false_eq_true, Bool.not_true, Bool.not_false, Nat.add_zero, Nat.zero_add, Nat.reduceAdd]
      refine wpPi_add32 _ _ _ _ _ _ rfl rfl rfl rfl ?_
      simp only [pl, pn, el, ec, sz, ss, gz, gs, if_true, if_false, Bool.false_eq_true, Bool.not_true, Bool.not_false, Nat.add_zero, Nat.zero_add, Nat.reduceAdd]
      refine wpPi_indexA _ _ _ _ _ _ _ 4 rfl rfl rfl rfl Tryz.underlying93 (n := 1) (by kernel_rfl) (by omega) ?_
      simp only [pl, pn, el, ec, sz, ss, gz, gs, if_true, if_false, Bool.false_eq_true, Bool.not_true, Bool.not_false, Nat.add_zero, Nat.zero_add, Nat.reduceAdd]
      refine wpPi_do rfl (fun K hK => ?_)
      refine wp_exec (exec_load1 91 _ (by rfl) b4 4 (by rfl) (wordV c.e) (word8 hC4 4 (by omega)) _ Tryz.underlying91 rfl) ?_
      refine hK _ _ trivial ?_
      clear hK K
      try simp only [pl, pn, el, ec, sz, ss, gz, gs, if_true, if_false, Bool.false_eq_true, Bool.not_true, Bool.not_false, Nat.add_zero, Nat.zero_add, Nat.reduceAdd]
      refine wpPi_indexA _ _ _ _ _ _ _ 5 rfl rfl rfl rfl Tryz.underlying93 (n := 1) (by kernel_rfl) (by omega) ?_
      simp only [pl, pn, el, ec, sz, ss, gz, gs, if_true, if_false, Bool.false_eq_true, Bool.not_true, Bool.not_false, Nat.add_zero, Nat.zero_add, Nat.reduceAdd]
      refine wpPi_do rfl (fun K hK => ?_)
      refine wp_exec (exec_load1 91 _ (by rfl) b4 5 (by rfl) (wordV c.f) (word8 hC4 5 (by omega)) _ Tryz.underlying91 rfl) ?_
      refine hK _ _ trivial ?_
      clear hK K
      try simp only [pl, pn, el, ec, sz, ss, gz, gs, if_true, if_false, Bool.false_eq_true, Bool.not_true, Bool.not_false, Nat.add_zero, Nat.zero_add, Nat.reduceAdd]
      refine wpPi_indexA _ _ _ _ _ _ _ 6 rfl rfl rfl rfl Tryz.underlying93 (n := 1) (by kernel_rfl) (by omega) ?_
      simp only [pl, pn, el, ec, sz, ss, gz, gs, if_true, if_false, Bool.false_eq_true, Bool.not_true, Bool.not_false, Nat.add_zero, Nat.zero_add, Nat.reduceAdd]
      refine wpPi_do rfl (fun K hK => ?_)
      refine wp_exec (exec_load1 91 _ (by rfl) b4 6 (by rfl) (wordV c.g) (word8 hC4 6 (by omega)) _ Tryz.underlying91 rfl) ?_
      refine hK _ _ trivial ?_
      clear hK K
      try simp only [pl, pn, el, ec, sz, ss, gz, gs, if_true, if_false, Bool.false_eq_true, Bool.not_true, Bool.not_false, Nat.add_zero, Nat.zero_add, Nat.reduceAdd]
      refine wpPi_any (v := .agg (wordCells (round c (shaKeys.getD n 0) (sp.getD n 0)).list)) rfl (fun w' => exec_build_of 93 _ [(0, wordV (roundX c (shaKeys.getD n 0) (sp.getD n 0) + roundY c)), (1, wordV c.a), (2, wordV c.b), (3, wordV c.c), (4, wordV (c.d + roundX c (shaKeys.getD n 0) (sp.getD n 0))), (5, wordV c.e), (6, wordV c.f), (7, wordV c.g)] _ (by rfl) (by rfl) (built8 _ _ _ _ _ _ _ _)) ?_
      simp only [pl, pn, el, ec, sz, ss, gz, gs, if_true, if_false, Bool.false_eq_true, Bool.not_true, Bool.not_false, Nat.add_zero, Nat.zero_add, Nat.reduceAdd]
      refine wpPi_do rfl (fun K hK => ?_)
      refine wp_storeA 93 _ _ b4 0 (wordCells (round c (shaKeys.getD n 0) (sp.getD n 0)).list) (by rfl) (by rfl) (by rfl) (wordCells_one _) 8 (by kernel_rfl) (by rw [wordCells_size]; rfl) _ _ hC4 (by rw [wordCells_size, wordCells_size]; simp [W8.list]) (fun w5 hD4 hm5 => ?_)
      rw [putRow_whole (by rw [wordCells_size, wordCells_size]; simp [W8.list]), ← HN.out] at hD4
      have hM5 := hM.transB hm5 hL4
      replace hC5 := hm5.objB (by omega) hC5
      replace hC6 := hm5.objB (by omega) hC6
      clear hC4 hm5
      refine hK _ _ trivial ?_
      clear hK K
      try simp only [pl, pn, el, ec, sz, ss, gz, gs, if_true, if_false, Bool.false_eq_true, Bool.not_true, Bool.not_false, Nat.add_zero, Nat.zero_add, Nat.reduceAdd]
      refine wpPi_nil ?_
      go_wp2
      go_roundw
      case rel => exact ⟨n + 1, by omega, by go_num, hD4, hC5, hC6, hM5⟩
      case measure => simp [intOf]; omega
    · have hz : ¬ (n : Int) < 64 := by omega
      obtain rfl : n = 64 := by omega
      obtain ⟨c, hc⟩ : ∃ c, rounds shaKeys sp 64 s = c := ⟨_, rfl⟩
      rw [hc] at hC4
      have hr : blockL s b = addW s c := by unfold blockL; rw [HSP.out, hc]
      have HR := Lib.hid hr
      clear hr hc
      have hrowA := hM.obj id hcur
      have hMA : Mod (fun k => k = ba) w wr := hM.mono (fun _ _ h => h.elim)
      clear hcur hM hC5 hC6 hz hn
      have hlen : (addW s c).list.length = 8 := rfl
      go_wp2
      go_loopw [105] (AddRel w ba oa cur T b4 s c) (fun i _ => 8 - (intOf i).toNat)
      case atStart => exact ⟨0, by omega, rfl, by rw [List.take_zero, putRow_none (by omega)]; exact hrowA, hC4, hMA⟩
      case round =>
        rename World => wv
        clear hC4 hrowA hMA
        obtain ⟨n, hn, rfl, hrow, hC4, hM⟩ := hrel
        by_cases hlt : n < 8
        · have hz : (n : Int) < 8 := by omega
          have hw1 : wv.cell? ⟨ba, oa + n * 1, none⟩ = some (wordV (s.list.getD n 0)) := by
            rw [cell_of_row _ _ _ _ _ _ hrow, Nat.mul_one, putRow_get (by rw [wordCells_size, List.length_take]; omega), if_neg (by rw [wordCells_size, List.length_take]; omega), HSS.out n hlt]
          have hstep := putRow_step (cur := cur) (oa := oa) (n := n) (l := (addW s c).list) (by omega) (by omega)
          have hpsz : (putRow cur oa (wordCells ((addW s c).list.take n))).size = cur.size := putRow_size (by rw [wordCells_size, List.length_take]; omega)
          rw [addW_at s c n hlt] at hstep
          have HST := Lib.hid hstep
          clear hstep
          go_upto_region 11 with (fail)
          have hS : Mod NoB wv wv.drew := (Mod.refl _ _).drew
          refine wp_region_pi [(0, 3), (1, 3), (2, 3), (3, 3), (4, 0), (5, 3), (6, 3), (7, 0), (8, 3), (9, 3), (10, 3), (11, 2)] [11] (fun w' => Mod NoB wv w') (by kernel_rfl) (by kernel_rfl) (by kernel_rfl) (by kernel_rfl) (fun _ _ _ _ hd h => ⟨hd.trans h.1, h.2⟩) hS ?_
          simp only [List.map_cons, List.map_nil, List.getD_cons_zero, List.getD_cons_succ]
          refine wpPi_move _ rfl rfl ?_
          simp only [pl, pn, el, ec, sz, ss, gz, gs, if_true, if_false, Bool.false_eq_true, Bool.not_true, Bool.not_false, Nat.add_zero, Nat.zero_add, Nat.reduceAdd]
          refine wpPi_move _ rfl rfl ?_
          simp only [pl, pn, el, ec, sz, ss, gz, gs, if_true, if_false, Bool.false_eq_true, Bool.not_true, Bool.not_false, Nat.add_zero, Nat.zero_add, Nat.reduceAdd]
          refine wpPi_nilCheck _ _ rfl rfl rfl ?_
          simp only [pl, pn, el, ec, sz, ss, gz, gs, if_true, if_false, Bool.false_eq_true, Bool.not_true, Bool.not_false, Nat.add_zero, Nat.zero_add, Nat.reduceAdd]
          refine wpPi_indexA _ _ _ _ _ _ _ _ rfl rfl rfl rfl Tryz.underlying93 (n := 1) (by kernel_rfl) hlt ?_
          simp only [pl, pn, el, ec, sz, ss, gz, gs, if_true, if_false, Bool.false_eq_true, Bool.not_true, Bool.not_false, Nat.add_zero, Nat.zero_add, Nat.reduceAdd]
          refine wpPi_val rfl (fun w' hS => exec_load1 91 _ (by rfl) ba (oa + n * 1) (by rfl) (wordV (s.list.getD n 0)) (hS.cell id hw1) _ Tryz.underlying91 rfl) ?_
          simp only [pl, pn, el, ec, sz, ss, gz, gs, if_true, if_false, Bool.false_eq_true, Bool.not_true, Bool.not_false, Nat.add_zero, Nat.zero_add, Nat.reduceAdd]
          refine wpPi_move _ rfl rfl ?_
          simp only [pl, pn, el, ec, sz, ss, gz, gs, if_true, if_false, Bool.false_eq_true, Bool.not_true, Bool.not_false, Nat.add_zero, Nat.zero_add, Nat.reduceAdd]
          refine wpPi_indexA _ _ _ _ _ _ _ _ rfl rfl rfl rfl Tryz.underlying93 (n := 1) (by kernel_rfl) hlt ?_
          simp only [pl, pn, el, ec, sz, ss, gz, gs, if_true, if_false, Bool.false_eq_true, Bool.not_true, Bool.not_false, Nat.add_zero, Nat.zero_add, Nat.reduceAdd]
          refine wpPi_val rfl (fun w' hS => exec_load1 91 _ (by rfl) b4 (n * 1) (by rfl) (wordV (c.list.getD n 0)) (by rw [Nat.mul_one]; exact word8 (hS.obj id hC4) n hlt) _ Tryz.underlying91 rfl) ?_
          simp only [pl, pn, el, ec, sz, ss, gz, gs, if_true, if_false, Bool.false_eq_true, Bool.not_true, Bool.not_false, Nat.add_zero, Nat.zero_add, Nat.reduceAdd]
          refine wpPi_add32 _ _ _ _ _ _ rfl rfl rfl rfl ?_
          simp only [pl, pn, el, ec, sz, ss, gz, gs, if_true, if_false, Bool.false_eq_true, Bool.not_true, Bool.not_false, Nat.add_zero, Nat.zero_add, Nat.reduceAdd]
          refine wpPi_nilCheck _ _ rfl rfl rfl ?_
          simp only [pl, pn, el, ec, sz, ss, gz, gs, if_true, if_false, Bool.false_eq_true, Bool.not_true, Bool.not_false, Nat.add_zero, Nat.zero_add, Nat.reduceAdd]
          refine wpPi_indexA _ _ _ _ _ _ _ _ rfl rfl rfl rfl Tryz.underlying93 (n := 1) (by kernel_rfl) hlt ?_
          simp only [pl, pn, el, ec, sz, ss, gz, gs, if_true, if_false, Bool.false_eq_true, Bool.not_true, Bool.not_false, Nat.add_zero, Nat.zero_add, Nat.reduceAdd]
          refine wpPi_last rfl (fun K hK => ?_)
          refine wp_store1 91 _ _ ba (oa + n * 1) (wordV (s.list.getD n 0 + c.list.getD n 0)) (by rfl) (by rfl) (by rfl) rfl (by kernel_rfl) _ _ (show wv.drew.heap[ba]? = _ from hrow) (by rw [hpsz]; omega) (fun w2 hB2 hm2 => ?_)
          rw [Nat.mul_one, HST.out] at hB2
          replace hC4 := hm2.objB (by omega) (show wv.drew.heap[b4]? = _ from hC4)
          refine hK _ _ ?_
          clear hK K
          try simp only [pl, pn, el, ec, sz, ss, gz, gs, if_true, if_false, Bool.false_eq_true, Bool.not_true, Bool.not_false, Nat.add_zero, Nat.zero_add, Nat.reduceAdd]
          refine wpPi_nil ?_
          have hM2 : Mod (fun k => k = ba) w w2 := (hM.trans hS (fun _ _ h => h.elim)).trans hm2 (fun _ _ h => h)
          clear hM hS hm2 hrow hw1
          go_wp2
          go_roundw
          case rel => exact ⟨n + 1, by omega, by go_num, hB2, hC4, hM2⟩
          case measure => simp [intOf]; omega
        · have hz : ¬ (n : Int) < 8 := by omega
          obtain rfl : n = 8 := by omega
          go_wp2
          go_end0
          refine ⟨rfl, ?_, hM⟩
          rw [HR.out]
          exact hrow
end Go.Proofs.YtchkikmmcmjcgaaGreat

/- Slices of slices. -/
namespace Go.Proofs.YtchkikmmcmjcgaaGreat
set_option linter.unusedSimpArgs false
set_option linter.unusedVariables false
set_option linter.unnecessarySimpa false
set_option linter.unusedSectionVars false
open Go.RowKit

section
variable {P : Program} {ops : Array Oper} {Q : Exit → Act → World → Prop} {S : World → Prop} {o : Oper} {r : List (Oper × Nat)} {a : Act} {w : World}
theorem wpPi_sliceTo (t e : TypeId) (x h : Operand) (ad : Option Addr) (len cap i n : Nat) (hw : Region.wanted o (yielded ops a.tmps) = true) (ho : o.op = .slice t x none (some h) none) (hx : a.eval x = .slice ad len cap) (hh : a.eval h = .int .i64 (i : Int))
    (hu : P.underlying t = some (.slice e)) (hs : (P.info? e).map (·.size) = some n) (hi : i ≤ cap) (hk : wpPi P ops Q S r (a.put o.dst (sliced ad 0 i cap n)) w) : wpPi P ops Q S ((o, 3) :: r) a w :=
  wpPi_any hw (fun w => by
    have he : P.elem t = e := by simp [Program.elem, hu]
    have hsz : (sizeOf e).run P w = .ok n w := by
      cases hq : P.info? e with
      | none => simp [hq] at hs
      | some i => simp [hq] at hs; simp [sizeOf, typeInfo, hq, hs]
    unfold execOp
    simp only [ho, hx, hh, Option.map_none, Option.map_some]
    have h1 := run_sliceAt_slice (P := P) (w := w) t (.slice ad len cap) none (some (.int .i64 (i : Int))) none (by rw [he]; exact hu)
    have h2 := run_slice_h (P := P) (w := w) t ad len cap (by rw [he]; exact hu) .i64 (i : Int) (by omega) (by omega)
    simp only [Sem.run_bind, h1, h2, he, hsz, Result.andThen_ok, Sem.run_pure, Int.toNat_natCast]) hk
theorem wpPi_sliceFrom (t e : TypeId) (x l : Operand) (ad : Option Addr) (len cap i n : Nat) (hw : Region.wanted o (yielded ops a.tmps) = true) (ho : o.op = .slice t x (some l) none none) (hx : a.eval x = .slice ad len cap) (hl : a.eval l = .int .i64 (i : Int))
    (hu : P.underlying t = some (.slice e)) (hs : (P.info? e).map (·.size) = some n) (hi : i ≤ len) (hk : wpPi P ops Q S r (a.put o.dst (sliced ad i len cap n)) w) : wpPi P ops Q S ((o, 3) :: r) a w :=
  wpPi_any hw (fun w => by
    have he : P.elem t = e := by simp [Program.elem, hu]
    have hsz : (sizeOf e).run P w = .ok n w := by
      cases hq : P.info? e with
      | none => simp [hq] at hs
      | some i => simp [hq] at hs; simp [sizeOf, typeInfo, hq, hs]
    unfold execOp
    simp only [ho, hx, hl, Option.map_none, Option.map_some]
    have h1 := run_sliceAt_slice (P := P) (w := w) t (.slice ad len cap) (some (.int .i64 (i : Int))) none none (by rw [he]; exact hu)
    have h2 := run_slice_l (P := P) (w := w) t ad len cap (by rw [he]; exact hu) .i64 (i : Int) (by omega) (by omega)
    simp only [Sem.run_bind, h1, h2, he, hsz, Result.andThen_ok, Sem.run_pure, Int.toNat_natCast]) hk
end
theorem addr_add0 (b off k : Nat) : Addr.add ⟨b, off, none⟩ k = ⟨b, off + k, none⟩ := by
  unfold Addr.add
  split
  · rename_i hk; subst hk; rfl
  · rfl
section
variable {w w' : World} {base e sz n i cap : Nat} {v : Value} {xs : List Value} {ad : Option Addr}
theorem owns_one (h : w.ownsRow base e sz v n xs) : v.oneCell' = true := by
  rcases h.2 with ⟨rfl, _⟩ | ⟨g, cap, cur, rfl, _⟩ <;> rfl
theorem owns_base {base' : Nat} (h : w.ownsRow base e sz v n xs) (hb : base' ≤ base) : w.ownsRow base' e sz v n xs := by
  refine ⟨h.1, ?_⟩
  rcases h.2 with h | ⟨g, cap, cur, h1, h2, h3⟩
  · exact .inl h
  · exact .inr ⟨g, cap, cur, h1, Nat.le_trans hb h2, h3⟩
/-- The first i of them. -/
theorem owns_to (h : w.ownsRow base e sz (.slice ad n cap) n xs) (hi : i ≤ n) : w.ownsRow base e sz (sliced ad 0 i cap sz) i (xs.take (i * sz)) ∧ (sliced ad 0 i cap sz).ownBlock = (Value.slice ad n cap).ownBlock := by
  have hm : i * sz ≤ n * sz := Nat.mul_le_mul_right _ hi
  rcases h.2 with ⟨h1, h2⟩ | ⟨g, c, cur, h1, hb, hg, hc, hm', hcs, ht⟩
  · cases h1
    obtain rfl : i = 0 := by omega
    have e1 : xs = [] := List.eq_nil_of_length_eq_zero (by rw [h.1]; simp)
    refine ⟨⟨by simp, .inl ⟨by simp [sliced], rfl⟩⟩, by simp [sliced, Value.ownBlock]⟩
  · cases h1
    have e1 : sliced (some ⟨g, 0, none⟩) 0 i cap sz = .slice (some ⟨g, 0, none⟩) i cap := by
      simp only [sliced, Option.map_some, addr_add0, Nat.zero_mul, Nat.add_zero, Nat.sub_zero, ite_self]
    rw [e1]
    refine ⟨⟨by rw [List.length_take, h.1]; omega, .inr ⟨g, cap, cur, rfl, hb, hg, by omega, hm', hcs, ?_⟩⟩, rfl⟩
    rw [← ht, List.take_take, Nat.min_eq_left hm]
theorem owns_src (h : w.ownsRow base e sz v n xs) : Src w sz v n xs := by
  rcases h.2 with ⟨rfl, rfl⟩ | ⟨g, c, cur, rfl, hb, hg, hc, hm', hcs, ht⟩
  · exact ⟨h.1, _, _, rfl, fun h => absurd rfl h⟩
  · refine ⟨h.1, _, _, rfl, fun _ => ⟨g, 0, rfl, fun j x hj => ?_⟩⟩
    have hjl : j < xs.length := by
      rcases Nat.lt_or_ge j xs.length with h | h
      · exact h
      · rw [List.getElem?_eq_none h] at hj; cases hj
    rw [cell_of_row _ _ _ _ _ _ hg, Nat.zero_add, ← hj, ← ht, List.getElem?_take_of_lt (by rw [← h.1]; exact hjl)]
    simp
theorem Src.keep {S : Nat → Prop} {m : Nat} {u : Value} (h : Src w sz u m xs) (hm : Mod S w w') (hS : ∀ g, u.ownBlock = some g → ¬ S g) : Src w' sz u m xs := by
  obtain ⟨h1, a, c, rfl, h2⟩ := h
  refine ⟨h1, a, c, rfl, fun h0 => ?_⟩
  obtain ⟨b, off, rfl, h3⟩ := h2 h0
  exact ⟨b, off, rfl, fun j x hj => hm.cell (hS b rfl) (h3 j x hj)⟩
theorem Src.drop {m : Nat} (h : Src w sz (.slice ad m cap) m xs) (hi : i ≤ m) (hm : m ≤ cap) : Src w sz (sliced ad i m cap sz) (m - i) (xs.drop (i * sz)) := by
  obtain ⟨h1, ad', c', e, h2⟩ := h
  obtain ⟨rfl, rfl⟩ : ad = ad' ∧ cap = c' := by simpa using e
  refine ⟨by rw [List.length_drop, h1, Nat.sub_mul], _, _, rfl, fun hi0 => ?_⟩
  obtain ⟨b, off, rfl, hc⟩ := h2 (by omega)
  refine ⟨b, off + i * sz, ?_, fun j x hj => ?_⟩
  · rw [if_neg (by omega)]
    simp [addr_add0]
  · rw [Nat.add_assoc]
    exact hc _ _ (by rw [← hj, List.getElem?_drop])
theorem sliced_block {m : Nat} (hm : ∀ a, ad = some a → ∃ b o, a = ⟨b, o, none⟩) : ∀ g, (sliced ad i m cap sz).ownBlock = some g → (Value.slice ad m cap).ownBlock = some g := by
  intro g h
  cases ad with
  | none => simp [sliced, Value.ownBlock] at h
  | some a =>
    obtain ⟨b, o, rfl⟩ := hm a rfl
    simp only [sliced, Option.map_some] at h
    split at h
    · exact h
    · simp only [Value.ownBlock] at h ⊢
      rw [← h, addr_add0]
end
section
variable {α : Type} {own : Bool} {w : World} {G : Nat → Prop} {sz cap : Nat} {R : Array Value → α → Prop} {ad : Option Addr} {l : List α}
theorem Sl.cut (h : Sl own w G sz R (.slice ad l.length cap) l) (i : Nat) (hi : i ≤ l.length) : Sl own w G sz R (sliced ad i l.length cap sz) (l.drop i) := by
  obtain ⟨a, c, e, h1, h2, h3⟩ := h
  cases e
  refine ⟨_, _, by rw [List.length_drop]; rfl, by rw [List.length_drop]; omega, by omega, fun hne => ?_⟩
  have hlt : i < l.length := by
    rcases Nat.lt_or_ge i l.length with h | h
    · exact h
    · exact absurd (List.drop_eq_nil_of_le h) hne
  obtain ⟨b, off, rfl, hG, ho, hc⟩ := h3 (by rintro rfl; simp at hlt)
  refine ⟨b, off + i * sz, by rw [if_neg (by omega)]; simp [addr_add0], hG, ho, fun j hj => ?_⟩
  rw [List.length_drop] at hj
  obtain ⟨cs, hs, hR, hcs⟩ := hc (i + j) (by omega)
  refine ⟨cs, hs, by rw [List.getElem_drop]; exact hR, ?_⟩
  rw [show off + i * sz + j * sz = off + (i + j) * sz by rw [Nat.add_mul]; omega]
  exact hcs
theorem Sl.fst (h : Sl own w G sz R (.slice ad l.length cap) l) (i : Nat) (hi : i ≤ l.length) : Sl own w G sz R (sliced ad 0 i cap sz) (l.take i) := by
  obtain ⟨a, c, e, h1, h2, h3⟩ := h
  cases e
  refine ⟨_, _, by rw [List.length_take, Nat.min_eq_left hi]; rfl, by rw [List.length_take]; omega, by omega, fun hne => ?_⟩
  obtain ⟨b, off, rfl, hG, ho, hc⟩ := h3 (by rintro rfl; simp at hne)
  refine ⟨b, off, by simp [addr_add0], hG, ho, fun j hj => ?_⟩
  rw [List.length_take] at hj
  obtain ⟨cs, hs, hR, hcs⟩ := hc j (by omega)
  exact ⟨cs, hs, by rw [List.getElem_take]; exact hR, hcs⟩
end
end Go.Proofs.YtchkikmmcmjcgaaGreat

/- SHA-256: a hash is begun; a text is written into it. -/
namespace Go.Proofs.YtchkikmmcmjcgaaGreat
set_option linter.unusedSimpArgs false
set_option linter.unusedVariables false
set_option linter.unnecessarySimpa false
set_option linter.unusedSectionVars false
open Go.RowKit


def hashRow (s : W8) (rest : Value) (n : Nat) : Array Value := #[wordV s.a, wordV s.b, wordV s.c, wordV s.d, wordV s.e, wordV s.f, wordV s.g, wordV s.h, rest, .int .i64 (n : Int), .bool true]
theorem hashRow_put (s r : W8) (rest : Value) (n : Nat) : putRow (hashRow s rest n) 0 (wordCells r.list) = hashRow r rest n := rfl
theorem hashRow_at (s : W8) (rest : Value) (n k : Nat) (h : k < 8) : (hashRow s rest n)[0 + k]? = some (wordV (s.list.getD k 0)) := by
  match k, h with
  | 0, _ | 1, _ | 2, _ | 3, _ | 4, _ | 5, _ | 6, _ | 7, _ => rfl
theorem builtH : Tryz.prog.built 96 [(0, .agg (wordCells shaBegin.list)), (3, .bool true)] = some (hashRow shaBegin (.slice none 0 0) 0) := by kernel_rfl
theorem wp_enterQ {P : Program} {K : Act → World → Prop} {Q : Exit → Act → World → Prop} {o : Oper} {a : Act} {w : World} {f : FuncId} {args : Array Value} {R : Ending → World → Prop} (hr : (execOp a.eval o).run P w = .ok (.enter f args) w) (hc : Calls P f args w R)
    (k : ∀ e w', R e w' → ∃ v, e = .returned v ∧ K (a.put o.dst v) w') : o.wp P a w K Q := by
  unfold Oper.wp
  rw [hr, Oper.upon_enter]
  refine hc.mono fun e w' he => ?_
  obtain ⟨v, rfl, h⟩ := k e w' he
  exact h
set_option maxRecDepth 10000 in
theorem shaNone_at (b : Nat) (w : World) (hc : w.cell? ⟨b, 10, none⟩ = some (.bool true)) : Calls Tryz.prog 55 #[.pointer (some ⟨b, 0, none⟩)] w (RetE (.bool false) w) := by
  go_enter Tryz.func55, Tryz.ntmps55
  go_wp2
  go_ret
  exact ⟨rfl, rfl⟩
/-- A new hash lies in a new row. -/
def NewH (w : World) : Ending → World → Prop := fun e w' => ∃ b, e = .returned (.pointer (some ⟨b, 0, none⟩)) ∧ w.heap.size ≤ b ∧ b < w'.heap.size ∧ w'.heap[b]? = some (.cells (hashRow shaBegin (.slice none 0 0) 0) 96 (0, 0)) ∧ Mod NoB w w'
set_option maxRecDepth 10000 in
theorem shaNew_any (w : World) : Calls Tryz.prog 38 #[] w (NewH w) := by
  go_enter Tryz.func38, Tryz.ntmps38
  go_upto_region 1 with (fail)
  refine wp_region_seq [1, 3, 1, 3] (fun _ => True) (by rfl) (by rfl) trivial ?_
  simp only [List.zip_cons_cons, List.zip_nil_right]
  refine wpPi_do rfl (fun K hK => ?_)
  refine wp_enter (run_call 54 [] _ rfl _ Tryz.func54 rfl (by kernel_rfl) [] rfl _) (begin_any _) (fun w1 hm1 => ?_)
  refine hK _ _ trivial ?_
  clear hK K
  try simp only [pl, pn, el, ec, sz, ss, gz, gs, if_true, if_false, Bool.false_eq_true, Bool.not_true, Bool.not_false, Nat.add_zero, Nat.zero_add, Nat.reduceAdd]
  refine wpPi_any (v := .agg (hashRow shaBegin (.slice none 0 0) 0)) rfl (fun w' => exec_build_of 96 _ _ _ (by rfl) (by rfl) builtH) ?_
  simp only [pl, pn, el, ec, sz, ss, gz, gs, if_true, if_false, Bool.false_eq_true, Bool.not_true, Bool.not_false, Nat.add_zero, Nat.zero_add, Nat.reduceAdd]
  refine wpPi_do rfl (fun K hK => ?_)
  refine wp_box 96 _ _ (by rfl) (by rfl) (fun w2 hB2 hm2 hs2 => ?_)
  replace hB2 : w2.heap[w1.heap.size]? = some (.cells (hashRow shaBegin (.slice none 0 0) 0) 96 (0, 0)) := hB2
  refine hK _ _ trivial ?_
  clear hK K
  try simp only [pl, pn, el, ec, sz, ss, gz, gs, if_true, if_false, Bool.false_eq_true, Bool.not_true, Bool.not_false, Nat.add_zero, Nat.zero_add, Nat.reduceAdd]
  refine wpPi_assign _ rfl rfl ?_
  simp only [pl, pn, el, ec, sz, ss, gz, gs, if_true, if_false, Bool.false_eq_true, Bool.not_true, Bool.not_false, Nat.add_zero, Nat.zero_add, Nat.reduceAdd]
  refine wpPi_nil ?_
  go_wp2
  go_ret
  exact ⟨_, rfl, hm1.size, hs2, hB2, hm1.trans0 hm2⟩
end Go.Proofs.YtchkikmmcmjcgaaGreat

/- SHA-256: a text is written into a new hash. -/
namespace Go.Proofs.YtchkikmmcmjcgaaGreat
set_option linter.unusedSimpArgs false
set_option linter.unusedVariables false
set_option linter.unnecessarySimpa false
set_option linter.unusedSectionVars false
open Go.RowKit

theorem fo_96_0 : fieldOff Tryz.prog 96 0 = some 0 := by kernel_rfl
theorem fo_96_1 : fieldOff Tryz.prog 96 1 = some 8 := by kernel_rfl
theorem fo_96_2 : fieldOff Tryz.prog 96 2 = some 9 := by kernel_rfl
def restN (w : World) (b : Nat) : Nat := match w.cell? ⟨b, 8, none⟩ with
  | some (.slice _ n _) => n
  | _ => 0
theorem restN_of {w : World} {b : Nat} {s : W8} {ad : Option Addr} {n cap m : Nat} (h : w.heap[b]? = some (.cells (hashRow s (.slice ad n cap) m) 96 (0, 0))) : restN w b = n := by
  unfold restN
  rw [cell_of_row _ _ _ _ _ _ h]
  rfl
def WRel (w0 : World) (bh : Nat) (m : List UInt8) (w : World) : Prop := ∃ k rest, 64 * k ≤ m.length ∧ w.heap[bh]? = some (.cells (hashRow (blocksL k shaBegin m) rest m.length) 96 (0, 0)) ∧
  Sl false w (fun g => w0.heap.size ≤ g) 1 ByteC rest (m.drop (64 * k)) ∧ Mod (fun k => k = bh) w0 w
def WriteR (w0 : World) (bh : Nat) (m : List UInt8) : Ending → World → Prop := fun e w => e = .returned (.int .i64 0) ∧ ∃ rest, w.heap[bh]? = some (.cells (hashRow (blocksL (m.length / 64) shaBegin m) rest m.length) 96 (0, 0)) ∧
  Sl false w (fun g => w0.heap.size ≤ g) 1 ByteC rest (m.drop (64 * (m.length / 64))) ∧ Mod (fun k => k = bh) w0 w
theorem byte_i : (Tryz.prog.info? 5).map (fun i => (i.zero, i.size, i.bytes)) = some (some (.int .u8 0), 1, 1) := by kernel_rfl
set_option maxRecDepth 10000 in
set_option maxHeartbeats 4000000 in
theorem shaWrite_any {own : Bool} {G : Nat → Prop} {v : Value} {m : List UInt8} {w : World} (hb : Sl own w G 1 ByteC v m) (hl : m.length ≤ 140737488355328) (bh : Nat) (hG : ∀ k, G k → k ≠ bh)
    (hrow : w.heap[bh]? = some (.cells (hashRow shaBegin (.slice none 0 0) 0) 96 (0, 0))) :
    Calls Tryz.prog 39 #[.pointer (some ⟨bh, 0, none⟩), v] w (WriteR w bh m) := by
  have hbh : bh < w.heap.size := by
    rcases Nat.lt_or_ge bh w.heap.size with h | h
    · exact h
    · rw [Array.getElem?_eq_none h] at hrow; cases hrow
  have hc10 : w.cell? ⟨bh, 10, none⟩ = some (.bool true) := by rw [cell_of_row _ _ _ _ _ _ hrow]; rfl
  have hbS := Lib.hid hb
  obtain ⟨ad, cap, rfl, hle, hmx, -⟩ := hb
  go_enter Tryz.func39, Tryz.ntmps39
  go_upto_region 3 with (go_at_call 55; refine (shaNone_at bh _ hc10).mono ?_; rintro _ w3 ⟨rfl, hw⟩; obtain rfl := hw.symm)
  refine wp_region_seq [3, 3, 3, 1, 3, 3, 3, 3, 3, 1] (fun _ => True) (by rfl) (by rfl) trivial ?_
  simp only [List.zip_cons_cons, List.zip_nil_right]
  refine wpPi_move _ rfl rfl ?_
  simp only [pl, pn, el, ec, sz, ss, gz, gs, if_true, if_false, Bool.false_eq_true, Bool.not_true, Bool.not_false, Nat.add_zero, Nat.zero_add, Nat.reduceAdd]
  refine wpPi_nilCheck _ _ rfl rfl rfl ?_
  simp only [pl, pn, el, ec, sz, ss, gz, gs, if_true, if_false, Bool.false_eq_true, Bool.not_true, Bool.not_false, Nat.add_zero, Nat.zero_add, Nat.reduceAdd]
  refine wpPi_field _ _ _ _ _ _ rfl rfl rfl fo_96_2 ?_
  simp only [pl, pn, el, ec, sz, ss, gz, gs, if_true, if_false, Bool.false_eq_true, Bool.not_true, Bool.not_false, Nat.add_zero, Nat.zero_add, Nat.reduceAdd]
  refine wpPi_do rfl (fun K hK => ?_)
  refine wp_exec (exec_load1 3 _ (by rfl) bh 9 (by rfl) (.int .i64 0) (by rw [cell_of_row _ _ _ _ _ _ hrow]; rfl) _ Tryz.underlying3 rfl) ?_
  refine hK _ _ trivial ?_
  clear hK K
  try simp only [pl, pn, el, ec, sz, ss, gz, gs, if_true, if_false, Bool.false_eq_true, Bool.not_true, Bool.not_false, Nat.add_zero, Nat.zero_add, Nat.reduceAdd]
  refine wpPi_move _ rfl rfl ?_
  simp only [pl, pn, el, ec, sz, ss, gz, gs, if_true, if_false, Bool.false_eq_true, Bool.not_true, Bool.not_false, Nat.add_zero, Nat.zero_add, Nat.reduceAdd]
  refine wpPi_len _ _ _ _ _ rfl rfl rfl (by kernel_rfl) ?_
  simp only [pl, pn, el, ec, sz, ss, gz, gs, if_true, if_false, Bool.false_eq_true, Bool.not_true, Bool.not_false, Nat.add_zero, Nat.zero_add, Nat.reduceAdd]
  refine wpPi_addR _ _ _ _ 0 (m.length : Int) (m.length : Int) rfl rfl rfl rfl (by omega) (by omega) (by omega) ?_
  simp only [pl, pn, el, ec, sz, ss, gz, gs, if_true, if_false, Bool.false_eq_true, Bool.not_true, Bool.not_false, Nat.add_zero, Nat.zero_add, Nat.reduceAdd]
  refine wpPi_nilCheck _ _ rfl rfl rfl ?_
  simp only [pl, pn, el, ec, sz, ss, gz, gs, if_true, if_false, Bool.false_eq_true, Bool.not_true, Bool.not_false, Nat.add_zero, Nat.zero_add, Nat.reduceAdd]
  refine wpPi_field _ _ _ _ _ _ rfl rfl rfl fo_96_2 ?_
  simp only [pl, pn, el, ec, sz, ss, gz, gs, if_true, if_false, Bool.false_eq_true, Bool.not_true, Bool.not_false, Nat.add_zero, Nat.zero_add, Nat.reduceAdd]
  refine wpPi_do rfl (fun K hK => ?_)
  refine wp_store1 3 _ _ bh 9 (.int .i64 (m.length : Int)) (by rfl) (by rfl) (by rfl) rfl (by kernel_rfl) _ _ hrow (by simp [hashRow]) (fun w2 hB2 hm2 => ?_)
  replace hB2 : w2.heap[bh]? = some (.cells (hashRow shaBegin (.slice none 0 0) m.length) 96 (0, 0)) := hB2
  refine hK _ _ trivial ?_
  clear hK K
  try simp only [pl, pn, el, ec, sz, ss, gz, gs, if_true, if_false, Bool.false_eq_true, Bool.not_true, Bool.not_false, Nat.add_zero, Nat.zero_add, Nat.reduceAdd]
  refine wpPi_nil ?_
  go_upto_region 4 with (fail)
  have hbS2 := hbS.out.keepB hm2 hG
  obtain ⟨css, hall, hcs, hsrc⟩ := hbS2.src (by omega)
  refine wp_region_seq [3, 3, 3, 3, 1, 3, 1, 3, 3, 1] (fun _ => True) (by rfl) (by rfl) trivial ?_
  simp only [List.zip_cons_cons, List.zip_nil_right]
  refine wpPi_move _ rfl rfl ?_
  simp only [pl, pn, el, ec, sz, ss, gz, gs, if_true, if_false, Bool.false_eq_true, Bool.not_true, Bool.not_false, Nat.add_zero, Nat.zero_add, Nat.reduceAdd]
  refine wpPi_move _ rfl rfl ?_
  simp only [pl, pn, el, ec, sz, ss, gz, gs, if_true, if_false, Bool.false_eq_true, Bool.not_true, Bool.not_false, Nat.add_zero, Nat.zero_add, Nat.reduceAdd]
  refine wpPi_nilCheck _ _ rfl rfl rfl ?_
  simp only [pl, pn, el, ec, sz, ss, gz, gs, if_true, if_false, Bool.false_eq_true, Bool.not_true, Bool.not_false, Nat.add_zero, Nat.zero_add, Nat.reduceAdd]
  refine wpPi_field _ _ _ _ _ _ rfl rfl rfl fo_96_1 ?_
  simp only [pl, pn, el, ec, sz, ss, gz, gs, if_true, if_false, Bool.false_eq_true, Bool.not_true, Bool.not_false, Nat.add_zero, Nat.zero_add, Nat.reduceAdd]
  refine wpPi_do rfl (fun K hK => ?_)
  refine wp_exec (exec_load1 25 _ (by rfl) bh 8 (by rfl) (.slice none 0 0) (by rw [cell_of_row _ _ _ _ _ _ hB2]; rfl) _ Tryz.underlying25 rfl) ?_
  refine hK _ _ trivial ?_
  clear hK K
  try simp only [pl, pn, el, ec, sz, ss, gz, gs, if_true, if_false, Bool.false_eq_true, Bool.not_true, Bool.not_false, Nat.add_zero, Nat.zero_add, Nat.reduceAdd]
  refine wpPi_move _ rfl rfl ?_
  simp only [pl, pn, el, ec, sz, ss, gz, gs, if_true, if_false, Bool.false_eq_true, Bool.not_true, Bool.not_false, Nat.add_zero, Nat.zero_add, Nat.reduceAdd]
  refine wpPi_do rfl (fun K hK => ?_)
  refine wp_append _ _ 25 5 (.int .u8 0) 1 1 (by rfl) Tryz.underlying25 byte_i (by kernel_rfl) (by omega) w2.heap.size _ 0 [] (by rfl) ⟨rfl, .inl ⟨rfl, rfl⟩⟩ _ m.length _ (by rfl) hsrc (all2_one hall fun _ _ => byteC_one) (by omega) (by omega) (by omega) (fun v3 w3 ho3 hg3 hv3 => ?_)
  have hm3 : Mod NoB w2 w3 := (Mod.refl _ _).grown hg3 (fun k e _ => nomatch (show (none : Option Nat) = some k from e))
  have hs3 : Sl true w3 (fun k => w2.heap.size ≤ k ∧ k < w3.heap.size ∧ v3.ownBlock = some k) 1 ByteC v3 m := Sl.of_owns ho3 (List.nil_append _) hcs hall (Nat.zero_add _)
  replace hB2 := hm3.obj id hB2
  refine hK _ _ trivial ?_
  clear hK K
  try simp only [pl, pn, el, ec, sz, ss, gz, gs, if_true, if_false, Bool.false_eq_true, Bool.not_true, Bool.not_false, Nat.add_zero, Nat.zero_add, Nat.reduceAdd]
  refine wpPi_nilCheck _ _ rfl rfl rfl ?_
  simp only [pl, pn, el, ec, sz, ss, gz, gs, if_true, if_false, Bool.false_eq_true, Bool.not_true, Bool.not_false, Nat.add_zero, Nat.zero_add, Nat.reduceAdd]
  refine wpPi_field _ _ _ _ _ _ rfl rfl rfl fo_96_1 ?_
  simp only [pl, pn, el, ec, sz, ss, gz, gs, if_true, if_false, Bool.false_eq_true, Bool.not_true, Bool.not_false, Nat.add_zero, Nat.zero_add, Nat.reduceAdd]
  refine wpPi_do rfl (fun K hK => ?_)
  refine wp_store1 25 _ _ bh 8 v3 (by rfl) (by rfl) (by rfl) hs3.one (by kernel_rfl) _ _ hB2 (by simp [hashRow]) (fun w4 hB4 hm4 => ?_)
  replace hB4 : w4.heap[bh]? = some (.cells (hashRow shaBegin v3 m.length) 96 (0, 0)) := hB4
  refine hK _ _ trivial ?_
  clear hK K
  try simp only [pl, pn, el, ec, sz, ss, gz, gs, if_true, if_false, Bool.false_eq_true, Bool.not_true, Bool.not_false, Nat.add_zero, Nat.zero_add, Nat.reduceAdd]
  refine wpPi_nil ?_
  have hw2 := hm2.size
  have hw3 := hm3.size
  have hM4 : Mod (fun k => k = bh) w w4 := (hm2.trans hm3 (fun _ _ h => h.elim)).trans hm4 (fun _ _ h => h)
  have hs4 : Sl false w4 (fun g => w.heap.size ≤ g) 1 ByteC v3 m := ((hs3.keepB hm4 (fun k hk => by have := hk.1; omega)).mono (G' := fun g => w.heap.size ≤ g) (fun k hk => Nat.le_trans hw2 hk.1) (fun _ _ h => h)).weak
  clear hB2 hs3 hm2 hm3 hm4 hg3 hv3 ho3 hsrc hall hcs hbS2 hbS hc10 hrow
  go_wp2
  go_loopw [] (WRel w bh m) (fun w' => restN w' bh)
  case atStart => exact ⟨0, v3, by omega, hB4, hs4, hM4⟩
  case round =>
    rename World => wr
    clear hB4 hs4 hM4
    obtain ⟨k, rest, hk, hrow, hsl, hM⟩ := hrel
    obtain ⟨r, hr⟩ : ∃ r, m.drop (64 * k) = r := ⟨_, rfl⟩
    have hrl : r.length = m.length - 64 * k := by rw [← hr, List.length_drop]
    rw [hr] at hsl
    have hslH := Lib.hid hsl
    obtain ⟨ad2, cap2, rfl, hle2, hmx2, -⟩ := hsl
    have hrowH := Lib.hid hrow
    have hc8 : wr.cell? ⟨bh, 8, none⟩ = some (.slice ad2 r.length cap2) := by rw [cell_of_row _ _ _ _ _ _ hrow]; rfl
    by_cases hlt : 64 ≤ r.length
    · have hz : (64 : Int) ≤ (r.length : Int) := by omega
      go_upto_region 6 with (fail)
      have hS : Mod (fun k => k = bh) wr wr.drew ∧ wr.drew.cell? ⟨bh, 8, none⟩ = some (.slice ad2 r.length cap2) := ⟨(Mod.refl _ _).drew, hc8⟩
      refine wp_region_pi [(0, 3), (1, 3), (2, 3), (3, 3), (4, 3), (5, 3), (6, 0), (7, 3), (8, 1)] [] (fun w' => Mod (fun k => k = bh) wr w' ∧ w'.cell? ⟨bh, 8, none⟩ = some (.slice ad2 r.length cap2)) (by kernel_rfl) (by kernel_rfl) (by kernel_rfl) (by kernel_rfl) (fun _ _ _ _ hd h => ⟨hd.trans h.1, h.2⟩) hS ?_
      simp only [List.map_cons, List.map_nil, List.getD_cons_zero, List.getD_cons_succ]
      refine wpPi_move _ rfl rfl ?_
      simp only [pl, pn, el, ec, sz, ss, gz, gs, if_true, if_false, Bool.false_eq_true, Bool.not_true, Bool.not_false, Nat.add_zero, Nat.zero_add, Nat.reduceAdd]
      refine wpPi_nilCheck _ _ rfl rfl rfl ?_
      simp only [pl, pn, el, ec, sz, ss, gz, gs, if_true, if_false, Bool.false_eq_true, Bool.not_true, Bool.not_false, Nat.add_zero, Nat.zero_add, Nat.reduceAdd]
      refine wpPi_field _ _ _ _ _ _ rfl rfl rfl fo_96_0 ?_
      simp only [pl, pn, el, ec, sz, ss, gz, gs, if_true, if_false, Bool.false_eq_true, Bool.not_true, Bool.not_false, Nat.add_zero, Nat.zero_add, Nat.reduceAdd]
      refine wpPi_move _ rfl rfl ?_
      simp only [pl, pn, el, ec, sz, ss, gz, gs, if_true, if_false, Bool.false_eq_true, Bool.not_true, Bool.not_false, Nat.add_zero, Nat.zero_add, Nat.reduceAdd]
      refine wpPi_nilCheck _ _ rfl rfl rfl ?_
      simp only [pl, pn, el, ec, sz, ss, gz, gs, if_true, if_false, Bool.false_eq_true, Bool.not_true, Bool.not_false, Nat.add_zero, Nat.zero_add, Nat.reduceAdd]
      refine wpPi_field _ _ _ _ _ _ rfl rfl rfl fo_96_1 ?_
      simp only [pl, pn, el, ec, sz, ss, gz, gs, if_true, if_false, Bool.false_eq_true, Bool.not_true, Bool.not_false, Nat.add_zero, Nat.zero_add, Nat.reduceAdd]
      refine wpPi_val rfl (fun w' hS => exec_load1 25 _ (by rfl) bh 8 (by rfl) _ hS.2 _ Tryz.underlying25 rfl) ?_
      simp only [pl, pn, el, ec, sz, ss, gz, gs, if_true, if_false, Bool.false_eq_true, Bool.not_true, Bool.not_false, Nat.add_zero, Nat.zero_add, Nat.reduceAdd]
      refine wpPi_sliceTo 25 5 _ _ _ _ _ 64 1 rfl rfl rfl rfl Tryz.underlying25 (by kernel_rfl) (by omega) ?_
      simp only [pl, pn, el, ec, sz, ss, gz, gs, if_true, if_false, Bool.false_eq_true, Bool.not_true, Bool.not_false, Nat.add_zero, Nat.zero_add, Nat.reduceAdd]
      refine wpPi_do rfl (fun K hK => ?_)
      refine wp_enterQ (run_call 56 [.tmp 33, .tmp 38] _ rfl _ Tryz.func56 rfl (by kernel_rfl) [.pointer (some ⟨bh, 0, none⟩), sliced ad2 0 64 cap2 1] rfl _) (block_any ((hslH.out.keep0 (Mod.refl NoB wr).drew).fst 64 hlt) (by rw [List.length_take]; omega) bh 0 _ _ (blocksL k shaBegin m) (show wr.drew.heap[bh]? = _ from hrowH.out) (by simp [hashRow]) (fun j hj => hashRow_at _ _ _ j hj)) ?_
      rintro e w5 ⟨rfl, hB5, hm5⟩
      rw [hashRow_put] at hB5
      have hS5 : Mod (fun k => k = bh) wr w5 := (show Mod (fun k => k = bh) wr wr.drew from (Mod.refl _ _).drew).trans hm5 (fun _ _ h => h)
      refine ⟨_, rfl, hK _ _ ⟨hS5, by rw [cell_of_row _ _ _ _ _ _ hB5]; rfl⟩ ?_⟩
      clear hK K
      try simp only [pl, pn, el, ec, sz, ss, gz, gs, if_true, if_false, Bool.false_eq_true, Bool.not_true, Bool.not_false, Nat.add_zero, Nat.zero_add, Nat.reduceAdd]
      refine wpPi_nil ?_
      clear hS hm5
      go_upto_region 7 with (fail)
      refine wp_region_seq [3, 3, 3, 3, 1, 3, 3, 3, 1] (fun _ => True) (by rfl) (by rfl) trivial ?_
      simp only [List.zip_cons_cons, List.zip_nil_right]
      refine wpPi_move _ rfl rfl ?_
      simp only [pl, pn, el, ec, sz, ss, gz, gs, if_true, if_false, Bool.false_eq_true, Bool.not_true, Bool.not_false, Nat.add_zero, Nat.zero_add, Nat.reduceAdd]
      refine wpPi_move _ rfl rfl ?_
      simp only [pl, pn, el, ec, sz, ss, gz, gs, if_true, if_false, Bool.false_eq_true, Bool.not_true, Bool.not_false, Nat.add_zero, Nat.zero_add, Nat.reduceAdd]
      refine wpPi_nilCheck _ _ rfl rfl rfl ?_
      simp only [pl, pn, el, ec, sz, ss, gz, gs, if_true, if_false, Bool.false_eq_true, Bool.not_true, Bool.not_false, Nat.add_zero, Nat.zero_add, Nat.reduceAdd]
      refine wpPi_field _ _ _ _ _ _ rfl rfl rfl fo_96_1 ?_
      simp only [pl, pn, el, ec, sz, ss, gz, gs, if_true, if_false, Bool.false_eq_true, Bool.not_true, Bool.not_false, Nat.add_zero, Nat.zero_add, Nat.reduceAdd]
      refine wpPi_do rfl (fun K hK => ?_)
      refine wp_exec (exec_load1 25 _ (by rfl) bh 8 (by rfl) (.slice ad2 r.length cap2) (by rw [cell_of_row _ _ _ _ _ _ hB5]; rfl) _ Tryz.underlying25 rfl) ?_
      refine hK _ _ trivial ?_
      clear hK K
      try simp only [pl, pn, el, ec, sz, ss, gz, gs, if_true, if_false, Bool.false_eq_true, Bool.not_true, Bool.not_false, Nat.add_zero, Nat.zero_add, Nat.reduceAdd]
      refine wpPi_sliceFrom 25 5 _ _ _ _ _ 64 1 rfl rfl rfl rfl Tryz.underlying25 (by kernel_rfl) hlt ?_
      simp only [pl, pn, el, ec, sz, ss, gz, gs, if_true, if_false, Bool.false_eq_true, Bool.not_true, Bool.not_false, Nat.add_zero, Nat.zero_add, Nat.reduceAdd]
      refine wpPi_nilCheck _ _ rfl rfl rfl ?_
      simp only [pl, pn, el, ec, sz, ss, gz, gs, if_true, if_false, Bool.false_eq_true, Bool.not_true, Bool.not_false, Nat.add_zero, Nat.zero_add, Nat.reduceAdd]
      refine wpPi_field _ _ _ _ _ _ rfl rfl rfl fo_96_1 ?_
      simp only [pl, pn, el, ec, sz, ss, gz, gs, if_true, if_false, Bool.false_eq_true, Bool.not_true, Bool.not_false, Nat.add_zero, Nat.zero_add, Nat.reduceAdd]
      refine wpPi_do rfl (fun K hK => ?_)
      refine wp_store1 25 _ _ bh 8 (sliced ad2 64 r.length cap2 1) (by rfl) (by rfl) (by rfl) rfl (by kernel_rfl) _ _ hB5 (by simp [hashRow]) (fun w6 hB6 hm6 => ?_)
      replace hB6 : w6.heap[bh]? = some (.cells (hashRow (blockL (blocksL k shaBegin m) (r.take 64)) (sliced ad2 64 r.length cap2 1) m.length) 96 (0, 0)) := hB6
      refine hK _ _ trivial ?_
      clear hK K
      try simp only [pl, pn, el, ec, sz, ss, gz, gs, if_true, if_false, Bool.false_eq_true, Bool.not_true, Bool.not_false, Nat.add_zero, Nat.zero_add, Nat.reduceAdd]
      refine wpPi_nil ?_
      have hS6 : Mod (fun k => k = bh) wr w6 := hS5.trans hm6 (fun _ _ h => h)
      have hM6 : Mod (fun k => k = bh) w w6 := hM.trans hS6 (fun _ _ h => h)
      have hsl6 := (hslH.out.cut 64 hlt).keepB hS6 (fun k hk => by have hk' : w.heap.size ≤ k := hk; omega)
      have hrest : restN w6 bh = r.length - 64 := restN_of hB6
      have hrest0 : restN wr bh = r.length := restN_of hrowH.out
      have hd : r.drop 64 = m.drop (64 * (k + 1)) := by rw [← hr, List.drop_drop]; congr 1
      have hblk : blockL (blocksL k shaBegin m) (r.take 64) = blocksL (k + 1) shaBegin m := by rw [blocksL_add, hr]; rfl
      rw [hblk] at hB6
      rw [hd] at hsl6
      have HW6 : Hid (WRel w bh m w6) := ⟨k + 1, _, by omega, hB6, hsl6, hM6⟩
      have HME : Hid (restN w6 bh < restN wr bh) := by unfold Hid; omega
      clear hB5 hB6 hsl6 hM6 hS6 hm6 hrest hrest0 hS5 hblk hd
      go_wp2
      go_roundw
      case rel => exact HW6.out
      case measure => exact HME.out
    · have hz : ¬ (64 : Int) ≤ (r.length : Int) := by omega
      go_wp2
      go_ret
      have hkk : m.length / 64 = k := by omega
      exact ⟨rfl, _, by rw [hkk]; exact hrowH.out, by rw [hkk, hr]; exact hslH.out, hM⟩
end Go.Proofs.YtchkikmmcmjcgaaGreat

/- Rules for 64-bit words; bytes that a call gathers; bytes.Clone. -/
namespace Go.Proofs.YtchkikmmcmjcgaaGreat
set_option linter.unusedSimpArgs false
set_option linter.unusedVariables false
set_option linter.unnecessarySimpa false
set_option linter.unusedSectionVars false
open Go.RowKit


section
variable {P : Program} {w : World} {o : Oper} {a : Act}
theorem exec_mul64 (t : TypeId) (x y : Operand) (yt : TypeId) (m n d : Nat) (ho : o.op = .binOp .mul t x y yt) (hx : a.eval x = .int .u64 (m : Int)) (hy : a.eval y = .int .u64 (n : Int)) (hd : m * n = d) (hv : d < 18446744073709551616) : (execOp a.eval o).run P w = .ok (.value (.int .u64 (d : Int))) w := by
  subst hd
  have h1 : IntKind.u64.wrap ((m : Int) * (n : Int)) = ((m * n : Nat) : Int) := by
    rw [← Int.natCast_mul]
    simp [IntKind.wrap, IntKind.bits, IntKind.signed]; omega
  unfold execOp
  simp only [ho, hx, hy]
  go_simp
  try exact h1
theorem exec_shr64 (t : TypeId) (x y : Operand) (yt : TypeId) (m : Nat) (k : IntKind) (n : Nat) (ho : o.op = .binOp .shr t x y yt) (hx : a.eval x = .int .u64 (m : Int)) (hy : a.eval y = .int k (n : Int)) (hn : n ≤ 63) (hm : m < 18446744073709551616) : (execOp a.eval o).run P w = .ok (.value (.int .u64 ((m / 2 ^ n : Nat) : Int))) w := by
  have h1 : (0 : Int) ≤ (m : Int) / 2 ^ n := Int.ediv_nonneg (by omega) (Int.le_of_lt (Int.pow_pos (by omega)))
  have h2 : (m : Int) / 2 ^ n ≤ (m : Int) := Int.ediv_le_self _ (by omega)
  have h3 : ((m / 2 ^ n : Nat) : Int) = (m : Int) / 2 ^ n := by simp
  rw [h3]
  unfold execOp
  simp only [ho, hx, hy]
  go_simp
  all_goals (try rw [Int.emod_eq_of_lt h1 (by omega)])
theorem exec_byte_of_u64 (t u : TypeId) (x : Operand) (m : Nat) (ho : o.op = .convert t u x) (hx : a.eval x = .int .u64 (m : Int)) (ht : (P.underlying t).isSome = true) (hu : P.underlying u = some (.int .u8)) :
    (execOp a.eval o).run P w = .ok (.value (byteV (UInt8.ofNat m))) w := by
  unfold execOp
  simp only [ho, hx]
  have hk : P.intKind u = .u8 := by simp [Program.intKind, hu]
  have h1 := run_convert_int (P := P) w t u .u64 (m : Int) ht (by rw [hk]; exact hu)
  rw [hk] at h1
  have h2 : IntKind.u8.wrap (m : Int) = ((UInt8.ofNat m).toNat : Int) := by
    rw [IntKind.wrap_u8']
    simp
  rw [h2] at h1
  rw [Sem.run_bind, h1]
  rfl
end
theorem ownsRow_mod {S : Nat → Prop} {w w' : World} {base e size k : Nat} {v : Value} {xs : List Value} (h : w.ownsRow base e size v k xs) (hm : Mod S w w') (hS : ∀ k, v.ownBlock = some k → ¬ S k) : w'.ownsRow base e size v k xs := by
  refine ⟨h.1, ?_⟩
  rcases h.2 with h | ⟨g, cap, cur, rfl, hb, hg, r⟩
  · exact .inl h
  · exact .inr ⟨g, cap, cur, rfl, hb, hm.obj (hS g rfl) hg, r⟩
/-- A slice of bytes that the call itself has made. -/
def Bts (base : Nat) (w : World) (v : Value) (xs : List UInt8) : Prop := w.ownsRow base 5 1 v xs.length (xs.map byteV)
theorem bytes_flat (xs : List UInt8) : xs.map byteV = (xs.map fun x => #[byteV x]).flatMap Array.toList := by
  induction xs with
  | nil => rfl
  | cons x xs ih => rw [List.map_cons, List.map_cons, List.flatMap_cons, ih]; rfl
theorem Bts.sl {base : Nat} {w : World} {v : Value} {xs : List UInt8} (h : Bts base w v xs) : Sl true w (fun k => base ≤ k ∧ k < w.heap.size ∧ v.ownBlock = some k) 1 ByteC v xs :=
  Sl.of_owns h (bytes_flat xs) (fun c hc => by obtain ⟨x, _, rfl⟩ := List.mem_map.1 hc; rfl) ⟨by simp, fun i h1 h2 => by simp [ByteC]⟩ rfl
theorem bytes_of_all {css : List (Array Value)} {l : List UInt8} (h : All2 ByteC css l) : css.flatMap Array.toList = l.map byteV := by
  have : css = l.map fun x => #[byteV x] := by
    apply List.ext_getElem
    · simp [h.1]
    · intro i h1 h2
      have := h.2 i h1 (by rw [← h.1]; exact h1)
      rw [this]; simp
  rw [this, bytes_flat]
theorem Sl.bsrc {own : Bool} {w : World} {G : Nat → Prop} {v : Value} {l : List UInt8} (h : Sl own w G 1 ByteC v l) : Src w 1 v l.length (l.map byteV) := by
  obtain ⟨css, h1, _, h2⟩ := h.src (by omega)
  rwa [bytes_of_all h1] at h2
theorem bytes_one (xs : List UInt8) : ∀ c ∈ xs.map byteV, c.oneCell' = true := by
  intro c hc
  obtain ⟨x, _, rfl⟩ := List.mem_map.1 hc
  rfl
theorem owns_lit {w : World} {b : Nat} {x : UInt8} (h : w.heap[b]? = some (.cells #[byteV x] 5 (0, 0))) : w.ownsRow b 5 1 (.slice (some ⟨b, 0, none⟩) 1 1) 1 [byteV x] :=
  ⟨rfl, .inr ⟨b, 1, #[byteV x], rfl, Nat.le_refl _, h, by omega, by unfold maxLen; omega, rfl, rfl⟩⟩
/-- Bytes are appended. -/
theorem wp_bytes {o : Oper} {a : Act} {w : World} {K : Act → World → Prop} {Q : Exit → Act → World → Prop} (s x : Operand) (ho : o.op = .call { callee := .builtin .append, args := #[s, x], argTypes := #[25, 25] })
    (base : Nat) (v : Value) (xs : List UInt8) (hs : a.eval s = v) (hown : Bts base w v xs) (u : Value) (ys : List UInt8) (hx : a.eval x = u) (hsrc : Src w 1 u ys.length (ys.map byteV)) (hlen : xs.length + ys.length ≤ 140737488355328) (hbase : base ≤ w.heap.size)
    (h : ∀ v' w', Bts base w' v' (xs ++ ys) → Mod (fun k => v.ownBlock = some k) w w' → K (a.put o.dst v') w') : o.wp Tryz.prog a w K Q := by
  refine wp_append s x 25 5 (.int .u8 0) 1 1 ho Tryz.underlying25 byte_i (by kernel_rfl) (by omega) base v xs.length _ hs hown u ys.length _ hx hsrc (bytes_one ys) (by unfold maxLen; omega) (by omega) hbase (fun v' w' ho' hg hv => ?_)
  refine h v' w' ?_ ((Mod.refl _ _).grown hg (fun k e _ => e))
  unfold Bts
  rw [List.length_append, List.map_append]
  exact ho'
theorem Bts.lt {base : Nat} {w : World} {v : Value} {xs : List UInt8} (h : Bts base w v xs) {k : Nat} (e : v.ownBlock = some k) : base ≤ k ∧ k < w.heap.size := World.ownsRow.lt h k e
theorem Bts.keep {S : Nat → Prop} {base : Nat} {w w' : World} {v : Value} {xs : List UInt8} (h : Bts base w v xs) (hm : Mod S w w') (hn : ∀ k, v.ownBlock = some k → ¬ S k) : Bts base w' v xs := ownsRow_mod h hm hn
def CloneR (w : World) (m : List UInt8) : Ending → World → Prop := fun e w' => ∃ v, e = .returned v ∧ Bts w.heap.size w' v m ∧ Mod NoB w w'
set_option maxRecDepth 10000 in
theorem bytesClone_any {own : Bool} {G : Nat → Prop} {v : Value} {m : List UInt8} {w : World} (hb : Sl own w G 1 ByteC v m) (hl : m.length ≤ 140737488355328) : Calls Tryz.prog 57 #[v] w (CloneR w m) := by
  have hbS := Lib.hid hb
  obtain ⟨ad, cap, rfl, hle, hmx, hne⟩ := hb
  cases ad with
  | none =>
    have hm : m = [] := by
      cases m with
      | nil => rfl
      | cons x m => obtain ⟨b, off, h, _⟩ := hne (by simp); cases h
    subst hm
    clear hne
    rw [List.length_nil]
    have heq := fun w => Lib.run_eql_slice_nil (P := Tryz.prog) w 25 5 none 0 cap 0 0 Tryz.underlying25
    go_enter Tryz.func57, Tryz.ntmps57
    go_wp2
    go_ret
    exact ⟨_, rfl, ⟨rfl, .inl ⟨rfl, rfl⟩⟩, Mod.refl _ _⟩
  | some q =>
    clear hne
    have heq := fun w => Lib.run_eql_slice_nil (P := Tryz.prog) w 25 5 (some q) m.length cap 0 0 Tryz.underlying25
    go_enter Tryz.func57, Tryz.ntmps57
    go_upto_region 3 with (fail)
    refine wp_region_seq [1, 3, 1, 3] (fun _ => True) (by rfl) (by rfl) trivial ?_
    simp only [List.zip_cons_cons, List.zip_nil_right]
    refine wpPi_do rfl (fun K hK => ?_)
    refine wp_buildSlice0 25 5 (by rfl) Tryz.underlying25 (by kernel_rfl) (fun w1 hB1 hm1 hs1 => ?_)
    refine hK _ _ trivial ?_
    clear hK K
    try simp only [pl, pn, el, ec, sz, ss, gz, gs, if_true, if_false, Bool.false_eq_true, Bool.not_true, Bool.not_false, Nat.add_zero, Nat.zero_add, Nat.reduceAdd]
    refine wpPi_move _ rfl rfl ?_
    simp only [pl, pn, el, ec, sz, ss, gz, gs, if_true, if_false, Bool.false_eq_true, Bool.not_true, Bool.not_false, Nat.add_zero, Nat.zero_add, Nat.reduceAdd]
    refine wpPi_do rfl (fun K hK => ?_)
    refine wp_bytes _ _ (by rfl) w.heap.size _ [] (by rfl) (owns_empty _ hB1 (Nat.le_refl _)) _ m (by rfl) (hbS.out.keep0 hm1).bsrc (by simpa using hl) hm1.size (fun v' w2 ho2 hm2 => ?_)
    rw [List.nil_append] at ho2
    refine hK _ _ trivial ?_
    clear hK K
    try simp only [pl, pn, el, ec, sz, ss, gz, gs, if_true, if_false, Bool.false_eq_true, Bool.not_true, Bool.not_false, Nat.add_zero, Nat.zero_add, Nat.reduceAdd]
    refine wpPi_assign _ rfl rfl ?_
    simp only [pl, pn, el, ec, sz, ss, gz, gs, if_true, if_false, Bool.false_eq_true, Bool.not_true, Bool.not_false, Nat.add_zero, Nat.zero_add, Nat.reduceAdd]
    refine wpPi_nil ?_
    go_wp2
    go_ret
    exact ⟨_, rfl, ho2, hm1.trans hm2 (fun k hk e => by
      have e' : some w.heap.size = some k := e
      cases e'; omega)⟩
end Go.Proofs.YtchkikmmcmjcgaaGreat

/- SHA-256: the hash's sum: the pad. -/
namespace Go.Proofs.YtchkikmmcmjcgaaGreat
set_option linter.unusedSimpArgs false
set_option linter.unusedVariables false
set_option linter.unnecessarySimpa false
set_option linter.unusedSectionVars false
open Go.RowKit


theorem wpPi_rem {P : Program} {ops : Array Oper} {Q : Exit → Act → World → Prop} {S : World → Prop} {o : Oper} {r : List (Oper × Nat)} {a : Act} {w : World} (t : TypeId) (x y : Operand) (yt : TypeId) (m n : Int) (hw : Region.wanted o (yielded ops a.tmps) = true) (ho : o.op = .binOp .rem t x y yt) (hx : a.eval x = .int .i64 m) (hy : a.eval y = .int .i64 n)
    (h1 : 0 ≤ m) (h2 : 0 < n) (h : wpPi P ops Q S r (a.put o.dst (.int .i64 (m % n))) w) : wpPi P ops Q S ((o, 3) :: r) a w :=
  wpPi_any hw (fun w => by
    unfold execOp
    have e : m.tmod n = m % n := Int.tmod_eq_emod_of_nonneg h1
    have hn : n ≠ 0 := by omega
    simp [ho, hx, hy, eqGuard, binOp, Op.intDiv, e, hn]) h
theorem wpPi_quo {P : Program} {ops : Array Oper} {Q : Exit → Act → World → Prop} {S : World → Prop} {o : Oper} {r : List (Oper × Nat)} {a : Act} {w : World} (t : TypeId) (x y : Operand) (yt : TypeId) (m n : Int) (hw : Region.wanted o (yielded ops a.tmps) = true) (ho : o.op = .binOp .quo t x y yt) (hx : a.eval x = .int .i64 m) (hy : a.eval y = .int .i64 n)
    (h2 : n ≠ 0) (h3 : -9223372036854775808 ≤ m.tdiv n) (h4 : m.tdiv n ≤ 9223372036854775807) (h : wpPi P ops Q S r (a.put o.dst (.int .i64 (m.tdiv n))) w) : wpPi P ops Q S ((o, 3) :: r) a w :=
  wpPi_any hw (fun w => by
    unfold execOp
    have e := wrap_in h3 h4
    simp [ho, hx, hy, eqGuard, binOp, Op.intDiv, e, h2]) h
theorem wpPi_remR {P : Program} {ops : Array Oper} {Q : Exit → Act → World → Prop} {S : World → Prop} {o : Oper} {r : List (Oper × Nat)} {a : Act} {w : World} (t : TypeId) (x y : Operand) (yt : TypeId) (m n d : Int) (hw : Region.wanted o (yielded ops a.tmps) = true) (ho : o.op = .binOp .rem t x y yt) (hx : a.eval x = .int .i64 m) (hy : a.eval y = .int .i64 n)
    (hd : m % n = d) (h1 : 0 ≤ m) (h2 : 0 < n) (h : wpPi P ops Q S r (a.put o.dst (.int .i64 d)) w) : wpPi P ops Q S ((o, 3) :: r) a w := by
  subst hd
  exact wpPi_rem t x y yt m n hw ho hx hy h1 h2 h
theorem wpPi_quoR {P : Program} {ops : Array Oper} {Q : Exit → Act → World → Prop} {S : World → Prop} {o : Oper} {r : List (Oper × Nat)} {a : Act} {w : World} (t : TypeId) (x y : Operand) (yt : TypeId) (m n d : Int) (hw : Region.wanted o (yielded ops a.tmps) = true) (ho : o.op = .binOp .quo t x y yt) (hx : a.eval x = .int .i64 m) (hy : a.eval y = .int .i64 n)
    (hd : m.tdiv n = d) (h2 : n ≠ 0) (h3 : -9223372036854775808 ≤ d) (h4 : d ≤ 9223372036854775807) (h : wpPi P ops Q S r (a.put o.dst (.int .i64 d)) w) : wpPi P ops Q S ((o, 3) :: r) a w := by
  subst hd
  exact wpPi_quo t x y yt m n hw ho hx hy h2 h3 h4 h
theorem idZ : (Tryz.prog.info? 24).bind (·.zero) = some (.agg (idCells (List.replicate 32 0))) := by kernel_rfl
def lenV : Value → Nat
  | .slice _ n _ => n
  | _ => 0
def padM (n : Nat) : Nat := (120 - n % 64) % 64
theorem Bts.slice {base : Nat} {w : World} {v : Value} {xs : List UInt8} (h : Bts base w v xs) : ∃ ad cap, v = .slice ad xs.length cap := by
  rcases h.2 with ⟨rfl, h0⟩ | ⟨g, cap, cur, rfl, _⟩
  · exact ⟨_, _, by rw [h0]⟩
  · exact ⟨_, _, rfl⟩
theorem Bts.len {base : Nat} {w : World} {v : Value} {xs : List UInt8} (h : Bts base w v xs) : lenV v = xs.length := by
  obtain ⟨ad, cap, rfl⟩ := h.slice; rfl
/-- The bytes that stand behind the text, with j noughts. -/
def padJ (l : List UInt8) (j : Nat) : List UInt8 := l ++ [128] ++ List.replicate j 0
theorem padJ_len (l : List UInt8) (j : Nat) : (padJ l j).length = l.length + 1 + j := by simp [padJ]; omega
theorem padJ_succ (l : List UInt8) (j : Nat) : padJ l j ++ [0] = padJ l (j + 1) := by simp [padJ, List.replicate_succ']
def PadRel (w0 : World) (l : List UInt8) (v : Value) (w : World) : Prop := ∃ j, j ≤ padN l.length ∧ Bts w0.heap.size w v (padJ l j) ∧ Mod NoB w0 w
def LenRel (w0 : World) (X : List UInt8) (n : Nat) (v i : Value) (w : World) : Prop := ∃ k : Nat, k ≤ 8 ∧ i = .int .i64 k ∧ Bts w0.heap.size w v (X ++ (lenBytes n).take k) ∧ Mod NoB w0 w
theorem lenBytes_step (n k : Nat) (h : k < 8) : (lenBytes n).take (k + 1) = (lenBytes n).take k ++ [UInt8.ofNat (n * 8 / 2 ^ (56 - 8 * k))] := by
  rw [List.take_add_one]
  congr 1
  simp [lenBytes, h]
def BlkRel (w0 : World) (b4 : Nat) (s : W8) (Y : List UInt8) (v : Value) (w : World) : Prop := ∃ k, 64 * k ≤ Y.length ∧ w.heap[b4]? = some (.cells (wordCells (blocksL k s Y).list) 93 (0, 0)) ∧
  Sl false w (fun g => w0.heap.size ≤ g) 1 ByteC v (Y.drop (64 * k)) ∧ Mod (fun q => q = b4) w0 w
theorem words_row (c : W8) (j : Nat) (h : j < 8) : (wordCells c.list)[0 + j]? = some (wordV (c.list.getD j 0)) := by
  match j, h with
  | 0, _ | 1, _ | 2, _ | 3, _ | 4, _ | 5, _ | 6, _ | 7, _ => rfl
theorem words_put (c d : W8) : putRow (wordCells c.list) 0 (wordCells d.list) = wordCells d.list := rfl
def outRow (c : W8) (i : Nat) : Array Value := idCells ((outL c).take i ++ List.replicate (32 - i) 0)
theorem outL_len (c : W8) : (outL c).length = 32 := by simp [outL]
theorem outRow_size (c : W8) (i : Nat) (h : i ≤ 32) : (outRow c i).size = 32 := by simp [outRow, idCells_size, outL_len]; omega
theorem outRow_step (c : W8) (i : Nat) (h : i < 32) : (outRow c i).setIfInBounds i (byteV (outByte c i)) = outRow c (i + 1) := by
  have hl := outL_len c
  have hg : (outL c)[i]? = some (outByte c i) := by simp [outL, h]
  apply Array.ext_getElem?; intro k
  rw [Array.getElem?_setIfInBounds, outRow_size c i (by omega)]
  simp only [outRow, idCells, List.getElem?_toArray, List.getElem?_map]
  by_cases e : i = k
  · subst e
    rw [if_pos rfl, if_pos h, List.getElem?_append_left (by rw [List.length_take]; omega), List.getElem?_take_of_lt (by omega), hg]; rfl
  · rw [if_neg e]
    congr 1
    rcases Nat.lt_or_ge k i with h1 | h1
    · rw [List.getElem?_append_left (by rw [List.length_take]; omega), List.getElem?_append_left (by rw [List.length_take]; omega), List.getElem?_take_of_lt h1, List.getElem?_take_of_lt (by omega)]
    · rw [List.getElem?_append_right (by rw [List.length_take]; omega), List.getElem?_append_right (by rw [List.length_take]; omega), List.length_take, List.length_take, List.getElem?_replicate, List.getElem?_replicate]
      by_cases h2 : k < 32
      · rw [if_pos (by omega), if_pos (by omega)]
      · rw [if_neg (by omega), if_neg (by omega)]
def OutRel (w0 : World) (b2 b4 : Nat) (c : W8) (i : Value) (w : World) : Prop := ∃ n : Nat, n ≤ 32 ∧ i = .int .i64 n ∧ w.heap[b2]? = some (.cells (outRow c n) 24 (0, 0)) ∧ w.heap[b4]? = some (.cells (wordCells c.list) 93 (0, 0)) ∧ Mod (fun q => q = b2) w0 w
theorem results_row_tmp {P : Program} {fn : Func} {p u : Tmp} {ty : TypeId} (h : fn.results = #[.cell p ty, .tmp u]) (tmps : Array Value) (w : World) (g : Nat) (t : TypeId) (cs : Array Value) (fr : Nat × Nat) (d : TypeDesc)
    (hp : tmps.getD p undef = .pointer (some ⟨g, 0, none⟩)) (hg : w.heap[g]? = some (.cells cs t fr))
    (hu : P.underlying ty = some d) (hd : (match d with | .struct _ | .array _ _ => true | _ => false) = true) (hi : (P.info? ty).map (·.size) = some cs.size) :
    (results fn tmps).run P w = .ok (.tuple #[.agg cs, tmps.getD u undef]) w := by
  have hp' : tmps[p]?.getD undef = .pointer (some ⟨g, 0, none⟩) := by simpa using hp
  simp [results, h, hp', asAddr, run_loadVar_row w g t ty cs fr d hg hu hd hi]
def SumR (w : World) (r : List UInt8) : Ending → World → Prop := fun e w' => e = .returned (.tuple #[.agg (idCells r), .int .i64 0]) ∧ Mod NoB w w'
set_option maxRecDepth 10000 in
set_option maxHeartbeats 4000000 in
theorem shaHSum_any {own : Bool} {G : Nat → Prop} {rest : Value} {l : List UInt8} {s : W8} {n bh : Nat} {w : World} (hb : Sl own w G 1 ByteC rest l) (hl : l.length < 64) (hn : n ≤ 140737488355328) (hnl : n % 64 = l.length)
    (hrow : w.heap[bh]? = some (.cells (hashRow s rest n) 96 (0, 0))) :
    Calls Tryz.prog 40 #[.pointer (some ⟨bh, 0, none⟩)] w (SumR w (outL (blocksL ((padJ l (padN n) ++ lenBytes n).length / 64) s (padJ l (padN n) ++ lenBytes n)))) := by
  have hbS := Lib.hid hb
  clear hb
  go_enter Tryz.func40, Tryz.ntmps40
  go_upto_region 0 with (fail)
  refine wp_region_seq [1, 3] (fun _ => True) (by rfl) (by rfl) trivial ?_
  simp only [List.zip_cons_cons, List.zip_nil_right]
  refine wpPi_do rfl (fun K hK => ?_)
  refine wp_alloc 24 _ (by rfl) idZ (fun w1 hB1 hm1 hs1 => ?_)
  replace hB1 : w1.heap[w.heap.size]? = some (.cells (idCells (List.replicate 32 0)) 24 (0, 0)) := hB1
  refine hK _ _ trivial ?_
  clear hK K
  try simp only [pl, pn, el, ec, sz, ss, gz, gs, if_true, if_false, Bool.false_eq_true, Bool.not_true, Bool.not_false, Nat.add_zero, Nat.zero_add, Nat.reduceAdd]
  refine wpPi_assign _ rfl rfl ?_
  simp only [pl, pn, el, ec, sz, ss, gz, gs, if_true, if_false, Bool.false_eq_true, Bool.not_true, Bool.not_false, Nat.add_zero, Nat.zero_add, Nat.reduceAdd]
  refine wpPi_nil ?_
  replace hrow := hm1.obj id hrow
  have hW1 := hB1
  have hc10 : w1.cell? ⟨bh, 10, none⟩ = some (.bool true) := by rw [cell_of_row _ _ _ _ _ _ hrow]; rfl
  go_upto_region 3 with (go_at_call 55; refine (shaNone_at bh _ hc10).mono ?_; rintro _ w3 ⟨rfl, hw⟩; obtain rfl := hw.symm)
  refine wp_region_seq [3, 3, 3, 1, 1, 1] (fun _ => True) (by rfl) (by rfl) trivial ?_
  simp only [List.zip_cons_cons, List.zip_nil_right]
  refine wpPi_move _ rfl rfl ?_
  simp only [pl, pn, el, ec, sz, ss, gz, gs, if_true, if_false, Bool.false_eq_true, Bool.not_true, Bool.not_false, Nat.add_zero, Nat.zero_add, Nat.reduceAdd]
  refine wpPi_nilCheck _ _ rfl rfl rfl ?_
  simp only [pl, pn, el, ec, sz, ss, gz, gs, if_true, if_false, Bool.false_eq_true, Bool.not_true, Bool.not_false, Nat.add_zero, Nat.zero_add, Nat.reduceAdd]
  refine wpPi_field _ _ _ _ _ _ rfl rfl rfl fo_96_0 ?_
  simp only [pl, pn, el, ec, sz, ss, gz, gs, if_true, if_false, Bool.false_eq_true, Bool.not_true, Bool.not_false, Nat.add_zero, Nat.zero_add, Nat.reduceAdd]
  refine wpPi_do rfl (fun K hK => ?_)
  refine wp_exec (exec_loadA 93 _ (by rfl) bh 0 (by rfl) (wordCells s.list) (words_at hrow (fun k hk => hashRow_at _ _ _ k hk)) _ Tryz.underlying93 rfl 8 (by kernel_rfl) (by rw [wordCells_size]; rfl)) ?_
  refine hK _ _ trivial ?_
  clear hK K
  try simp only [pl, pn, el, ec, sz, ss, gz, gs, if_true, if_false, Bool.false_eq_true, Bool.not_true, Bool.not_false, Nat.add_zero, Nat.zero_add, Nat.reduceAdd]
  refine wpPi_do rfl (fun K hK => ?_)
  refine wp_alloc 93 _ (by rfl) wordsZ (fun w2 hB2 hm2 hs2 => ?_)
  replace hB2 : w2.heap[w1.heap.size]? = some (.cells (wordCells (List.replicate 8 0)) 93 (0, 0)) := hB2
  refine hK _ _ trivial ?_
  clear hK K
  try simp only [pl, pn, el, ec, sz, ss, gz, gs, if_true, if_false, Bool.false_eq_true, Bool.not_true, Bool.not_false, Nat.add_zero, Nat.zero_add, Nat.reduceAdd]
  refine wpPi_do rfl (fun K hK => ?_)
  refine wp_storeA 93 _ _ w1.heap.size 0 (wordCells s.list) (by rfl) (by rfl) (by rfl) (wordCells_one _) 8 (by kernel_rfl) (by rw [wordCells_size]; rfl) _ _ hB2 (by rw [wordCells_size, wordCells_size]; simp [W8.list]) (fun w3 hB3 hm3 => ?_)
  rw [putRow_whole (by rw [wordCells_size, wordCells_size]; simp [W8.list])] at hB3
  refine hK _ _ trivial ?_
  clear hK K
  try simp only [pl, pn, el, ec, sz, ss, gz, gs, if_true, if_false, Bool.false_eq_true, Bool.not_true, Bool.not_false, Nat.add_zero, Nat.zero_add, Nat.reduceAdd]
  refine wpPi_nil ?_
  have hs3 := hm3.size
  have hM13 : Mod NoB w1 w3 := hm2.transB hm3 (Nat.le_refl _)
  have hM3 : Mod NoB w w3 := hm1.trans0 hM13
  replace hB1 := hM13.obj id hB1
  replace hrow := hM13.obj id hrow
  clear hm2 hm3 hB2 hc10
  go_upto_region 4 with (fail)
  refine wp_region_seq [3, 3, 3, 1, 1, 1, 1, 3] (fun _ => True) (by rfl) (by rfl) trivial ?_
  simp only [List.zip_cons_cons, List.zip_nil_right]
  refine wpPi_move _ rfl rfl ?_
  simp only [pl, pn, el, ec, sz, ss, gz, gs, if_true, if_false, Bool.false_eq_true, Bool.not_true, Bool.not_false, Nat.add_zero, Nat.zero_add, Nat.reduceAdd]
  refine wpPi_nilCheck _ _ rfl rfl rfl ?_
  simp only [pl, pn, el, ec, sz, ss, gz, gs, if_true, if_false, Bool.false_eq_true, Bool.not_true, Bool.not_false, Nat.add_zero, Nat.zero_add, Nat.reduceAdd]
  refine wpPi_field _ _ _ _ _ _ rfl rfl rfl fo_96_1 ?_
  simp only [pl, pn, el, ec, sz, ss, gz, gs, if_true, if_false, Bool.false_eq_true, Bool.not_true, Bool.not_false, Nat.add_zero, Nat.zero_add, Nat.reduceAdd]
  refine wpPi_do rfl (fun K hK => ?_)
  refine wp_exec (exec_load1 25 _ (by rfl) bh 8 (by rfl) rest (by rw [cell_of_row _ _ _ _ _ _ hrow]; rfl) _ Tryz.underlying25 rfl) ?_
  refine hK _ _ trivial ?_
  clear hK K
  try simp only [pl, pn, el, ec, sz, ss, gz, gs, if_true, if_false, Bool.false_eq_true, Bool.not_true, Bool.not_false, Nat.add_zero, Nat.zero_add, Nat.reduceAdd]
  refine wpPi_do rfl (fun K hK => ?_)
  refine wp_enterQ (run_call 57 [.tmp 18] _ rfl _ Tryz.func57 rfl (by kernel_rfl) [rest] rfl _) (bytesClone_any (hbS.out.keep0 hM3) (by omega)) ?_
  rintro e w4 ⟨v4, rfl, ho4, hm4⟩
  refine ⟨_, rfl, hK _ _ trivial ?_⟩
  clear hK K
  try simp only [pl, pn, el, ec, sz, ss, gz, gs, if_true, if_false, Bool.false_eq_true, Bool.not_true, Bool.not_false, Nat.add_zero, Nat.zero_add, Nat.reduceAdd]
  refine wpPi_do rfl (fun K hK => ?_)
  refine wp_buildSlice1 25 5 _ (byteV 128) (.int .u8 0) 1 (by rfl) (by rfl) Tryz.underlying25 (by kernel_rfl) (by omega) (by omega) (by rfl) (fun w5 hB5 hm5 hs5 => ?_)
  replace hB5 : w5.heap[w4.heap.size]? = some (.cells #[byteV 128] 5 (0, 0)) := hB5
  refine hK _ _ trivial ?_
  clear hK K
  try simp only [pl, pn, el, ec, sz, ss, gz, gs, if_true, if_false, Bool.false_eq_true, Bool.not_true, Bool.not_false, Nat.add_zero, Nat.zero_add, Nat.reduceAdd]
  refine wpPi_do rfl (fun K hK => ?_)
  have hs4 := hm4.size
  refine wp_bytes _ _ (by rfl) w3.heap.size _ l (by rfl) (ho4.keep hm5 (fun _ _ => id)) (.slice (some ⟨w4.heap.size, 0, none⟩) 1 1) [128] (by rfl) (owns_src (owns_lit hB5)) (by simp; omega) (by omega) (fun v6 w6 ho6 hm6 => ?_)
  refine hK _ _ trivial ?_
  clear hK K
  try simp only [pl, pn, el, ec, sz, ss, gz, gs, if_true, if_false, Bool.false_eq_true, Bool.not_true, Bool.not_false, Nat.add_zero, Nat.zero_add, Nat.reduceAdd]
  refine wpPi_assign _ rfl rfl ?_
  simp only [pl, pn, el, ec, sz, ss, gz, gs, if_true, if_false, Bool.false_eq_true, Bool.not_true, Bool.not_false, Nat.add_zero, Nat.zero_add, Nat.reduceAdd]
  refine wpPi_nil ?_
  have hM6 : Mod NoB w3 w6 := (hm4.trans0 hm5).trans hm6 (fun k hk e => by have := (ho4.lt e).1; omega)
  have hpN : padN n = padN l.length := by unfold padN; omega
  rw [hpN]
  replace hs3 : w3.heap.size ≤ w6.heap.size := hM6.size
  clear hM13 hm4 hm5 hm6 ho4 hB5 hs5 hs2 hs1 hm1
  go_wp2
  go_loopw [5] (PadRel w3 l) (fun v _ => padM (lenV v))
  case atStart => exact ⟨0, Nat.zero_le _, by simpa [padJ] using ho6, hM6⟩
  case round =>
    rename World => wr
    clear ho6 hM6 hs3
    obtain ⟨j, hj, hob, hM⟩ := hrel
    have hoH := Lib.hid hob
    have hjl := padJ_len l j
    have hpad : padN l.length < 64 := by unfold padN; omega
    have hPS := Lib.hid (padJ_succ l j)
    obtain ⟨ad, cap, rfl⟩ := hob.slice
    clear hob
    have hwr := hM.size
    go_upto_region 5 with (fail)
    by_cases h56 : (l.length + 1 + j) % 64 = 56
    · skip
      refine wp_region_seq [3, 3, 3, 3] (fun _ => True) (by rfl) (by rfl) trivial ?_
      simp only [List.zip_cons_cons, List.zip_nil_right]
      refine wpPi_move _ rfl rfl ?_
      simp only [pl, pn, el, ec, sz, ss, gz, gs, if_true, if_false, Bool.false_eq_true, Bool.not_true, Bool.not_false, Nat.add_zero, Nat.zero_add, Nat.reduceAdd]
      refine wpPi_len _ _ _ _ _ rfl rfl rfl (by kernel_rfl) ?_
      simp only [pl, pn, el, ec, sz, ss, gz, gs, if_true, if_false, Bool.false_eq_true, Bool.not_true, Bool.not_false, Nat.add_zero, Nat.zero_add, Nat.reduceAdd]
      refine wpPi_remR _ _ _ _ ((padJ l j).length : Int) 64 56 rfl rfl rfl rfl (by omega) (by omega) (by omega) ?_
      simp only [pl, pn, el, ec, sz, ss, gz, gs, if_true, if_false, Bool.false_eq_true, Bool.not_true, Bool.not_false, Nat.add_zero, Nat.zero_add, Nat.reduceAdd]
      refine wpPi_cmp _ _ _ _ _ _ _ _ rfl rfl rfl rfl rfl false (by rfl) ?_
      simp only [pl, pn, el, ec, sz, ss, gz, gs, if_true, if_false, Bool.false_eq_true, Bool.not_true, Bool.not_false, Nat.add_zero, Nat.zero_add, Nat.reduceAdd]
      refine wpPi_nil ?_
      have hj2 : j = padN l.length := by unfold padN at hj ⊢; omega
      subst hj2
      clear hPS h56 hj
      generalize hX : padJ l (padN l.length) = X at hoH hjl ⊢
      have HX := Lib.hid hX
      go_wp2
      go_loopw [5, 29] (LenRel w3 X n) (fun _ i _ => 8 - (intOf i).toNat)
      case atStart => exact ⟨0, by omega, rfl, by simpa using hoH.out, hM⟩
      case round =>
        rename World => wq
        clear hoH hM hwr
        obtain ⟨k, hk, rfl, hob, hM⟩ := hrel
        obtain ⟨Y, hY⟩ : ∃ Y, X ++ (lenBytes n).take k = Y := ⟨_, rfl⟩
        rw [hY] at hob
        have hYl : Y.length = X.length + k := by rw [← hY, List.length_append, List.length_take, lenBytes_len]; omega
        have hoH := Lib.hid hob
        obtain ⟨ad2, cap2, rfl⟩ := hob.slice
        clear hob
        have hwq := hM.size
        have hrowq := hM.obj id hrow
        by_cases hlt : k < 8
        · have hz : (k : Int) < 8 := by omega
          have hstep : Y ++ [UInt8.ofNat (n * 8 / 2 ^ (56 - 8 * k))] = X ++ (lenBytes n).take (k + 1) := by rw [lenBytes_step n k hlt, ← hY, List.append_assoc]
          have hcv : IntKind.u64.wrap (n : Int) = (n : Int) := by simp [IntKind.wrap, IntKind.bits, IntKind.signed]; omega
          have HSTEP := Lib.hid hstep
          have HCV := Lib.hid hcv
          have HYY := Lib.hid hY
          clear hstep hcv hY
          obtain ⟨y, hy⟩ : ∃ y, UInt8.ofNat (n * 8 / 2 ^ (56 - 8 * k)) = y := ⟨_, rfl⟩
          have HY := Lib.hid hy
          clear hy
          go_upto_region 10 with (fail)
          refine wp_region_seq [3, 3, 3, 3, 1, 3, 3, 3, 3, 3, 3, 3, 1, 1, 3] (fun _ => True) (by rfl) (by rfl) trivial ?_
          simp only [List.zip_cons_cons, List.zip_nil_right]
          refine wpPi_move _ rfl rfl ?_
          simp only [pl, pn, el, ec, sz, ss, gz, gs, if_true, if_false, Bool.false_eq_true, Bool.not_true, Bool.not_false, Nat.add_zero, Nat.zero_add, Nat.reduceAdd]
          refine wpPi_move _ rfl rfl ?_
          simp only [pl, pn, el, ec, sz, ss, gz, gs, if_true, if_false, Bool.false_eq_true, Bool.not_true, Bool.not_false, Nat.add_zero, Nat.zero_add, Nat.reduceAdd]
          refine wpPi_nilCheck _ _ rfl rfl rfl ?_
          simp only [pl, pn, el, ec, sz, ss, gz, gs, if_true, if_false, Bool.false_eq_true, Bool.not_true, Bool.not_false, Nat.add_zero, Nat.zero_add, Nat.reduceAdd]
          refine wpPi_field _ _ _ _ _ _ rfl rfl rfl fo_96_2 ?_
          simp only [pl, pn, el, ec, sz, ss, gz, gs, if_true, if_false, Bool.false_eq_true, Bool.not_true, Bool.not_false, Nat.add_zero, Nat.zero_add, Nat.reduceAdd]
          refine wpPi_do rfl (fun K hK => ?_)
          refine wp_exec (exec_load1 3 _ (by rfl) bh 9 (by rfl) (.int .i64 (n : Int)) (by rw [cell_of_row _ _ _ _ _ _ hrowq]; rfl) _ Tryz.underlying3 rfl) ?_
          refine hK _ _ trivial ?_
          clear hK K
          try simp only [pl, pn, el, ec, sz, ss, gz, gs, if_true, if_false, Bool.false_eq_true, Bool.not_true, Bool.not_false, Nat.add_zero, Nat.zero_add, Nat.reduceAdd]
          refine wpPi_any (v := .int .u64 (n : Int)) rfl (fun w' => exec_conv_uint 3 98 _ _ rfl rfl (by kernel_rfl) Tryz.underlying98 _ HCV.out) ?_
          simp only [pl, pn, el, ec, sz, ss, gz, gs, if_true, if_false, Bool.false_eq_true, Bool.not_true, Bool.not_false, Nat.add_zero, Nat.zero_add, Nat.reduceAdd]
          refine wpPi_any (v := .int .u64 ((n * 8 : Nat) : Int)) rfl (fun w' => exec_mul64 _ _ _ _ n 8 (n * 8) rfl rfl rfl rfl (by omega)) ?_
          simp only [pl, pn, el, ec, sz, ss, gz, gs, if_true, if_false, Bool.false_eq_true, Bool.not_true, Bool.not_false, Nat.add_zero, Nat.zero_add, Nat.reduceAdd]
          refine wpPi_move _ rfl rfl ?_
          simp only [pl, pn, el, ec, sz, ss, gz, gs, if_true, if_false, Bool.false_eq_true, Bool.not_true, Bool.not_false, Nat.add_zero, Nat.zero_add, Nat.reduceAdd]
          refine wpPi_mulR _ _ _ _ 8 (k : Int) ((8 * k : Nat) : Int) rfl rfl rfl rfl (by omega) (by omega) (by omega) ?_
          simp only [pl, pn, el, ec, sz, ss, gz, gs, if_true, if_false, Bool.false_eq_true, Bool.not_true, Bool.not_false, Nat.add_zero, Nat.zero_add, Nat.reduceAdd]
          refine wpPi_subR _ _ _ _ 56 ((8 * k : Nat) : Int) ((56 - 8 * k : Nat) : Int) rfl rfl rfl rfl (by omega) (by omega) (by omega) ?_
          simp only [pl, pn, el, ec, sz, ss, gz, gs, if_true, if_false, Bool.false_eq_true, Bool.not_true, Bool.not_false, Nat.add_zero, Nat.zero_add, Nat.reduceAdd]
          refine wpPi_any (v := .int .u64 ((n * 8 / 2 ^ (56 - 8 * k) : Nat) : Int)) rfl (fun w' => exec_shr64 _ _ _ _ (n * 8) .i64 (56 - 8 * k) rfl rfl rfl (by omega) (by omega)) ?_
          simp only [pl, pn, el, ec, sz, ss, gz, gs, if_true, if_false, Bool.false_eq_true, Bool.not_true, Bool.not_false, Nat.add_zero, Nat.zero_add, Nat.reduceAdd]
          refine wpPi_any (v := byteV y) rfl (fun w' => by rw [← HY.out]; exact exec_byte_of_u64 _ _ _ _ rfl rfl (by kernel_rfl) Tryz.underlying5) ?_
          simp only [pl, pn, el, ec, sz, ss, gz, gs, if_true, if_false, Bool.false_eq_true, Bool.not_true, Bool.not_false, Nat.add_zero, Nat.zero_add, Nat.reduceAdd]
          refine wpPi_do rfl (fun K hK => ?_)
          refine wp_buildSlice1 25 5 _ (byteV y) (.int .u8 0) 1 (by rfl) (by rfl) Tryz.underlying25 (by kernel_rfl) (by omega) (by omega) (by rfl) (fun w7 hB7 hm7 hs7 => ?_)
          replace hB7 : w7.heap[wq.heap.size]? = some (.cells #[byteV y] 5 (0, 0)) := hB7
          refine hK _ _ trivial ?_
          clear hK K
          try simp only [pl, pn, el, ec, sz, ss, gz, gs, if_true, if_false, Bool.false_eq_true, Bool.not_true, Bool.not_false, Nat.add_zero, Nat.zero_add, Nat.reduceAdd]
          refine wpPi_do rfl (fun K hK => ?_)
          refine wp_bytes _ _ (by rfl) w3.heap.size _ Y (by rfl) (hoH.out.keep hm7 (fun _ _ => id)) (.slice (some ⟨wq.heap.size, 0, none⟩) 1 1) [y] (by rfl) (owns_src (owns_lit hB7)) (by simp; omega) (by omega) (fun v8 w8 ho8 hm8 => ?_)
          rw [← HY.out, HSTEP.out] at ho8
          have hM8 : Mod NoB w3 w8 := (hM.trans0 hm7).trans hm8 (fun k hk e => by have := (hoH.out.lt e).1; omega)
          refine hK _ _ trivial ?_
          clear hK K
          try simp only [pl, pn, el, ec, sz, ss, gz, gs, if_true, if_false, Bool.false_eq_true, Bool.not_true, Bool.not_false, Nat.add_zero, Nat.zero_add, Nat.reduceAdd]
          refine wpPi_assign _ rfl rfl ?_
          simp only [pl, pn, el, ec, sz, ss, gz, gs, if_true, if_false, Bool.false_eq_true, Bool.not_true, Bool.not_false, Nat.add_zero, Nat.zero_add, Nat.reduceAdd]
          refine wpPi_nil ?_
          clear hm8 hm7 hB7 hs7 hrowq
          go_wp2
          go_roundw
          case rel => exact ⟨k + 1, by omega, by go_num, ho8, hM8⟩
          case measure => simp [intOf]; omega
        · have hz : ¬ (k : Int) < 8 := by omega
          obtain rfl : k = 8 := by omega
          have hYX : X ++ lenBytes n = Y := by rw [← hY, List.take_of_length_le (by rw [lenBytes_len]; omega)]
          have hY64 : Y.length % 64 = 0 := by unfold padN at hjl hpad; omega
          have HYX := Lib.hid hYX
          clear hYX
          have hsl : Sl false wq (fun g => w3.heap.size ≤ g) 1 ByteC (.slice ad2 Y.length cap2) Y := ((hoH.out.sl).mono (G' := fun g => w3.heap.size ≤ g) (fun k hk => hk.1) (fun _ _ h => h)).weak
          have hrow4 := hM.obj id hB3
          have hMB : Mod (fun q => q = w1.heap.size) w3 wq := hM.mono (fun _ _ h => h.elim)
          have hb1 : w.heap.size < w1.heap.size := by
            rcases Nat.lt_or_ge w.heap.size w1.heap.size with h | h
            · exact h
            · exfalso; rw [Array.getElem?_eq_none (by omega)] at hW1; cases hW1
          have hb3 : w1.heap.size < w3.heap.size := by
            rcases Nat.lt_or_ge w1.heap.size w3.heap.size with h | h
            · exact h
            · rw [Array.getElem?_eq_none h] at hB3; cases hB3
          clear hoH hM hwq hrowq hY hX hjl hpad hz hk
          go_wp2
          go_loopw [5] (BlkRel w3 w1.heap.size s Y) (fun v _ => lenV v)
          case atStart => exact ⟨0, by omega, hrow4, hsl, hMB⟩
          case round =>
            rename World => wv
            clear hrow4 hsl hMB
            obtain ⟨k, hk, hrow4, hsl, hM⟩ := hrel
            obtain ⟨r, hr⟩ : ∃ r, Y.drop (64 * k) = r := ⟨_, rfl⟩
            have hrl : r.length = Y.length - 64 * k := by rw [← hr, List.length_drop]
            rw [hr] at hsl
            have hslH := Lib.hid hsl
            obtain ⟨ad3, cap3, rfl, hle3, hmx3, -⟩ := hsl
            by_cases hz : (0 : Int) < (r.length : Int)
            · have hlt : 64 ≤ r.length := by omega
              go_upto_region 14 with (fail)
              refine wp_region_seq [3, 3, 1] (fun _ => True) (by rfl) (by rfl) trivial ?_
              simp only [List.zip_cons_cons, List.zip_nil_right]
              refine wpPi_move _ rfl rfl ?_
              simp only [pl, pn, el, ec, sz, ss, gz, gs, if_true, if_false, Bool.false_eq_true, Bool.not_true, Bool.not_false, Nat.add_zero, Nat.zero_add, Nat.reduceAdd]
              refine wpPi_sliceTo 25 5 _ _ _ _ _ 64 1 rfl rfl rfl rfl Tryz.underlying25 (by kernel_rfl) (by omega) ?_
              simp only [pl, pn, el, ec, sz, ss, gz, gs, if_true, if_false, Bool.false_eq_true, Bool.not_true, Bool.not_false, Nat.add_zero, Nat.zero_add, Nat.reduceAdd]
              refine wpPi_do rfl (fun K hK => ?_)
              refine wp_enterQ (run_call 56 [.tmp 4, .tmp 53] _ rfl _ Tryz.func56 rfl (by kernel_rfl) [.pointer (some ⟨w1.heap.size, 0, none⟩), sliced ad3 0 64 cap3 1] rfl _) (block_any (hslH.out.fst 64 hlt) (by rw [List.length_take]; omega) w1.heap.size 0 _ _ (blocksL k s Y) hrow4 (by rw [wordCells_size]; simp [W8.list]) (fun j hj => words_row _ j hj)) ?_
              rintro e w5 ⟨rfl, hB5, hm5⟩
              rw [words_put] at hB5
              refine ⟨_, rfl, hK _ _ trivial ?_⟩
              clear hK K
              try simp only [pl, pn, el, ec, sz, ss, gz, gs, if_true, if_false, Bool.false_eq_true, Bool.not_true, Bool.not_false, Nat.add_zero, Nat.zero_add, Nat.reduceAdd]
              refine wpPi_nil ?_
              go_upto_region 13 with (fail)
              refine wp_region_seq [3, 3, 3] (fun _ => True) (by rfl) (by rfl) trivial ?_
              simp only [List.zip_cons_cons, List.zip_nil_right]
              refine wpPi_move _ rfl rfl ?_
              simp only [pl, pn, el, ec, sz, ss, gz, gs, if_true, if_false, Bool.false_eq_true, Bool.not_true, Bool.not_false, Nat.add_zero, Nat.zero_add, Nat.reduceAdd]
              refine wpPi_sliceFrom 25 5 _ _ _ _ _ 64 1 rfl rfl rfl rfl Tryz.underlying25 (by kernel_rfl) hlt ?_
              simp only [pl, pn, el, ec, sz, ss, gz, gs, if_true, if_false, Bool.false_eq_true, Bool.not_true, Bool.not_false, Nat.add_zero, Nat.zero_add, Nat.reduceAdd]
              refine wpPi_assign _ rfl rfl ?_
              simp only [pl, pn, el, ec, sz, ss, gz, gs, if_true, if_false, Bool.false_eq_true, Bool.not_true, Bool.not_false, Nat.add_zero, Nat.zero_add, Nat.reduceAdd]
              refine wpPi_nil ?_
              have hM6 : Mod (fun q => q = w1.heap.size) w3 w5 := hM.trans hm5 (fun _ _ h => h)
              have hsl6 := (hslH.out.cut 64 hlt).keepB hm5 (fun k hk => by have hk' : w3.heap.size ≤ k := hk; omega)
              have hd : r.drop 64 = Y.drop (64 * (k + 1)) := by rw [← hr, List.drop_drop]; congr 1
              have hblk : blockL (blocksL k s Y) (r.take 64) = blocksL (k + 1) s Y := by rw [blocksL_add, hr]; rfl
              rw [hblk] at hB5
              rw [hd] at hsl6
              have HW6 : Hid (BlkRel w3 w1.heap.size s Y (sliced ad3 64 r.length cap3 1) w5) := ⟨k + 1, by omega, hB5, hsl6, hM6⟩
              have HME : Hid (lenV (sliced ad3 64 r.length cap3 1) < r.length) := by
                show r.length - 64 < r.length
                omega
              clear hB5 hsl6 hM6 hm5 hblk hd hrow4
              go_wp2
              go_roundw
              case rel => exact HW6.out
              case measure => exact HME.out
            · have hkk : Y.length / 64 = k := by omega
              obtain ⟨c, hc⟩ : ∃ c, blocksL k s Y = c := ⟨_, rfl⟩
              rw [hc] at hrow4
              have HCC : Hid (blocksL (Y.length / 64) s Y = c) := by
                show blocksL (Y.length / 64) s Y = c
                rw [hkk]; exact hc
              have hrow2 := hM.objB (by omega) hB1
              clear hc hkk hslH hr hrl hle3 hmx3 hk hY64
              have hr2 : wv.heap[w.heap.size]? = some (.cells (outRow c 0) 24 (0, 0)) := by
                have e : outRow c 0 = idCells (List.replicate 32 0) := by simp [outRow]
                rw [e]; exact hrow2
              have hMw : Mod NoB w wv := hM3.transB hM (by omega)
              clear hrow2
              go_wp2
              go_loopw [55] (OutRel wv w.heap.size w1.heap.size c) (fun i _ => 32 - (intOf i).toNat)
              case atStart => exact ⟨0, by omega, rfl, hr2, hrow4, Mod.refl _ _⟩
              case round =>
                rename World => wu
                clear hr2 hrow4
                obtain ⟨i, hi, rfl, hr2, hrow4, hMu⟩ := hrel
                have hosz := outRow_size c i hi
                by_cases hlt : i < 32
                · have hzi : (i : Int) < 32 := by omega
                  have HST := Lib.hid (outRow_step c i hlt)
                  have hq4 : i / 4 < 8 := by omega
                  have hw4 := word8 hrow4 (i / 4) hq4
                  obtain ⟨x, hx⟩ : ∃ x, c.list.getD (i / 4) 0 = x := ⟨_, rfl⟩
                  rw [hx] at hw4
                  have hy : UInt8.ofNat (shrU x (24 - 8 * (i % 4))).toNat = outByte c i := by unfold outByte; rw [hx]
                  have HY := Lib.hid hy
                  clear hy hx
                  generalize outByte c i = y at *
                  go_upto_region 18 with (fail)
                  refine wp_region_seq [3, 3, 3, 3, 1, 3, 3, 3, 3, 3, 3, 3, 1] (fun _ => True) (by rfl) (by rfl) trivial ?_
                  simp only [List.zip_cons_cons, List.zip_nil_right]
                  refine wpPi_move _ rfl rfl ?_
                  simp only [pl, pn, el, ec, sz, ss, gz, gs, if_true, if_false, Bool.false_eq_true, Bool.not_true, Bool.not_false, Nat.add_zero, Nat.zero_add, Nat.reduceAdd]
                  refine wpPi_move _ rfl rfl ?_
                  simp only [pl, pn, el, ec, sz, ss, gz, gs, if_true, if_false, Bool.false_eq_true, Bool.not_true, Bool.not_false, Nat.add_zero, Nat.zero_add, Nat.reduceAdd]
                  refine wpPi_quoR _ _ _ _ (i : Int) 4 ((i / 4 : Nat) : Int) rfl rfl rfl rfl (by rw [Int.tdiv_eq_ediv_of_nonneg (by omega)]; omega) (by omega) (by omega) (by omega) ?_
                  simp only [pl, pn, el, ec, sz, ss, gz, gs, if_true, if_false, Bool.false_eq_true, Bool.not_true, Bool.not_false, Nat.add_zero, Nat.zero_add, Nat.reduceAdd]
                  refine wpPi_indexA _ _ _ _ _ _ _ _ rfl rfl rfl rfl Tryz.underlying93 (n := 1) (by kernel_rfl) hq4 ?_
                  simp only [pl, pn, el, ec, sz, ss, gz, gs, if_true, if_false, Bool.false_eq_true, Bool.not_true, Bool.not_false, Nat.add_zero, Nat.zero_add, Nat.reduceAdd]
                  refine wpPi_do rfl (fun K hK => ?_)
                  refine wp_exec (exec_load1 91 _ (by rfl) w1.heap.size (i / 4 * 1) (by rfl) (wordV x) (by rw [Nat.mul_one]; exact hw4) _ Tryz.underlying91 rfl) ?_
                  refine hK _ _ trivial ?_
                  clear hK K
                  try simp only [pl, pn, el, ec, sz, ss, gz, gs, if_true, if_false, Bool.false_eq_true, Bool.not_true, Bool.not_false, Nat.add_zero, Nat.zero_add, Nat.reduceAdd]
                  refine wpPi_move _ rfl rfl ?_
                  simp only [pl, pn, el, ec, sz, ss, gz, gs, if_true, if_false, Bool.false_eq_true, Bool.not_true, Bool.not_false, Nat.add_zero, Nat.zero_add, Nat.reduceAdd]
                  refine wpPi_remR _ _ _ _ (i : Int) 4 ((i % 4 : Nat) : Int) rfl rfl rfl rfl (by omega) (by omega) (by omega) ?_
                  simp only [pl, pn, el, ec, sz, ss, gz, gs, if_true, if_false, Bool.false_eq_true, Bool.not_true, Bool.not_false, Nat.add_zero, Nat.zero_add, Nat.reduceAdd]
                  refine wpPi_mulR _ _ _ _ 8 ((i % 4 : Nat) : Int) ((8 * (i % 4) : Nat) : Int) rfl rfl rfl rfl (by omega) (by omega) (by omega) ?_
                  simp only [pl, pn, el, ec, sz, ss, gz, gs, if_true, if_false, Bool.false_eq_true, Bool.not_true, Bool.not_false, Nat.add_zero, Nat.zero_add, Nat.reduceAdd]
                  refine wpPi_subR _ _ _ _ 24 ((8 * (i % 4) : Nat) : Int) ((24 - 8 * (i % 4) : Nat) : Int) rfl rfl rfl rfl (by omega) (by omega) (by omega) ?_
                  simp only [pl, pn, el, ec, sz, ss, gz, gs, if_true, if_false, Bool.false_eq_true, Bool.not_true, Bool.not_false, Nat.add_zero, Nat.zero_add, Nat.reduceAdd]
                  refine wpPi_shr32 _ _ _ _ _ .i64 (24 - 8 * (i % 4)) rfl rfl rfl rfl (by omega) ?_
                  simp only [pl, pn, el, ec, sz, ss, gz, gs, if_true, if_false, Bool.false_eq_true, Bool.not_true, Bool.not_false, Nat.add_zero, Nat.zero_add, Nat.reduceAdd]
                  refine wpPi_any (v := byteV y) rfl (fun w' => by rw [← HY.out]; exact exec_byte_of_word _ _ _ _ rfl rfl (by kernel_rfl) Tryz.underlying5) ?_
                  simp only [pl, pn, el, ec, sz, ss, gz, gs, if_true, if_false, Bool.false_eq_true, Bool.not_true, Bool.not_false, Nat.add_zero, Nat.zero_add, Nat.reduceAdd]
                  refine wpPi_indexA _ _ _ _ _ _ _ _ rfl rfl rfl rfl Tryz.underlying24 (n := 1) (by kernel_rfl) hlt ?_
                  simp only [pl, pn, el, ec, sz, ss, gz, gs, if_true, if_false, Bool.false_eq_true, Bool.not_true, Bool.not_false, Nat.add_zero, Nat.zero_add, Nat.reduceAdd]
                  refine wpPi_do rfl (fun K hK => ?_)
                  refine wp_store1 5 _ _ w.heap.size (i * 1) (byteV y) (by rfl) (by rfl) (by rfl) rfl (by kernel_rfl) _ _ hr2 (by rw [hosz]; omega) (fun w9 hB9 hm9 => ?_)
                  rw [Nat.mul_one, HST.out] at hB9
                  have hrow9 := hm9.objB (by omega) hrow4
                  have hM9 : Mod (fun q => q = w.heap.size) wv w9 := hMu.trans hm9 (fun _ _ h => h)
                  refine hK _ _ trivial ?_
                  clear hK K
                  try simp only [pl, pn, el, ec, sz, ss, gz, gs, if_true, if_false, Bool.false_eq_true, Bool.not_true, Bool.not_false, Nat.add_zero, Nat.zero_add, Nat.reduceAdd]
                  refine wpPi_nil ?_
                  clear hm9 hr2 hrow4 hw4
                  go_wp2
                  go_roundw
                  case rel => exact ⟨i + 1, by omega, by go_num, hB9, hrow9, hM9⟩
                  case measure => simp [intOf]; omega
                · have hzi : ¬ (i : Int) < 32 := by omega
                  obtain rfl : i = 32 := by omega
                  have hout : outRow c 32 = idCells (outL c) := by simp [outRow, List.take_of_length_le (Nat.le_of_eq (outL_len c))]
                  rw [hout] at hr2 hosz
                  go_upto_region 20 with (fail)
                  refine wp_region_seq [1, 1, 3] (fun _ => True) (by rfl) (by rfl) trivial ?_
                  simp only [List.zip_cons_cons, List.zip_nil_right]
                  refine wpPi_do rfl (fun K hK => ?_)
                  refine wp_exec (exec_loadA 24 _ (by rfl) w.heap.size 0 (by rfl) (idCells (outL c)) (CellsAt.whole hr2) _ Tryz.underlying24 rfl 32 (by kernel_rfl) hosz) ?_
                  refine hK _ _ trivial ?_
                  clear hK K
                  try simp only [pl, pn, el, ec, sz, ss, gz, gs, if_true, if_false, Bool.false_eq_true, Bool.not_true, Bool.not_false, Nat.add_zero, Nat.zero_add, Nat.reduceAdd]
                  refine wpPi_do rfl (fun K hK => ?_)
                  refine wp_storeA 24 _ _ w.heap.size 0 (idCells (outL c)) (by rfl) (by rfl) (by rfl) (idCells_one _) 32 (by kernel_rfl) hosz _ _ hr2 (by omega) (fun w9 hB9 hm9 => ?_)
                  rw [putRow_whole (by rfl)] at hB9
                  refine hK _ _ trivial ?_
                  clear hK K
                  try simp only [pl, pn, el, ec, sz, ss, gz, gs, if_true, if_false, Bool.false_eq_true, Bool.not_true, Bool.not_false, Nat.add_zero, Nat.zero_add, Nat.reduceAdd]
                  refine wpPi_assign _ rfl rfl ?_
                  simp only [pl, pn, el, ec, sz, ss, gz, gs, if_true, if_false, Bool.false_eq_true, Bool.not_true, Bool.not_false, Nat.add_zero, Nat.zero_add, Nat.reduceAdd]
                  refine wpPi_nil ?_
                  have hM9 : Mod NoB w w9 := (hMw.transB hMu (Nat.le_refl _)).transB hm9 (Nat.le_refl _)
                  clear hm9 hr2 hrow4 hMu
                  go_wp2
                  refine bodyPost_ret (results_row_tmp rfl _ _ w.heap.size _ _ _ _ (by rfl) hB9 Tryz.underlying24 rfl (by rw [hosz]; kernel_rfl)) rfl ?_
                  refine ⟨?_, hM9⟩
                  rw [HX.out, ← List.length_append, HYX.out, HCC.out]
                  rfl
    · obtain ⟨q, hq⟩ : ∃ q : Nat, (padJ l j).length % 64 = q := ⟨_, rfl⟩
      have hq56 : q ≠ 56 := by rw [← hq, hjl]; exact h56
      refine wp_region_seq [3, 3, 3, 3] (fun _ => True) (by rfl) (by rfl) trivial ?_
      simp only [List.zip_cons_cons, List.zip_nil_right]
      refine wpPi_move _ rfl rfl ?_
      simp only [pl, pn, el, ec, sz, ss, gz, gs, if_true, if_false, Bool.false_eq_true, Bool.not_true, Bool.not_false, Nat.add_zero, Nat.zero_add, Nat.reduceAdd]
      refine wpPi_len _ _ _ _ _ rfl rfl rfl (by kernel_rfl) ?_
      simp only [pl, pn, el, ec, sz, ss, gz, gs, if_true, if_false, Bool.false_eq_true, Bool.not_true, Bool.not_false, Nat.add_zero, Nat.zero_add, Nat.reduceAdd]
      refine wpPi_remR _ _ _ _ ((padJ l j).length : Int) 64 (q : Int) rfl rfl rfl rfl (by omega) (by omega) (by omega) ?_
      simp only [pl, pn, el, ec, sz, ss, gz, gs, if_true, if_false, Bool.false_eq_true, Bool.not_true, Bool.not_false, Nat.add_zero, Nat.zero_add, Nat.reduceAdd]
      refine wpPi_cmp _ _ _ _ _ _ _ _ rfl rfl rfl rfl rfl true (by simp [cmpB]; omega) ?_
      simp only [pl, pn, el, ec, sz, ss, gz, gs, if_true, if_false, Bool.false_eq_true, Bool.not_true, Bool.not_false, Nat.add_zero, Nat.zero_add, Nat.reduceAdd]
      refine wpPi_nil ?_
      have hjlt : j < padN l.length := by
        rcases Nat.lt_or_ge j (padN l.length) with h | h
        · exact h
        · exfalso; unfold padN at hj h hpad; omega
      go_upto_region 6 with (fail)
      refine wp_region_seq [3, 1, 1, 3] (fun _ => True) (by rfl) (by rfl) trivial ?_
      simp only [List.zip_cons_cons, List.zip_nil_right]
      refine wpPi_move _ rfl rfl ?_
      simp only [pl, pn, el, ec, sz, ss, gz, gs, if_true, if_false, Bool.false_eq_true, Bool.not_true, Bool.not_false, Nat.add_zero, Nat.zero_add, Nat.reduceAdd]
      refine wpPi_do rfl (fun K hK => ?_)
      refine wp_buildSlice1 25 5 _ (byteV 0) (.int .u8 0) 1 (by rfl) (by rfl) Tryz.underlying25 (by kernel_rfl) (by omega) (by omega) (by rfl) (fun w7 hB7 hm7 hs7 => ?_)
      replace hB7 : w7.heap[wr.heap.size]? = some (.cells #[byteV 0] 5 (0, 0)) := hB7
      refine hK _ _ trivial ?_
      clear hK K
      try simp only [pl, pn, el, ec, sz, ss, gz, gs, if_true, if_false, Bool.false_eq_true, Bool.not_true, Bool.not_false, Nat.add_zero, Nat.zero_add, Nat.reduceAdd]
      refine wpPi_do rfl (fun K hK => ?_)
      refine wp_bytes _ _ (by rfl) w3.heap.size _ (padJ l j) (by rfl) (hoH.out.keep hm7 (fun _ _ => id)) (.slice (some ⟨wr.heap.size, 0, none⟩) 1 1) [0] (by rfl) (owns_src (owns_lit hB7)) (by simp; omega) (by omega) (fun v8 w8 ho8 hm8 => ?_)
      rw [hPS.out] at ho8
      have hM8 : Mod NoB w3 w8 := (hM.trans0 hm7).trans hm8 (fun k hk e => by have := (hoH.out.lt e).1; omega)
      refine hK _ _ trivial ?_
      clear hK K
      try simp only [pl, pn, el, ec, sz, ss, gz, gs, if_true, if_false, Bool.false_eq_true, Bool.not_true, Bool.not_false, Nat.add_zero, Nat.zero_add, Nat.reduceAdd]
      refine wpPi_assign _ rfl rfl ?_
      simp only [pl, pn, el, ec, sz, ss, gz, gs, if_true, if_false, Bool.false_eq_true, Bool.not_true, Bool.not_false, Nat.add_zero, Nat.zero_add, Nat.reduceAdd]
      refine wpPi_nil ?_
      have hME : Hid (padM (lenV v8) < padM (padJ l j).length) := by
        show _ < _
        rw [ho8.len, padJ_len, padJ_len]
        unfold padM
        omega
      have HR : Hid (PadRel w3 l v8 w8) := ⟨j + 1, hjlt, ho8, hM8⟩
      clear ho8 hM8 hm8 hm7 hB7
      go_wp2
      go_roundw
      case rel => exact HR.out
      case measure => exact hME.out
end Go.Proofs.YtchkikmmcmjcgaaGreat

/- SHA-256: sha.Sum. -/
namespace Go.Proofs.YtchkikmmcmjcgaaGreat
set_option linter.unusedSimpArgs false
set_option linter.unusedVariables false
set_option linter.unnecessarySimpa false
set_option linter.unusedSectionVars false
open Go.RowKit


theorem Sl.bound {own : Bool} {w : World} {G : Nat → Prop} {v : Value} {l : List UInt8} (h : Sl own w G 1 ByteC v l) : Sl own w (fun k => k < w.heap.size) 1 ByteC v l := by
  obtain ⟨ad, cap, e, h1, h2, h3⟩ := h
  refine ⟨ad, cap, e, h1, h2, fun hne => ?_⟩
  obtain ⟨b, off, ha, hG, ho, hc⟩ := h3 hne
  refine ⟨b, off, ha, ?_, ho, hc⟩
  cases l with
  | nil => exact absurd rfl hne
  | cons x l =>
    obtain ⟨cs, _, rfl, hcs⟩ := hc 0 (by simp)
    exact block_lt_of_cell (CellsAt.one.1 hcs)
theorem sha_split (m : List UInt8) : outL (blocksL ((padJ (m.drop (64 * (m.length / 64))) (padN m.length) ++ lenBytes m.length).length / 64) (blocksL (m.length / 64) shaBegin m) (padJ (m.drop (64 * (m.length / 64))) (padN m.length) ++ lenBytes m.length)) = shaL m := by
  have hX : padJ (m.drop (64 * (m.length / 64))) (padN m.length) ++ lenBytes m.length = (padL m).drop (64 * (m.length / 64)) := by
    unfold padJ padL
    rw [List.append_assoc, List.append_assoc, List.append_assoc, List.append_assoc, List.drop_append_of_le_length (by omega)]
  rw [hX, List.length_drop]
  have hl := padL_len m
  have hk : (padL m).length / 64 = m.length / 64 + ((padL m).length - 64 * (m.length / 64)) / 64 := by omega
  unfold shaL
  rw [hk, blocksL_add]
  congr 2
  unfold padL
  rw [List.append_assoc, List.append_assoc, blocksL_app _ _ _ _ (by omega)]
set_option maxRecDepth 10000 in
set_option maxHeartbeats 4000000 in
theorem shaSum_any {own : Bool} {G : Nat → Prop} {v : Value} {m : List UInt8} {w : World} (hb : Sl own w G 1 ByteC v m) (hl : m.length ≤ 140737488355328) :
    Calls Tryz.prog 18 #[v] w (RetM (.agg (idCells (shaL m))) w) := by
  have hbS := Lib.hid hb.bound
  have HSP := Lib.hid (sha_split m)
  have hxl : (idCells (shaL m)).size = 32 := by rw [idCells_size]; exact shaL_len m
  obtain ⟨x, hx⟩ : ∃ x, shaL m = x := ⟨_, rfl⟩
  rw [hx] at hxl HSP ⊢
  clear hb hx
  go_enter Tryz.func18, Tryz.ntmps18
  go_upto_region 0 with (fail)
  refine wp_region_seq [1] (fun _ => True) (by rfl) (by rfl) trivial ?_
  simp only [List.zip_cons_cons, List.zip_nil_right]
  refine wpPi_do rfl (fun K hK => ?_)
  refine wp_alloc 24 _ (by rfl) idZ (fun w1 hB1 hm1 hs1 => ?_)
  replace hB1 : w1.heap[w.heap.size]? = some (.cells (idCells (List.replicate 32 0)) 24 (0, 0)) := hB1
  refine hK _ _ trivial ?_
  clear hK K
  try simp only [pl, pn, el, ec, sz, ss, gz, gs, if_true, if_false, Bool.false_eq_true, Bool.not_true, Bool.not_false, Nat.add_zero, Nat.zero_add, Nat.reduceAdd]
  refine wpPi_nil ?_
  go_upto_region 1 with (fail)
  refine wp_region_seq [1, 3] (fun _ => True) (by rfl) (by rfl) trivial ?_
  simp only [List.zip_cons_cons, List.zip_nil_right]
  refine wpPi_do rfl (fun K hK => ?_)
  refine wp_enterQ (run_call 38 [] _ rfl _ Tryz.func38 rfl (by kernel_rfl) [] rfl _) (shaNew_any _) ?_
  rintro e w2 ⟨bh, rfl, hb1, hb2, hrow, hm2⟩
  refine ⟨_, rfl, hK _ _ trivial ?_⟩
  clear hK K
  try simp only [pl, pn, el, ec, sz, ss, gz, gs, if_true, if_false, Bool.false_eq_true, Bool.not_true, Bool.not_false, Nat.add_zero, Nat.zero_add, Nat.reduceAdd]
  refine wpPi_assign _ rfl rfl ?_
  simp only [pl, pn, el, ec, sz, ss, gz, gs, if_true, if_false, Bool.false_eq_true, Bool.not_true, Bool.not_false, Nat.add_zero, Nat.zero_add, Nat.reduceAdd]
  refine wpPi_nil ?_
  have hM2 := hm1.trans0 hm2
  go_upto_region 2 with (fail)
  refine wp_region_seq [3, 3, 1] (fun _ => True) (by rfl) (by rfl) trivial ?_
  simp only [List.zip_cons_cons, List.zip_nil_right]
  refine wpPi_move _ rfl rfl ?_
  simp only [pl, pn, el, ec, sz, ss, gz, gs, if_true, if_false, Bool.false_eq_true, Bool.not_true, Bool.not_false, Nat.add_zero, Nat.zero_add, Nat.reduceAdd]
  refine wpPi_move _ rfl rfl ?_
  simp only [pl, pn, el, ec, sz, ss, gz, gs, if_true, if_false, Bool.false_eq_true, Bool.not_true, Bool.not_false, Nat.add_zero, Nat.zero_add, Nat.reduceAdd]
  refine wpPi_do rfl (fun K hK => ?_)
  refine wp_enterQ (run_call 39 [.tmp 7, .tmp 8] _ rfl _ Tryz.func39 rfl (by kernel_rfl) [.pointer (some ⟨bh, 0, none⟩), v] rfl _) (shaWrite_any (hbS.out.keep0 hM2) hl bh (fun k hk => by have := hm1.size; have hk' : k < w.heap.size := hk; omega) hrow) ?_
  rintro e w3 ⟨rfl, rest, hrow3, hsl3, hm3⟩
  refine ⟨_, rfl, hK _ _ trivial ?_⟩
  clear hK K
  try simp only [pl, pn, el, ec, sz, ss, gz, gs, if_true, if_false, Bool.false_eq_true, Bool.not_true, Bool.not_false, Nat.add_zero, Nat.zero_add, Nat.reduceAdd]
  refine wpPi_nil ?_
  have hM3 : Mod NoB w1 w3 := hm2.transB hm3 hb1
  replace hB1 := hM3.obj id hB1
  replace hM3 := hm1.trans0 hM3
  clear hM2 hm1 hm2 hm3 hrow
  have hs3 := hM3.size
  go_upto_region 3 with (fail)
  refine wp_region_seq [3, 1, 3, 3, 3, 1, 1, 3] (fun _ => True) (by rfl) (by rfl) trivial ?_
  simp only [List.zip_cons_cons, List.zip_nil_right]
  refine wpPi_move _ rfl rfl ?_
  simp only [pl, pn, el, ec, sz, ss, gz, gs, if_true, if_false, Bool.false_eq_true, Bool.not_true, Bool.not_false, Nat.add_zero, Nat.zero_add, Nat.reduceAdd]
  refine wpPi_do rfl (fun K hK => ?_)
  refine wp_enterQ (run_call 40 [.tmp 11] _ rfl _ Tryz.func40 rfl (by kernel_rfl) [.pointer (some ⟨bh, 0, none⟩)] rfl _) (shaHSum_any hsl3 (by rw [List.length_drop]; omega) hl (by rw [List.length_drop]; omega) hrow3) ?_
  rintro e w4 ⟨rfl, hm4⟩
  rw [HSP.out]
  refine ⟨_, rfl, hK _ _ trivial ?_⟩
  clear hK K
  try simp only [pl, pn, el, ec, sz, ss, gz, gs, if_true, if_false, Bool.false_eq_true, Bool.not_true, Bool.not_false, Nat.add_zero, Nat.zero_add, Nat.reduceAdd]
  refine wpPi_move _ rfl rfl ?_
  simp only [pl, pn, el, ec, sz, ss, gz, gs, if_true, if_false, Bool.false_eq_true, Bool.not_true, Bool.not_false, Nat.add_zero, Nat.zero_add, Nat.reduceAdd]
  refine wpPi_any (v := ?_) rfl (fun w' => ?_) ?_; rotate_left; · (go_simp; try with_reducible rfl)
  simp only [pl, pn, el, ec, sz, ss, gz, gs, if_true, if_false, Bool.false_eq_true, Bool.not_true, Bool.not_false, Nat.add_zero, Nat.zero_add, Nat.reduceAdd]
  refine wpPi_any (v := ?_) rfl (fun w' => ?_) ?_; rotate_left; · (go_simp; try with_reducible rfl)
  simp only [pl, pn, el, ec, sz, ss, gz, gs, if_true, if_false, Bool.false_eq_true, Bool.not_true, Bool.not_false, Nat.add_zero, Nat.zero_add, Nat.reduceAdd]
  refine wpPi_do rfl (fun K hK => ?_)
  refine wp_alloc 24 _ (by rfl) idZ (fun w5 hB5 hm5 hs5 => ?_)
  replace hB5 : w5.heap[w4.heap.size]? = some (.cells (idCells (List.replicate 32 0)) 24 (0, 0)) := hB5
  refine hK _ _ trivial ?_
  clear hK K
  try simp only [pl, pn, el, ec, sz, ss, gz, gs, if_true, if_false, Bool.false_eq_true, Bool.not_true, Bool.not_false, Nat.add_zero, Nat.zero_add, Nat.reduceAdd]
  refine wpPi_do rfl (fun K hK => ?_)
  refine wp_storeA 24 _ _ w4.heap.size 0 (idCells x) (by rfl) (by rfl) (by rfl) (idCells_one _) 32 (by kernel_rfl) hxl _ _ hB5 (by rw [hxl, idCells_size]; simp) (fun w6 hB6 hm6 => ?_)
  rw [putRow_whole (by rw [hxl, idCells_size]; rfl)] at hB6
  refine hK _ _ trivial ?_
  clear hK K
  try simp only [pl, pn, el, ec, sz, ss, gz, gs, if_true, if_false, Bool.false_eq_true, Bool.not_true, Bool.not_false, Nat.add_zero, Nat.zero_add, Nat.reduceAdd]
  refine wpPi_assign _ rfl rfl ?_
  simp only [pl, pn, el, ec, sz, ss, gz, gs, if_true, if_false, Bool.false_eq_true, Bool.not_true, Bool.not_false, Nat.add_zero, Nat.zero_add, Nat.reduceAdd]
  refine wpPi_nil ?_
  have hM46 : Mod NoB w4 w6 := hm5.transB hm6 (Nat.le_refl _)
  have hM36 := hm4.trans0 hM46
  have hB2 := hM36.obj id hB1
  have hM6 := hM3.trans0 hM36
  clear hB1 hM46 hM36 hm5 hm6 hm4 hB5
  go_upto_region 4 with (fail)
  refine wp_region_seq [1, 1] (fun _ => True) (by rfl) (by rfl) trivial ?_
  simp only [List.zip_cons_cons, List.zip_nil_right]
  refine wpPi_do rfl (fun K hK => ?_)
  refine wp_exec (exec_loadA 24 _ (by rfl) w4.heap.size 0 (by rfl) (idCells x) (CellsAt.whole hB6) _ Tryz.underlying24 rfl 32 (by kernel_rfl) hxl) ?_
  refine hK _ _ trivial ?_
  clear hK K
  try simp only [pl, pn, el, ec, sz, ss, gz, gs, if_true, if_false, Bool.false_eq_true, Bool.not_true, Bool.not_false, Nat.add_zero, Nat.zero_add, Nat.reduceAdd]
  refine wpPi_do rfl (fun K hK => ?_)
  refine wp_storeA 24 _ _ w.heap.size 0 (idCells x) (by rfl) (by rfl) (by rfl) (idCells_one _) 32 (by kernel_rfl) hxl _ _ hB2 (by rw [hxl, idCells_size]; simp) (fun w7 hB7 hm7 => ?_)
  rw [putRow_whole (by rw [hxl, idCells_size]; rfl)] at hB7
  refine hK _ _ trivial ?_
  clear hK K
  try simp only [pl, pn, el, ec, sz, ss, gz, gs, if_true, if_false, Bool.false_eq_true, Bool.not_true, Bool.not_false, Nat.add_zero, Nat.zero_add, Nat.reduceAdd]
  refine wpPi_nil ?_
  have hM7 := hM6.transB hm7 (Nat.le_refl _)
  clear hm7 hB2
  go_wp2
  refine bodyPost_ret (results_cell_row rfl _ _ w.heap.size _ _ _ _ (by rfl) hB7 Tryz.underlying24 rfl (by rw [hxl]; kernel_rfl)) rfl ?_
  exact ⟨rfl, hM7⟩
end Go.Proofs.YtchkikmmcmjcgaaGreat

/- slices.Grow of nil, slices.Concat of texts of bytes. -/
namespace Go.Proofs.YtchkikmmcmjcgaaGreat
set_option linter.unusedSimpArgs false
set_option linter.unusedVariables false
set_option linter.unnecessarySimpa false
set_option linter.unusedSectionVars false
open Go.RowKit


theorem u8info : ∃ i, Tryz.prog.info? 5 = some i ∧ i.zero = some (.int .u8 0) ∧ i.size = 1 ∧ i.bytes = 1 := by
  have h := byte_i
  cases hi : Tryz.prog.info? 5 with
  | none => rw [hi] at h; cases h
  | some i =>
    rw [hi] at h
    simp only [Option.map_some, Option.some.injEq, Prod.mk.injEq] at h
    exact ⟨i, rfl, h.1, h.2.1, h.2.2⟩
def GrowR (w : World) : Ending → World → Prop := fun e w' => ∃ v, e = .returned v ∧ Bts w.heap.size w' v [] ∧ Mod NoB w w'
set_option maxRecDepth 10000 in
theorem growB_nil (n : Nat) (h0 : 0 < n) (hn : n ≤ 140737488355328) (w : World) : Calls Tryz.prog 77 #[.slice none 0 0, .int .i64 n] w (GrowR w) := by
  have h1 : ¬ ((n : Int) < 0) := by omega
  have h2 : wrap64 ((n : Int) - 0) = (n : Int) := by unfold wrap64; omega
  have h4 : (n : Int) > 0 := by omega
  obtain ⟨i, hi, hz, hs, hb⟩ := u8info
  have hrz : ∀ ty (w : World), (Builtin.append_ #[25, 3] ty #[.slice none 0 0, .int .i64 (n : Int)]).run Tryz.prog w =
      .ok (.slice (some ⟨w.heap.size, 0, none⟩) n (grownCap w n 0 5)) (w.drew.alloc (.cells (Builtin.zeroCells #[.int .u8 0] n ++ Builtin.zeroCells #[.int .u8 0] (grownCap w n 0 5 - n)) 5)) := fun ty w =>
    Lib.run_append_nil_zeros w 25 3 ty 5 i _ .i64 .i64 Tryz.underlying25 Tryz.underlying3 hi hz n h0 (by omega) (by omega) (by rw [hb]; omega)
  have HRZ := Lib.hid hrz
  clear hrz hi hz hs hb
  go_enter Tryz.func77, Tryz.ntmps77
  go_upto_region 5 with (fail)
  refine wp_region_seq [3, 3, 3, 3, 3, 1, 3, 3, 3, 3] (fun _ => True) (by rfl) (by rfl) trivial ?_
  simp only [List.zip_cons_cons, List.zip_nil_right]
  refine wpPi_move _ rfl rfl ?_
  simp only [pl, pn, el, ec, sz, ss, gz, gs, if_true, if_false, Bool.false_eq_true, Bool.not_true, Bool.not_false, Nat.add_zero, Nat.zero_add, Nat.reduceAdd]
  refine wpPi_move _ rfl rfl ?_
  simp only [pl, pn, el, ec, sz, ss, gz, gs, if_true, if_false, Bool.false_eq_true, Bool.not_true, Bool.not_false, Nat.add_zero, Nat.zero_add, Nat.reduceAdd]
  refine wpPi_any (v := ?_) rfl (fun w' => ?_) ?_; rotate_left; · (go_simp; try with_reducible rfl)
  simp only [pl, pn, el, ec, sz, ss, gz, gs, if_true, if_false, Bool.false_eq_true, Bool.not_true, Bool.not_false, Nat.add_zero, Nat.zero_add, Nat.reduceAdd]
  refine wpPi_any (v := ?_) rfl (fun w' => ?_) ?_; rotate_left; · (go_simp; try with_reducible rfl)
  simp only [pl, pn, el, ec, sz, ss, gz, gs, if_true, if_false, Bool.false_eq_true, Bool.not_true, Bool.not_false, Nat.add_zero, Nat.zero_add, Nat.reduceAdd]
  refine wpPi_move _ rfl rfl ?_
  simp only [pl, pn, el, ec, sz, ss, gz, gs, if_true, if_false, Bool.false_eq_true, Bool.not_true, Bool.not_false, Nat.add_zero, Nat.zero_add, Nat.reduceAdd]
  refine wpPi_do rfl (fun K hK => ?_)
  refine Lib.wp_append_run _ _ _ 25 3 (by rfl) (.slice none 0 0) (.int .i64 (n : Int)) (by rfl) (by rfl) _ _ (HRZ.out _ _) ?_
  refine hK _ _ trivial ?_
  clear hK K
  try simp only [pl, pn, el, ec, sz, ss, gz, gs, if_true, if_false, Bool.false_eq_true, Bool.not_true, Bool.not_false, Nat.add_zero, Nat.zero_add, Nat.reduceAdd]
  refine wpPi_move _ rfl rfl ?_
  simp only [pl, pn, el, ec, sz, ss, gz, gs, if_true, if_false, Bool.false_eq_true, Bool.not_true, Bool.not_false, Nat.add_zero, Nat.zero_add, Nat.reduceAdd]
  refine wpPi_len _ _ _ _ _ rfl rfl rfl (by kernel_rfl) ?_
  simp only [pl, pn, el, ec, sz, ss, gz, gs, if_true, if_false, Bool.false_eq_true, Bool.not_true, Bool.not_false, Nat.add_zero, Nat.zero_add, Nat.reduceAdd]
  refine wpPi_any (v := ?_) rfl (fun w' => ?_) ?_; rotate_left; · (go_simp; try with_reducible rfl)
  simp only [pl, pn, el, ec, sz, ss, gz, gs, if_true, if_false, Bool.false_eq_true, Bool.not_true, Bool.not_false, Nat.add_zero, Nat.zero_add, Nat.reduceAdd]
  refine wpPi_assign _ rfl rfl ?_
  simp only [pl, pn, el, ec, sz, ss, gz, gs, if_true, if_false, Bool.false_eq_true, Bool.not_true, Bool.not_false, Nat.add_zero, Nat.zero_add, Nat.reduceAdd]
  refine wpPi_nil ?_
  have hC1 := grownCap_ge w n 0 5
  have hC2 := grownCap_le_maxLen w n 0 5 (by unfold maxLen; omega)
  generalize grownCap w n 0 5 = C at hC1 hC2 ⊢
  have hB := heap_alloc_new w.drew (.cells (Builtin.zeroCells #[.int .u8 0] n ++ Builtin.zeroCells #[.int .u8 0] (C - n)) 5)
  have hm : Mod NoB w (w.drew.alloc (.cells (Builtin.zeroCells #[.int .u8 0] n ++ Builtin.zeroCells #[.int .u8 0] (C - n)) 5)) := ((Mod.refl _ _).drew).alloc _
  have hsz : (Builtin.zeroCells #[.int .u8 0] n ++ Builtin.zeroCells #[.int .u8 0] (C - n)).size = C * 1 := by rw [Array.size_append, size_zeroCells, size_zeroCells]; simp; omega
  generalize Builtin.zeroCells #[.int .u8 0] n ++ Builtin.zeroCells #[.int .u8 0] (C - n) = cur at hB hm hsz ⊢
  generalize w.drew.alloc (.cells cur 5) = w2 at hB hm ⊢
  clear HRZ
  go_wp2
  go_ret
  exact ⟨_, rfl, ⟨rfl, .inr ⟨_, C, cur, rfl, Nat.le_refl _, hB, Nat.zero_le _, hC2, hsz, by simp⟩⟩, hm⟩
/-- Texts in a row: each slice in one cell. -/
def BsC (w : World) (G : Nat → Prop) (cs : Array Value) (x : List UInt8) : Prop := ∃ v, cs = #[v] ∧ Sl false w G 1 ByteC v x
def Bss (w : World) (G : Nat → Prop) (v : Value) (xs : List (List UInt8)) : Prop := Sl false w G 1 (BsC w G) v xs
theorem Bss.keep0 {w w' : World} {G : Nat → Prop} {v : Value} {xs : List (List UInt8)} (h : Bss w G v xs) (hm : Mod NoB w w') : Bss w' G v xs := Sl.keep h hm (fun _ _ => id) (fun _ _ ⟨v, e, hs⟩ => ⟨v, e, hs.keep0 hm⟩)
theorem flat_succ {xs : List (List UInt8)} {k : Nat} (h : k < xs.length) : (xs.take (k + 1)).flatten = (xs.take k).flatten ++ xs[k] := by
  rw [List.take_succ_eq_append_getElem h, List.flatten_append]; simp
theorem flat_le {xs : List (List UInt8)} {k : Nat} : (xs.take k).flatten.length ≤ xs.flatten.length := by
  conv => rhs; rw [← List.take_append_drop k xs, List.flatten_append, List.length_append]
  omega
def CatRel1 (w0 : World) (xs : List (List UInt8)) (s i : Value) (w : World) : Prop := ∃ k : Nat, k ≤ xs.length ∧ i = .int .i64 k ∧ s = .int .i64 ((xs.take k).flatten.length : Nat) ∧ Mod NoB w0 w
def CatRel2 (w0 : World) (xs : List (List UInt8)) (v i : Value) (w : World) : Prop := ∃ k : Nat, k ≤ xs.length ∧ i = .int .i64 k ∧ Bts w0.heap.size w v (xs.take k).flatten ∧ Mod NoB w0 w
def CatR (w : World) (m : List UInt8) : Ending → World → Prop := fun e w' => ∃ v, e = .returned v ∧ Bts w.heap.size w' v m ∧ Mod NoB w w'
set_option maxRecDepth 10000 in
theorem concat_any {w : World} {G : Nat → Prop} {v : Value} {xs : List (List UInt8)} (h : Bss w G v xs) (h0 : 0 < xs.flatten.length) (hl : xs.flatten.length ≤ 140737488355328) : Calls Tryz.prog 53 #[v] w (CatR w xs.flatten) := by
  have HS := Lib.hid h
  obtain ⟨ad, cap, rfl, hlm, -⟩ := Sl.at h
  clear h
  go_enter Tryz.func53, Tryz.ntmps53
  go_wp2
  go_loopw [3, 11] (CatRel1 w xs) (fun _ i _ => xs.length - (intOf i).toNat)
  case atStart => exact ⟨0, by omega, rfl, by simp, Mod.refl _ _⟩
  case round =>
    rename World => wr
    obtain ⟨k, hk, rfl, rfl, hm⟩ := hrel
    by_cases hlt : k < xs.length
    · have hz : (k : Int) < (xs.length : Int) := by omega
      have HSS := Lib.hid (HS.out.keep0 hm)
      obtain ⟨_, _, hv, -, hat⟩ := Sl.at HSS.out
      cases hv
      obtain ⟨b, off, rfl, -, -, hc⟩ := hat k hlt
      obtain ⟨_, -, ⟨vk, rfl, hsl⟩, hc⟩ := hc k hlt
      have hfs := flat_succ hlt
      have hfl := flat_le (xs := xs) (k := k + 1)
      rw [hfs, List.length_append] at hfl
      generalize xs[k] = y at *
      obtain ⟨ay, cy, rfl, -⟩ := Sl.at hsl
      generalize hL : (xs.take k).flatten.length = L at *
      clear hat
      go_upto_region 4 with (fail)
      refine wp_region_seq [3, 1, 3] (fun _ => True) (by rfl) (by rfl) trivial ?_
      simp only [List.zip_cons_cons, List.zip_nil_right]
      refine wpPi_index _ _ _ _ _ _ _ _ _ rfl rfl rfl rfl Tryz.underlying122 (n := 1) (by kernel_rfl) hlt ?_
      simp only [pl, pn, el, ec, sz, ss, gz, gs, if_true, if_false, Bool.false_eq_true, Bool.not_true, Bool.not_false, Nat.add_zero, Nat.zero_add, Nat.reduceAdd]
      refine wpPi_do rfl (fun K hK => ?_)
      refine wp_exec (exec_load1 _ _ rfl _ _ rfl _ (CellsAt.one.1 hc) _ Tryz.underlying25 rfl) ?_
      refine hK _ _ trivial ?_
      clear hK K
      try simp only [pl, pn, el, ec, sz, ss, gz, gs, if_true, if_false, Bool.false_eq_true, Bool.not_true, Bool.not_false, Nat.add_zero, Nat.zero_add, Nat.reduceAdd]
      refine wpPi_assign _ rfl rfl ?_
      simp only [pl, pn, el, ec, sz, ss, gz, gs, if_true, if_false, Bool.false_eq_true, Bool.not_true, Bool.not_false, Nat.add_zero, Nat.zero_add, Nat.reduceAdd]
      refine wpPi_nil ?_
      go_upto_region 5 with (fail)
      refine wp_region_seq [3, 3, 3, 3, 3] (fun _ => True) (by rfl) (by rfl) trivial ?_
      simp only [List.zip_cons_cons, List.zip_nil_right]
      refine wpPi_move _ rfl rfl ?_
      simp only [pl, pn, el, ec, sz, ss, gz, gs, if_true, if_false, Bool.false_eq_true, Bool.not_true, Bool.not_false, Nat.add_zero, Nat.zero_add, Nat.reduceAdd]
      refine wpPi_move _ rfl rfl ?_
      simp only [pl, pn, el, ec, sz, ss, gz, gs, if_true, if_false, Bool.false_eq_true, Bool.not_true, Bool.not_false, Nat.add_zero, Nat.zero_add, Nat.reduceAdd]
      refine wpPi_len _ _ _ _ _ rfl rfl rfl (by kernel_rfl) ?_
      simp only [pl, pn, el, ec, sz, ss, gz, gs, if_true, if_false, Bool.false_eq_true, Bool.not_true, Bool.not_false, Nat.add_zero, Nat.zero_add, Nat.reduceAdd]
      refine wpPi_addR _ _ _ _ (L : Int) (y.length : Int) ((L + y.length : Nat) : Int) rfl rfl rfl rfl (by omega) (by omega) (by omega) ?_
      simp only [pl, pn, el, ec, sz, ss, gz, gs, if_true, if_false, Bool.false_eq_true, Bool.not_true, Bool.not_false, Nat.add_zero, Nat.zero_add, Nat.reduceAdd]
      refine wpPi_assign _ rfl rfl ?_
      simp only [pl, pn, el, ec, sz, ss, gz, gs, if_true, if_false, Bool.false_eq_true, Bool.not_true, Bool.not_false, Nat.add_zero, Nat.zero_add, Nat.reduceAdd]
      refine wpPi_nil ?_
      have hz2 : ¬ ((L + y.length : Nat) : Int) < 0 := by omega
      go_wp2
      go_roundw
      case rel => exact ⟨k + 1, by omega, by go_num, by rw [hfs, List.length_append, hL], hm⟩
      case measure => simp [intOf]; omega
    · have hz : ¬ (k : Int) < (xs.length : Int) := by omega
      obtain rfl : k = xs.length := by omega
      rw [List.take_length]
      generalize hL : xs.flatten.length = L at *
      go_upto_region 9 with (fail)
      refine wp_region_seq [3, 1, 3] (fun _ => True) (by rfl) (by rfl) trivial ?_
      simp only [List.zip_cons_cons, List.zip_nil_right]
      refine wpPi_move _ rfl rfl ?_
      simp only [pl, pn, el, ec, sz, ss, gz, gs, if_true, if_false, Bool.false_eq_true, Bool.not_true, Bool.not_false, Nat.add_zero, Nat.zero_add, Nat.reduceAdd]
      refine wpPi_do rfl (fun K hK => ?_)
      refine wp_enterQ (run_call 77 [.const (.slice none 0 0), .tmp 23] _ rfl _ Tryz.func77 rfl (by kernel_rfl) [.slice none 0 0, .int .i64 (L : Int)] rfl _) (growB_nil L h0 hl _) ?_
      rintro e w2 ⟨v2, rfl, hb2, hm2⟩
      refine ⟨_, rfl, hK _ _ trivial ?_⟩
      clear hK K
      try simp only [pl, pn, el, ec, sz, ss, gz, gs, if_true, if_false, Bool.false_eq_true, Bool.not_true, Bool.not_false, Nat.add_zero, Nat.zero_add, Nat.reduceAdd]
      refine wpPi_assign _ rfl rfl ?_
      simp only [pl, pn, el, ec, sz, ss, gz, gs, if_true, if_false, Bool.false_eq_true, Bool.not_true, Bool.not_false, Nat.add_zero, Nat.zero_add, Nat.reduceAdd]
      refine wpPi_nil ?_
      have hs2 := hm.size
      replace hb2 : Bts w.heap.size w2 v2 [] := owns_base hb2 hs2
      have hM := hm.trans0 hm2
      clear hm hm2 hs2
      go_wp2
      go_loopw [6, 27] (CatRel2 w xs) (fun _ i _ => xs.length - (intOf i).toNat)
      case atStart => exact ⟨0, by omega, rfl, by simpa using hb2, hM⟩
      case round =>
        rename World => wq
        clear hb2 hM
        obtain ⟨k, hk, rfl, hob, hm⟩ := hrel
        by_cases hlt : k < xs.length
        · have hz : (k : Int) < (xs.length : Int) := by omega
          have hoH := Lib.hid hob
          obtain ⟨ad2, cap2, rfl⟩ := hob.slice
          have HSS := Lib.hid (HS.out.keep0 hm)
          obtain ⟨_, _, hv, -, hat⟩ := Sl.at HSS.out
          cases hv
          obtain ⟨b, off, rfl, -, -, hc⟩ := hat k hlt
          obtain ⟨_, -, ⟨vk, rfl, hsl⟩, hc⟩ := hc k hlt
          have hfs := flat_succ hlt
          have hfl := flat_le (xs := xs) (k := k + 1)
          rw [hfs, List.length_append] at hfl
          rw [hL] at hfl
          generalize xs[k] = y at *
          clear hat hob
          go_upto_region 12 with (fail)
          refine wp_region_seq [3, 1, 3] (fun _ => True) (by rfl) (by rfl) trivial ?_
          simp only [List.zip_cons_cons, List.zip_nil_right]
          refine wpPi_index _ _ _ _ _ _ _ _ _ rfl rfl rfl rfl Tryz.underlying122 (n := 1) (by kernel_rfl) hlt ?_
          simp only [pl, pn, el, ec, sz, ss, gz, gs, if_true, if_false, Bool.false_eq_true, Bool.not_true, Bool.not_false, Nat.add_zero, Nat.zero_add, Nat.reduceAdd]
          refine wpPi_do rfl (fun K hK => ?_)
          refine wp_exec (exec_load1 _ _ rfl _ _ rfl _ (CellsAt.one.1 hc) _ Tryz.underlying25 rfl) ?_
          refine hK _ _ trivial ?_
          clear hK K
          try simp only [pl, pn, el, ec, sz, ss, gz, gs, if_true, if_false, Bool.false_eq_true, Bool.not_true, Bool.not_false, Nat.add_zero, Nat.zero_add, Nat.reduceAdd]
          refine wpPi_assign _ rfl rfl ?_
          simp only [pl, pn, el, ec, sz, ss, gz, gs, if_true, if_false, Bool.false_eq_true, Bool.not_true, Bool.not_false, Nat.add_zero, Nat.zero_add, Nat.reduceAdd]
          refine wpPi_nil ?_
          go_upto_region 13 with (fail)
          refine wp_region_seq [3, 3, 1, 3] (fun _ => True) (by rfl) (by rfl) trivial ?_
          simp only [List.zip_cons_cons, List.zip_nil_right]
          refine wpPi_move _ rfl rfl ?_
          simp only [pl, pn, el, ec, sz, ss, gz, gs, if_true, if_false, Bool.false_eq_true, Bool.not_true, Bool.not_false, Nat.add_zero, Nat.zero_add, Nat.reduceAdd]
          refine wpPi_move _ rfl rfl ?_
          simp only [pl, pn, el, ec, sz, ss, gz, gs, if_true, if_false, Bool.false_eq_true, Bool.not_true, Bool.not_false, Nat.add_zero, Nat.zero_add, Nat.reduceAdd]
          refine wpPi_do rfl (fun K hK => ?_)
          refine wp_bytes _ _ (by rfl) w.heap.size _ _ (by rfl) hoH.out _ y (by rfl) hsl.bsrc (by omega) hm.size (fun v3 w3 ho3 hm3 => ?_)
          rw [← hfs] at ho3
          have hM3 := hm.trans hm3 (fun k hk e => by have := (hoH.out.lt e).1; omega)
          refine hK _ _ trivial ?_
          clear hK K
          try simp only [pl, pn, el, ec, sz, ss, gz, gs, if_true, if_false, Bool.false_eq_true, Bool.not_true, Bool.not_false, Nat.add_zero, Nat.zero_add, Nat.reduceAdd]
          refine wpPi_assign _ rfl rfl ?_
          simp only [pl, pn, el, ec, sz, ss, gz, gs, if_true, if_false, Bool.false_eq_true, Bool.not_true, Bool.not_false, Nat.add_zero, Nat.zero_add, Nat.reduceAdd]
          refine wpPi_nil ?_
          clear hm hm3 hsl hc
          go_wp2
          go_roundw
          case rel => exact ⟨k + 1, by omega, by go_num, ho3, hM3⟩
          case measure => simp [intOf]; omega
        · have hz : ¬ (k : Int) < (xs.length : Int) := by omega
          obtain rfl : k = xs.length := by omega
          rw [List.take_length] at hob
          go_wp2
          go_ret
          exact ⟨_, rfl, hob, hm⟩
end Go.Proofs.YtchkikmmcmjcgaaGreat

/- A slice built of some elements: what it holds. -/
namespace Go.Proofs.YtchkikmmcmjcgaaGreat
set_option linter.unusedSimpArgs false
set_option linter.unusedVariables false
set_option linter.unnecessarySimpa false
set_option linter.unusedSectionVars false
open Go.RowKit

theorem fill_all {n : Nat} : ∀ (vals : List Value) (k : Nat) (pre old : List Value), pre.length = k * n → old.length = vals.length * n → (∀ v ∈ vals, v.cells.size = n) →
    Instr.fill (fun i => some (i * n, n)) (pre ++ old).toArray ((List.range' k vals.length).zip vals) = some (pre ++ vals.flatMap fun v => v.cells.toList).toArray
  | [], k, pre, old, hp, ho, _ => by
    obtain rfl : old = [] := List.eq_nil_of_length_eq_zero (by simpa using ho)
    simp [fill_nil]
  | v :: vals, k, pre, old, hp, ho, hv => by
    have hv1 := hv v (by simp)
    rw [List.length_cons, Nat.succ_mul] at ho
    rw [List.length_cons, List.range'_succ, List.zip_cons_cons, fill_cons (off := k * n) (size := n) rfl hv1 (by simp; omega)]
    have e : putRow (pre ++ old).toArray (k * n) v.cells = ((pre ++ v.cells.toList) ++ old.drop n).toArray := by
      unfold putRow
      have h1 : (pre ++ old).take (k * n) = pre := by rw [← hp, List.take_left]
      have h2 : (pre ++ old).drop (k * n + v.cells.size) = old.drop n := by rw [hv1, ← hp, List.drop_append]; simp
      simp only [h1, h2]
    rw [e, fill_all vals (k + 1) (pre ++ v.cells.toList) (old.drop n) (by simp [hp, hv1, Nat.succ_mul]) (by simp; omega) (fun x hx => hv x (by simp [hx]))]
    simp
theorem wp_buildSliceL {P : Program} {o : Oper} {a : Act} {w : World} {K : Act → World → Prop} {Q : Exit → Act → World → Prop} (t e : TypeId) (len : Nat) (parts : List (Nat × Operand)) (vals : List Value) (z : Value) (n : Nat) (ho : o.op = .buildSlice t len parts.toArray)
    (hx : (parts.map fun x => (x.1, a.eval x.2)) = (List.range' 0 len).zip vals) (hl : vals.length = len) (hu : P.underlying t = some (.slice e))
    (hi : (P.info? e).map (fun i => (i.zero, i.size)) = some (some z, n)) (h0 : 0 < len * n) (hn' : len * n ≤ 16777216) (hv : ∀ v ∈ vals, v.cells.size = n)
    (h : ∀ w', w'.heap[w.heap.size]? = some (.cells (vals.flatMap fun v => v.cells.toList).toArray e (0, 0)) → Mod NoB w w' → w.heap.size < w'.heap.size → K (a.put o.dst (.slice (some ⟨w.heap.size, 0, none⟩) len len)) w') : o.wp P a w K Q := by
  unfold Oper.wp execOp
  simp only [ho]
  cases hi' : P.info? e with
  | none => simp [hi'] at hi
  | some i =>
    simp only [hi', Option.map_some, Option.some.injEq, Prod.mk.injEq] at hi
    obtain ⟨hz0, hz1⟩ := hi
    have hf := fill_all vals 0 [] ((Array.range (len * n)).map (fun x => z.cells[x % z.cells.size]!)).toList (by simp) (by simp [hl]) hv
    rw [hl] at hf
    have hr : (Instr.buildSlice t len (Array.map (fun x => (x.1, a.eval x.2)) parts.toArray)).run P w = .ok (.slice (some ⟨w.heap.size, 0, none⟩) len len) (w.alloc (.cells (vals.flatMap fun v => v.cells.toList).toArray e)) := by
      have hf' : Instr.fill (fun i => some (i * n, n)) ((Array.range (len * n)).map (fun x => z.cells[x % z.cells.size]!)) (List.map (fun x => (x.1, a.eval x.2)) parts) = some (vals.flatMap fun v => v.cells.toList).toArray := by
        rw [hx]; simpa only [List.nil_append, Array.toArray_toList] using hf
      have h00 : ¬ len * n = 0 := by omega
      have h24 : ¬ 2 ^ 24 < len * n := by omega
      unfold Instr.buildSlice
      simp only [Sem.run_bind, run_underlying hu, Result.andThen_ok, sizeOf, typeInfo, hi', hz1, Sem.run_pure, zeroValue, hz0]
      simp [h00, hf', newRow, Nat.not_lt.2 hn', hi', hz0, hz1]
    simp only [Sem.run_bind, hr, Result.andThen_ok, Sem.run_pure]
    exact h _ (heap_alloc_new _ _) (mod_alloc _ _) (by simp)
end Go.Proofs.YtchkikmmcmjcgaaGreat

/- Trees of digests in plain words. -/
namespace Go.Proofs.YtchkikmmcmjcgaaGreat
set_option linter.unusedSimpArgs false
set_option linter.unusedVariables false
set_option linter.unnecessarySimpa false
set_option linter.unusedSectionVars false
open Go.RowKit

structure Leaf where
  key : ByteArray
  way : List UInt8
  val : List UInt8
deriving DecidableEq
def leafOf (e : ByteArray × List UInt8) : Leaf := ⟨e.1, shaL e.1.data.toList, shaL e.2⟩
/-- Does a way go to the right behind so many bits? -/
def bitAt (way : List UInt8) (i : Nat) : Bool := decide ((way.getD (i / 8) 0).toNat / 2 ^ (7 - i % 8) % 2 = 1)
def sideL (b : Bool) (i : Nat) (l : List Leaf) : List Leaf := l.filter fun x => decide (bitAt x.way i = b)
def oneD (x : Leaf) : List UInt8 := shaL (1 :: (x.way ++ x.val))
def twoD (a b : List UInt8) : List UInt8 := shaL (2 :: (a ++ b))
/-- The digest of leaves at a place of i bits; f: how many bits are left at most. -/
def dig : Nat → Nat → List Leaf → List UInt8
  | f, i, l => match l with
    | [] => shaL [0]
    | [x] => oneD x
    | _ :: _ :: _ => match f with
      | 0 => []
      | f + 1 => twoD (dig f (i + 1) (sideL false i l)) (dig f (i + 1) (sideL true i l))
theorem dig_nil (f i : Nat) : dig f i [] = shaL [0] := by cases f <;> rfl
theorem dig_one (f i : Nat) (x : Leaf) : dig f i [x] = oneD x := by cases f <;> rfl
theorem dig_more (f i : Nat) (l : List Leaf) (h : 2 ≤ l.length) : dig (f + 1) i l = twoD (dig f (i + 1) (sideL false i l)) (dig f (i + 1) (sideL true i l)) := by
  match l, h with
  | _ :: _ :: _, _ => rw [dig]
theorem dig_stuck (i : Nat) (l : List Leaf) (h : 2 ≤ l.length) : dig 0 i l = [] := by
  match l, h with
  | _ :: _ :: _, _ => rw [dig]
theorem side_perm (b : Bool) (i : Nat) {l m : List Leaf} (h : l.Perm m) : (sideL b i l).Perm (sideL b i m) := h.filter _
theorem dig_perm : ∀ (f i : Nat) {l m : List Leaf}, l.Perm m → dig f i l = dig f i m := by
  intro f
  induction f with
  | zero =>
    intro i l m h
    rcases Nat.lt_or_ge l.length 2 with h2 | h2
    · match l, h2 with
      | [], _ => rw [List.nil_perm.1 h]
      | [x], _ => rw [List.singleton_perm.1 h]
    · rw [dig_stuck i l h2, dig_stuck i m (h.length_eq ▸ h2)]
  | succ f ih =>
    intro i l m h
    rcases Nat.lt_or_ge l.length 2 with h2 | h2
    · match l, h2 with
      | [], _ => rw [List.nil_perm.1 h]
      | [x], _ => rw [List.singleton_perm.1 h]
    · rw [dig_more f i l h2, dig_more f i m (h.length_eq ▸ h2), ih (i + 1) (side_perm false i h), ih (i + 1) (side_perm true i h)]
/-- The keys of leaves that the others have not, or unlike. -/
def lackL (a b : List Leaf) : List ByteArray := (a.filter fun x => decide (x ∉ b)).map (·.key)
def dif : Nat → Nat → List Leaf → List Leaf → List ByteArray × Nat
  | f, i, a, b =>
    if dig f i a = dig f i b then ([], 1)
    else if a.length < 2 ∨ b.length < 2 then (lackL a b ++ lackL b a, 1)
    else match f with
      | 0 => ([], 1)
      | f + 1 => ((dif f (i + 1) (sideL false i a) (sideL false i b)).1 ++ (dif f (i + 1) (sideL true i a) (sideL true i b)).1, (dif f (i + 1) (sideL false i a) (sideL false i b)).2 + (dif f (i + 1) (sideL true i a) (sideL true i b)).2 + 1)
/-- The sides of a way, from the leaf up: is it the left one; its digest. -/
def pathL (way : List UInt8) : Nat → Nat → List Leaf → List (Bool × List UInt8)
  | f, i, l => if l.length < 2 then [] else match f with
    | 0 => []
    | f + 1 => pathL way f (i + 1) (sideL (bitAt way i) i l) ++ [(bitAt way i, dig f (i + 1) (sideL (!bitAt way i) i l))]
def climb (d : List UInt8) (s : Bool × List UInt8) : List UInt8 := if s.1 then twoD s.2 d else twoD d s.2
def provesL (root : List UInt8) (x : Leaf) (p : List (Bool × List UInt8)) : Bool := decide (p.length ≤ 256) && decide (p.foldl climb (oneD x) = root)
end Go.Proofs.YtchkikmmcmjcgaaGreat

/- Ways, bit by bit: leaves that are sorted are cut where the bit turns. -/
namespace Go.Proofs.YtchkikmmcmjcgaaGreat
set_option linter.unusedSimpArgs false
set_option linter.unusedVariables false
set_option linter.unnecessarySimpa false
set_option linter.unusedSectionVars false
open Go.RowKit

theorem top_eq {a b : Nat} (ha : a < 256) (hb : b < 256) : ∀ t, t ≤ 8 → (∀ s, s < t → (a / 2 ^ (7 - s) % 2 = 1 ↔ b / 2 ^ (7 - s) % 2 = 1)) → a / 2 ^ (8 - t) = b / 2 ^ (8 - t)
  | 0, _, _ => by rw [Nat.sub_zero, Nat.div_eq_of_lt ha, Nat.div_eq_of_lt hb]
  | t + 1, ht, h => by
    have ih := top_eq ha hb t (by omega) (fun s hs => h s (by omega))
    have h1 := h t (by omega)
    have e : 8 - t = (7 - t) + 1 := by omega
    have e2 : 8 - (t + 1) = 7 - t := by omega
    rw [e, Nat.pow_succ, ← Nat.div_div_eq_div_mul, ← Nat.div_div_eq_div_mul] at ih
    rw [e2]
    omega
theorem bit_at (x : List UInt8) (q t : Nat) (ht : t < 8) : bitAt x (8 * q + t) = decide ((x.getD q 0).toNat / 2 ^ (7 - t) % 2 = 1) := by
  unfold bitAt
  rw [show (8 * q + t) / 8 = q by omega, show (8 * q + t) % 8 = t by omega]
theorem byte_eq {a b : UInt8} (h : a.toNat = b.toNat) : a = b := UInt8.toNat_inj.1 h
/-- The bytes ahead of a bit are one, if the bits are. -/
theorem bytes_same {x y : List UInt8} {i : Nat} (h : ∀ j, j < i → bitAt x j = bitAt y j) (q : Nat) (hq : 8 * q + 8 ≤ i) : x.getD q 0 = y.getD q 0 := by
  apply byte_eq
  have := top_eq (a := (x.getD q 0).toNat) (b := (y.getD q 0).toNat) (UInt8.toNat_lt _) (UInt8.toNat_lt _) 8 (by omega) (fun s hs => by
    have h1 := h (8 * q + s) (by omega)
    rw [bit_at x q s hs, bit_at y q s hs, decide_eq_decide] at h1
    exact h1)
  simpa using this
theorem bits_ext {x y : List UInt8} (hx : x.length = 32) (hy : y.length = 32) (h : ∀ j, j < 256 → bitAt x j = bitAt y j) : x = y := by
  apply List.ext_getElem (by omega)
  intro q h1 h2
  have := bytes_same h q (by omega)
  rwa [List.getD_eq_getElem?_getD, List.getD_eq_getElem?_getD, List.getElem?_eq_getElem h1, List.getElem?_eq_getElem h2] at this
/-- The first byte that differs. -/
theorem lt_split : ∀ {x y : List UInt8}, x.length = y.length → x < y → ∃ k, k < x.length ∧ (∀ j, j < k → x.getD j 0 = y.getD j 0) ∧ (x.getD k 0).toNat < (y.getD k 0).toNat
  | [], [], _, h => absurd h (List.lt_irrefl _)
  | a :: x, b :: y, hl, h => by
    rcases List.cons_lt_cons_iff.1 h with h1 | ⟨rfl, h1⟩
    · exact ⟨0, by simp, fun j hj => by omega, h1⟩
    · obtain ⟨k, h2, h3, h4⟩ := lt_split (by simpa using hl) h1
      refine ⟨k + 1, by simpa using h2, fun j hj => ?_, by simpa using h4⟩
      cases j with
      | zero => rfl
      | succ j => simpa using h3 j (by omega)
theorem bit_mono {x y : List UInt8} (hl : x.length = y.length) (h : x < y) {i : Nat} (hs : ∀ j, j < i → bitAt x j = bitAt y j) (hx : bitAt x i = true) : bitAt y i = true := by
  obtain ⟨k, hk, he, hlt⟩ := lt_split hl h
  have e : i = 8 * (i / 8) + i % 8 := by omega
  have ht : i % 8 < 8 := by omega
  generalize hq : i / 8 = q at *
  generalize hr : i % 8 = t at *
  rw [e, bit_at x q t ht] at hx
  rw [e, bit_at y q t ht]
  rcases Nat.lt_trichotomy k q with h1 | h1 | h1
  · have := bytes_same hs k (by omega)
    rw [this] at hlt; omega
  · subst h1
    have htop := top_eq (a := (x.getD k 0).toNat) (b := (y.getD k 0).toNat) (UInt8.toNat_lt _) (UInt8.toNat_lt _) t (by omega) (fun s hs' => by
      have h1 := hs (8 * k + s) (by omega)
      rw [bit_at x k s (by omega), bit_at y k s (by omega), decide_eq_decide] at h1
      exact h1)
    have e3 : 8 - t = (7 - t) + 1 := by omega
    rw [e3, Nat.pow_succ, ← Nat.div_div_eq_div_mul, ← Nat.div_div_eq_div_mul] at htop
    have hle : (x.getD k 0).toNat / 2 ^ (7 - t) ≤ (y.getD k 0).toNat / 2 ^ (7 - t) := Nat.div_le_div_right (Nat.le_of_lt hlt)
    have hx' := of_decide_eq_true hx
    exact decide_eq_true (by omega)
  · rw [he q h1] at hx
    exact hx
/-- Leaves at a place: ways of 32 bytes, that are one up to a bit, rising. -/
structure Placed (i : Nat) (l : List Leaf) : Prop where
  len : ∀ x ∈ l, x.way.length = 32 ∧ x.val.length = 32
  same : ∀ x ∈ l, ∀ y ∈ l, ∀ j, j < i → bitAt x.way j = bitAt y.way j
  rise : l.Pairwise fun x y => x.way < y.way
theorem Placed.bits {i : Nat} {l : List Leaf} (h : Placed i l) (h2 : 2 ≤ l.length) : i < 256 := by
  rcases Nat.lt_or_ge i 256 with h1 | h1
  · exact h1
  · have hlt := List.pairwise_iff_getElem.1 h.rise 0 1 (by omega) (by omega) (by omega)
    have e := bits_ext (h.len _ (List.getElem_mem (by omega : 0 < l.length))).1 (h.len _ (List.getElem_mem (by omega : 1 < l.length))).1 (fun j hj => h.same _ (List.getElem_mem (by omega)) _ (List.getElem_mem (by omega)) j (by omega))
    rw [e] at hlt
    exact absurd hlt (List.lt_irrefl _)
theorem Placed.sub {i : Nat} {l m : List Leaf} (h : Placed i l) (hs : m.Sublist l) : Placed i m := ⟨fun x hx => h.len x (hs.subset hx), fun x hx y hy => h.same x (hs.subset hx) y (hs.subset hy), h.rise.sublist hs⟩
theorem Placed.side {i : Nat} {l : List Leaf} (h : Placed i l) (b : Bool) : Placed (i + 1) (sideL b i l) := by
  have hs := h.sub (List.filter_sublist (p := fun x => decide (bitAt x.way i = b)))
  refine ⟨hs.len, fun x hx y hy j hj => ?_, hs.rise⟩
  rcases Nat.lt_or_ge j i with h1 | h1
  · exact hs.same x hx y hy j h1
  · obtain rfl : j = i := by omega
    have h2 := of_decide_eq_true (List.mem_filter.1 hx).2
    have h3 := of_decide_eq_true (List.mem_filter.1 hy).2
    rw [h2, h3]
/-- A place at which the bit turns cuts the leaves in the two sides. -/
theorem Placed.cut {i : Nat} {l : List Leaf} (h : Placed i l) {n : Nat} (hn : n ≤ l.length) (h1 : n < l.length → bitAt (l.map (·.way))[n]! i = true) (h2 : ∀ j, j < n → bitAt (l.map (·.way))[j]! i = false) : l.take n = sideL false i l ∧ l.drop n = sideL true i l := by
  have ha : ∀ x ∈ l.take n, bitAt x.way i = false := fun x hx => by
    obtain ⟨j, hj, rfl⟩ := List.getElem_of_mem hx
    have hj' : j < n ∧ j < l.length := by simp at hj; omega
    have := h2 j hj'.1
    rw [List.getElem_take]
    simpa [hj'.2] using this
  have hb : ∀ x ∈ l.drop n, bitAt x.way i = true := fun x hx => by
    obtain ⟨j, hj, rfl⟩ := List.getElem_of_mem hx
    have hj' : n + j < l.length := by simp at hj; omega
    have hn0 : n < l.length := by omega
    have h3 := h1 hn0
    have h3 : bitAt l[n].way i = true := by simpa [hn0] using h3
    rw [List.getElem_drop]
    rcases Nat.eq_zero_or_pos j with rfl | hj0
    · exact h3
    · exact bit_mono (by rw [(h.len _ (List.getElem_mem hn0)).1, (h.len _ (List.getElem_mem hj')).1]) (List.pairwise_iff_getElem.1 h.rise n (n + j) hn0 hj' (by omega)) (h.same _ (List.getElem_mem hn0) _ (List.getElem_mem hj')) h3
  have hf : ∀ b, sideL b i l = sideL b i (l.take n) ++ sideL b i (l.drop n) := fun b => by unfold sideL; rw [← List.filter_append, List.take_append_drop]
  have k1 : ∀ (m : List Leaf) (b : Bool), (∀ x ∈ m, bitAt x.way i = b) → sideL b i m = m ∧ sideL (!b) i m = [] := fun m b hm =>
    ⟨List.filter_eq_self.2 fun x hx => decide_eq_true (hm x hx), List.filter_eq_nil_iff.2 fun x hx => by rw [hm x hx]; cases b <;> simp⟩
  have e1 : sideL false i (l.drop n) = [] := (k1 _ true hb).2
  have e2 : sideL true i (l.take n) = [] := (k1 _ false ha).2
  constructor
  · rw [hf false, (k1 _ false ha).1, e1, List.append_nil]
  · rw [hf true, e2, (k1 _ true hb).1, List.nil_append]
end Go.Proofs.YtchkikmmcmjcgaaGreat

/- Differences of leaves in plain words: in whatever order; which keys; how many places; what a path proves. -/
namespace Go.Proofs.YtchkikmmcmjcgaaGreat
set_option linter.unusedSimpArgs false
set_option linter.unusedVariables false
set_option linter.unnecessarySimpa false
set_option linter.unusedSectionVars false
open Go.RowKit

theorem lack_mem {a b : List Leaf} {k : ByteArray} : k ∈ lackL a b ↔ ∃ x ∈ a, x ∉ b ∧ x.key = k := by
  simp only [lackL, List.mem_map, List.mem_filter, decide_eq_true_eq, and_assoc]
theorem lack_perm {a a' b b' : List Leaf} (ha : a.Perm a') (hb : b.Perm b') : (lackL a b).Perm (lackL a' b') := by
  unfold lackL
  have e : (fun x => decide (x ∉ b)) = fun x => decide (x ∉ b') := funext fun x => by rw [decide_eq_decide, hb.mem_iff]
  rw [e]
  exact (ha.filter _).map _
theorem dif_same {f i : Nat} {a b : List Leaf} (h : dig f i a = dig f i b) : dif f i a b = ([], 1) := by
  rw [dif.eq_def]; simp only [h, if_true]
theorem dif_few {f i : Nat} {a b : List Leaf} (h : dig f i a ≠ dig f i b) (h2 : a.length < 2 ∨ b.length < 2) : dif f i a b = (lackL a b ++ lackL b a, 1) := by
  rw [dif.eq_def]; simp only [h, h2, if_true, if_false]
theorem dif_more {f i : Nat} {a b : List Leaf} (h : dig (f + 1) i a ≠ dig (f + 1) i b) (ha : 2 ≤ a.length) (hb : 2 ≤ b.length) : dif (f + 1) i a b =
    ((dif f (i + 1) (sideL false i a) (sideL false i b)).1 ++ (dif f (i + 1) (sideL true i a) (sideL true i b)).1, (dif f (i + 1) (sideL false i a) (sideL false i b)).2 + (dif f (i + 1) (sideL true i a) (sideL true i b)).2 + 1) := by
  have h2 : ¬ (a.length < 2 ∨ b.length < 2) := by omega
  rw [dif.eq_def]; simp only [h, h2, if_false]
theorem dif_stuck {i : Nat} {a b : List Leaf} (ha : 2 ≤ a.length) (hb : 2 ≤ b.length) : dif 0 i a b = ([], 1) := dif_same (by rw [dig_stuck i a ha, dig_stuck i b hb])
/-- The three ways of a comparison. -/
theorem dif_ways (f i : Nat) (a b : List Leaf) : (dig f i a = dig f i b) ∨ (dig f i a ≠ dig f i b ∧ (a.length < 2 ∨ b.length < 2)) ∨ (∃ g, f = g + 1 ∧ dig f i a ≠ dig f i b ∧ 2 ≤ a.length ∧ 2 ≤ b.length) := by
  by_cases h : dig f i a = dig f i b
  · exact .inl h
  · by_cases h2 : a.length < 2 ∨ b.length < 2
    · exact .inr (.inl ⟨h, h2⟩)
    · refine .inr (.inr ?_)
      cases f with
      | zero => exact absurd (by rw [dig_stuck i a (by omega), dig_stuck i b (by omega)]) h
      | succ g => exact ⟨g, rfl, h, by omega, by omega⟩
theorem dif_perm : ∀ (f i : Nat) {a a' b b' : List Leaf}, a.Perm a' → b.Perm b' → (dif f i a b).1.Perm (dif f i a' b').1 ∧ (dif f i a b).2 = (dif f i a' b').2 := by
  intro f
  induction f with
  | zero =>
    intro i a a' b b' ha hb
    rcases dif_ways 0 i a b with h | ⟨h, h2⟩ | ⟨g, hg, -⟩
    · rw [dif_same h, dif_same (by rw [← dig_perm 0 i ha, ← dig_perm 0 i hb, h])]; exact ⟨.refl _, rfl⟩
    · rw [dif_few h h2, dif_few (by rw [← dig_perm 0 i ha, ← dig_perm 0 i hb]; exact h) (by rw [← ha.length_eq, ← hb.length_eq]; exact h2)]
      exact ⟨(lack_perm ha hb).append (lack_perm hb ha), rfl⟩
    · cases hg
  | succ f ih =>
    intro i a a' b b' ha hb
    rcases dif_ways (f + 1) i a b with h | ⟨h, h2⟩ | ⟨g, hg, h, h2, h3⟩
    · rw [dif_same h, dif_same (by rw [← dig_perm _ i ha, ← dig_perm _ i hb, h])]; exact ⟨.refl _, rfl⟩
    · rw [dif_few h h2, dif_few (by rw [← dig_perm _ i ha, ← dig_perm _ i hb]; exact h) (by rw [← ha.length_eq, ← hb.length_eq]; exact h2)]
      exact ⟨(lack_perm ha hb).append (lack_perm hb ha), rfl⟩
    · rw [dif_more h h2 h3, dif_more (by rw [← dig_perm _ i ha, ← dig_perm _ i hb]; exact h) (by rw [← ha.length_eq]; exact h2) (by rw [← hb.length_eq]; exact h3)]
      have h4 := ih (i + 1) (side_perm false i ha) (side_perm false i hb)
      have h5 := ih (i + 1) (side_perm true i ha) (side_perm true i hb)
      exact ⟨h4.1.append h5.1, by rw [h4.2, h5.2]⟩
theorem side_len (i : Nat) (l : List Leaf) : (sideL false i l).length + (sideL true i l).length = l.length := by
  unfold sideL
  induction l with
  | nil => rfl
  | cons x l ih => cases h : bitAt x.way i <;> simp [h] at ih ⊢ <;> omega
theorem dif_count : ∀ (f i : Nat) (a b : List Leaf), (dif f i a b).2 ≤ 1 + 2 * f * a.length := by
  intro f
  induction f with
  | zero =>
    intro i a b
    rcases dif_ways 0 i a b with h | ⟨h, h2⟩ | ⟨g, hg, -⟩
    · rw [dif_same h]; omega
    · rw [dif_few h h2]; omega
    · cases hg
  | succ f ih =>
    intro i a b
    rcases dif_ways (f + 1) i a b with h | ⟨h, h2⟩ | ⟨g, hg, h, h2, h3⟩
    · rw [dif_same h]; omega
    · rw [dif_few h h2]; omega
    · rw [dif_more h h2 h3]
      have h4 := ih (i + 1) (sideL false i a) (sideL false i b)
      have h5 := ih (i + 1) (sideL true i a) (sideL true i b)
      have h6 := side_len i a
      have h7 : 2 * f * (sideL false i a).length + 2 * f * (sideL true i a).length = 2 * f * a.length := by rw [← Nat.mul_add, h6]
      have h8 : 2 * (f + 1) * a.length = 2 * f * a.length + 2 * a.length := by rw [Nat.mul_add, Nat.add_mul]
      show _ + _ + 1 ≤ _
      omega
theorem lack_len (a b : List Leaf) : (lackL a b).length ≤ a.length := by unfold lackL; rw [List.length_map]; exact List.length_filter_le _ _
theorem dif_keys : ∀ (f i : Nat) (a b : List Leaf), (dif f i a b).1.length ≤ a.length + b.length := by
  intro f
  induction f with
  | zero =>
    intro i a b
    rcases dif_ways 0 i a b with h | ⟨h, h2⟩ | ⟨g, hg, -⟩
    · rw [dif_same h]; exact Nat.zero_le _
    · rw [dif_few h h2]; have := lack_len a b; have := lack_len b a; simp only [List.length_append]; omega
    · cases hg
  | succ f ih =>
    intro i a b
    rcases dif_ways (f + 1) i a b with h | ⟨h, h2⟩ | ⟨g, hg, h, h2, h3⟩
    · rw [dif_same h]; exact Nat.zero_le _
    · rw [dif_few h h2]; have := lack_len a b; have := lack_len b a; simp only [List.length_append]; omega
    · rw [dif_more h h2 h3]
      have h4 := ih (i + 1) (sideL false i a) (sideL false i b)
      have h5 := ih (i + 1) (sideL true i a) (sideL true i b)
      have h6 := side_len i a
      have h7 := side_len i b
      simp only [List.length_append]; omega
theorem side_mem {s : Bool} {i : Nat} {l : List Leaf} {x : Leaf} : x ∈ sideL s i l ↔ x ∈ l ∧ bitAt x.way i = s := by simp [sideL, List.mem_filter]
theorem dif_mem : ∀ (f i : Nat) (a b : List Leaf) {k : ByteArray}, k ∈ (dif f i a b).1 → (∃ x ∈ a, x ∉ b ∧ x.key = k) ∨ (∃ x ∈ b, x ∉ a ∧ x.key = k) := by
  intro f
  induction f with
  | zero =>
    intro i a b k hk
    rcases dif_ways 0 i a b with h | ⟨h, h2⟩ | ⟨g, hg, -⟩
    · rw [dif_same h] at hk; cases hk
    · rw [dif_few h h2] at hk
      exact (List.mem_append.1 hk).imp lack_mem.1 lack_mem.1
    · cases hg
  | succ f ih =>
    intro i a b k hk
    rcases dif_ways (f + 1) i a b with h | ⟨h, h2⟩ | ⟨g, hg, h, h2, h3⟩
    · rw [dif_same h] at hk; cases hk
    · rw [dif_few h h2] at hk
      exact (List.mem_append.1 hk).imp lack_mem.1 lack_mem.1
    · rw [dif_more h h2 h3] at hk
      have k1 : ∀ s, (∃ x ∈ sideL s i a, x ∉ sideL s i b ∧ x.key = k) ∨ (∃ x ∈ sideL s i b, x ∉ sideL s i a ∧ x.key = k) → (∃ x ∈ a, x ∉ b ∧ x.key = k) ∨ (∃ x ∈ b, x ∉ a ∧ x.key = k) := fun s hs => by
        rcases hs with ⟨x, hx, hn, e⟩ | ⟨x, hx, hn, e⟩
        · exact .inl ⟨x, (side_mem.1 hx).1, fun h => hn (side_mem.2 ⟨h, (side_mem.1 hx).2⟩), e⟩
        · exact .inr ⟨x, (side_mem.1 hx).1, fun h => hn (side_mem.2 ⟨h, (side_mem.1 hx).2⟩), e⟩
      rcases List.mem_append.1 hk with h4 | h4
      · exact k1 false (ih _ _ _ h4)
      · exact k1 true (ih _ _ _ h4)
/-- Leaves at a place, in whatever order. -/
structure Lie (i : Nat) (l : List Leaf) : Prop where
  len : ∀ x ∈ l, x.way.length = 32 ∧ x.val.length = 32
  same : ∀ x ∈ l, ∀ y ∈ l, ∀ j, j < i → bitAt x.way j = bitAt y.way j
  nd : (l.map (·.way)).Nodup
theorem Placed.lie {i : Nat} {l : List Leaf} (h : Placed i l) : Lie i l := ⟨h.len, h.same, by
  rw [List.nodup_iff_pairwise_ne, List.pairwise_map]
  exact h.rise.imp fun hlt e => by rw [e] at hlt; exact List.lt_irrefl _ hlt⟩
theorem Lie.perm {i : Nat} {l m : List Leaf} (h : Lie i l) (hp : l.Perm m) : Lie i m := ⟨fun x hx => h.len x (hp.mem_iff.2 hx), fun x hx y hy => h.same x (hp.mem_iff.2 hx) y (hp.mem_iff.2 hy), (hp.map _).nodup_iff.1 h.nd⟩
theorem Lie.side {i : Nat} {l : List Leaf} (h : Lie i l) (b : Bool) : Lie (i + 1) (sideL b i l) := by
  refine ⟨fun x hx => h.len x (side_mem.1 hx).1, fun x hx y hy j hj => ?_, h.nd.sublist (List.Sublist.map _ List.filter_sublist)⟩
  have hx := side_mem.1 hx
  have hy := side_mem.1 hy
  rcases Nat.lt_or_ge j i with h1 | h1
  · exact h.same x hx.1 y hy.1 j h1
  · obtain rfl : j = i := by omega
    rw [hx.2, hy.2]
theorem Lie.bits {i : Nat} {l : List Leaf} (h : Lie i l) (h2 : 2 ≤ l.length) : i < 256 := by
  rcases Nat.lt_or_ge i 256 with h1 | h1
  · exact h1
  · have hne := (List.pairwise_iff_getElem.1 h.nd) 0 1 (by simp; omega) (by simp; omega) (by omega)
    simp only [List.getElem_map] at hne
    exact absurd (bits_ext (h.len _ (List.getElem_mem (by omega : 0 < l.length))).1 (h.len _ (List.getElem_mem (by omega : 1 < l.length))).1 (fun j hj => h.same _ (List.getElem_mem (by omega)) _ (List.getElem_mem (by omega)) j (by omega))) hne
theorem nodup_of_map {α β : Type} (f : α → β) {l : List α} (h : (l.map f).Nodup) : l.Nodup := by
  rw [List.nodup_iff_pairwise_ne, List.pairwise_map] at h
  rw [List.nodup_iff_pairwise_ne]
  exact h.imp fun hne e => hne (by rw [e])
theorem Lie.leaves {i : Nat} {l : List Leaf} (h : Lie i l) : l.Nodup := nodup_of_map _ h.nd
theorem perm_of_sub {l m : List Leaf} (hl : l.Nodup) (hm : m.Nodup) (h1 : ∀ x ∈ l, x ∈ m) (h2 : ∀ x ∈ m, x ∈ l) : l.Perm m := by
  rw [List.perm_iff_count]
  intro x
  rw [hl.count, hm.count]
  by_cases hx : x ∈ l
  · rw [if_pos hx, if_pos (h1 x hx)]
  · rw [if_neg hx, if_neg fun h => hx (h2 x h)]
theorem dif_none : ∀ (f i : Nat) {a b : List Leaf}, f + i = 256 → Lie i a → Lie i b → ((dif f i a b).1 = [] ↔ dig f i a = dig f i b) := by
  intro f
  have few : ∀ (f i : Nat) {a b : List Leaf}, Lie i a → Lie i b → lackL a b ++ lackL b a = [] → dig f i a = dig f i b := fun f i a b ha hb h => by
    have h1 := List.append_eq_nil_iff.1 h
    refine dig_perm f i (perm_of_sub ha.leaves hb.leaves (fun x hx => ?_) (fun x hx => ?_))
    · by_cases hn : x ∈ b
      · exact hn
      · have := lack_mem.2 ⟨x, hx, hn, rfl⟩; rw [h1.1] at this; cases this
    · by_cases hn : x ∈ a
      · exact hn
      · have := lack_mem.2 ⟨x, hx, hn, rfl⟩; rw [h1.2] at this; cases this
  induction f with
  | zero =>
    intro i a b hi ha hb
    rcases dif_ways 0 i a b with h | ⟨h, h2⟩ | ⟨g, hg, -⟩
    · rw [dif_same h]; exact ⟨fun _ => h, fun _ => rfl⟩
    · rw [dif_few h h2]; exact ⟨few _ _ ha hb, fun h' => absurd h' h⟩
    · cases hg
  | succ f ih =>
    intro i a b hi ha hb
    rcases dif_ways (f + 1) i a b with h | ⟨h, h2⟩ | ⟨g, hg, h, h2, h3⟩
    · rw [dif_same h]; exact ⟨fun _ => h, fun _ => rfl⟩
    · rw [dif_few h h2]; exact ⟨few _ _ ha hb, fun h' => absurd h' h⟩
    · rw [dif_more h h2 h3]
      refine ⟨fun h4 => ?_, fun h' => absurd h' h⟩
      have h5 := List.append_eq_nil_iff.1 h4
      rw [dig_more f i a h2, dig_more f i b h3, (ih (i + 1) (by omega) (ha.side false) (hb.side false)).1 h5.1, (ih (i + 1) (by omega) (ha.side true) (hb.side true)).1 h5.2]
theorem path_perm (way : List UInt8) : ∀ (f i : Nat) {l m : List Leaf}, l.Perm m → pathL way f i l = pathL way f i m := by
  intro f
  induction f with
  | zero => intro i l m h; rw [pathL.eq_def, pathL.eq_def way 0 i m]; simp only [h.length_eq]
  | succ f ih =>
    intro i l m h
    rw [pathL.eq_def, pathL.eq_def way (f + 1) i m]
    simp only [h.length_eq, ih (i + 1) (side_perm _ i h), dig_perm f (i + 1) (side_perm _ i h)]
theorem path_few {way : List UInt8} {f i : Nat} {l : List Leaf} (h : l.length < 2) : pathL way f i l = [] := by rw [pathL.eq_def]; simp only [h, if_true]
theorem path_more {way : List UInt8} {f i : Nat} {l : List Leaf} (h : 2 ≤ l.length) : pathL way (f + 1) i l = pathL way f (i + 1) (sideL (bitAt way i) i l) ++ [(bitAt way i, dig f (i + 1) (sideL (!bitAt way i) i l))] := by
  have h2 : ¬ l.length < 2 := by omega
  rw [pathL.eq_def]; simp only [h2, if_false]
theorem path_len (way : List UInt8) : ∀ (f i : Nat) (l : List Leaf), (pathL way f i l).length ≤ f := by
  intro f
  induction f with
  | zero => intro i l; rw [pathL.eq_def]; split <;> simp
  | succ f ih =>
    intro i l
    rcases Nat.lt_or_ge l.length 2 with h | h
    · rw [path_few h]; simp
    · rw [path_more h, List.length_append]; have := ih (i + 1) (sideL (bitAt way i) i l); simp only [List.length_singleton]; omega
theorem path_val (way : List UInt8) : ∀ (f i : Nat) (l : List Leaf), f + i = 256 → Lie i l → ∀ s ∈ pathL way f i l, s.2.length = 32 := by
  have dl : ∀ (f i : Nat) (l : List Leaf), f + i = 256 → Lie i l → (dig f i l).length = 32 := fun f i l hi hl => by
    rcases Nat.lt_or_ge l.length 2 with h | h
    · match l, h with
      | [], _ => rw [dig_nil]; exact shaL_len _
      | [x], _ => rw [dig_one]; exact shaL_len _
    · have := hl.bits h
      obtain ⟨g, rfl⟩ : ∃ g, f = g + 1 := ⟨f - 1, by omega⟩
      rw [dig_more g i l h]; exact shaL_len _
  intro f
  induction f with
  | zero =>
    intro i l hi hl s hs
    rcases Nat.lt_or_ge l.length 2 with h | h
    · rw [path_few h] at hs; cases hs
    · have := hl.bits h; omega
  | succ f ih =>
    intro i l hi hl s hs
    rcases Nat.lt_or_ge l.length 2 with h | h
    · rw [path_few h] at hs; cases hs
    · rw [path_more h, List.mem_append] at hs
      rcases hs with hs | hs
      · exact ih (i + 1) _ (by omega) (hl.side _) s hs
      · rw [List.mem_singleton.1 hs]; exact dl f (i + 1) _ (by omega) (hl.side _)
theorem dig_len {f i : Nat} {l : List Leaf} (hi : f + i = 256) (hl : Lie i l) : (dig f i l).length = 32 := by
  rcases Nat.lt_or_ge l.length 2 with h | h
  · match l, h with
    | [], _ => rw [dig_nil]; exact shaL_len _
    | [x], _ => rw [dig_one]; exact shaL_len _
  · have := hl.bits h
    obtain ⟨g, rfl⟩ : ∃ g, f = g + 1 := ⟨f - 1, by omega⟩
    rw [dig_more g i l h]; exact shaL_len _
/-- A leaf's path leads from its digest to the root. -/
theorem path_proves : ∀ (f i : Nat) {l : List Leaf} {x : Leaf}, f + i = 256 → Lie i l → x ∈ l → (pathL x.way f i l).foldl climb (oneD x) = dig f i l := by
  intro f
  have few : ∀ (f i : Nat) {l : List Leaf} {x : Leaf}, l.length < 2 → x ∈ l → (pathL x.way f i l).foldl climb (oneD x) = dig f i l := fun f i l x h hx => by
    rw [path_few h]
    match l, h, hx with
    | [y], _, hx => rw [dig_one, List.mem_singleton.1 hx]; rfl
  induction f with
  | zero =>
    intro i l x hi hl hx
    rcases Nat.lt_or_ge l.length 2 with h | h
    · exact few 0 i h hx
    · have := hl.bits h; omega
  | succ f ih =>
    intro i l x hi hl hx
    rcases Nat.lt_or_ge l.length 2 with h | h
    · exact few _ i h hx
    · rw [path_more h, List.foldl_append, ih (i + 1) (by omega) (hl.side _) (side_mem.2 ⟨hx, rfl⟩), dig_more f i l h]
      cases hb : bitAt x.way i <;> rfl
end Go.Proofs.YtchkikmmcmjcgaaGreat

/- Entries in plain words: what may be, which keys differ. -/
namespace Go.Proofs.YtchkikmmcmjcgaaGreat
set_option linter.unusedSimpArgs false
set_option linter.unusedVariables false
set_option linter.unnecessarySimpa false
set_option linter.unusedSectionVars false
open Go.RowKit

abbrev Ent := ByteArray × List UInt8
def leavesE (l : List Ent) : List Leaf := l.map leafOf
/-- Why entries may not be. -/
def chkE (l : List Ent) : Nat := if 4096 < l.length then 4 else if ¬ (l.map (·.1)).Nodup then 19 else if ¬ ((leavesE l).map (·.way)).Nodup then 9 else 0
def rootE (l : List Ent) : List UInt8 := dig 256 0 (leavesE l)
def difE (a b : List Ent) : List ByteArray × Nat := dif 256 0 (leavesE a) (leavesE b)
/-- Two keys of one way. -/
def clash (a b : List Ent) : Prop := ∃ x ∈ leavesE a, ∃ y ∈ leavesE b, x.way = y.way ∧ x.key ≠ y.key
open Classical in
noncomputable def errD (a b : List Ent) : Nat := if chkE a ≠ 0 then chkE a else if chkE b ≠ 0 then chkE b else if clash a b then 9 else 0
theorem leaf_len (e : Ent) : (leafOf e).way.length = 32 ∧ (leafOf e).val.length = 32 := ⟨shaL_len _, shaL_len _⟩
theorem leavesE_len {l : List Ent} : ∀ x ∈ leavesE l, x.way.length = 32 ∧ x.val.length = 32 := fun x hx => by
  obtain ⟨e, _, rfl⟩ := List.mem_map.1 hx; exact leaf_len e
theorem chkE_zero {l : List Ent} (h : chkE l = 0) : l.length ≤ 4096 ∧ (l.map (·.1)).Nodup ∧ ((leavesE l).map (·.way)).Nodup := by
  unfold chkE at h
  split at h
  · cases h
  · split at h
    · cases h
    · split at h
      · cases h
      · rename_i h1 h2 h3
        exact ⟨by omega, Classical.not_not.1 h2, Classical.not_not.1 h3⟩
theorem lie_of_chk {l : List Ent} (h : chkE l = 0) : Lie 0 (leavesE l) := ⟨leavesE_len, fun _ _ _ _ j hj => by omega, (chkE_zero h).2.2⟩
theorem chkE_perm {l m : List Ent} (h : l.Perm m) : chkE l = chkE m := by
  have e1 : (l.map (·.1)).Nodup = (m.map (·.1)).Nodup := propext (h.map _).nodup_iff
  have e2 : ((leavesE l).map (·.way)).Nodup = ((leavesE m).map (·.way)).Nodup := propext ((h.map _).map _).nodup_iff
  simp only [chkE, e1, e2, h.length_eq]
theorem chkE_few (l : List Ent) (h : l.length < 2) : chkE l = 0 := by
  match l, h with
  | [], _ => simp [chkE, leavesE]
  | [x], _ => simp [chkE, leavesE]
/-- Rising, each once: just those that are among some. -/
def Rise (l m : List ByteArray) : Prop := m.Pairwise (fun x y => x.data.toList < y.data.toList) ∧ ∀ x, x ∈ m ↔ x ∈ l
theorem rise_ext : ∀ {l m : List ByteArray}, l.Pairwise (fun x y => x.data.toList < y.data.toList) → m.Pairwise (fun x y => x.data.toList < y.data.toList) → (∀ x, x ∈ l ↔ x ∈ m) → l = m
  | [], [], _, _, _ => rfl
  | [], y :: m, _, _, h => absurd ((h y).2 (by simp)) (by simp)
  | x :: l, [], _, _, h => absurd ((h x).1 (by simp)) (by simp)
  | x :: l, y :: m, h1, h2, h => by
    rw [List.pairwise_cons] at h1 h2
    have hxy : x = y := by
      rcases List.mem_cons.1 ((h x).1 (by simp)) with h3 | h3
      · exact h3
      · rcases List.mem_cons.1 ((h y).2 (by simp)) with h4 | h4
        · exact h4.symm
        · exact absurd (List.lt_trans (h2.1 x h3) (h1.1 y h4)) (List.lt_irrefl _)
    subst hxy
    rw [rise_ext h1.2 h2.2 fun z => ⟨fun hz => by
      rcases List.mem_cons.1 ((h z).1 (by simp [hz])) with h3 | h3
      · subst h3; exact absurd (h1.1 _ hz) (List.lt_irrefl _)
      · exact h3, fun hz => by
      rcases List.mem_cons.1 ((h z).2 (by simp [hz])) with h3 | h3
      · subst h3; exact absurd (h2.1 _ hz) (List.lt_irrefl _)
      · exact h3⟩]
theorem Rise.uniq {l l' m m' : List ByteArray} (h : Rise l m) (h' : Rise l' m') (hl : ∀ x, x ∈ l ↔ x ∈ l') : m = m' := rise_ext h.1 h'.1 fun x => by rw [h.2 x, h'.2 x, hl x]
theorem Rise.nil {l m : List ByteArray} (h : Rise l m) : m = [] ↔ l = [] := by
  rw [List.eq_nil_iff_forall_not_mem, List.eq_nil_iff_forall_not_mem]
  exact ⟨fun k x hx => k x ((h.2 x).2 hx), fun k x hx => k x ((h.2 x).1 hx)⟩
theorem Rise.one {l m : List ByteArray} {k : ByteArray} (h : Rise l m) (h1 : ∀ x ∈ l, x = k) (h2 : l ≠ []) : m = [k] := by
  refine h.uniq (l' := [k]) ⟨List.pairwise_singleton _ _, fun x => Iff.rfl⟩ fun x => ?_
  rw [List.mem_singleton]
  constructor
  · exact h1 x
  · rintro rfl
    obtain ⟨y, hy⟩ := List.exists_mem_of_ne_nil _ h2
    rw [← h1 y hy]; exact hy
theorem clash_symm {a b : List Ent} : clash a b ↔ clash b a := ⟨fun ⟨x, hx, y, hy, h1, h2⟩ => ⟨y, hy, x, hx, h1.symm, fun e => h2 e.symm⟩, fun ⟨x, hx, y, hy, h1, h2⟩ => ⟨y, hy, x, hx, h1.symm, fun e => h2 e.symm⟩⟩
theorem errD_zero {a b : List Ent} : errD a b = 0 ↔ chkE a = 0 ∧ chkE b = 0 ∧ ¬ clash a b := by
  unfold errD
  by_cases h1 : chkE a = 0 <;> by_cases h2 : chkE b = 0 <;> by_cases h3 : clash a b <;> simp [h1, h2, h3]
theorem errD_symm {a b : List Ent} : errD a b = 0 ↔ errD b a = 0 := by rw [errD_zero, errD_zero, clash_symm]; exact ⟨fun ⟨h1, h2, h3⟩ => ⟨h2, h1, h3⟩, fun ⟨h1, h2, h3⟩ => ⟨h2, h1, h3⟩⟩
theorem errD_self {a : List Ent} (h : chkE a = 0) : errD a a = 0 := by
  rw [errD_zero]
  refine ⟨h, h, ?_⟩
  rintro ⟨x, hx, y, hy, h1, h2⟩
  have hn := (lie_of_chk h).nd
  obtain ⟨i, hi, rfl⟩ := List.getElem_of_mem hx
  obtain ⟨j, hj, rfl⟩ := List.getElem_of_mem hy
  have k : ∀ i j, (hi : i < (leavesE a).length) → (hj : j < (leavesE a).length) → i < j → (leavesE a)[i].way ≠ (leavesE a)[j].way := fun i j hi hj hij => by
    have := List.pairwise_iff_getElem.1 hn i j (by simpa using hi) (by simpa using hj) hij
    simpa using this
  rcases Nat.lt_trichotomy i j with h3 | h3 | h3
  · exact k i j hi hj h3 h1
  · subst h3; exact h2 rfl
  · exact k j i hj hi h3 h1.symm
/-- Differences are told alike both ways round. -/
theorem dif_swap : ∀ (f i : Nat) (a b : List Leaf), (∀ x, x ∈ (dif f i a b).1 ↔ x ∈ (dif f i b a).1) ∧ (dif f i a b).2 = (dif f i b a).2 := by
  intro f
  have few : ∀ (a b : List Leaf) (x : ByteArray), x ∈ lackL a b ++ lackL b a ↔ x ∈ lackL b a ++ lackL a b := fun a b x => by rw [List.mem_append, List.mem_append, Or.comm]
  induction f with
  | zero =>
    intro i a b
    rcases dif_ways 0 i a b with h | ⟨h, h2⟩ | ⟨g, hg, -⟩
    · rw [dif_same h, dif_same h.symm]; exact ⟨fun _ => Iff.rfl, rfl⟩
    · rw [dif_few h h2, dif_few (Ne.symm h) h2.symm]; exact ⟨few a b, rfl⟩
    · cases hg
  | succ f ih =>
    intro i a b
    rcases dif_ways (f + 1) i a b with h | ⟨h, h2⟩ | ⟨g, hg, h, h2, h3⟩
    · rw [dif_same h, dif_same h.symm]; exact ⟨fun _ => Iff.rfl, rfl⟩
    · rw [dif_few h h2, dif_few (Ne.symm h) h2.symm]; exact ⟨few a b, rfl⟩
    · rw [dif_more h h2 h3, dif_more (Ne.symm h) h3 h2]
      have h4 := ih (i + 1) (sideL false i a) (sideL false i b)
      have h5 := ih (i + 1) (sideL true i a) (sideL true i b)
      exact ⟨fun x => by rw [List.mem_append, List.mem_append, h4.1 x, h5.1 x], by rw [h4.2, h5.2]⟩
end Go.Proofs.YtchkikmmcmjcgaaGreat
