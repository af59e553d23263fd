/- What the statement TreeRoots needs, part 6. -/
import Derived.Test.YtchkikmmcmjcgaaGreatTreeRootsP5
/- SHA-256, the document's: a block. -/
namespace Go.Proofs.YtchkikmmcmjcgaaGreat
set_option linter.unusedSimpArgs false
set_option linter.unusedVariables false
set_option linter.unnecessarySimpa false
set_option linter.unusedSectionVars false
open Go.RowKit


def SprRel (b : List UInt8) (lo hi b5 : Nat) (w0 : World) (i : Value) (w : World) : Prop := ∃ n : Nat, lo ≤ n ∧ n ≤ hi ∧ i = .int .i64 n ∧ w.heap[b5]? = some (.cells (wordCells (rowW b n)) 125 (0, 0)) ∧ Mod (fun k => k = b5) w0 w
def RndRel (w0 : World) (b2 b4 b10 b11 b5 : Nat) (sp : List UInt32) (s : W8) (i : Value) (w : World) : Prop := ∃ n : Nat, n ≤ 64 ∧ i = .int .i64 n ∧ w.heap[b10]? = some (.cells (wordCells (rounds shaKeys sp n s).list) 92 (0, 0)) ∧
  w.heap[b11]? = some (.cells (wordCells shaKeys) 125 (0, 0)) ∧ w.heap[b5]? = some (.cells (wordCells sp) 125 (0, 0)) ∧ w.heap[b2]? = some (.cells (wordCells s.list) 92 (0, 0)) ∧ w.heap[b4]? = some (.cells (wordCells (List.replicate 8 0)) 92 (0, 0)) ∧ Mod NoB w0 w
def Add2Rel (w0 : World) (b2 b4 b10 : Nat) (s c : W8) (i : Value) (w : World) : Prop := ∃ n : Nat, n ≤ 8 ∧ i = .int .i64 n ∧ w.heap[b10]? = some (.cells (putRow (wordCells c.list) 0 (wordCells ((addW s c).list.take n))) 92 (0, 0)) ∧
  w.heap[b2]? = some (.cells (wordCells s.list) 92 (0, 0)) ∧ w.heap[b4]? = some (.cells (wordCells (List.replicate 8 0)) 92 (0, 0)) ∧ Mod NoB w0 w
theorem built8w (x0 x1 x2 x3 x4 x5 x6 x7 : UInt32) : Tryz.prog.built 92 [(0, wordV x0), (1, wordV x1), (2, wordV x2), (3, wordV x3), (4, wordV x4), (5, wordV x5), (6, wordV x6), (7, wordV x7)] = some (wordCells [x0, x1, x2, x3, x4, x5, x6, x7]) := by kernel_rfl
set_option maxRecDepth 10000 in
set_option maxHeartbeats 8000000 in
theorem refBlock_any {own : Bool} {G : Nat → Prop} {v : Value} {b : List UInt8} {s : W8} {w : World} (hb : Sl own w G 1 ByteC v b) (hl : b.length = 64) : Calls Tryz.prog 65 #[.agg (wordCells s.list), v] w (RetM (.agg (wordCells (blockL s b).list)) w) := by
  obtain ⟨av, cap, rfl, hlen, hat⟩ := hb.at
  obtain ⟨bb, off, rfl, -, -, hcs⟩ := hat 0 (by omega)
  have hbyte : ∀ j, j < 64 → w.cell? ⟨bb, off + j * 1, none⟩ = some (byteV (b.getD j 0)) := fun j hj => by
    obtain ⟨cs, _, rfl, hc⟩ := hcs j (by omega)
    rw [List.getD_eq_getElem?_getD, List.getElem?_eq_getElem (by omega)]
    exact CellsAt.one.1 hc
  have hbb : bb < w.heap.size := block_lt_of_cell (hbyte 0 (by omega))
  have HB0 := Lib.hid hbyte
  clear hat hcs hb hbyte
  go_enter Tryz.func65, Tryz.ntmps65
  go_upto_region 0 with (fail)
  refine wp_region_seq [1, 1] (fun _ => True) (by rfl) (by rfl) trivial ?_
  simp only [List.zip_cons_cons, List.zip_nil_right]
  refine wpPi_do rfl (fun K hK => ?_)
  refine wp_box 92 _ _ (by rfl) (by rfl) (fun w1 hB2 hm1 hs1 => ?_)
  replace hB2 : w1.heap[w.heap.size]? = some (.cells (wordCells s.list) 92 (0, 0)) := hB2
  refine hK _ _ trivial ?_
  clear hK K
  try simp only [pl, pn, el, ec, sz, ss, gz, gs, if_true, if_false, Bool.false_eq_true, Bool.not_true, Bool.not_false, Nat.add_zero, Nat.zero_add, Nat.reduceAdd]
  refine wpPi_do rfl (fun K hK => ?_)
  refine wp_alloc 92 _ (by rfl) w8Z (fun w2 hB4 hm2 hs2 => ?_)
  replace hB4 : w2.heap[w1.heap.size]? = some (.cells (wordCells (List.replicate 8 0)) 92 (0, 0)) := hB4
  refine hK _ _ trivial ?_
  clear hK K
  try simp only [pl, pn, el, ec, sz, ss, gz, gs, if_true, if_false, Bool.false_eq_true, Bool.not_true, Bool.not_false, Nat.add_zero, Nat.zero_add, Nat.reduceAdd]
  refine wpPi_nil ?_
  replace hB2 := hm2.obj id hB2
  go_upto_region 1 with (fail)
  refine wp_region_seq [1] (fun _ => True) (by rfl) (by rfl) trivial ?_
  simp only [List.zip_cons_cons, List.zip_nil_right]
  refine wpPi_do rfl (fun K hK => ?_)
  refine wp_alloc 125 _ (by rfl) w64Z (fun w3 hB5 hm3 hs3 => ?_)
  replace hB5 : w3.heap[w2.heap.size]? = some (.cells (wordCells (List.replicate 64 0)) 125 (0, 0)) := hB5
  refine hK _ _ trivial ?_
  clear hK K
  try simp only [pl, pn, el, ec, sz, ss, gz, gs, if_true, if_false, Bool.false_eq_true, Bool.not_true, Bool.not_false, Nat.add_zero, Nat.zero_add, Nat.reduceAdd]
  refine wpPi_nil ?_
  replace hB2 := hm3.obj id hB2
  replace hB4 := hm3.obj id hB4
  have hM3 : Mod NoB w w3 := (hm1.trans0 hm2).trans0 hm3
  have HB : Hid (∀ j, j < 64 → w3.cell? ⟨bb, off + j * 1, none⟩ = some (byteV (b.getD j 0))) := fun j hj => hM3.cell id (HB0.out j hj)
  have hz1 := hm1.size
  have hz2 := hm2.size
  clear hm1 hm2 hm3 HB0
  generalize hb2 : w.heap.size = b2 at *
  generalize hb4 : w1.heap.size = b4 at *
  generalize hb5 : w2.heap.size = b5 at *
  clear hb4 hb5 hz2 hz1
  go_wp2
  go_loopw [6] (SprRel b 0 16 b5 w3) (fun i _ => 16 - (intOf i).toNat)
  case atStart => exact ⟨0, by omega, by omega, rfl, by simpa [rowW, spreadL] using hB5, Mod.refl _ _⟩
  case round =>
    rename World => wr
    clear hB5
    obtain ⟨n, -, hn, rfl, hrow, hM⟩ := hrel
    have hbne : ¬ bb = b5 := by omega
    by_cases hlt16 : n < 16
    · have hz : (n : Int) < 16 := by omega
      have hlt : n < 64 := by omega
      have hsz := wordCells_size (rowW b n)
      rw [rowW_len b (by omega)] at hsz
      have hset := rowW_set b hlt
      rw [if_pos hlt16] at hset
      have hbw : ∀ j, j < 64 → wr.cell? ⟨bb, off + j * 1, none⟩ = some (byteV (b.getD j 0)) := fun j hj => hM.cell hbne (HB.out j hj)
      have HBW := Lib.hid hbw
      have HSET := Lib.hid hset
      have h0 : 4 * n < b.length := by omega
      have h1 : 4 * n + 1 < b.length := by omega
      have h2 : 4 * n + 2 < b.length := by omega
      have h3 : 4 * n + 3 < b.length := by omega
      clear hbw hset HB
      go_upto_region 5 with (fail)
      have hS : Mod (fun k => k = b5) wr wr.drew := (Mod.refl _ _).drew
      refine wp_region_pi [(0, 3), (1, 3), (2, 3), (3, 3), (4, 3), (5, 0), (6, 3), (7, 3), (8, 3), (9, 3), (10, 3), (11, 3), (12, 3), (13, 0), (14, 3), (15, 3), (16, 3), (17, 3), (18, 3), (19, 3), (20, 3), (21, 3), (22, 0), (23, 3), (24, 3), (25, 3), (26, 3), (27, 3), (28, 3), (29, 3), (30, 3), (31, 0), (32, 3), (33, 3), (34, 3), (35, 1)] [] (fun w' => Mod (fun k => k = b5) wr w') (by kernel_rfl) (by kernel_rfl) (by kernel_rfl) (by kernel_rfl) (fun _ _ _ _ hd h => ⟨hd.trans h.1, h.2⟩) hS ?_
      simp only [List.map_cons, List.map_nil, List.getD_cons_zero, List.getD_cons_succ]
      refine wpPi_move _ rfl rfl ?_
      simp only [pl, pn, el, ec, sz, ss, gz, gs, if_true, if_false, Bool.false_eq_true, Bool.not_true, Bool.not_false, Nat.add_zero, Nat.zero_add, Nat.reduceAdd]
      refine wpPi_move _ rfl rfl ?_
      simp only [pl, pn, el, ec, sz, ss, gz, gs, if_true, if_false, Bool.false_eq_true, Bool.not_true, Bool.not_false, Nat.add_zero, Nat.zero_add, Nat.reduceAdd]
      refine wpPi_move _ rfl rfl ?_
      simp only [pl, pn, el, ec, sz, ss, gz, gs, if_true, if_false, Bool.false_eq_true, Bool.not_true, Bool.not_false, Nat.add_zero, Nat.zero_add, Nat.reduceAdd]
      refine wpPi_mulR _ _ _ _ 4 (n : Int) ((4 * n : Nat) : Int) rfl rfl rfl rfl (by omega) (by omega) (by omega) ?_
      simp only [pl, pn, el, ec, sz, ss, gz, gs, if_true, if_false, Bool.false_eq_true, Bool.not_true, Bool.not_false, Nat.add_zero, Nat.zero_add, Nat.reduceAdd]
      refine wpPi_index _ _ _ _ _ _ _ _ _ rfl rfl rfl rfl Tryz.underlying25 (n := 1) (by kernel_rfl) h0 ?_
      simp only [pl, pn, el, ec, sz, ss, gz, gs, if_true, if_false, Bool.false_eq_true, Bool.not_true, Bool.not_false, Nat.add_zero, Nat.zero_add, Nat.reduceAdd]
      refine wpPi_val rfl (fun w' hS => exec_load1 5 _ (by rfl) bb (off + 4 * n * 1) (by rfl) _ (hS.cell hbne (HBW.out (4 * n) (by omega))) _ Tryz.underlying5 rfl) ?_
      simp only [pl, pn, el, ec, sz, ss, gz, gs, if_true, if_false, Bool.false_eq_true, Bool.not_true, Bool.not_false, Nat.add_zero, Nat.zero_add, Nat.reduceAdd]
      refine wpPi_any rfl (fun w' => exec_word_of_byte _ _ _ _ rfl rfl (by kernel_rfl) Tryz.underlying91) ?_
      simp only [pl, pn, el, ec, sz, ss, gz, gs, if_true, if_false, Bool.false_eq_true, Bool.not_true, Bool.not_false, Nat.add_zero, Nat.zero_add, Nat.reduceAdd]
      refine wpPi_shl32 _ _ _ _ _ .u64 24 rfl rfl rfl rfl (by omega) ?_
      simp only [pl, pn, el, ec, sz, ss, gz, gs, if_true, if_false, Bool.false_eq_true, Bool.not_true, Bool.not_false, Nat.add_zero, Nat.zero_add, Nat.reduceAdd]
      refine wpPi_move _ rfl rfl ?_
      simp only [pl, pn, el, ec, sz, ss, gz, gs, if_true, if_false, Bool.false_eq_true, Bool.not_true, Bool.not_false, Nat.add_zero, Nat.zero_add, Nat.reduceAdd]
      refine wpPi_move _ rfl rfl ?_
      simp only [pl, pn, el, ec, sz, ss, gz, gs, if_true, if_false, Bool.false_eq_true, Bool.not_true, Bool.not_false, Nat.add_zero, Nat.zero_add, Nat.reduceAdd]
      refine wpPi_mulR _ _ _ _ 4 (n : Int) ((4 * n : Nat) : Int) rfl rfl rfl rfl (by omega) (by omega) (by omega) ?_
      simp only [pl, pn, el, ec, sz, ss, gz, gs, if_true, if_false, Bool.false_eq_true, Bool.not_true, Bool.not_false, Nat.add_zero, Nat.zero_add, Nat.reduceAdd]
      refine wpPi_addR _ _ _ _ ((4 * n : Nat) : Int) 1 ((4 * n + 1 : Nat) : Int) rfl rfl rfl rfl (by omega) (by omega) (by omega) ?_
      simp only [pl, pn, el, ec, sz, ss, gz, gs, if_true, if_false, Bool.false_eq_true, Bool.not_true, Bool.not_false, Nat.add_zero, Nat.zero_add, Nat.reduceAdd]
      refine wpPi_index _ _ _ _ _ _ _ _ _ rfl rfl rfl rfl Tryz.underlying25 (n := 1) (by kernel_rfl) h1 ?_
      simp only [pl, pn, el, ec, sz, ss, gz, gs, if_true, if_false, Bool.false_eq_true, Bool.not_true, Bool.not_false, Nat.add_zero, Nat.zero_add, Nat.reduceAdd]
      refine wpPi_val rfl (fun w' hS => exec_load1 5 _ (by rfl) bb (off + (4 * n + 1) * 1) (by rfl) _ (hS.cell hbne (HBW.out (4 * n + 1) (by omega))) _ Tryz.underlying5 rfl) ?_
      simp only [pl, pn, el, ec, sz, ss, gz, gs, if_true, if_false, Bool.false_eq_true, Bool.not_true, Bool.not_false, Nat.add_zero, Nat.zero_add, Nat.reduceAdd]
      refine wpPi_any rfl (fun w' => exec_word_of_byte _ _ _ _ rfl rfl (by kernel_rfl) Tryz.underlying91) ?_
      simp only [pl, pn, el, ec, sz, ss, gz, gs, if_true, if_false, Bool.false_eq_true, Bool.not_true, Bool.not_false, Nat.add_zero, Nat.zero_add, Nat.reduceAdd]
      refine wpPi_shl32 _ _ _ _ _ .u64 16 rfl rfl rfl rfl (by omega) ?_
      simp only [pl, pn, el, ec, sz, ss, gz, gs, if_true, if_false, Bool.false_eq_true, Bool.not_true, Bool.not_false, Nat.add_zero, Nat.zero_add, Nat.reduceAdd]
      refine wpPi_or32 _ _ _ _ _ _ rfl rfl rfl rfl ?_
      simp only [pl, pn, el, ec, sz, ss, gz, gs, if_true, if_false, Bool.false_eq_true, Bool.not_true, Bool.not_false, Nat.add_zero, Nat.zero_add, Nat.reduceAdd]
      refine wpPi_move _ rfl rfl ?_
      simp only [pl, pn, el, ec, sz, ss, gz, gs, if_true, if_false, Bool.false_eq_true, Bool.not_true, Bool.not_false, Nat.add_zero, Nat.zero_add, Nat.reduceAdd]
      refine wpPi_move _ rfl rfl ?_
      simp only [pl, pn, el, ec, sz, ss, gz, gs, if_true, if_false, Bool.false_eq_true, Bool.not_true, Bool.not_false, Nat.add_zero, Nat.zero_add, Nat.reduceAdd]
      refine wpPi_mulR _ _ _ _ 4 (n : Int) ((4 * n : Nat) : Int) rfl rfl rfl rfl (by omega) (by omega) (by omega) ?_
      simp only [pl, pn, el, ec, sz, ss, gz, gs, if_true, if_false, Bool.false_eq_true, Bool.not_true, Bool.not_false, Nat.add_zero, Nat.zero_add, Nat.reduceAdd]
      refine wpPi_addR _ _ _ _ ((4 * n : Nat) : Int) 2 ((4 * n + 2 : Nat) : Int) rfl rfl rfl rfl (by omega) (by omega) (by omega) ?_
      simp only [pl, pn, el, ec, sz, ss, gz, gs, if_true, if_false, Bool.false_eq_true, Bool.not_true, Bool.not_false, Nat.add_zero, Nat.zero_add, Nat.reduceAdd]
      refine wpPi_index _ _ _ _ _ _ _ _ _ rfl rfl rfl rfl Tryz.underlying25 (n := 1) (by kernel_rfl) h2 ?_
      simp only [pl, pn, el, ec, sz, ss, gz, gs, if_true, if_false, Bool.false_eq_true, Bool.not_true, Bool.not_false, Nat.add_zero, Nat.zero_add, Nat.reduceAdd]
      refine wpPi_val rfl (fun w' hS => exec_load1 5 _ (by rfl) bb (off + (4 * n + 2) * 1) (by rfl) _ (hS.cell hbne (HBW.out (4 * n + 2) (by omega))) _ Tryz.underlying5 rfl) ?_
      simp only [pl, pn, el, ec, sz, ss, gz, gs, if_true, if_false, Bool.false_eq_true, Bool.not_true, Bool.not_false, Nat.add_zero, Nat.zero_add, Nat.reduceAdd]
      refine wpPi_any rfl (fun w' => exec_word_of_byte _ _ _ _ rfl rfl (by kernel_rfl) Tryz.underlying91) ?_
      simp only [pl, pn, el, ec, sz, ss, gz, gs, if_true, if_false, Bool.false_eq_true, Bool.not_true, Bool.not_false, Nat.add_zero, Nat.zero_add, Nat.reduceAdd]
      refine wpPi_shl32 _ _ _ _ _ .u64 8 rfl rfl rfl rfl (by omega) ?_
      simp only [pl, pn, el, ec, sz, ss, gz, gs, if_true, if_false, Bool.false_eq_true, Bool.not_true, Bool.not_false, Nat.add_zero, Nat.zero_add, Nat.reduceAdd]
      refine wpPi_or32 _ _ _ _ _ _ rfl rfl rfl rfl ?_
      simp only [pl, pn, el, ec, sz, ss, gz, gs, if_true, if_false, Bool.false_eq_true, Bool.not_true, Bool.not_false, Nat.add_zero, Nat.zero_add, Nat.reduceAdd]
      refine wpPi_move _ rfl rfl ?_
      simp only [pl, pn, el, ec, sz, ss, gz, gs, if_true, if_false, Bool.false_eq_true, Bool.not_true, Bool.not_false, Nat.add_zero, Nat.zero_add, Nat.reduceAdd]
      refine wpPi_move _ rfl rfl ?_
      simp only [pl, pn, el, ec, sz, ss, gz, gs, if_true, if_false, Bool.false_eq_true, Bool.not_true, Bool.not_false, Nat.add_zero, Nat.zero_add, Nat.reduceAdd]
      refine wpPi_mulR _ _ _ _ 4 (n : Int) ((4 * n : Nat) : Int) rfl rfl rfl rfl (by omega) (by omega) (by omega) ?_
      simp only [pl, pn, el, ec, sz, ss, gz, gs, if_true, if_false, Bool.false_eq_true, Bool.not_true, Bool.not_false, Nat.add_zero, Nat.zero_add, Nat.reduceAdd]
      refine wpPi_addR _ _ _ _ ((4 * n : Nat) : Int) 3 ((4 * n + 3 : Nat) : Int) rfl rfl rfl rfl (by omega) (by omega) (by omega) ?_
      simp only [pl, pn, el, ec, sz, ss, gz, gs, if_true, if_false, Bool.false_eq_true, Bool.not_true, Bool.not_false, Nat.add_zero, Nat.zero_add, Nat.reduceAdd]
      refine wpPi_index _ _ _ _ _ _ _ _ _ rfl rfl rfl rfl Tryz.underlying25 (n := 1) (by kernel_rfl) h3 ?_
      simp only [pl, pn, el, ec, sz, ss, gz, gs, if_true, if_false, Bool.false_eq_true, Bool.not_true, Bool.not_false, Nat.add_zero, Nat.zero_add, Nat.reduceAdd]
      refine wpPi_val rfl (fun w' hS => exec_load1 5 _ (by rfl) bb (off + (4 * n + 3) * 1) (by rfl) _ (hS.cell hbne (HBW.out (4 * n + 3) (by omega))) _ Tryz.underlying5 rfl) ?_
      simp only [pl, pn, el, ec, sz, ss, gz, gs, if_true, if_false, Bool.false_eq_true, Bool.not_true, Bool.not_false, Nat.add_zero, Nat.zero_add, Nat.reduceAdd]
      refine wpPi_any rfl (fun w' => exec_word_of_byte _ _ _ _ rfl rfl (by kernel_rfl) Tryz.underlying91) ?_
      simp only [pl, pn, el, ec, sz, ss, gz, gs, if_true, if_false, Bool.false_eq_true, Bool.not_true, Bool.not_false, Nat.add_zero, Nat.zero_add, Nat.reduceAdd]
      refine wpPi_or32 _ _ _ _ _ _ rfl rfl rfl rfl ?_
      simp only [pl, pn, el, ec, sz, ss, gz, gs, if_true, if_false, Bool.false_eq_true, Bool.not_true, Bool.not_false, Nat.add_zero, Nat.zero_add, Nat.reduceAdd]
      refine wpPi_indexA _ _ _ _ _ _ _ _ rfl rfl rfl rfl Tryz.underlying125 (n := 1) (by kernel_rfl) hlt ?_
      simp only [pl, pn, el, ec, sz, ss, gz, gs, if_true, if_false, Bool.false_eq_true, Bool.not_true, Bool.not_false, Nat.add_zero, Nat.zero_add, Nat.reduceAdd]
      refine wpPi_do rfl (fun K hK => ?_)
      refine wp_store1 91 _ _ b5 (n * 1) (wordV (wordAt b n)) (by rfl) (by rfl) (by rfl) rfl (by kernel_rfl) _ _ (show wr.drew.heap[b5]? = _ from hrow) (by rw [hsz]; omega) (fun w2' hB2' hm2' => ?_)
      rw [Nat.mul_one, HSET.out] at hB2'
      replace hS := hS.trans hm2' (fun _ _ h => h)
      refine hK _ _ hS ?_
      clear hK K
      try simp only [pl, pn, el, ec, sz, ss, gz, gs, if_true, if_false, Bool.false_eq_true, Bool.not_true, Bool.not_false, Nat.add_zero, Nat.zero_add, Nat.reduceAdd]
      refine wpPi_nil ?_
      have hM2 : Mod (fun k => k = b5) w3 w2' := hM.trans hS (fun _ _ h => h)
      clear hM hS hm2' hrow
      go_wp2
      go_roundw
      case rel => exact ⟨n + 1, by omega, by omega, by go_num, hB2', hM2⟩
      case measure => simp [intOf]; omega
    · have hz : ¬ (n : Int) < 16 := by omega
      obtain rfl : n = 16 := by omega
      clear HB hlt16 hz hn
      go_wp2
      go_loopw [7] (SprRel b 16 64 b5 w3) (fun i _ => 64 - (intOf i).toNat)
      case atStart => exact ⟨16, by omega, by omega, rfl, hrow, hM⟩
      case round =>
        rename World => wq
        clear hrow hM
        obtain ⟨n, hlo, hn, rfl, hrow, hM⟩ := hrel
        by_cases hlt : n < 64
        · have hz : (n : Int) < 64 := by omega
          have hsz := wordCells_size (rowW b n)
          rw [rowW_len b hn] at hsz
          have hset := rowW_set b hlt
          rw [if_neg (by omega)] at hset
          have HSET := Lib.hid hset
          have hwd : ∀ i, i < n → (wordCells (rowW b n))[i]? = some (wordV ((spreadL b n).getD i 0)) := fun i hi => rowW_at b hn hi
          have HW := Lib.hid hwd
          have hk15 : n - 15 < 64 := by omega
          have hk2 : n - 2 < 64 := by omega
          have hk16 : n - 16 < 64 := by omega
          have hk7 : n - 7 < 64 := by omega
          clear hwd hset
          go_upto_region 9 with (fail)
          have hS : Mod NoB wq wq.drew := (Mod.refl _ _).drew
          refine wp_region_pi [(0, 3), (1, 3), (2, 3), (3, 0), (5, 3), (6, 3), (7, 3), (8, 0), (11, 3), (12, 3), (13, 3), (14, 0), (15, 3), (4, 1), (9, 1), (10, 3), (16, 3), (17, 3)] [] (fun w' => Mod NoB wq w') (by kernel_rfl) (by kernel_rfl) (by kernel_rfl) (by kernel_rfl) (fun _ _ _ _ hd h => ⟨hd.trans h.1, h.2⟩) hS ?_
          simp only [List.map_cons, List.map_nil, List.getD_cons_zero, List.getD_cons_succ]
          refine wpPi_move _ rfl rfl ?_
          simp only [pl, pn, el, ec, sz, ss, gz, gs, if_true, if_false, Bool.false_eq_true, Bool.not_true, Bool.not_false, Nat.add_zero, Nat.zero_add, Nat.reduceAdd]
          refine wpPi_subR _ _ _ _ (n : Int) 15 ((n - 15 : Nat) : Int) rfl rfl rfl rfl (by omega) (by omega) (by omega) ?_
          simp only [pl, pn, el, ec, sz, ss, gz, gs, if_true, if_false, Bool.false_eq_true, Bool.not_true, Bool.not_false, Nat.add_zero, Nat.zero_add, Nat.reduceAdd]
          refine wpPi_indexA _ _ _ _ _ _ _ _ rfl rfl rfl rfl Tryz.underlying125 (n := 1) (by kernel_rfl) hk15 ?_
          simp only [pl, pn, el, ec, sz, ss, gz, gs, if_true, if_false, Bool.false_eq_true, Bool.not_true, Bool.not_false, Nat.add_zero, Nat.zero_add, Nat.reduceAdd]
          refine wpPi_val rfl (fun w' hS => exec_load1 91 _ (by rfl) b5 ((n - 15) * 1) (by rfl) _ (by rw [cell_of_row _ _ _ _ _ _ (hS.obj id hrow), Nat.mul_one]; exact HW.out (n - 15) (by omega)) _ Tryz.underlying91 rfl) ?_
          simp only [pl, pn, el, ec, sz, ss, gz, gs, if_true, if_false, Bool.false_eq_true, Bool.not_true, Bool.not_false, Nat.add_zero, Nat.zero_add, Nat.reduceAdd]
          refine wpPi_move _ rfl rfl ?_
          simp only [pl, pn, el, ec, sz, ss, gz, gs, if_true, if_false, Bool.false_eq_true, Bool.not_true, Bool.not_false, Nat.add_zero, Nat.zero_add, Nat.reduceAdd]
          refine wpPi_subR _ _ _ _ (n : Int) 15 ((n - 15 : Nat) : Int) rfl rfl rfl rfl (by omega) (by omega) (by omega) ?_
          simp only [pl, pn, el, ec, sz, ss, gz, gs, if_true, if_false, Bool.false_eq_true, Bool.not_true, Bool.not_false, Nat.add_zero, Nat.zero_add, Nat.reduceAdd]
          refine wpPi_indexA _ _ _ _ _ _ _ _ rfl rfl rfl rfl Tryz.underlying125 (n := 1) (by kernel_rfl) hk15 ?_
          simp only [pl, pn, el, ec, sz, ss, gz, gs, if_true, if_false, Bool.false_eq_true, Bool.not_true, Bool.not_false, Nat.add_zero, Nat.zero_add, Nat.reduceAdd]
          refine wpPi_val rfl (fun w' hS => exec_load1 91 _ (by rfl) b5 ((n - 15) * 1) (by rfl) _ (by rw [cell_of_row _ _ _ _ _ _ (hS.obj id hrow), Nat.mul_one]; exact HW.out (n - 15) (by omega)) _ Tryz.underlying91 rfl) ?_
          simp only [pl, pn, el, ec, sz, ss, gz, gs, if_true, if_false, Bool.false_eq_true, Bool.not_true, Bool.not_false, Nat.add_zero, Nat.zero_add, Nat.reduceAdd]
          refine wpPi_move _ rfl rfl ?_
          simp only [pl, pn, el, ec, sz, ss, gz, gs, if_true, if_false, Bool.false_eq_true, Bool.not_true, Bool.not_false, Nat.add_zero, Nat.zero_add, Nat.reduceAdd]
          refine wpPi_subR _ _ _ _ (n : Int) 15 ((n - 15 : Nat) : Int) rfl rfl rfl rfl (by omega) (by omega) (by omega) ?_
          simp only [pl, pn, el, ec, sz, ss, gz, gs, if_true, if_false, Bool.false_eq_true, Bool.not_true, Bool.not_false, Nat.add_zero, Nat.zero_add, Nat.reduceAdd]
          refine wpPi_indexA _ _ _ _ _ _ _ _ rfl rfl rfl rfl Tryz.underlying125 (n := 1) (by kernel_rfl) hk15 ?_
          simp only [pl, pn, el, ec, sz, ss, gz, gs, if_true, if_false, Bool.false_eq_true, Bool.not_true, Bool.not_false, Nat.add_zero, Nat.zero_add, Nat.reduceAdd]
          refine wpPi_val rfl (fun w' hS => exec_load1 91 _ (by rfl) b5 ((n - 15) * 1) (by rfl) _ (by rw [cell_of_row _ _ _ _ _ _ (hS.obj id hrow), Nat.mul_one]; exact HW.out (n - 15) (by omega)) _ Tryz.underlying91 rfl) ?_
          simp only [pl, pn, el, ec, sz, ss, gz, gs, if_true, if_false, Bool.false_eq_true, Bool.not_true, Bool.not_false, Nat.add_zero, Nat.zero_add, Nat.reduceAdd]
          refine wpPi_shr32 _ _ _ _ _ .u64 3 rfl rfl rfl rfl (by omega) ?_
          simp only [pl, pn, el, ec, sz, ss, gz, gs, if_true, if_false, Bool.false_eq_true, Bool.not_true, Bool.not_false, Nat.add_zero, Nat.zero_add, Nat.reduceAdd]
          refine wpPi_do rfl (fun K hK => ?_)
          refine wp_enter (run_call 92 [.tmp 62, .const (.int .i64 7)] _ rfl _ Tryz.func92 rfl (by kernel_rfl) [wordV ((spreadL b n).getD (n - 15) 0), .int .i64 7] rfl _) (refTurn_any ((spreadL b n).getD (n - 15) 0) 7 (by omega) _) (fun wc1 hc1 => ?_)
          have hS1 := hS.trans0 hc1
          refine hK _ _ hS1 ?_
          clear hK K
          try simp only [pl, pn, el, ec, sz, ss, gz, gs, if_true, if_false, Bool.false_eq_true, Bool.not_true, Bool.not_false, Nat.add_zero, Nat.zero_add, Nat.reduceAdd]
          refine wpPi_do rfl (fun K hK => ?_)
          refine wp_enter (run_call 92 [.tmp 67, .const (.int .i64 18)] _ rfl _ Tryz.func92 rfl (by kernel_rfl) [wordV ((spreadL b n).getD (n - 15) 0), .int .i64 18] rfl _) (refTurn_any ((spreadL b n).getD (n - 15) 0) 18 (by omega) _) (fun wc2 hc2 => ?_)
          have hS2 := hS1.trans0 hc2
          refine hK _ _ hS2 ?_
          clear hK K
          try simp only [pl, pn, el, ec, sz, ss, gz, gs, if_true, if_false, Bool.false_eq_true, Bool.not_true, Bool.not_false, Nat.add_zero, Nat.zero_add, Nat.reduceAdd]
          refine wpPi_xor32 _ _ _ _ _ _ rfl rfl rfl rfl ?_
          simp only [pl, pn, el, ec, sz, ss, gz, gs, if_true, if_false, Bool.false_eq_true, Bool.not_true, Bool.not_false, Nat.add_zero, Nat.zero_add, Nat.reduceAdd]
          refine wpPi_xor32 _ _ _ _ _ _ rfl rfl rfl rfl ?_
          simp only [pl, pn, el, ec, sz, ss, gz, gs, if_true, if_false, Bool.false_eq_true, Bool.not_true, Bool.not_false, Nat.add_zero, Nat.zero_add, Nat.reduceAdd]
          refine wpPi_assign _ rfl rfl ?_
          simp only [pl, pn, el, ec, sz, ss, gz, gs, if_true, if_false, Bool.false_eq_true, Bool.not_true, Bool.not_false, Nat.add_zero, Nat.zero_add, Nat.reduceAdd]
          refine wpPi_nil ?_
          replace hM := hM.trans hS2 (fun _ _ h => h.elim)
          replace hrow := hS2.obj id hrow
          clear hS hS1 hS2 hc1 hc2
          generalize wc2 = wy at *
          go_upto_region 10 with (fail)
          have hS : Mod NoB wy wy.drew := (Mod.refl _ _).drew
          refine wp_region_pi [(0, 3), (1, 3), (2, 3), (3, 0), (5, 3), (6, 3), (7, 3), (8, 0), (11, 3), (12, 3), (13, 3), (14, 0), (15, 3), (4, 1), (9, 1), (10, 3), (16, 3), (17, 3)] [] (fun w' => Mod NoB wy w') (by kernel_rfl) (by kernel_rfl) (by kernel_rfl) (by kernel_rfl) (fun _ _ _ _ hd h => ⟨hd.trans h.1, h.2⟩) hS ?_
          simp only [List.map_cons, List.map_nil, List.getD_cons_zero, List.getD_cons_succ]
          refine wpPi_move _ rfl rfl ?_
          simp only [pl, pn, el, ec, sz, ss, gz, gs, if_true, if_false, Bool.false_eq_true, Bool.not_true, Bool.not_false, Nat.add_zero, Nat.zero_add, Nat.reduceAdd]
          refine wpPi_subR _ _ _ _ (n : Int) 2 ((n - 2 : Nat) : Int) rfl rfl rfl rfl (by omega) (by omega) (by omega) ?_
          simp only [pl, pn, el, ec, sz, ss, gz, gs, if_true, if_false, Bool.false_eq_true, Bool.not_true, Bool.not_false, Nat.add_zero, Nat.zero_add, Nat.reduceAdd]
          refine wpPi_indexA _ _ _ _ _ _ _ _ rfl rfl rfl rfl Tryz.underlying125 (n := 1) (by kernel_rfl) hk2 ?_
          simp only [pl, pn, el, ec, sz, ss, gz, gs, if_true, if_false, Bool.false_eq_true, Bool.not_true, Bool.not_false, Nat.add_zero, Nat.zero_add, Nat.reduceAdd]
          refine wpPi_val rfl (fun w' hS => exec_load1 91 _ (by rfl) b5 ((n - 2) * 1) (by rfl) _ (by rw [cell_of_row _ _ _ _ _ _ (hS.obj id hrow), Nat.mul_one]; exact HW.out (n - 2) (by omega)) _ Tryz.underlying91 rfl) ?_
          simp only [pl, pn, el, ec, sz, ss, gz, gs, if_true, if_false, Bool.false_eq_true, Bool.not_true, Bool.not_false, Nat.add_zero, Nat.zero_add, Nat.reduceAdd]
          refine wpPi_move _ rfl rfl ?_
          simp only [pl, pn, el, ec, sz, ss, gz, gs, if_true, if_false, Bool.false_eq_true, Bool.not_true, Bool.not_false, Nat.add_zero, Nat.zero_add, Nat.reduceAdd]
          refine wpPi_subR _ _ _ _ (n : Int) 2 ((n - 2 : Nat) : Int) rfl rfl rfl rfl (by omega) (by omega) (by omega) ?_
          simp only [pl, pn, el, ec, sz, ss, gz, gs, if_true, if_false, Bool.false_eq_true, Bool.not_true, Bool.not_false, Nat.add_zero, Nat.zero_add, Nat.reduceAdd]
          refine wpPi_indexA _ _ _ _ _ _ _ _ rfl rfl rfl rfl Tryz.underlying125 (n := 1) (by kernel_rfl) hk2 ?_
          simp only [pl, pn, el, ec, sz, ss, gz, gs, if_true, if_false, Bool.false_eq_true, Bool.not_true, Bool.not_false, Nat.add_zero, Nat.zero_add, Nat.reduceAdd]
          refine wpPi_val rfl (fun w' hS => exec_load1 91 _ (by rfl) b5 ((n - 2) * 1) (by rfl) _ (by rw [cell_of_row _ _ _ _ _ _ (hS.obj id hrow), Nat.mul_one]; exact HW.out (n - 2) (by omega)) _ Tryz.underlying91 rfl) ?_
          simp only [pl, pn, el, ec, sz, ss, gz, gs, if_true, if_false, Bool.false_eq_true, Bool.not_true, Bool.not_false, Nat.add_zero, Nat.zero_add, Nat.reduceAdd]
          refine wpPi_move _ rfl rfl ?_
          simp only [pl, pn, el, ec, sz, ss, gz, gs, if_true, if_false, Bool.false_eq_true, Bool.not_true, Bool.not_false, Nat.add_zero, Nat.zero_add, Nat.reduceAdd]
          refine wpPi_subR _ _ _ _ (n : Int) 2 ((n - 2 : Nat) : Int) rfl rfl rfl rfl (by omega) (by omega) (by omega) ?_
          simp only [pl, pn, el, ec, sz, ss, gz, gs, if_true, if_false, Bool.false_eq_true, Bool.not_true, Bool.not_false, Nat.add_zero, Nat.zero_add, Nat.reduceAdd]
          refine wpPi_indexA _ _ _ _ _ _ _ _ rfl rfl rfl rfl Tryz.underlying125 (n := 1) (by kernel_rfl) hk2 ?_
          simp only [pl, pn, el, ec, sz, ss, gz, gs, if_true, if_false, Bool.false_eq_true, Bool.not_true, Bool.not_false, Nat.add_zero, Nat.zero_add, Nat.reduceAdd]
          refine wpPi_val rfl (fun w' hS => exec_load1 91 _ (by rfl) b5 ((n - 2) * 1) (by rfl) _ (by rw [cell_of_row _ _ _ _ _ _ (hS.obj id hrow), Nat.mul_one]; exact HW.out (n - 2) (by omega)) _ Tryz.underlying91 rfl) ?_
          simp only [pl, pn, el, ec, sz, ss, gz, gs, if_true, if_false, Bool.false_eq_true, Bool.not_true, Bool.not_false, Nat.add_zero, Nat.zero_add, Nat.reduceAdd]
          refine wpPi_shr32 _ _ _ _ _ .u64 10 rfl rfl rfl rfl (by omega) ?_
          simp only [pl, pn, el, ec, sz, ss, gz, gs, if_true, if_false, Bool.false_eq_true, Bool.not_true, Bool.not_false, Nat.add_zero, Nat.zero_add, Nat.reduceAdd]
          refine wpPi_do rfl (fun K hK => ?_)
          refine wp_enter (run_call 92 [.tmp 79, .const (.int .i64 17)] _ rfl _ Tryz.func92 rfl (by kernel_rfl) [wordV ((spreadL b n).getD (n - 2) 0), .int .i64 17] rfl _) (refTurn_any ((spreadL b n).getD (n - 2) 0) 17 (by omega) _) (fun wc1 hc1 => ?_)
          have hS1 := hS.trans0 hc1
          refine hK _ _ hS1 ?_
          clear hK K
          try simp only [pl, pn, el, ec, sz, ss, gz, gs, if_true, if_false, Bool.false_eq_true, Bool.not_true, Bool.not_false, Nat.add_zero, Nat.zero_add, Nat.reduceAdd]
          refine wpPi_do rfl (fun K hK => ?_)
          refine wp_enter (run_call 92 [.tmp 84, .const (.int .i64 19)] _ rfl _ Tryz.func92 rfl (by kernel_rfl) [wordV ((spreadL b n).getD (n - 2) 0), .int .i64 19] rfl _) (refTurn_any ((spreadL b n).getD (n - 2) 0) 19 (by omega) _) (fun wc2 hc2 => ?_)
          have hS2 := hS1.trans0 hc2
          refine hK _ _ hS2 ?_
          clear hK K
          try simp only [pl, pn, el, ec, sz, ss, gz, gs, if_true, if_false, Bool.false_eq_true, Bool.not_true, Bool.not_false, Nat.add_zero, Nat.zero_add, Nat.reduceAdd]
          refine wpPi_xor32 _ _ _ _ _ _ rfl rfl rfl rfl ?_
          simp only [pl, pn, el, ec, sz, ss, gz, gs, if_true, if_false, Bool.false_eq_true, Bool.not_true, Bool.not_false, Nat.add_zero, Nat.zero_add, Nat.reduceAdd]
          refine wpPi_xor32 _ _ _ _ _ _ rfl rfl rfl rfl ?_
          simp only [pl, pn, el, ec, sz, ss, gz, gs, if_true, if_false, Bool.false_eq_true, Bool.not_true, Bool.not_false, Nat.add_zero, Nat.zero_add, Nat.reduceAdd]
          refine wpPi_assign _ rfl rfl ?_
          simp only [pl, pn, el, ec, sz, ss, gz, gs, if_true, if_false, Bool.false_eq_true, Bool.not_true, Bool.not_false, Nat.add_zero, Nat.zero_add, Nat.reduceAdd]
          refine wpPi_nil ?_
          replace hM := hM.trans hS2 (fun _ _ h => h.elim)
          replace hrow := hS2.obj id hrow
          clear hS hS1 hS2 hc1 hc2
          generalize wc2 = wz at *
          go_upto_region 11 with (fail)
          have hS : Mod NoB wz wz.drew := (Mod.refl _ _).drew
          refine wp_region_pi [(0, 3), (1, 3), (2, 3), (3, 3), (4, 0), (5, 3), (6, 3), (7, 3), (8, 3), (9, 3), (10, 0), (11, 3), (12, 3), (13, 3), (14, 3), (15, 2)] [15] (fun w' => Mod NoB wz w') (by kernel_rfl) (by kernel_rfl) (by kernel_rfl) (by kernel_rfl) (fun _ _ _ _ hd h => ⟨hd.trans h.1, h.2⟩) hS ?_
          simp only [List.map_cons, List.map_nil, List.getD_cons_zero, List.getD_cons_succ]
          refine wpPi_move _ rfl rfl ?_
          simp only [pl, pn, el, ec, sz, ss, gz, gs, if_true, if_false, Bool.false_eq_true, Bool.not_true, Bool.not_false, Nat.add_zero, Nat.zero_add, Nat.reduceAdd]
          refine wpPi_move _ rfl rfl ?_
          simp only [pl, pn, el, ec, sz, ss, gz, gs, if_true, if_false, Bool.false_eq_true, Bool.not_true, Bool.not_false, Nat.add_zero, Nat.zero_add, Nat.reduceAdd]
          refine wpPi_subR _ _ _ _ (n : Int) 16 ((n - 16 : Nat) : Int) rfl rfl rfl rfl (by omega) (by omega) (by omega) ?_
          simp only [pl, pn, el, ec, sz, ss, gz, gs, if_true, if_false, Bool.false_eq_true, Bool.not_true, Bool.not_false, Nat.add_zero, Nat.zero_add, Nat.reduceAdd]
          refine wpPi_indexA _ _ _ _ _ _ _ _ rfl rfl rfl rfl Tryz.underlying125 (n := 1) (by kernel_rfl) hk16 ?_
          simp only [pl, pn, el, ec, sz, ss, gz, gs, if_true, if_false, Bool.false_eq_true, Bool.not_true, Bool.not_false, Nat.add_zero, Nat.zero_add, Nat.reduceAdd]
          refine wpPi_val rfl (fun w' hS => exec_load1 91 _ (by rfl) b5 ((n - 16) * 1) (by rfl) _ (by rw [cell_of_row _ _ _ _ _ _ (hS.obj id hrow), Nat.mul_one]; exact HW.out (n - 16) (by omega)) _ Tryz.underlying91 rfl) ?_
          simp only [pl, pn, el, ec, sz, ss, gz, gs, if_true, if_false, Bool.false_eq_true, Bool.not_true, Bool.not_false, Nat.add_zero, Nat.zero_add, Nat.reduceAdd]
          refine wpPi_move _ rfl rfl ?_
          simp only [pl, pn, el, ec, sz, ss, gz, gs, if_true, if_false, Bool.false_eq_true, Bool.not_true, Bool.not_false, Nat.add_zero, Nat.zero_add, Nat.reduceAdd]
          refine wpPi_add32 _ _ _ _ _ _ rfl rfl rfl rfl ?_
          simp only [pl, pn, el, ec, sz, ss, gz, gs, if_true, if_false, Bool.false_eq_true, Bool.not_true, Bool.not_false, Nat.add_zero, Nat.zero_add, Nat.reduceAdd]
          refine wpPi_move _ rfl rfl ?_
          simp only [pl, pn, el, ec, sz, ss, gz, gs, if_true, if_false, Bool.false_eq_true, Bool.not_true, Bool.not_false, Nat.add_zero, Nat.zero_add, Nat.reduceAdd]
          refine wpPi_subR _ _ _ _ (n : Int) 7 ((n - 7 : Nat) : Int) rfl rfl rfl rfl (by omega) (by omega) (by omega) ?_
          simp only [pl, pn, el, ec, sz, ss, gz, gs, if_true, if_false, Bool.false_eq_true, Bool.not_true, Bool.not_false, Nat.add_zero, Nat.zero_add, Nat.reduceAdd]
          refine wpPi_indexA _ _ _ _ _ _ _ _ rfl rfl rfl rfl Tryz.underlying125 (n := 1) (by kernel_rfl) hk7 ?_
          simp only [pl, pn, el, ec, sz, ss, gz, gs, if_true, if_false, Bool.false_eq_true, Bool.not_true, Bool.not_false, Nat.add_zero, Nat.zero_add, Nat.reduceAdd]
          refine wpPi_val rfl (fun w' hS => exec_load1 91 _ (by rfl) b5 ((n - 7) * 1) (by rfl) _ (by rw [cell_of_row _ _ _ _ _ _ (hS.obj id hrow), Nat.mul_one]; exact HW.out (n - 7) (by omega)) _ Tryz.underlying91 rfl) ?_
          simp only [pl, pn, el, ec, sz, ss, gz, gs, if_true, if_false, Bool.false_eq_true, Bool.not_true, Bool.not_false, Nat.add_zero, Nat.zero_add, Nat.reduceAdd]
          refine wpPi_add32 _ _ _ _ _ _ rfl rfl rfl rfl ?_
          simp only [pl, pn, el, ec, sz, ss, gz, gs, if_true, if_false, Bool.false_eq_true, Bool.not_true, Bool.not_false, Nat.add_zero, Nat.zero_add, Nat.reduceAdd]
          refine wpPi_move _ rfl rfl ?_
          simp only [pl, pn, el, ec, sz, ss, gz, gs, if_true, if_false, Bool.false_eq_true, Bool.not_true, Bool.not_false, Nat.add_zero, Nat.zero_add, Nat.reduceAdd]
          refine wpPi_add32 _ _ _ _ _ _ rfl rfl rfl rfl ?_
          simp only [pl, pn, el, ec, sz, ss, gz, gs, if_true, if_false, Bool.false_eq_true, Bool.not_true, Bool.not_false, Nat.add_zero, Nat.zero_add, Nat.reduceAdd]
          refine wpPi_indexA _ _ _ _ _ _ _ _ rfl rfl rfl rfl Tryz.underlying125 (n := 1) (by kernel_rfl) hlt ?_
          simp only [pl, pn, el, ec, sz, ss, gz, gs, if_true, if_false, Bool.false_eq_true, Bool.not_true, Bool.not_false, Nat.add_zero, Nat.zero_add, Nat.reduceAdd]
          refine wpPi_last rfl (fun K hK => ?_)
          refine wp_store1 91 _ _ b5 (n * 1) (wordV (wordNext (spreadL b n) n)) (by rfl) (by rfl) (by rfl) rfl (by kernel_rfl) _ _ (show wz.drew.heap[b5]? = _ from hrow) (by rw [hsz]; omega) (fun wn hBn hmn => ?_)
          rw [Nat.mul_one, HSET.out] at hBn
          refine hK _ _ ?_
          clear hK K
          try simp only [pl, pn, el, ec, sz, ss, gz, gs, if_true, if_false, Bool.false_eq_true, Bool.not_true, Bool.not_false, Nat.add_zero, Nat.zero_add, Nat.reduceAdd]
          refine wpPi_nil ?_
          have hMn : Mod (fun k => k = b5) w3 wn := (hM.trans hS (fun _ _ h => h.elim)).trans hmn (fun _ _ h => h)
          clear hM hS hmn hrow
          go_wp2
          go_roundw
          case rel => exact ⟨n + 1, by omega, by omega, by go_num, hBn, hMn⟩
          case measure => simp [intOf]; omega
        · have hz : ¬ (n : Int) < 64 := by omega
          obtain rfl : n = 64 := by omega
          have e64 : rowW b 64 = spreadL b 64 := by simp [rowW]
          rw [e64] at hrow
          obtain ⟨sp, hsp⟩ : ∃ sp, spreadL b 64 = sp := ⟨_, rfl⟩
          have hspl : sp.length = 64 := by rw [← hsp]; exact spreadL_len b 64
          rw [hsp] at hrow
          have HSP := Lib.hid hsp
          replace hB2 := hM.objB (by omega) hB2
          replace hB4 := hM.objB (by omega) hB4
          have hMq : Mod NoB w wq := hM3.transB hM (by omega)
          have hq := hM.size
          clear hsp e64 hz hn hlo hM
          go_upto_region 12 with (fail)
          refine wp_region_seq [1, 1, 1] (fun _ => True) (by rfl) (by rfl) trivial ?_
          simp only [List.zip_cons_cons, List.zip_nil_right]
          refine wpPi_do rfl (fun K hK => ?_)
          refine wp_exec (exec_loadA 92 _ (by rfl) b2 0 (by rfl) (wordCells s.list) (CellsAt.whole hB2) _ Tryz.underlying92 rfl 8 (by kernel_rfl) (by rw [wordCells_size]; rfl)) ?_
          refine hK _ _ trivial ?_
          clear hK K
          try simp only [pl, pn, el, ec, sz, ss, gz, gs, if_true, if_false, Bool.false_eq_true, Bool.not_true, Bool.not_false, Nat.add_zero, Nat.zero_add, Nat.reduceAdd]
          refine wpPi_do rfl (fun K hK => ?_)
          refine wp_alloc 92 _ (by rfl) w8Z (fun w5 hC10 hm5 hs5 => ?_)
          replace hC10 : w5.heap[wq.heap.size]? = some (.cells (wordCells (List.replicate 8 0)) 92 (0, 0)) := hC10
          refine hK _ _ trivial ?_
          clear hK K
          try simp only [pl, pn, el, ec, sz, ss, gz, gs, if_true, if_false, Bool.false_eq_true, Bool.not_true, Bool.not_false, Nat.add_zero, Nat.zero_add, Nat.reduceAdd]
          refine wpPi_do rfl (fun K hK => ?_)
          refine wp_storeA 92 _ _ wq.heap.size 0 (wordCells s.list) (by rfl) (by rfl) (by rfl) (wordCells_one _) 8 (by kernel_rfl) (by rw [wordCells_size]; rfl) _ _ hC10 (by rw [wordCells_size, wordCells_size]; simp [W8.list]) (fun w6 hD10 hm6 => ?_)
          rw [putRow_whole (by rw [wordCells_size, wordCells_size]; simp [W8.list])] at hD10
          refine hK _ _ trivial ?_
          clear hK K
          try simp only [pl, pn, el, ec, sz, ss, gz, gs, if_true, if_false, Bool.false_eq_true, Bool.not_true, Bool.not_false, Nat.add_zero, Nat.zero_add, Nat.reduceAdd]
          refine wpPi_nil ?_
          have hmq : Mod NoB wq w6 := hm5.transB hm6 (Nat.le_refl _)
          have hq6 := hm6.size
          replace hB2 := hmq.obj id hB2
          replace hB4 := hmq.obj id hB4
          replace hrow := hmq.obj id hrow
          replace hMq := hMq.trans0 hmq
          clear hm5 hm6 hmq hC10
          go_upto_region 13 with (fail)
          refine wp_region_seq [1, 1, 1] (fun _ => True) (by rfl) (by rfl) trivial ?_
          simp only [List.zip_cons_cons, List.zip_nil_right]
          refine wpPi_do rfl (fun K hK => ?_)
          refine wp_enter (run_call 93 [] _ rfl _ Tryz.func93 rfl (by kernel_rfl) [] rfl _) (refKeys_any _) (fun w7 hm7 => ?_)
          refine hK _ _ trivial ?_
          clear hK K
          try simp only [pl, pn, el, ec, sz, ss, gz, gs, if_true, if_false, Bool.false_eq_true, Bool.not_true, Bool.not_false, Nat.add_zero, Nat.zero_add, Nat.reduceAdd]
          refine wpPi_do rfl (fun K hK => ?_)
          refine wp_alloc 125 _ (by rfl) w64Z (fun w8 hC11 hm8 hs8 => ?_)
          replace hC11 : w8.heap[w7.heap.size]? = some (.cells (wordCells (List.replicate 64 0)) 125 (0, 0)) := hC11
          refine hK _ _ trivial ?_
          clear hK K
          try simp only [pl, pn, el, ec, sz, ss, gz, gs, if_true, if_false, Bool.false_eq_true, Bool.not_true, Bool.not_false, Nat.add_zero, Nat.zero_add, Nat.reduceAdd]
          refine wpPi_do rfl (fun K hK => ?_)
          refine wp_storeA 125 _ _ w7.heap.size 0 (wordCells shaKeys) (by rfl) (by rfl) (by rfl) (wordCells_one _) 64 (by kernel_rfl) (by rw [wordCells_size]; rfl) _ _ hC11 (by rw [wordCells_size, wordCells_size]; simp [shaKeys]) (fun w9 hD11 hm9 => ?_)
          rw [putRow_whole (by rw [wordCells_size, wordCells_size]; simp [shaKeys])] at hD11
          refine hK _ _ trivial ?_
          clear hK K
          try simp only [pl, pn, el, ec, sz, ss, gz, gs, if_true, if_false, Bool.false_eq_true, Bool.not_true, Bool.not_false, Nat.add_zero, Nat.zero_add, Nat.reduceAdd]
          refine wpPi_nil ?_
          have hq7 := hm7.size
          have hmq : Mod NoB w6 w9 := (hm7.trans0 hm8).transB hm9 hm7.size
          replace hB2 := hmq.obj id hB2
          replace hB4 := hmq.obj id hB4
          replace hrow := hmq.obj id hrow
          replace hD10 := hmq.obj id hD10
          replace hMq := hMq.trans0 hmq
          clear hm7 hm8 hm9 hmq hC11
          generalize wq.heap.size = b10 at *
          generalize w7.heap.size = b11 at *
          have hL10 : w.heap.size ≤ b10 := by omega
          go_wp2
          go_loopw [12] (RndRel w b2 b4 b10 b11 b5 sp s) (fun i _ => 64 - (intOf i).toNat)
          case atStart => exact ⟨0, by omega, rfl, hD10, hD11, hrow, hB2, hB4, hMq⟩
          case round =>
            rename World => wu
            clear hB2 hB4 hrow hD10 hD11 hMq
            obtain ⟨n, hn, rfl, hC10, hC11, hSP, hB2, hB4, hM⟩ := hrel
            by_cases hlt : n < 64
            · have hz : (n : Int) < 64 := by omega
              obtain ⟨c, hc⟩ : ∃ c, rounds shaKeys sp n s = c := ⟨_, rfl⟩
              have hnext : rounds shaKeys sp (n + 1) s = round c (shaKeys.getD n 0) (sp.getD n 0) := by rw [← hc]; rfl
              rw [hc] at hC10
              have HC := Lib.hid hc
              have HN := Lib.hid hnext
              clear hc hnext
              go_upto_region 17 with (fail)
              have hS : Mod NoB wu wu.drew := (Mod.refl _ _).drew
              refine wp_region_pi [(0, 3), (1, 0), (2, 3), (3, 0), (5, 3), (6, 0), (9, 3), (10, 0), (14, 3), (15, 0), (16, 3), (17, 0), (18, 3), (19, 3), (20, 0), (21, 3), (22, 3), (23, 0), (24, 3), (25, 3), (27, 3), (28, 3), (29, 0), (31, 3), (32, 3), (33, 0), (4, 1), (7, 1), (8, 3), (11, 1), (12, 3), (13, 3), (26, 3), (30, 3), (34, 3), (35, 3)] [] (fun w' => Mod NoB wu w') (by kernel_rfl) (by kernel_rfl) (by kernel_rfl) (by kernel_rfl) (fun _ _ _ _ hd h => ⟨hd.trans h.1, h.2⟩) hS ?_
              simp only [List.map_cons, List.map_nil, List.getD_cons_zero, List.getD_cons_succ]
              refine wpPi_indexA _ _ _ _ _ _ _ 7 rfl rfl rfl rfl Tryz.underlying92 (n := 1) (by kernel_rfl) (by omega) ?_
              simp only [pl, pn, el, ec, sz, ss, gz, gs, if_true, if_false, Bool.false_eq_true, Bool.not_true, Bool.not_false, Nat.add_zero, Nat.zero_add, Nat.reduceAdd]
              refine wpPi_val rfl (fun w' hS => exec_load1 91 _ (by rfl) b10 7 (by rfl) (wordV c.h) (word8 (hS.obj id hC10) 7 (by omega)) _ Tryz.underlying91 rfl) ?_
              simp only [pl, pn, el, ec, sz, ss, gz, gs, if_true, if_false, Bool.false_eq_true, Bool.not_true, Bool.not_false, Nat.add_zero, Nat.zero_add, Nat.reduceAdd]
              refine wpPi_indexA _ _ _ _ _ _ _ 4 rfl rfl rfl rfl Tryz.underlying92 (n := 1) (by kernel_rfl) (by omega) ?_
              simp only [pl, pn, el, ec, sz, ss, gz, gs, if_true, if_false, Bool.false_eq_true, Bool.not_true, Bool.not_false, Nat.add_zero, Nat.zero_add, Nat.reduceAdd]
              refine wpPi_val rfl (fun w' hS => exec_load1 91 _ (by rfl) b10 4 (by rfl) (wordV c.e) (word8 (hS.obj id hC10) 4 (by omega)) _ Tryz.underlying91 rfl) ?_
              simp only [pl, pn, el, ec, sz, ss, gz, gs, if_true, if_false, Bool.false_eq_true, Bool.not_true, Bool.not_false, Nat.add_zero, Nat.zero_add, Nat.reduceAdd]
              refine wpPi_indexA _ _ _ _ _ _ _ 4 rfl rfl rfl rfl Tryz.underlying92 (n := 1) (by kernel_rfl) (by omega) ?_
              simp only [pl, pn, el, ec, sz, ss, gz, gs, if_true, if_false, Bool.false_eq_true, Bool.not_true, Bool.not_false, Nat.add_zero, Nat.zero_add, Nat.reduceAdd]
              refine wpPi_val rfl (fun w' hS => exec_load1 91 _ (by rfl) b10 4 (by rfl) (wordV c.e) (word8 (hS.obj id hC10) 4 (by omega)) _ Tryz.underlying91 rfl) ?_
              simp only [pl, pn, el, ec, sz, ss, gz, gs, if_true, if_false, Bool.false_eq_true, Bool.not_true, Bool.not_false, Nat.add_zero, Nat.zero_add, Nat.reduceAdd]
              refine wpPi_indexA _ _ _ _ _ _ _ 4 rfl rfl rfl rfl Tryz.underlying92 (n := 1) (by kernel_rfl) (by omega) ?_
              simp only [pl, pn, el, ec, sz, ss, gz, gs, if_true, if_false, Bool.false_eq_true, Bool.not_true, Bool.not_false, Nat.add_zero, Nat.zero_add, Nat.reduceAdd]
              refine wpPi_val rfl (fun w' hS => exec_load1 91 _ (by rfl) b10 4 (by rfl) (wordV c.e) (word8 (hS.obj id hC10) 4 (by omega)) _ Tryz.underlying91 rfl) ?_
              simp only [pl, pn, el, ec, sz, ss, gz, gs, if_true, if_false, Bool.false_eq_true, Bool.not_true, Bool.not_false, Nat.add_zero, Nat.zero_add, Nat.reduceAdd]
              refine wpPi_indexA _ _ _ _ _ _ _ 4 rfl rfl rfl rfl Tryz.underlying92 (n := 1) (by kernel_rfl) (by omega) ?_
              simp only [pl, pn, el, ec, sz, ss, gz, gs, if_true, if_false, Bool.false_eq_true, Bool.not_true, Bool.not_false, Nat.add_zero, Nat.zero_add, Nat.reduceAdd]
              refine wpPi_val rfl (fun w' hS => exec_load1 91 _ (by rfl) b10 4 (by rfl) (wordV c.e) (word8 (hS.obj id hC10) 4 (by omega)) _ Tryz.underlying91 rfl) ?_
              simp only [pl, pn, el, ec, sz, ss, gz, gs, if_true, if_false, Bool.false_eq_true, Bool.not_true, Bool.not_false, Nat.add_zero, Nat.zero_add, Nat.reduceAdd]
              refine wpPi_indexA _ _ _ _ _ _ _ 5 rfl rfl rfl rfl Tryz.underlying92 (n := 1) (by kernel_rfl) (by omega) ?_
              simp only [pl, pn, el, ec, sz, ss, gz, gs, if_true, if_false, Bool.false_eq_true, Bool.not_true, Bool.not_false, Nat.add_zero, Nat.zero_add, Nat.reduceAdd]
              refine wpPi_val rfl (fun w' hS => exec_load1 91 _ (by rfl) b10 5 (by rfl) (wordV c.f) (word8 (hS.obj id hC10) 5 (by omega)) _ Tryz.underlying91 rfl) ?_
              simp only [pl, pn, el, ec, sz, ss, gz, gs, if_true, if_false, Bool.false_eq_true, Bool.not_true, Bool.not_false, Nat.add_zero, Nat.zero_add, Nat.reduceAdd]
              refine wpPi_and32 _ _ _ _ _ _ rfl rfl rfl rfl ?_
              simp only [pl, pn, el, ec, sz, ss, gz, gs, if_true, if_false, Bool.false_eq_true, Bool.not_true, Bool.not_false, Nat.add_zero, Nat.zero_add, Nat.reduceAdd]
              refine wpPi_indexA _ _ _ _ _ _ _ 4 rfl rfl rfl rfl Tryz.underlying92 (n := 1) (by kernel_rfl) (by omega) ?_
              simp only [pl, pn, el, ec, sz, ss, gz, gs, if_true, if_false, Bool.false_eq_true, Bool.not_true, Bool.not_false, Nat.add_zero, Nat.zero_add, Nat.reduceAdd]
              refine wpPi_val rfl (fun w' hS => exec_load1 91 _ (by rfl) b10 4 (by rfl) (wordV c.e) (word8 (hS.obj id hC10) 4 (by omega)) _ Tryz.underlying91 rfl) ?_
              simp only [pl, pn, el, ec, sz, ss, gz, gs, if_true, if_false, Bool.false_eq_true, Bool.not_true, Bool.not_false, Nat.add_zero, Nat.zero_add, Nat.reduceAdd]
              refine wpPi_not32 _ _ _ rfl rfl rfl ?_
              simp only [pl, pn, el, ec, sz, ss, gz, gs, if_true, if_false, Bool.false_eq_true, Bool.not_true, Bool.not_false, Nat.add_zero, Nat.zero_add, Nat.reduceAdd]
              refine wpPi_indexA _ _ _ _ _ _ _ 6 rfl rfl rfl rfl Tryz.underlying92 (n := 1) (by kernel_rfl) (by omega) ?_
              simp only [pl, pn, el, ec, sz, ss, gz, gs, if_true, if_false, Bool.false_eq_true, Bool.not_true, Bool.not_false, Nat.add_zero, Nat.zero_add, Nat.reduceAdd]
              refine wpPi_val rfl (fun w' hS => exec_load1 91 _ (by rfl) b10 6 (by rfl) (wordV c.g) (word8 (hS.obj id hC10) 6 (by omega)) _ Tryz.underlying91 rfl) ?_
              simp only [pl, pn, el, ec, sz, ss, gz, gs, if_true, if_false, Bool.false_eq_true, Bool.not_true, Bool.not_false, Nat.add_zero, Nat.zero_add, Nat.reduceAdd]
              refine wpPi_and32 _ _ _ _ _ _ rfl rfl rfl rfl ?_
              simp only [pl, pn, el, ec, sz, ss, gz, gs, if_true, if_false, Bool.false_eq_true, Bool.not_true, Bool.not_false, Nat.add_zero, Nat.zero_add, Nat.reduceAdd]
              refine wpPi_xor32 _ _ _ _ _ _ rfl rfl rfl rfl ?_
              simp only [pl, pn, el, ec, sz, ss, gz, gs, if_true, if_false, Bool.false_eq_true, Bool.not_true, Bool.not_false, Nat.add_zero, Nat.zero_add, Nat.reduceAdd]
              refine wpPi_move _ rfl rfl ?_
              simp only [pl, pn, el, ec, sz, ss, gz, gs, if_true, if_false, Bool.false_eq_true, Bool.not_true, Bool.not_false, Nat.add_zero, Nat.zero_add, Nat.reduceAdd]
              refine wpPi_indexA _ _ _ _ _ _ _ _ rfl rfl rfl rfl Tryz.underlying125 (n := 1) (by kernel_rfl) hlt ?_
              simp only [pl, pn, el, ec, sz, ss, gz, gs, if_true, if_false, Bool.false_eq_true, Bool.not_true, Bool.not_false, Nat.add_zero, Nat.zero_add, Nat.reduceAdd]
              refine wpPi_val rfl (fun w' hS => exec_load1 91 _ (by rfl) b11 (n * 1) (by rfl) (wordV (shaKeys.getD n 0)) (by rw [Nat.mul_one]; exact word64 (hS.obj id hC11) (by rfl) hlt) _ Tryz.underlying91 rfl) ?_
              simp only [pl, pn, el, ec, sz, ss, gz, gs, if_true, if_false, Bool.false_eq_true, Bool.not_true, Bool.not_false, Nat.add_zero, Nat.zero_add, Nat.reduceAdd]
              refine wpPi_move _ rfl rfl ?_
              simp only [pl, pn, el, ec, sz, ss, gz, gs, if_true, if_false, Bool.false_eq_true, Bool.not_true, Bool.not_false, Nat.add_zero, Nat.zero_add, Nat.reduceAdd]
              refine wpPi_indexA _ _ _ _ _ _ _ _ rfl rfl rfl rfl Tryz.underlying125 (n := 1) (by kernel_rfl) hlt ?_
              simp only [pl, pn, el, ec, sz, ss, gz, gs, if_true, if_false, Bool.false_eq_true, Bool.not_true, Bool.not_false, Nat.add_zero, Nat.zero_add, Nat.reduceAdd]
              refine wpPi_val rfl (fun w' hS => exec_load1 91 _ (by rfl) b5 (n * 1) (by rfl) (wordV (sp.getD n 0)) (by rw [Nat.mul_one]; exact word64 (hS.obj id hSP) hspl hlt) _ Tryz.underlying91 rfl) ?_
              simp only [pl, pn, el, ec, sz, ss, gz, gs, if_true, if_false, Bool.false_eq_true, Bool.not_true, Bool.not_false, Nat.add_zero, Nat.zero_add, Nat.reduceAdd]
              refine wpPi_do rfl (fun K hK => ?_)
              refine wp_enter (run_call 92 [.tmp 117, .const (.int .i64 6)] _ rfl _ Tryz.func92 rfl (by kernel_rfl) [wordV c.e, .int .i64 6] rfl _) (refTurn_any c.e 6 (by omega) _) (fun wc1 hc1 => ?_)
              have hS1 := hS.trans0 hc1
              refine hK _ _ hS1 ?_
              clear hK K
              try simp only [pl, pn, el, ec, sz, ss, gz, gs, if_true, if_false, Bool.false_eq_true, Bool.not_true, Bool.not_false, Nat.add_zero, Nat.zero_add, Nat.reduceAdd]
              refine wpPi_do rfl (fun K hK => ?_)
              refine wp_enter (run_call 92 [.tmp 120, .const (.int .i64 11)] _ rfl _ Tryz.func92 rfl (by kernel_rfl) [wordV c.e, .int .i64 11] rfl _) (refTurn_any c.e 11 (by omega) _) (fun wc2 hc2 => ?_)
              have hS2 := hS1.trans0 hc2
              refine hK _ _ hS2 ?_
              clear hK K
              try simp only [pl, pn, el, ec, sz, ss, gz, gs, if_true, if_false, Bool.false_eq_true, Bool.not_true, Bool.not_false, Nat.add_zero, Nat.zero_add, Nat.reduceAdd]
              refine wpPi_xor32 _ _ _ _ _ _ rfl rfl rfl rfl ?_
              simp only [pl, pn, el, ec, sz, ss, gz, gs, if_true, if_false, Bool.false_eq_true, Bool.not_true, Bool.not_false, Nat.add_zero, Nat.zero_add, Nat.reduceAdd]
              refine wpPi_do rfl (fun K hK => ?_)
              refine wp_enter (run_call 92 [.tmp 124, .const (.int .i64 25)] _ rfl _ Tryz.func92 rfl (by kernel_rfl) [wordV c.e, .int .i64 25] rfl _) (refTurn_any c.e 25 (by omega) _) (fun wc3 hc3 => ?_)
              have hS3 := hS2.trans0 hc3
              refine hK _ _ hS3 ?_
              clear hK K
              try simp only [pl, pn, el, ec, sz, ss, gz, gs, if_true, if_false, Bool.false_eq_true, Bool.not_true, Bool.not_false, Nat.add_zero, Nat.zero_add, Nat.reduceAdd]
              refine wpPi_xor32 _ _ _ _ _ _ rfl rfl rfl rfl ?_
              simp only [pl, pn, el, ec, sz, ss, gz, gs, if_true, if_false, Bool.false_eq_true, Bool.not_true, Bool.not_false, Nat.add_zero, Nat.zero_add, Nat.reduceAdd]
              refine wpPi_add32 _ _ _ _ _ _ rfl rfl rfl rfl ?_
              simp only [pl, pn, el, ec, sz, ss, gz, gs, if_true, if_false, Bool.false_eq_true, Bool.not_true, Bool.not_false, Nat.add_zero, Nat.zero_add, Nat.reduceAdd]
              refine wpPi_add32 _ _ _ _ _ _ rfl rfl rfl rfl ?_
              simp only [pl, pn, el, ec, sz, ss, gz, gs, if_true, if_false, Bool.false_eq_true, Bool.not_true, Bool.not_false, Nat.add_zero, Nat.zero_add, Nat.reduceAdd]
              refine wpPi_add32 _ _ _ _ _ _ rfl rfl rfl rfl ?_
              simp only [pl, pn, el, ec, sz, ss, gz, gs, if_true, if_false, Bool.false_eq_true, Bool.not_true, Bool.not_false, Nat.add_zero, Nat.zero_add, Nat.reduceAdd]
              refine wpPi_add32 _ _ _ _ _ _ rfl rfl rfl rfl ?_
              simp only [pl, pn, el, ec, sz, ss, gz, gs, if_true, if_false, Bool.false_eq_true, Bool.not_true, Bool.not_false, Nat.add_zero, Nat.zero_add, Nat.reduceAdd]
              refine wpPi_assign _ rfl rfl ?_
              simp only [pl, pn, el, ec, sz, ss, gz, gs, if_true, if_false, Bool.false_eq_true, Bool.not_true, Bool.not_false, Nat.add_zero, Nat.zero_add, Nat.reduceAdd]
              refine wpPi_nil ?_
              replace hM := hM.trans0 hS3
              replace hC10 := hS3.obj id hC10
              replace hC11 := hS3.obj id hC11
              replace hSP := hS3.obj id hSP
              replace hB2 := hS3.obj id hB2
              replace hB4 := hS3.obj id hB4
              clear hS hS1 hS2 hS3 hc1 hc2 hc3
              generalize wc3 = wv at *
              go_upto_region 18 with (fail)
              have hS : Mod NoB wv wv.drew := (Mod.refl _ _).drew
              refine wp_region_pi [(0, 3), (1, 0), (3, 3), (4, 0), (7, 3), (8, 0), (11, 3), (12, 0), (13, 3), (14, 0), (15, 3), (16, 3), (17, 0), (18, 3), (19, 0), (20, 3), (21, 3), (22, 3), (23, 0), (24, 3), (25, 0), (26, 3), (27, 3), (2, 1), (5, 1), (6, 3), (9, 1), (10, 3), (28, 3), (29, 3)] [] (fun w' => Mod NoB wv w') (by kernel_rfl) (by kernel_rfl) (by kernel_rfl) (by kernel_rfl) (fun _ _ _ _ hd h => ⟨hd.trans h.1, h.2⟩) hS ?_
              simp only [List.map_cons, List.map_nil, List.getD_cons_zero, List.getD_cons_succ]
              refine wpPi_indexA _ _ _ _ _ _ _ 0 rfl rfl rfl rfl Tryz.underlying92 (n := 1) (by kernel_rfl) (by omega) ?_
              simp only [pl, pn, el, ec, sz, ss, gz, gs, if_true, if_false, Bool.false_eq_true, Bool.not_true, Bool.not_false, Nat.add_zero, Nat.zero_add, Nat.reduceAdd]
              refine wpPi_val rfl (fun w' hS => exec_load1 91 _ (by rfl) b10 0 (by rfl) (wordV c.a) (word8 (hS.obj id hC10) 0 (by omega)) _ Tryz.underlying91 rfl) ?_
              simp only [pl, pn, el, ec, sz, ss, gz, gs, if_true, if_false, Bool.false_eq_true, Bool.not_true, Bool.not_false, Nat.add_zero, Nat.zero_add, Nat.reduceAdd]
              refine wpPi_indexA _ _ _ _ _ _ _ 0 rfl rfl rfl rfl Tryz.underlying92 (n := 1) (by kernel_rfl) (by omega) ?_
              simp only [pl, pn, el, ec, sz, ss, gz, gs, if_true, if_false, Bool.false_eq_true, Bool.not_true, Bool.not_false, Nat.add_zero, Nat.zero_add, Nat.reduceAdd]
              refine wpPi_val rfl (fun w' hS => exec_load1 91 _ (by rfl) b10 0 (by rfl) (wordV c.a) (word8 (hS.obj id hC10) 0 (by omega)) _ Tryz.underlying91 rfl) ?_
              simp only [pl, pn, el, ec, sz, ss, gz, gs, if_true, if_false, Bool.false_eq_true, Bool.not_true, Bool.not_false, Nat.add_zero, Nat.zero_add, Nat.reduceAdd]
              refine wpPi_indexA _ _ _ _ _ _ _ 0 rfl rfl rfl rfl Tryz.underlying92 (n := 1) (by kernel_rfl) (by omega) ?_
              simp only [pl, pn, el, ec, sz, ss, gz, gs, if_true, if_false, Bool.false_eq_true, Bool.not_true, Bool.not_false, Nat.add_zero, Nat.zero_add, Nat.reduceAdd]
              refine wpPi_val rfl (fun w' hS => exec_load1 91 _ (by rfl) b10 0 (by rfl) (wordV c.a) (word8 (hS.obj id hC10) 0 (by omega)) _ Tryz.underlying91 rfl) ?_
              simp only [pl, pn, el, ec, sz, ss, gz, gs, if_true, if_false, Bool.false_eq_true, Bool.not_true, Bool.not_false, Nat.add_zero, Nat.zero_add, Nat.reduceAdd]
              refine wpPi_indexA _ _ _ _ _ _ _ 0 rfl rfl rfl rfl Tryz.underlying92 (n := 1) (by kernel_rfl) (by omega) ?_
              simp only [pl, pn, el, ec, sz, ss, gz, gs, if_true, if_false, Bool.false_eq_true, Bool.not_true, Bool.not_false, Nat.add_zero, Nat.zero_add, Nat.reduceAdd]
              refine wpPi_val rfl (fun w' hS => exec_load1 91 _ (by rfl) b10 0 (by rfl) (wordV c.a) (word8 (hS.obj id hC10) 0 (by omega)) _ Tryz.underlying91 rfl) ?_
              simp only [pl, pn, el, ec, sz, ss, gz, gs, if_true, if_false, Bool.false_eq_true, Bool.not_true, Bool.not_false, Nat.add_zero, Nat.zero_add, Nat.reduceAdd]
              refine wpPi_indexA _ _ _ _ _ _ _ 1 rfl rfl rfl rfl Tryz.underlying92 (n := 1) (by kernel_rfl) (by omega) ?_
              simp only [pl, pn, el, ec, sz, ss, gz, gs, if_true, if_false, Bool.false_eq_true, Bool.not_true, Bool.not_false, Nat.add_zero, Nat.zero_add, Nat.reduceAdd]
              refine wpPi_val rfl (fun w' hS => exec_load1 91 _ (by rfl) b10 1 (by rfl) (wordV c.b) (word8 (hS.obj id hC10) 1 (by omega)) _ Tryz.underlying91 rfl) ?_
              simp only [pl, pn, el, ec, sz, ss, gz, gs, if_true, if_false, Bool.false_eq_true, Bool.not_true, Bool.not_false, Nat.add_zero, Nat.zero_add, Nat.reduceAdd]
              refine wpPi_and32 _ _ _ _ _ _ rfl rfl rfl rfl ?_
              simp only [pl, pn, el, ec, sz, ss, gz, gs, if_true, if_false, Bool.false_eq_true, Bool.not_true, Bool.not_false, Nat.add_zero, Nat.zero_add, Nat.reduceAdd]
              refine wpPi_indexA _ _ _ _ _ _ _ 0 rfl rfl rfl rfl Tryz.underlying92 (n := 1) (by kernel_rfl) (by omega) ?_
              simp only [pl, pn, el, ec, sz, ss, gz, gs, if_true, if_false, Bool.false_eq_true, Bool.not_true, Bool.not_false, Nat.add_zero, Nat.zero_add, Nat.reduceAdd]
              refine wpPi_val rfl (fun w' hS => exec_load1 91 _ (by rfl) b10 0 (by rfl) (wordV c.a) (word8 (hS.obj id hC10) 0 (by omega)) _ Tryz.underlying91 rfl) ?_
              simp only [pl, pn, el, ec, sz, ss, gz, gs, if_true, if_false, Bool.false_eq_true, Bool.not_true, Bool.not_false, Nat.add_zero, Nat.zero_add, Nat.reduceAdd]
              refine wpPi_indexA _ _ _ _ _ _ _ 2 rfl rfl rfl rfl Tryz.underlying92 (n := 1) (by kernel_rfl) (by omega) ?_
              simp only [pl, pn, el, ec, sz, ss, gz, gs, if_true, if_false, Bool.false_eq_true, Bool.not_true, Bool.not_false, Nat.add_zero, Nat.zero_add, Nat.reduceAdd]
              refine wpPi_val rfl (fun w' hS => exec_load1 91 _ (by rfl) b10 2 (by rfl) (wordV c.c) (word8 (hS.obj id hC10) 2 (by omega)) _ Tryz.underlying91 rfl) ?_
              simp only [pl, pn, el, ec, sz, ss, gz, gs, if_true, if_false, Bool.false_eq_true, Bool.not_true, Bool.not_false, Nat.add_zero, Nat.zero_add, Nat.reduceAdd]
              refine wpPi_and32 _ _ _ _ _ _ rfl rfl rfl rfl ?_
              simp only [pl, pn, el, ec, sz, ss, gz, gs, if_true, if_false, Bool.false_eq_true, Bool.not_true, Bool.not_false, Nat.add_zero, Nat.zero_add, Nat.reduceAdd]
              refine wpPi_xor32 _ _ _ _ _ _ rfl rfl rfl rfl ?_
              simp only [pl, pn, el, ec, sz, ss, gz, gs, if_true, if_false, Bool.false_eq_true, Bool.not_true, Bool.not_false, Nat.add_zero, Nat.zero_add, Nat.reduceAdd]
              refine wpPi_indexA _ _ _ _ _ _ _ 1 rfl rfl rfl rfl Tryz.underlying92 (n := 1) (by kernel_rfl) (by omega) ?_
              simp only [pl, pn, el, ec, sz, ss, gz, gs, if_true, if_false, Bool.false_eq_true, Bool.not_true, Bool.not_false, Nat.add_zero, Nat.zero_add, Nat.reduceAdd]
              refine wpPi_val rfl (fun w' hS => exec_load1 91 _ (by rfl) b10 1 (by rfl) (wordV c.b) (word8 (hS.obj id hC10) 1 (by omega)) _ Tryz.underlying91 rfl) ?_
              simp only [pl, pn, el, ec, sz, ss, gz, gs, if_true, if_false, Bool.false_eq_true, Bool.not_true, Bool.not_false, Nat.add_zero, Nat.zero_add, Nat.reduceAdd]
              refine wpPi_indexA _ _ _ _ _ _ _ 2 rfl rfl rfl rfl Tryz.underlying92 (n := 1) (by kernel_rfl) (by omega) ?_
              simp only [pl, pn, el, ec, sz, ss, gz, gs, if_true, if_false, Bool.false_eq_true, Bool.not_true, Bool.not_false, Nat.add_zero, Nat.zero_add, Nat.reduceAdd]
              refine wpPi_val rfl (fun w' hS => exec_load1 91 _ (by rfl) b10 2 (by rfl) (wordV c.c) (word8 (hS.obj id hC10) 2 (by omega)) _ Tryz.underlying91 rfl) ?_
              simp only [pl, pn, el, ec, sz, ss, gz, gs, if_true, if_false, Bool.false_eq_true, Bool.not_true, Bool.not_false, Nat.add_zero, Nat.zero_add, Nat.reduceAdd]
              refine wpPi_and32 _ _ _ _ _ _ rfl rfl rfl rfl ?_
              simp only [pl, pn, el, ec, sz, ss, gz, gs, if_true, if_false, Bool.false_eq_true, Bool.not_true, Bool.not_false, Nat.add_zero, Nat.zero_add, Nat.reduceAdd]
              refine wpPi_xor32 _ _ _ _ _ _ rfl rfl rfl rfl ?_
              simp only [pl, pn, el, ec, sz, ss, gz, gs, if_true, if_false, Bool.false_eq_true, Bool.not_true, Bool.not_false, Nat.add_zero, Nat.zero_add, Nat.reduceAdd]
              refine wpPi_do rfl (fun K hK => ?_)
              refine wp_enter (run_call 92 [.tmp 150, .const (.int .i64 2)] _ rfl _ Tryz.func92 rfl (by kernel_rfl) [wordV c.a, .int .i64 2] rfl _) (refTurn_any c.a 2 (by omega) _) (fun wc1 hc1 => ?_)
              have hS1 := hS.trans0 hc1
              refine hK _ _ hS1 ?_
              clear hK K
              try simp only [pl, pn, el, ec, sz, ss, gz, gs, if_true, if_false, Bool.false_eq_true, Bool.not_true, Bool.not_false, Nat.add_zero, Nat.zero_add, Nat.reduceAdd]
              refine wpPi_do rfl (fun K hK => ?_)
              refine wp_enter (run_call 92 [.tmp 153, .const (.int .i64 13)] _ rfl _ Tryz.func92 rfl (by kernel_rfl) [wordV c.a, .int .i64 13] rfl _) (refTurn_any c.a 13 (by omega) _) (fun wc2 hc2 => ?_)
              have hS2 := hS1.trans0 hc2
              refine hK _ _ hS2 ?_
              clear hK K
              try simp only [pl, pn, el, ec, sz, ss, gz, gs, if_true, if_false, Bool.false_eq_true, Bool.not_true, Bool.not_false, Nat.add_zero, Nat.zero_add, Nat.reduceAdd]
              refine wpPi_xor32 _ _ _ _ _ _ rfl rfl rfl rfl ?_
              simp only [pl, pn, el, ec, sz, ss, gz, gs, if_true, if_false, Bool.false_eq_true, Bool.not_true, Bool.not_false, Nat.add_zero, Nat.zero_add, Nat.reduceAdd]
              refine wpPi_do rfl (fun K hK => ?_)
              refine wp_enter (run_call 92 [.tmp 157, .const (.int .i64 22)] _ rfl _ Tryz.func92 rfl (by kernel_rfl) [wordV c.a, .int .i64 22] rfl _) (refTurn_any c.a 22 (by omega) _) (fun wc3 hc3 => ?_)
              have hS3 := hS2.trans0 hc3
              refine hK _ _ hS3 ?_
              clear hK K
              try simp only [pl, pn, el, ec, sz, ss, gz, gs, if_true, if_false, Bool.false_eq_true, Bool.not_true, Bool.not_false, Nat.add_zero, Nat.zero_add, Nat.reduceAdd]
              refine wpPi_xor32 _ _ _ _ _ _ rfl rfl rfl rfl ?_
              simp only [pl, pn, el, ec, sz, ss, gz, gs, if_true, if_false, Bool.false_eq_true, Bool.not_true, Bool.not_false, Nat.add_zero, Nat.zero_add, Nat.reduceAdd]
              refine wpPi_add32 _ _ _ _ _ _ rfl rfl rfl rfl ?_
              simp only [pl, pn, el, ec, sz, ss, gz, gs, if_true, if_false, Bool.false_eq_true, Bool.not_true, Bool.not_false, Nat.add_zero, Nat.zero_add, Nat.reduceAdd]
              refine wpPi_assign _ rfl rfl ?_
              simp only [pl, pn, el, ec, sz, ss, gz, gs, if_true, if_false, Bool.false_eq_true, Bool.not_true, Bool.not_false, Nat.add_zero, Nat.zero_add, Nat.reduceAdd]
              refine wpPi_nil ?_
              replace hM := hM.trans0 hS3
              replace hC10 := hS3.obj id hC10
              replace hC11 := hS3.obj id hC11
              replace hSP := hS3.obj id hSP
              replace hB2 := hS3.obj id hB2
              replace hB4 := hS3.obj id hB4
              clear hS hS1 hS2 hS3 hc1 hc2 hc3
              generalize wc3 = wx at *
              go_upto_region 19 with (fail)
              refine wp_region_seq [3, 3, 3, 3, 1, 3, 1, 3, 1, 3, 1, 3, 3, 3, 1, 3, 1, 3, 1, 3, 1] (fun _ => True) (by rfl) (by rfl) trivial ?_
              simp only [List.zip_cons_cons, List.zip_nil_right]
              refine wpPi_move _ rfl rfl ?_
              simp only [pl, pn, el, ec, sz, ss, gz, gs, if_true, if_false, Bool.false_eq_true, Bool.not_true, Bool.not_false, Nat.add_zero, Nat.zero_add, Nat.reduceAdd]
              refine wpPi_move _ rfl rfl ?_
              simp only [pl, pn, el, ec, sz, ss, gz, gs, if_true, if_false, Bool.false_eq_true, Bool.not_true, Bool.not_false, Nat.add_zero, Nat.zero_add, Nat.reduceAdd]
              refine wpPi_add32 _ _ _ _ _ _ rfl rfl rfl rfl ?_
              simp only [pl, pn, el, ec, sz, ss, gz, gs, if_true, if_false, Bool.false_eq_true, Bool.not_true, Bool.not_false, Nat.add_zero, Nat.zero_add, Nat.reduceAdd]
              refine wpPi_indexA _ _ _ _ _ _ _ 0 rfl rfl rfl rfl Tryz.underlying92 (n := 1) (by kernel_rfl) (by omega) ?_
              simp only [pl, pn, el, ec, sz, ss, gz, gs, if_true, if_false, Bool.false_eq_true, Bool.not_true, Bool.not_false, Nat.add_zero, Nat.zero_add, Nat.reduceAdd]
              refine wpPi_do rfl (fun K hK => ?_)
              refine wp_exec (exec_load1 91 _ (by rfl) b10 0 (by rfl) (wordV c.a) (word8 hC10 0 (by omega)) _ Tryz.underlying91 rfl) ?_
              refine hK _ _ trivial ?_
              clear hK K
              try simp only [pl, pn, el, ec, sz, ss, gz, gs, if_true, if_false, Bool.false_eq_true, Bool.not_true, Bool.not_false, Nat.add_zero, Nat.zero_add, Nat.reduceAdd]
              refine wpPi_indexA _ _ _ _ _ _ _ 1 rfl rfl rfl rfl Tryz.underlying92 (n := 1) (by kernel_rfl) (by omega) ?_
              simp only [pl, pn, el, ec, sz, ss, gz, gs, if_true, if_false, Bool.false_eq_true, Bool.not_true, Bool.not_false, Nat.add_zero, Nat.zero_add, Nat.reduceAdd]
              refine wpPi_do rfl (fun K hK => ?_)
              refine wp_exec (exec_load1 91 _ (by rfl) b10 1 (by rfl) (wordV c.b) (word8 hC10 1 (by omega)) _ Tryz.underlying91 rfl) ?_
              refine hK _ _ trivial ?_
              clear hK K
              try simp only [pl, pn, el, ec, sz, ss, gz, gs, if_true, if_false, Bool.false_eq_true, Bool.not_true, Bool.not_false, Nat.add_zero, Nat.zero_add, Nat.reduceAdd]
              refine wpPi_indexA _ _ _ _ _ _ _ 2 rfl rfl rfl rfl Tryz.underlying92 (n := 1) (by kernel_rfl) (by omega) ?_
              simp only [pl, pn, el, ec, sz, ss, gz, gs, if_true, if_false, Bool.false_eq_true, Bool.not_true, Bool.not_false, Nat.add_zero, Nat.zero_add, Nat.reduceAdd]
              refine wpPi_do rfl (fun K hK => ?_)
              refine wp_exec (exec_load1 91 _ (by rfl) b10 2 (by rfl) (wordV c.c) (word8 hC10 2 (by omega)) _ Tryz.underlying91 rfl) ?_
              refine hK _ _ trivial ?_
              clear hK K
              try simp only [pl, pn, el, ec, sz, ss, gz, gs, if_true, if_false, Bool.false_eq_true, Bool.not_true, Bool.not_false, Nat.add_zero, Nat.zero_add, Nat.reduceAdd]
              refine wpPi_indexA _ _ _ _ _ _ _ 3 rfl rfl rfl rfl Tryz.underlying92 (n := 1) (by kernel_rfl) (by omega) ?_
              simp only [pl, pn, el, ec, sz, ss, gz, gs, if_true, if_false, Bool.false_eq_true, Bool.not_true, Bool.not_false, Nat.add_zero, Nat.zero_add, Nat.reduceAdd]
              refine wpPi_do rfl (fun K hK => ?_)
              refine wp_exec (exec_load1 91 _ (by rfl) b10 3 (by rfl) (wordV c.d) (word8 hC10 3 (by omega)) _ Tryz.underlying91 rfl) ?_
              refine hK _ _ trivial ?_
              clear hK K
              try simp only [pl, pn, el, ec, sz, ss, gz, gs, if_true, if_false, Bool.false_eq_true, Bool.not_true, Bool.not_false, Nat.add_zero, Nat.zero_add, Nat.reduceAdd]
              refine wpPi_move _ rfl rfl ?_
              simp only [pl, pn, el, ec, sz, ss, gz, gs, if_true, if_false, Bool.false_eq_true, Bool.not_true, Bool.not_false, Nat.add_zero, Nat.zero_add, Nat.reduceAdd]
              refine wpPi_add32 _ _ _ _ _ _ rfl rfl rfl rfl ?_
              simp only [pl, pn, el, ec, sz, ss, gz, gs, if_true, if_false, Bool.false_eq_true, Bool.not_true, Bool.not_false, Nat.add_zero, Nat.zero_add, Nat.reduceAdd]
              refine wpPi_indexA _ _ _ _ _ _ _ 4 rfl rfl rfl rfl Tryz.underlying92 (n := 1) (by kernel_rfl) (by omega) ?_
              simp only [pl, pn, el, ec, sz, ss, gz, gs, if_true, if_false, Bool.false_eq_true, Bool.not_true, Bool.not_false, Nat.add_zero, Nat.zero_add, Nat.reduceAdd]
              refine wpPi_do rfl (fun K hK => ?_)
              refine wp_exec (exec_load1 91 _ (by rfl) b10 4 (by rfl) (wordV c.e) (word8 hC10 4 (by omega)) _ Tryz.underlying91 rfl) ?_
              refine hK _ _ trivial ?_
              clear hK K
              try simp only [pl, pn, el, ec, sz, ss, gz, gs, if_true, if_false, Bool.false_eq_true, Bool.not_true, Bool.not_false, Nat.add_zero, Nat.zero_add, Nat.reduceAdd]
              refine wpPi_indexA _ _ _ _ _ _ _ 5 rfl rfl rfl rfl Tryz.underlying92 (n := 1) (by kernel_rfl) (by omega) ?_
              simp only [pl, pn, el, ec, sz, ss, gz, gs, if_true, if_false, Bool.false_eq_true, Bool.not_true, Bool.not_false, Nat.add_zero, Nat.zero_add, Nat.reduceAdd]
              refine wpPi_do rfl (fun K hK => ?_)
              refine wp_exec (exec_load1 91 _ (by rfl) b10 5 (by rfl) (wordV c.f) (word8 hC10 5 (by omega)) _ Tryz.underlying91 rfl) ?_
              refine hK _ _ trivial ?_
              clear hK K
              try simp only [pl, pn, el, ec, sz, ss, gz, gs, if_true, if_false, Bool.false_eq_true, Bool.not_true, Bool.not_false, Nat.add_zero, Nat.zero_add, Nat.reduceAdd]
              refine wpPi_indexA _ _ _ _ _ _ _ 6 rfl rfl rfl rfl Tryz.underlying92 (n := 1) (by kernel_rfl) (by omega) ?_
              simp only [pl, pn, el, ec, sz, ss, gz, gs, if_true, if_false, Bool.false_eq_true, Bool.not_true, Bool.not_false, Nat.add_zero, Nat.zero_add, Nat.reduceAdd]
              refine wpPi_do rfl (fun K hK => ?_)
              refine wp_exec (exec_load1 91 _ (by rfl) b10 6 (by rfl) (wordV c.g) (word8 hC10 6 (by omega)) _ Tryz.underlying91 rfl) ?_
              refine hK _ _ trivial ?_
              clear hK K
              try simp only [pl, pn, el, ec, sz, ss, gz, gs, if_true, if_false, Bool.false_eq_true, Bool.not_true, Bool.not_false, Nat.add_zero, Nat.zero_add, Nat.reduceAdd]
              refine wpPi_any (v := .agg (wordCells (round c (shaKeys.getD n 0) (sp.getD n 0)).list)) rfl (fun w' => exec_build_of 92 _ [(0, wordV (roundX c (shaKeys.getD n 0) (sp.getD n 0) + roundY c)), (1, wordV c.a), (2, wordV c.b), (3, wordV c.c), (4, wordV (c.d + roundX c (shaKeys.getD n 0) (sp.getD n 0))), (5, wordV c.e), (6, wordV c.f), (7, wordV c.g)] _ (by rfl) (by rfl) (built8w _ _ _ _ _ _ _ _)) ?_
              simp only [pl, pn, el, ec, sz, ss, gz, gs, if_true, if_false, Bool.false_eq_true, Bool.not_true, Bool.not_false, Nat.add_zero, Nat.zero_add, Nat.reduceAdd]
              refine wpPi_do rfl (fun K hK => ?_)
              refine wp_storeA 92 _ _ b10 0 (wordCells (round c (shaKeys.getD n 0) (sp.getD n 0)).list) (by rfl) (by rfl) (by rfl) (wordCells_one _) 8 (by kernel_rfl) (by rw [wordCells_size]; rfl) _ _ hC10 (by rw [wordCells_size, wordCells_size]; simp [W8.list]) (fun w5 hD4 hm5 => ?_)
              rw [putRow_whole (by rw [wordCells_size, wordCells_size]; simp [W8.list]), ← HN.out] at hD4
              have hM5 := hM.transB hm5 hL10
              replace hB2 := hm5.objB (by omega) hB2
              replace hB4 := hm5.objB (by omega) hB4
              replace hC11 := hm5.objB (by omega) hC11
              replace hSP := hm5.objB (by omega) hSP
              clear hC10 hm5
              refine hK _ _ trivial ?_
              clear hK K
              try simp only [pl, pn, el, ec, sz, ss, gz, gs, if_true, if_false, Bool.false_eq_true, Bool.not_true, Bool.not_false, Nat.add_zero, Nat.zero_add, Nat.reduceAdd]
              refine wpPi_nil ?_
              go_wp2
              go_roundw
              case rel => exact ⟨n + 1, by omega, by go_num, hD4, hC11, hSP, hB2, hB4, hM5⟩
              case measure => simp [intOf]; omega
            · have hz : ¬ (n : Int) < 64 := by omega
              obtain rfl : n = 64 := by omega
              obtain ⟨c, hc⟩ : ∃ c, rounds shaKeys sp 64 s = c := ⟨_, rfl⟩
              rw [hc] at hC10
              have HR : Hid (blockL s b = addW s c) := by
                show blockL s b = addW s c
                unfold blockL; rw [HSP.out, hc]
              have hlen : (addW s c).list.length = 8 := rfl
              have hcsz : (wordCells c.list).size = 8 := by rw [wordCells_size]; rfl
              clear hc hC11 hSP hz hn
              go_wp2
              go_loopw [15] (Add2Rel w b2 b4 b10 s c) (fun i _ => 8 - (intOf i).toNat)
              case atStart => exact ⟨0, by omega, rfl, by rw [List.take_zero, putRow_none (by omega)]; exact hC10, hB2, hB4, hM⟩
              case round =>
                rename World => wl
                clear hC10 hB2 hB4 hM
                obtain ⟨n, hn, rfl, hrow, hB2, hB4, hM⟩ := hrel
                by_cases hlt : n < 8
                · have hz : (n : Int) < 8 := by omega
                  have hw1 : wl.cell? ⟨b10, n * 1, none⟩ = some (wordV (c.list.getD n 0)) := by
                    have h0 := words_row c n hlt
                    rw [Nat.zero_add] at h0
                    rw [cell_of_row _ _ _ _ _ _ hrow, Nat.mul_one, putRow_get (by rw [wordCells_size, List.length_take]; omega), if_neg (by rw [wordCells_size, List.length_take]; omega), h0]
                  have hstep := putRow_step (cur := wordCells c.list) (oa := 0) (n := n) (l := (addW s c).list) (by omega) (by omega)
                  have hpsz : (putRow (wordCells c.list) 0 (wordCells ((addW s c).list.take n))).size = 8 := by rw [putRow_size (by rw [wordCells_size, List.length_take]; omega), hcsz]
                  rw [addW_at s c n hlt, UInt32.add_comm, Nat.zero_add] at hstep
                  have HST := Lib.hid hstep
                  clear hstep
                  go_upto_region 23 with (fail)
                  have hS : Mod NoB wl wl.drew := (Mod.refl _ _).drew
                  refine wp_region_pi [(0, 3), (1, 3), (2, 3), (3, 0), (4, 3), (5, 3), (6, 0), (7, 3), (8, 3), (9, 2)] [9] (fun w' => Mod NoB wl w') (by kernel_rfl) (by kernel_rfl) (by kernel_rfl) (by kernel_rfl) (fun _ _ _ _ hd h => ⟨hd.trans h.1, h.2⟩) hS ?_
                  simp only [List.map_cons, List.map_nil, List.getD_cons_zero, List.getD_cons_succ]
                  refine wpPi_move _ rfl rfl ?_
                  simp only [pl, pn, el, ec, sz, ss, gz, gs, if_true, if_false, Bool.false_eq_true, Bool.not_true, Bool.not_false, Nat.add_zero, Nat.zero_add, Nat.reduceAdd]
                  refine wpPi_move _ rfl rfl ?_
                  simp only [pl, pn, el, ec, sz, ss, gz, gs, if_true, if_false, Bool.false_eq_true, Bool.not_true, Bool.not_false, Nat.add_zero, Nat.zero_add, Nat.reduceAdd]
                  refine wpPi_indexA _ _ _ _ _ _ _ _ rfl rfl rfl rfl Tryz.underlying92 (n := 1) (by kernel_rfl) hlt ?_
                  simp only [pl, pn, el, ec, sz, ss, gz, gs, if_true, if_false, Bool.false_eq_true, Bool.not_true, Bool.not_false, Nat.add_zero, Nat.zero_add, Nat.reduceAdd]
                  refine wpPi_val rfl (fun w' hS => exec_load1 91 _ (by rfl) b10 (n * 1) (by rfl) (wordV (c.list.getD n 0)) (hS.cell id hw1) _ Tryz.underlying91 rfl) ?_
                  simp only [pl, pn, el, ec, sz, ss, gz, gs, if_true, if_false, Bool.false_eq_true, Bool.not_true, Bool.not_false, Nat.add_zero, Nat.zero_add, Nat.reduceAdd]
                  refine wpPi_move _ rfl rfl ?_
                  simp only [pl, pn, el, ec, sz, ss, gz, gs, if_true, if_false, Bool.false_eq_true, Bool.not_true, Bool.not_false, Nat.add_zero, Nat.zero_add, Nat.reduceAdd]
                  refine wpPi_indexA _ _ _ _ _ _ _ _ rfl rfl rfl rfl Tryz.underlying92 (n := 1) (by kernel_rfl) hlt ?_
                  simp only [pl, pn, el, ec, sz, ss, gz, gs, if_true, if_false, Bool.false_eq_true, Bool.not_true, Bool.not_false, Nat.add_zero, Nat.zero_add, Nat.reduceAdd]
                  refine wpPi_val rfl (fun w' hS => exec_load1 91 _ (by rfl) b2 (n * 1) (by rfl) (wordV (s.list.getD n 0)) (by rw [Nat.mul_one]; exact word8 (hS.obj id hB2) n hlt) _ Tryz.underlying91 rfl) ?_
                  simp only [pl, pn, el, ec, sz, ss, gz, gs, if_true, if_false, Bool.false_eq_true, Bool.not_true, Bool.not_false, Nat.add_zero, Nat.zero_add, Nat.reduceAdd]
                  refine wpPi_add32 _ _ _ _ _ _ rfl rfl rfl rfl ?_
                  simp only [pl, pn, el, ec, sz, ss, gz, gs, if_true, if_false, Bool.false_eq_true, Bool.not_true, Bool.not_false, Nat.add_zero, Nat.zero_add, Nat.reduceAdd]
                  refine wpPi_indexA _ _ _ _ _ _ _ _ rfl rfl rfl rfl Tryz.underlying92 (n := 1) (by kernel_rfl) hlt ?_
                  simp only [pl, pn, el, ec, sz, ss, gz, gs, if_true, if_false, Bool.false_eq_true, Bool.not_true, Bool.not_false, Nat.add_zero, Nat.zero_add, Nat.reduceAdd]
                  refine wpPi_last rfl (fun K hK => ?_)
                  refine wp_store1 91 _ _ b10 (n * 1) (wordV (c.list.getD n 0 + s.list.getD n 0)) (by rfl) (by rfl) (by rfl) rfl (by kernel_rfl) _ _ (show wl.drew.heap[b10]? = _ from hrow) (by rw [hpsz]; omega) (fun wn hBn hmn => ?_)
                  rw [Nat.mul_one, HST.out] at hBn
                  replace hB2 := hmn.objB (by omega) (show wl.drew.heap[b2]? = _ from hB2)
                  replace hB4 := hmn.objB (by omega) (show wl.drew.heap[b4]? = _ from hB4)
                  refine hK _ _ ?_
                  clear hK K
                  try simp only [pl, pn, el, ec, sz, ss, gz, gs, if_true, if_false, Bool.false_eq_true, Bool.not_true, Bool.not_false, Nat.add_zero, Nat.zero_add, Nat.reduceAdd]
                  refine wpPi_nil ?_
                  have hMn : Mod NoB w wn := (hM.trans0 hS).transB hmn (by omega)
                  clear hM hS hmn hrow hw1
                  go_wp2
                  go_roundw
                  case rel => exact ⟨n + 1, by omega, by go_num, hBn, hB2, hB4, hMn⟩
                  case measure => simp [intOf]; omega
                · have hz : ¬ (n : Int) < 8 := by omega
                  obtain rfl : n = 8 := by omega
                  have hfin : putRow (wordCells c.list) 0 (wordCells ((addW s c).list.take 8)) = wordCells (addW s c).list := by
                    rw [List.take_of_length_le (by omega)]; exact putRow_whole (by rw [hcsz, wordCells_size]; rfl)
                  rw [hfin] at hrow
                  clear hfin
                  go_upto_region 24 with (fail)
                  refine wp_region_seq [1, 1] (fun _ => True) (by rfl) (by rfl) trivial ?_
                  simp only [List.zip_cons_cons, List.zip_nil_right]
                  refine wpPi_do rfl (fun K hK => ?_)
                  refine wp_exec (exec_loadA 92 _ (by rfl) b10 0 (by rfl) (wordCells (addW s c).list) (CellsAt.whole hrow) _ Tryz.underlying92 rfl 8 (by kernel_rfl) (by rw [wordCells_size]; rfl)) ?_
                  refine hK _ _ trivial ?_
                  clear hK K
                  try simp only [pl, pn, el, ec, sz, ss, gz, gs, if_true, if_false, Bool.false_eq_true, Bool.not_true, Bool.not_false, Nat.add_zero, Nat.zero_add, Nat.reduceAdd]
                  refine wpPi_do rfl (fun K hK => ?_)
                  refine wp_storeA 92 _ _ b4 0 (wordCells (addW s c).list) (by rfl) (by rfl) (by rfl) (wordCells_one _) 8 (by kernel_rfl) (by rw [wordCells_size]; rfl) _ _ hB4 (by rw [wordCells_size, wordCells_size]; simp [W8.list]) (fun wz hD4 hmz => ?_)
                  rw [putRow_whole (by rw [wordCells_size, wordCells_size]; simp [W8.list])] at hD4
                  refine hK _ _ trivial ?_
                  clear hK K
                  try simp only [pl, pn, el, ec, sz, ss, gz, gs, if_true, if_false, Bool.false_eq_true, Bool.not_true, Bool.not_false, Nat.add_zero, Nat.zero_add, Nat.reduceAdd]
                  refine wpPi_nil ?_
                  have hMz : Mod NoB w wz := hM.transB hmz (by omega)
                  clear hmz hM hB4 hB2 hrow
                  go_wp2
                  refine bodyPost_ret (results_cell_row rfl _ _ b4 _ _ _ _ (by rfl) hD4 Tryz.underlying92 rfl (by rw [wordCells_size]; kernel_rfl)) rfl ?_
                  exact ⟨by rw [HR.out], hMz⟩
end Go.Proofs.YtchkikmmcmjcgaaGreat

/- SHA-256, the document's: Sum. -/
namespace Go.Proofs.YtchkikmmcmjcgaaGreat
set_option linter.unusedSimpArgs false
set_option linter.unusedVariables false
set_option linter.unnecessarySimpa false
set_option linter.unusedSectionVars false
open Go.RowKit


section
variable {P : Program} {ops : Array Oper} {Q : Exit → Act → World → Prop} {S : World → Prop} {o : Oper} {r : List (Oper × Nat)} {a : Act} {w : World}
theorem wpPi_sliceLH (t e : TypeId) (x l h : Operand) (ad : Option Addr) (len cap i j n : Nat) (hw : Region.wanted o (yielded ops a.tmps) = true) (ho : o.op = .slice t x (some l) (some h) none) (hx : a.eval x = .slice ad len cap) (hl : a.eval l = .int .i64 (i : Int)) (hh : a.eval h = .int .i64 (j : Int))
    (hu : P.underlying t = some (.slice e)) (hs : (P.info? e).map (·.size) = some n) (hi : i ≤ j) (hj : j ≤ cap) (hk : wpPi P ops Q S r (a.put o.dst (sliced ad i j cap n)) w) : wpPi P ops Q S ((o, 3) :: r) a w :=
  wpPi_any hw (fun w => by
    have he : P.elem t = e := by simp [Program.elem, hu]
    have hsz : (sizeOf e).run P w = .ok n w := by
      cases hq : P.info? e with
      | none => simp [hq] at hs
      | some i => simp [hq] at hs; simp [sizeOf, typeInfo, hq, hs]
    unfold execOp
    simp only [ho, hx, hl, hh, Option.map_none, Option.map_some]
    have h1 := run_sliceAt_slice (P := P) (w := w) t (.slice ad len cap) (some (.int .i64 (i : Int))) (some (.int .i64 (j : Int))) none (by rw [he]; exact hu)
    have h2 := run_slice_lh (P := P) (w := w) t ad len cap (by rw [he]; exact hu) .i64 .i64 (i : Int) (j : Int) (by omega) (by omega) (by omega)
    simp only [Sem.run_bind, h1, h2, he, hsz, Result.andThen_ok, Sem.run_pure, Int.toNat_natCast]) hk
end
theorem Sl.mid {α : Type} {own : Bool} {w : World} {G : Nat → Prop} {sz cap : Nat} {R : Array Value → α → Prop} {ad : Option Addr} {l : List α} (h : Sl own w G sz R (.slice ad l.length cap) l) (i j : Nat) (hij : i < j) (hj : j ≤ l.length) : Sl own w G sz R (sliced ad i j cap sz) ((l.drop i).take (j - i)) := by
  obtain ⟨a, c, e, h1, h2, h3⟩ := h
  cases e
  refine ⟨_, _, by rw [List.length_take, List.length_drop, Nat.min_eq_left (by omega)]; rfl, by rw [List.length_take, List.length_drop]; omega, by omega, fun hne => ?_⟩
  obtain ⟨b, off, rfl, hG, ho, hc⟩ := h3 (by rintro rfl; simp at hj; omega)
  refine ⟨b, off + i * sz, by rw [if_neg (by omega)]; simp [addr_add0], hG, ho, fun k hk => ?_⟩
  rw [List.length_take, List.length_drop] at hk
  obtain ⟨cs, hs, hR, hcs⟩ := hc (i + k) (by omega)
  refine ⟨cs, hs, by rw [List.getElem_take, List.getElem_drop]; exact hR, ?_⟩
  rw [show off + i * sz + k * sz = off + (i + k) * sz by rw [Nat.add_mul]; omega]
  exact hcs
def BlkRel2 (w0 : World) (b6 : Nat) (Y : List UInt8) (i : Value) (w : World) : Prop := ∃ k : Nat, 64 * k ≤ Y.length ∧ i = .int .i64 ((64 * k : Nat) : Int) ∧ w.heap[b6]? = some (.cells (wordCells (blocksL k shaBegin Y).list) 92 (0, 0)) ∧ Mod (fun q => q = b6) w0 w
def OutRel2 (w0 : World) (b2 b4 : Nat) (c : W8) (i : Value) (w : World) : Prop := ∃ n : Nat, n ≤ 32 ∧ i = .int .i64 n ∧ w.heap[b2]? = some (.cells (outRow c n) 24 (0, 0)) ∧ w.heap[b4]? = some (.cells (wordCells c.list) 92 (0, 0)) ∧ Mod (fun q => q = b2) w0 w
theorem built8b : Tryz.prog.built 92 [(0, .int .u32 1779033703), (1, .int .u32 3144134277), (2, .int .u32 1013904242), (3, .int .u32 2773480762), (4, .int .u32 1359893119), (5, .int .u32 2600822924), (6, .int .u32 528734635), (7, .int .u32 1541459225)] = some (wordCells shaBegin.list) := by kernel_rfl
def LenDRel (w0 : World) (X : List UInt8) (n : Nat) (v i : Value) (w : World) : Prop := ∃ k : Nat, k ≤ 8 ∧ i = .int .i64 (7 - (k : Int)) ∧ Bts w0.heap.size w v (X ++ (lenBytes n).take k) ∧ Mod NoB w0 w
set_option maxRecDepth 10000 in
set_option maxHeartbeats 4000000 in
theorem refSum_any {own : Bool} {G : Nat → Prop} {v : Value} {m : List UInt8} {w : World} (hb : Sl own w G 1 ByteC v m) (hl : m.length ≤ 70368744177664) :
    Calls Tryz.prog 47 #[v] w (RetM (.agg (idCells (shaL m))) w) := by
  have hbS := Lib.hid hb
  obtain ⟨adm, capm, rfl, hlem, hmxm, -⟩ := hb
  go_enter Tryz.func47, Tryz.ntmps47
  go_upto_region 0 with (fail)
  refine wp_region_seq [1] (fun _ => True) (by rfl) (by rfl) trivial ?_
  simp only [List.zip_cons_cons, List.zip_nil_right]
  refine wpPi_do rfl (fun K hK => ?_)
  refine wp_alloc 24 _ (by rfl) idZ (fun w1 hB1 hm1 hs1 => ?_)
  replace hB1 : w1.heap[w.heap.size]? = some (.cells (idCells (List.replicate 32 0)) 24 (0, 0)) := hB1
  refine hK _ _ trivial ?_
  clear hK K
  try simp only [pl, pn, el, ec, sz, ss, gz, gs, if_true, if_false, Bool.false_eq_true, Bool.not_true, Bool.not_false, Nat.add_zero, Nat.zero_add, Nat.reduceAdd]
  refine wpPi_nil ?_
  go_upto_region 1 with (fail)
  refine wp_region_seq [1, 3, 1, 1, 1, 3] (fun _ => True) (by rfl) (by rfl) trivial ?_
  simp only [List.zip_cons_cons, List.zip_nil_right]
  refine wpPi_do rfl (fun K hK => ?_)
  refine wp_buildSlice0 25 5 (by rfl) Tryz.underlying25 (by kernel_rfl) (fun w2 hB2 hm2 hs2 => ?_)
  refine hK _ _ trivial ?_
  clear hK K
  try simp only [pl, pn, el, ec, sz, ss, gz, gs, if_true, if_false, Bool.false_eq_true, Bool.not_true, Bool.not_false, Nat.add_zero, Nat.zero_add, Nat.reduceAdd]
  refine wpPi_move _ rfl rfl ?_
  simp only [pl, pn, el, ec, sz, ss, gz, gs, if_true, if_false, Bool.false_eq_true, Bool.not_true, Bool.not_false, Nat.add_zero, Nat.zero_add, Nat.reduceAdd]
  refine wpPi_do rfl (fun K hK => ?_)
  refine wp_bytes _ _ (by rfl) w1.heap.size _ [] (by rfl) (owns_empty _ hB2 (Nat.le_refl _)) _ m (by rfl) (hbS.out.keep0 (hm1.trans0 hm2)).bsrc (by simp; omega) hm2.size (fun v3 w3 ho3 hm3 => ?_)
  rw [List.nil_append] at ho3
  refine hK _ _ trivial ?_
  clear hK K
  try simp only [pl, pn, el, ec, sz, ss, gz, gs, if_true, if_false, Bool.false_eq_true, Bool.not_true, Bool.not_false, Nat.add_zero, Nat.zero_add, Nat.reduceAdd]
  refine wpPi_do rfl (fun K hK => ?_)
  refine wp_buildSlice1 25 5 _ (byteV 128) (.int .u8 0) 1 (by rfl) (by rfl) Tryz.underlying25 (by kernel_rfl) (by omega) (by omega) (by rfl) (fun w5 hB5 hm5 hs5 => ?_)
  replace hB5 : w5.heap[w3.heap.size]? = some (.cells #[byteV 128] 5 (0, 0)) := hB5
  refine hK _ _ trivial ?_
  clear hK K
  try simp only [pl, pn, el, ec, sz, ss, gz, gs, if_true, if_false, Bool.false_eq_true, Bool.not_true, Bool.not_false, Nat.add_zero, Nat.zero_add, Nat.reduceAdd]
  refine wpPi_do rfl (fun K hK => ?_)
  have hs3 := hm3.size
  refine wp_bytes _ _ (by rfl) w1.heap.size _ m (by rfl) (ho3.keep hm5 (fun _ _ => id)) (.slice (some ⟨w3.heap.size, 0, none⟩) 1 1) [128] (by rfl) (owns_src (owns_lit hB5)) (by simp; omega) (by omega) (fun v6 w6 ho6 hm6 => ?_)
  refine hK _ _ trivial ?_
  clear hK K
  try simp only [pl, pn, el, ec, sz, ss, gz, gs, if_true, if_false, Bool.false_eq_true, Bool.not_true, Bool.not_false, Nat.add_zero, Nat.zero_add, Nat.reduceAdd]
  refine wpPi_assign _ rfl rfl ?_
  simp only [pl, pn, el, ec, sz, ss, gz, gs, if_true, if_false, Bool.false_eq_true, Bool.not_true, Bool.not_false, Nat.add_zero, Nat.zero_add, Nat.reduceAdd]
  refine wpPi_nil ?_
  have hM3 : Mod NoB w1 w3 := hm2.trans hm3 (fun k hk e => by
    have e' : some w1.heap.size = some k := e
    cases e'; omega)
  have hM6 : Mod NoB w1 w6 := (hM3.trans0 hm5).trans hm6 (fun k hk e => by have := (ho3.lt e).1; omega)
  clear hM3 hm2 hm3 hm5 hm6 ho3 hB5 hs5 hs2 hB2
  go_wp2
  go_loopw [3] (PadRel w1 m) (fun v _ => padM (lenV v))
  case atStart => exact ⟨0, Nat.zero_le _, by simpa [padJ] using ho6, hM6⟩
  case round =>
    rename World => wr
    clear ho6 hM6
    obtain ⟨j, hj, hob, hM⟩ := hrel
    have hoH := Lib.hid hob
    have hjl := padJ_len m j
    have hpad : padN m.length < 64 := by unfold padN; omega
    have hPS := Lib.hid (padJ_succ m j)
    obtain ⟨ad, cap, rfl⟩ := hob.slice
    clear hob
    have hwr := hM.size
    go_upto_region 2 with (fail)
    by_cases h56 : (m.length + 1 + j + 8) % 64 = 0
    · skip
      refine wp_region_seq [3, 3, 3, 3, 3] (fun _ => True) (by rfl) (by rfl) trivial ?_
      simp only [List.zip_cons_cons, List.zip_nil_right]
      refine wpPi_move _ rfl rfl ?_
      simp only [pl, pn, el, ec, sz, ss, gz, gs, if_true, if_false, Bool.false_eq_true, Bool.not_true, Bool.not_false, Nat.add_zero, Nat.zero_add, Nat.reduceAdd]
      refine wpPi_len _ _ _ _ _ rfl rfl rfl (by kernel_rfl) ?_
      simp only [pl, pn, el, ec, sz, ss, gz, gs, if_true, if_false, Bool.false_eq_true, Bool.not_true, Bool.not_false, Nat.add_zero, Nat.zero_add, Nat.reduceAdd]
      refine wpPi_addR _ _ _ _ ((padJ m j).length : Int) 8 (((padJ m j).length + 8 : Nat) : Int) rfl rfl rfl rfl (by omega) (by omega) (by omega) ?_
      simp only [pl, pn, el, ec, sz, ss, gz, gs, if_true, if_false, Bool.false_eq_true, Bool.not_true, Bool.not_false, Nat.add_zero, Nat.zero_add, Nat.reduceAdd]
      refine wpPi_remR _ _ _ _ (((padJ m j).length + 8 : Nat) : Int) 64 0 rfl rfl rfl rfl (by omega) (by omega) (by omega) ?_
      simp only [pl, pn, el, ec, sz, ss, gz, gs, if_true, if_false, Bool.false_eq_true, Bool.not_true, Bool.not_false, Nat.add_zero, Nat.zero_add, Nat.reduceAdd]
      refine wpPi_cmp _ _ _ _ _ _ _ _ rfl rfl rfl rfl rfl false (by rfl) ?_
      simp only [pl, pn, el, ec, sz, ss, gz, gs, if_true, if_false, Bool.false_eq_true, Bool.not_true, Bool.not_false, Nat.add_zero, Nat.zero_add, Nat.reduceAdd]
      refine wpPi_nil ?_
      have hj2 : j = padN m.length := by unfold padN at hj ⊢; omega
      subst hj2
      clear hPS h56 hj
      generalize hX : padJ m (padN m.length) = X at hoH hjl ⊢
      have HX := Lib.hid hX
      have hcv : IntKind.u64.wrap (m.length : Int) = (m.length : Int) := by simp [IntKind.wrap, IntKind.bits, IntKind.signed]; omega
      have HCV := Lib.hid hcv
      clear hcv
      go_upto_region 4 with (fail)
      refine wp_region_seq [3, 3, 3, 3, 3] (fun _ => True) (by rfl) (by rfl) trivial ?_
      simp only [List.zip_cons_cons, List.zip_nil_right]
      refine wpPi_move _ rfl rfl ?_
      simp only [pl, pn, el, ec, sz, ss, gz, gs, if_true, if_false, Bool.false_eq_true, Bool.not_true, Bool.not_false, Nat.add_zero, Nat.zero_add, Nat.reduceAdd]
      refine wpPi_len _ _ _ _ _ rfl rfl rfl (by kernel_rfl) ?_
      simp only [pl, pn, el, ec, sz, ss, gz, gs, if_true, if_false, Bool.false_eq_true, Bool.not_true, Bool.not_false, Nat.add_zero, Nat.zero_add, Nat.reduceAdd]
      refine wpPi_any (v := .int .u64 (m.length : Int)) rfl (fun w' => exec_conv_uint 3 98 _ _ rfl rfl (by kernel_rfl) Tryz.underlying98 _ HCV.out) ?_
      simp only [pl, pn, el, ec, sz, ss, gz, gs, if_true, if_false, Bool.false_eq_true, Bool.not_true, Bool.not_false, Nat.add_zero, Nat.zero_add, Nat.reduceAdd]
      refine wpPi_any (v := .int .u64 ((m.length * 8 : Nat) : Int)) rfl (fun w' => exec_mul64 _ _ _ _ m.length 8 (m.length * 8) rfl rfl rfl rfl (by omega)) ?_
      simp only [pl, pn, el, ec, sz, ss, gz, gs, if_true, if_false, Bool.false_eq_true, Bool.not_true, Bool.not_false, Nat.add_zero, Nat.zero_add, Nat.reduceAdd]
      refine wpPi_assign _ rfl rfl ?_
      simp only [pl, pn, el, ec, sz, ss, gz, gs, if_true, if_false, Bool.false_eq_true, Bool.not_true, Bool.not_false, Nat.add_zero, Nat.zero_add, Nat.reduceAdd]
      refine wpPi_nil ?_
      go_wp2
      go_loopw [3, 5] (LenDRel w1 X m.length) (fun _ i _ => (intOf i + 1).toNat)
      case atStart => exact ⟨0, by omega, rfl, by simpa using hoH.out, hM⟩
      case round =>
        rename World => wq
        clear hoH hM hwr
        obtain ⟨k, hk, rfl, hob, hM⟩ := hrel
        obtain ⟨Y, hY⟩ : ∃ Y, X ++ (lenBytes m.length).take k = Y := ⟨_, rfl⟩
        rw [hY] at hob
        have hYl : Y.length = X.length + k := by rw [← hY, List.length_append, List.length_take, lenBytes_len]; omega
        have hoH := Lib.hid hob
        obtain ⟨ad2, cap2, rfl⟩ := hob.slice
        clear hob
        have hwq := hM.size
        by_cases hlt : k < 8
        · have hz : (0 : Int) ≤ 7 - (k : Int) := by omega
          have hstep : Y ++ [UInt8.ofNat (m.length * 8 / 2 ^ (56 - 8 * k))] = X ++ (lenBytes m.length).take (k + 1) := by rw [lenBytes_step m.length k hlt, ← hY, List.append_assoc]
          have HSTEP := Lib.hid hstep
          have HYY := Lib.hid hY
          clear hstep hY
          obtain ⟨y, hy⟩ : ∃ y, UInt8.ofNat (m.length * 8 / 2 ^ (56 - 8 * k)) = y := ⟨_, rfl⟩
          have HY := Lib.hid hy
          clear hy
          go_upto_region 8 with (fail)
          refine wp_region_seq [3, 3, 3, 3, 3, 3, 1, 1, 3] (fun _ => True) (by rfl) (by rfl) trivial ?_
          simp only [List.zip_cons_cons, List.zip_nil_right]
          refine wpPi_move _ rfl rfl ?_
          simp only [pl, pn, el, ec, sz, ss, gz, gs, if_true, if_false, Bool.false_eq_true, Bool.not_true, Bool.not_false, Nat.add_zero, Nat.zero_add, Nat.reduceAdd]
          refine wpPi_move _ rfl rfl ?_
          simp only [pl, pn, el, ec, sz, ss, gz, gs, if_true, if_false, Bool.false_eq_true, Bool.not_true, Bool.not_false, Nat.add_zero, Nat.zero_add, Nat.reduceAdd]
          refine wpPi_move _ rfl rfl ?_
          simp only [pl, pn, el, ec, sz, ss, gz, gs, if_true, if_false, Bool.false_eq_true, Bool.not_true, Bool.not_false, Nat.add_zero, Nat.zero_add, Nat.reduceAdd]
          refine wpPi_mulR _ _ _ _ 8 (7 - (k : Int)) ((56 - 8 * k : Nat) : Int) rfl rfl rfl rfl (by omega) (by omega) (by omega) ?_
          simp only [pl, pn, el, ec, sz, ss, gz, gs, if_true, if_false, Bool.false_eq_true, Bool.not_true, Bool.not_false, Nat.add_zero, Nat.zero_add, Nat.reduceAdd]
          refine wpPi_any (v := .int .u64 ((m.length * 8 / 2 ^ (56 - 8 * k) : Nat) : Int)) rfl (fun w' => exec_shr64 _ _ _ _ (m.length * 8) .i64 (56 - 8 * k) rfl rfl rfl (by omega) (by omega)) ?_
          simp only [pl, pn, el, ec, sz, ss, gz, gs, if_true, if_false, Bool.false_eq_true, Bool.not_true, Bool.not_false, Nat.add_zero, Nat.zero_add, Nat.reduceAdd]
          refine wpPi_any (v := byteV y) rfl (fun w' => by rw [← HY.out]; exact exec_byte_of_u64 _ _ _ _ rfl rfl (by kernel_rfl) Tryz.underlying5) ?_
          simp only [pl, pn, el, ec, sz, ss, gz, gs, if_true, if_false, Bool.false_eq_true, Bool.not_true, Bool.not_false, Nat.add_zero, Nat.zero_add, Nat.reduceAdd]
          refine wpPi_do rfl (fun K hK => ?_)
          refine wp_buildSlice1 25 5 _ (byteV y) (.int .u8 0) 1 (by rfl) (by rfl) Tryz.underlying25 (by kernel_rfl) (by omega) (by omega) (by rfl) (fun w7 hB7 hm7 hs7 => ?_)
          replace hB7 : w7.heap[wq.heap.size]? = some (.cells #[byteV y] 5 (0, 0)) := hB7
          refine hK _ _ trivial ?_
          clear hK K
          try simp only [pl, pn, el, ec, sz, ss, gz, gs, if_true, if_false, Bool.false_eq_true, Bool.not_true, Bool.not_false, Nat.add_zero, Nat.zero_add, Nat.reduceAdd]
          refine wpPi_do rfl (fun K hK => ?_)
          refine wp_bytes _ _ (by rfl) w1.heap.size _ Y (by rfl) (hoH.out.keep hm7 (fun _ _ => id)) (.slice (some ⟨wq.heap.size, 0, none⟩) 1 1) [y] (by rfl) (owns_src (owns_lit hB7)) (by simp; omega) (by omega) (fun v8 w8 ho8 hm8 => ?_)
          rw [← HY.out, HSTEP.out] at ho8
          have hM8 : Mod NoB w1 w8 := (hM.trans0 hm7).trans hm8 (fun k hk e => by have := (hoH.out.lt e).1; omega)
          refine hK _ _ trivial ?_
          clear hK K
          try simp only [pl, pn, el, ec, sz, ss, gz, gs, if_true, if_false, Bool.false_eq_true, Bool.not_true, Bool.not_false, Nat.add_zero, Nat.zero_add, Nat.reduceAdd]
          refine wpPi_assign _ rfl rfl ?_
          simp only [pl, pn, el, ec, sz, ss, gz, gs, if_true, if_false, Bool.false_eq_true, Bool.not_true, Bool.not_false, Nat.add_zero, Nat.zero_add, Nat.reduceAdd]
          refine wpPi_nil ?_
          clear hm8 hm7 hB7 hs7
          go_wp2
          go_roundw
          case rel => exact ⟨k + 1, by omega, by congr 1; omega, ho8, hM8⟩
          case measure => simp [intOf]; omega
        · have hz : ¬ (0 : Int) ≤ 7 - (k : Int) := by omega
          obtain rfl : k = 8 := by omega
          have hYX : padL m = Y := by
            rw [← hY, ← HX.out, List.take_of_length_le (by rw [lenBytes_len]; omega)]; rfl
          have hY64 : Y.length % 64 = 0 := by rw [← hYX]; exact (padL_len m).2
          have hYmax : Y.length ≤ 140737488355328 := by omega
          have HYX := Lib.hid hYX
          have hb1 : w.heap.size < w1.heap.size := hs1
          clear hY hYX hz hk
          go_upto_region 9 with (fail)
          refine wp_region_seq [1, 1, 1] (fun _ => True) (by rfl) (by rfl) trivial ?_
          simp only [List.zip_cons_cons, List.zip_nil_right]
          refine wpPi_do rfl (fun K hK => ?_)
          refine wp_exec (exec_build_of 92 _ _ (wordCells shaBegin.list) (by rfl) (by rfl) built8b) ?_
          refine hK _ _ trivial ?_
          clear hK K
          try simp only [pl, pn, el, ec, sz, ss, gz, gs, if_true, if_false, Bool.false_eq_true, Bool.not_true, Bool.not_false, Nat.add_zero, Nat.zero_add, Nat.reduceAdd]
          refine wpPi_do rfl (fun K hK => ?_)
          refine wp_alloc 92 _ (by rfl) w8Z (fun w7 hC6 hm7 hs7 => ?_)
          replace hC6 : w7.heap[wq.heap.size]? = some (.cells (wordCells (List.replicate 8 0)) 92 (0, 0)) := hC6
          refine hK _ _ trivial ?_
          clear hK K
          try simp only [pl, pn, el, ec, sz, ss, gz, gs, if_true, if_false, Bool.false_eq_true, Bool.not_true, Bool.not_false, Nat.add_zero, Nat.zero_add, Nat.reduceAdd]
          refine wpPi_do rfl (fun K hK => ?_)
          refine wp_storeA 92 _ _ wq.heap.size 0 (wordCells shaBegin.list) (by rfl) (by rfl) (by rfl) (wordCells_one _) 8 (by kernel_rfl) (by rw [wordCells_size]; rfl) _ _ hC6 (by rw [wordCells_size, wordCells_size]; simp [W8.list]) (fun w8 hD6 hm8 => ?_)
          rw [putRow_whole (by rw [wordCells_size, wordCells_size]; simp [W8.list])] at hD6
          refine hK _ _ trivial ?_
          clear hK K
          try simp only [pl, pn, el, ec, sz, ss, gz, gs, if_true, if_false, Bool.false_eq_true, Bool.not_true, Bool.not_false, Nat.add_zero, Nat.zero_add, Nat.reduceAdd]
          refine wpPi_nil ?_
          have hmq : Mod NoB wq w8 := hm7.transB hm8 (Nat.le_refl _)
          have hsl : Sl true w8 (fun k => k < wq.heap.size) 1 ByteC (.slice ad2 Y.length cap2) Y := ((hoH.out.sl).mono (G' := fun k => k < wq.heap.size) (fun k hk => hk.2.1) (fun _ _ h => h)).keep0 hmq
          have HSL := Lib.hid hsl
          have hcap2 : Y.length ≤ cap2 := by
            obtain ⟨a', c', e, h, -⟩ := hsl; cases e; exact h
          have hM8 : Mod NoB w1 w8 := hM.trans0 hmq
          clear hm7 hm8 hmq hoH hM hC6 hsl
          generalize hb6 : wq.heap.size = b6 at *
          go_wp2
          go_loopw [7] (BlkRel2 w8 b6 Y) (fun i _ => Y.length - (intOf i).toNat)
          case atStart => exact ⟨0, by omega, rfl, hD6, Mod.refl _ _⟩
          case round =>
            rename World => wv
            clear hD6
            obtain ⟨k, hk, rfl, hrow6, hM⟩ := hrel
            by_cases hz : ((64 * k : Nat) : Int) < (Y.length : Int)
            · have hlt : 64 * k + 64 ≤ Y.length := by omega
              have hslv := HSL.out.keepB hM (fun k hk => by have hk' : k < b6 := hk; omega)
              go_upto_region 13 with (fail)
              have hS : Mod NoB wv wv.drew := (Mod.refl _ _).drew
              refine wp_region_pi [(0, 0), (1, 3), (2, 3), (3, 3), (4, 3), (5, 3), (6, 1), (7, 2)] [7] (fun w' => Mod NoB wv w') (by kernel_rfl) (by kernel_rfl) (by kernel_rfl) (by kernel_rfl) (fun _ _ _ _ hd h => ⟨hd.trans h.1, h.2⟩) hS ?_
              simp only [List.map_cons, List.map_nil, List.getD_cons_zero, List.getD_cons_succ]
              refine wpPi_val rfl (fun w' hS => exec_loadA 92 _ (by rfl) b6 0 (by rfl) (wordCells (blocksL k shaBegin Y).list) (CellsAt.whole (hS.obj id hrow6)) _ Tryz.underlying92 rfl 8 (by kernel_rfl) (by rw [wordCells_size]; rfl)) ?_
              simp only [pl, pn, el, ec, sz, ss, gz, gs, if_true, if_false, Bool.false_eq_true, Bool.not_true, Bool.not_false, Nat.add_zero, Nat.zero_add, Nat.reduceAdd]
              refine wpPi_move _ rfl rfl ?_
              simp only [pl, pn, el, ec, sz, ss, gz, gs, if_true, if_false, Bool.false_eq_true, Bool.not_true, Bool.not_false, Nat.add_zero, Nat.zero_add, Nat.reduceAdd]
              refine wpPi_move _ rfl rfl ?_
              simp only [pl, pn, el, ec, sz, ss, gz, gs, if_true, if_false, Bool.false_eq_true, Bool.not_true, Bool.not_false, Nat.add_zero, Nat.zero_add, Nat.reduceAdd]
              refine wpPi_move _ rfl rfl ?_
              simp only [pl, pn, el, ec, sz, ss, gz, gs, if_true, if_false, Bool.false_eq_true, Bool.not_true, Bool.not_false, Nat.add_zero, Nat.zero_add, Nat.reduceAdd]
              refine wpPi_addR _ _ _ _ ((64 * k : Nat) : Int) 64 ((64 * k + 64 : Nat) : Int) rfl rfl rfl rfl (by omega) (by omega) (by omega) ?_
              simp only [pl, pn, el, ec, sz, ss, gz, gs, if_true, if_false, Bool.false_eq_true, Bool.not_true, Bool.not_false, Nat.add_zero, Nat.zero_add, Nat.reduceAdd]
              refine wpPi_sliceLH 25 5 _ _ _ _ _ _ (64 * k) (64 * k + 64) 1 rfl rfl rfl rfl rfl Tryz.underlying25 (by kernel_rfl) (by omega) (by omega) ?_
              simp only [pl, pn, el, ec, sz, ss, gz, gs, if_true, if_false, Bool.false_eq_true, Bool.not_true, Bool.not_false, Nat.add_zero, Nat.zero_add, Nat.reduceAdd]
              refine wpPi_do rfl (fun K hK => ?_)
              refine wp_enter (run_call 65 [.tmp 46, .tmp 51] _ rfl _ Tryz.func65 rfl (by kernel_rfl) [.agg (wordCells (blocksL k shaBegin Y).list), sliced ad2 (64 * k) (64 * k + 64) cap2 1] rfl _) (refBlock_any ((hslv.keep0 hS).mid (64 * k) (64 * k + 64) (by omega) hlt) (by rw [List.length_take, List.length_drop]; omega)) (fun w9 hm9 => ?_)
              have hS9 := hS.trans0 hm9
              refine hK _ _ hS9 ?_
              clear hK K
              try simp only [pl, pn, el, ec, sz, ss, gz, gs, if_true, if_false, Bool.false_eq_true, Bool.not_true, Bool.not_false, Nat.add_zero, Nat.zero_add, Nat.reduceAdd]
              refine wpPi_last rfl (fun K hK => ?_)
              refine wp_storeA 92 _ _ b6 0 (wordCells (blockL (blocksL k shaBegin Y) ((Y.drop (64 * k)).take (64 * k + 64 - 64 * k))).list) (by rfl) (by rfl) (by rfl) (wordCells_one _) 8 (by kernel_rfl) (by rw [wordCells_size]; rfl) _ _ (hS9.obj id hrow6) (by rw [wordCells_size, wordCells_size]; simp [W8.list]) (fun wa hBa hma => ?_)
              rw [putRow_whole (by rw [wordCells_size, wordCells_size]; simp [W8.list])] at hBa
              refine hK _ _ ?_
              clear hK K
              try simp only [pl, pn, el, ec, sz, ss, gz, gs, if_true, if_false, Bool.false_eq_true, Bool.not_true, Bool.not_false, Nat.add_zero, Nat.zero_add, Nat.reduceAdd]
              refine wpPi_nil ?_
              have hMa : Mod (fun q => q = b6) w8 wa := (hM.trans hS9 (fun _ _ h => h.elim)).trans hma (fun _ _ h => h)
              have hblk : blockL (blocksL k shaBegin Y) ((Y.drop (64 * k)).take (64 * k + 64 - 64 * k)) = blocksL (k + 1) shaBegin Y := by
                rw [blocksL_add, Nat.add_sub_cancel_left]; rfl
              rw [hblk] at hBa
              clear hma hS9 hm9 hM hS hrow6 hblk hslv
              go_wp2
              go_roundw
              case rel => exact ⟨k + 1, by omega, by congr 1 <;> omega, hBa, hMa⟩
              case measure => simp [intOf]; omega
            · have hkk : Y.length / 64 = k := by omega
              obtain ⟨c, hc⟩ : ∃ c, blocksL k shaBegin Y = c := ⟨_, rfl⟩
              rw [hc] at hrow6
              have HSH : Hid (shaL m = outL c) := by
                show shaL m = outL c
                unfold shaL; rw [HYX.out, hkk, hc]
              have hMv : Mod NoB w1 wv := hM8.transB hM (by omega)
              replace hB1 := hMv.obj id hB1
              have hMw : Mod NoB w wv := hm1.trans0 hMv
              have hv := hMv.size
              have hb6v : b6 < wv.heap.size := by
                rcases Nat.lt_or_ge b6 wv.heap.size with h | h
                · exact h
                · rw [Array.getElem?_eq_none h] at hrow6; cases hrow6
              clear hc hkk hk hY64 hM
              go_upto_region 14 with (fail)
              refine wp_region_seq [1] (fun _ => True) (by rfl) (by rfl) trivial ?_
              simp only [List.zip_cons_cons, List.zip_nil_right]
              refine wpPi_do rfl (fun K hK => ?_)
              refine wp_alloc 24 _ (by rfl) idZ (fun w9 hB8 hm9 hs9 => ?_)
              replace hB8 : w9.heap[wv.heap.size]? = some (.cells (idCells (List.replicate 32 0)) 24 (0, 0)) := hB8
              refine hK _ _ trivial ?_
              clear hK K
              try simp only [pl, pn, el, ec, sz, ss, gz, gs, if_true, if_false, Bool.false_eq_true, Bool.not_true, Bool.not_false, Nat.add_zero, Nat.zero_add, Nat.reduceAdd]
              refine wpPi_nil ?_
              replace hB1 := hm9.obj id hB1
              replace hrow6 := hm9.obj id hrow6
              replace hMw := hMw.trans0 hm9
              have hr8 : w9.heap[wv.heap.size]? = some (.cells (outRow c 0) 24 (0, 0)) := by
                have e : outRow c 0 = idCells (List.replicate 32 0) := by simp [outRow]
                rw [e]; exact hB8
              clear hB8 hm9
              generalize hb8 : wv.heap.size = b8 at *
              go_wp2
              go_loopw [9] (OutRel2 w9 b8 b6 c) (fun i _ => 32 - (intOf i).toNat)
              case atStart => exact ⟨0, by omega, rfl, hr8, hrow6, Mod.refl _ _⟩
              case round =>
                rename World => wu
                clear hr8 hrow6
                obtain ⟨i, hi, rfl, hr8, hrow6, hMu⟩ := hrel
                have hosz := outRow_size c i hi
                by_cases hlt : i < 32
                · have hzi : (i : Int) < 32 := by omega
                  have HST := Lib.hid (outRow_step c i hlt)
                  have hq4 : i / 4 < 8 := by omega
                  have hw4 := word8 hrow6 (i / 4) hq4
                  obtain ⟨x, hx⟩ : ∃ x, c.list.getD (i / 4) 0 = x := ⟨_, rfl⟩
                  rw [hx] at hw4
                  have hy : UInt8.ofNat (shrU x (24 - 8 * (i % 4))).toNat = outByte c i := by unfold outByte; rw [hx]
                  have HY := Lib.hid hy
                  clear hy hx
                  generalize outByte c i = y at *
                  go_upto_region 18 with (fail)
                  refine wp_region_seq [3, 3, 3, 3, 1, 3, 3, 3, 3, 3, 3, 3, 1] (fun _ => True) (by rfl) (by rfl) trivial ?_
                  simp only [List.zip_cons_cons, List.zip_nil_right]
                  refine wpPi_move _ rfl rfl ?_
                  simp only [pl, pn, el, ec, sz, ss, gz, gs, if_true, if_false, Bool.false_eq_true, Bool.not_true, Bool.not_false, Nat.add_zero, Nat.zero_add, Nat.reduceAdd]
                  refine wpPi_move _ rfl rfl ?_
                  simp only [pl, pn, el, ec, sz, ss, gz, gs, if_true, if_false, Bool.false_eq_true, Bool.not_true, Bool.not_false, Nat.add_zero, Nat.zero_add, Nat.reduceAdd]
                  refine wpPi_quoR _ _ _ _ (i : Int) 4 ((i / 4 : Nat) : Int) rfl rfl rfl rfl (by rw [Int.tdiv_eq_ediv_of_nonneg (by omega)]; omega) (by omega) (by omega) (by omega) ?_
                  simp only [pl, pn, el, ec, sz, ss, gz, gs, if_true, if_false, Bool.false_eq_true, Bool.not_true, Bool.not_false, Nat.add_zero, Nat.zero_add, Nat.reduceAdd]
                  refine wpPi_indexA _ _ _ _ _ _ _ _ rfl rfl rfl rfl Tryz.underlying92 (n := 1) (by kernel_rfl) hq4 ?_
                  simp only [pl, pn, el, ec, sz, ss, gz, gs, if_true, if_false, Bool.false_eq_true, Bool.not_true, Bool.not_false, Nat.add_zero, Nat.zero_add, Nat.reduceAdd]
                  refine wpPi_do rfl (fun K hK => ?_)
                  refine wp_exec (exec_load1 91 _ (by rfl) b6 (i / 4 * 1) (by rfl) (wordV x) (by rw [Nat.mul_one]; exact hw4) _ Tryz.underlying91 rfl) ?_
                  refine hK _ _ trivial ?_
                  clear hK K
                  try simp only [pl, pn, el, ec, sz, ss, gz, gs, if_true, if_false, Bool.false_eq_true, Bool.not_true, Bool.not_false, Nat.add_zero, Nat.zero_add, Nat.reduceAdd]
                  refine wpPi_move _ rfl rfl ?_
                  simp only [pl, pn, el, ec, sz, ss, gz, gs, if_true, if_false, Bool.false_eq_true, Bool.not_true, Bool.not_false, Nat.add_zero, Nat.zero_add, Nat.reduceAdd]
                  refine wpPi_remR _ _ _ _ (i : Int) 4 ((i % 4 : Nat) : Int) rfl rfl rfl rfl (by omega) (by omega) (by omega) ?_
                  simp only [pl, pn, el, ec, sz, ss, gz, gs, if_true, if_false, Bool.false_eq_true, Bool.not_true, Bool.not_false, Nat.add_zero, Nat.zero_add, Nat.reduceAdd]
                  refine wpPi_mulR _ _ _ _ 8 ((i % 4 : Nat) : Int) ((8 * (i % 4) : Nat) : Int) rfl rfl rfl rfl (by omega) (by omega) (by omega) ?_
                  simp only [pl, pn, el, ec, sz, ss, gz, gs, if_true, if_false, Bool.false_eq_true, Bool.not_true, Bool.not_false, Nat.add_zero, Nat.zero_add, Nat.reduceAdd]
                  refine wpPi_subR _ _ _ _ 24 ((8 * (i % 4) : Nat) : Int) ((24 - 8 * (i % 4) : Nat) : Int) rfl rfl rfl rfl (by omega) (by omega) (by omega) ?_
                  simp only [pl, pn, el, ec, sz, ss, gz, gs, if_true, if_false, Bool.false_eq_true, Bool.not_true, Bool.not_false, Nat.add_zero, Nat.zero_add, Nat.reduceAdd]
                  refine wpPi_shr32 _ _ _ _ _ .i64 (24 - 8 * (i % 4)) rfl rfl rfl rfl (by omega) ?_
                  simp only [pl, pn, el, ec, sz, ss, gz, gs, if_true, if_false, Bool.false_eq_true, Bool.not_true, Bool.not_false, Nat.add_zero, Nat.zero_add, Nat.reduceAdd]
                  refine wpPi_any (v := byteV y) rfl (fun w' => by rw [← HY.out]; exact exec_byte_of_word _ _ _ _ rfl rfl (by kernel_rfl) Tryz.underlying5) ?_
                  simp only [pl, pn, el, ec, sz, ss, gz, gs, if_true, if_false, Bool.false_eq_true, Bool.not_true, Bool.not_false, Nat.add_zero, Nat.zero_add, Nat.reduceAdd]
                  refine wpPi_indexA _ _ _ _ _ _ _ _ rfl rfl rfl rfl Tryz.underlying24 (n := 1) (by kernel_rfl) hlt ?_
                  simp only [pl, pn, el, ec, sz, ss, gz, gs, if_true, if_false, Bool.false_eq_true, Bool.not_true, Bool.not_false, Nat.add_zero, Nat.zero_add, Nat.reduceAdd]
                  refine wpPi_do rfl (fun K hK => ?_)
                  refine wp_store1 5 _ _ b8 (i * 1) (byteV y) (by rfl) (by rfl) (by rfl) rfl (by kernel_rfl) _ _ hr8 (by rw [hosz]; omega) (fun wb hBb hmb => ?_)
                  rw [Nat.mul_one, HST.out] at hBb
                  have hrowb := hmb.objB (by omega) hrow6
                  have hMb : Mod (fun q => q = b8) w9 wb := hMu.trans hmb (fun _ _ h => h)
                  refine hK _ _ trivial ?_
                  clear hK K
                  try simp only [pl, pn, el, ec, sz, ss, gz, gs, if_true, if_false, Bool.false_eq_true, Bool.not_true, Bool.not_false, Nat.add_zero, Nat.zero_add, Nat.reduceAdd]
                  refine wpPi_nil ?_
                  clear hmb hr8 hrow6 hw4
                  go_wp2
                  go_roundw
                  case rel => exact ⟨i + 1, by omega, by go_num, hBb, hrowb, hMb⟩
                  case measure => simp [intOf]; omega
                · have hzi : ¬ (i : Int) < 32 := by omega
                  obtain rfl : i = 32 := by omega
                  have hout : outRow c 32 = idCells (outL c) := by simp [outRow, List.take_of_length_le (Nat.le_of_eq (outL_len c))]
                  rw [hout] at hr8 hosz
                  have hB1u := hMu.objB (by omega) hB1
                  go_upto_region 19 with (fail)
                  refine wp_region_seq [1, 1] (fun _ => True) (by rfl) (by rfl) trivial ?_
                  simp only [List.zip_cons_cons, List.zip_nil_right]
                  refine wpPi_do rfl (fun K hK => ?_)
                  refine wp_exec (exec_loadA 24 _ (by rfl) b8 0 (by rfl) (idCells (outL c)) (CellsAt.whole hr8) _ Tryz.underlying24 rfl 32 (by kernel_rfl) hosz) ?_
                  refine hK _ _ trivial ?_
                  clear hK K
                  try simp only [pl, pn, el, ec, sz, ss, gz, gs, if_true, if_false, Bool.false_eq_true, Bool.not_true, Bool.not_false, Nat.add_zero, Nat.zero_add, Nat.reduceAdd]
                  refine wpPi_do rfl (fun K hK => ?_)
                  refine wp_storeA 24 _ _ w.heap.size 0 (idCells (outL c)) (by rfl) (by rfl) (by rfl) (idCells_one _) 32 (by kernel_rfl) hosz _ _ hB1u (by rw [hosz, idCells_size]; simp) (fun wb hBb hmb => ?_)
                  rw [putRow_whole (by rw [hosz, idCells_size]; rfl)] at hBb
                  refine hK _ _ trivial ?_
                  clear hK K
                  try simp only [pl, pn, el, ec, sz, ss, gz, gs, if_true, if_false, Bool.false_eq_true, Bool.not_true, Bool.not_false, Nat.add_zero, Nat.zero_add, Nat.reduceAdd]
                  refine wpPi_nil ?_
                  have hMb : Mod NoB w wb := (hMw.transB hMu (by omega)).transB hmb (Nat.le_refl _)
                  clear hmb hr8 hrow6 hMu
                  go_wp2
                  refine bodyPost_ret (results_cell_row rfl _ _ w.heap.size _ _ _ _ (by rfl) hBb Tryz.underlying24 rfl (by rw [hosz]; kernel_rfl)) rfl ?_
                  exact ⟨by rw [HSH.out], hMb⟩
    · obtain ⟨q, hq⟩ : ∃ q : Nat, ((padJ m j).length + 8) % 64 = q := ⟨_, rfl⟩
      have hq56 : q ≠ 0 := by rw [← hq, hjl]; exact h56
      refine wp_region_seq [3, 3, 3, 3, 3] (fun _ => True) (by rfl) (by rfl) trivial ?_
      simp only [List.zip_cons_cons, List.zip_nil_right]
      refine wpPi_move _ rfl rfl ?_
      simp only [pl, pn, el, ec, sz, ss, gz, gs, if_true, if_false, Bool.false_eq_true, Bool.not_true, Bool.not_false, Nat.add_zero, Nat.zero_add, Nat.reduceAdd]
      refine wpPi_len _ _ _ _ _ rfl rfl rfl (by kernel_rfl) ?_
      simp only [pl, pn, el, ec, sz, ss, gz, gs, if_true, if_false, Bool.false_eq_true, Bool.not_true, Bool.not_false, Nat.add_zero, Nat.zero_add, Nat.reduceAdd]
      refine wpPi_addR _ _ _ _ ((padJ m j).length : Int) 8 (((padJ m j).length + 8 : Nat) : Int) rfl rfl rfl rfl (by omega) (by omega) (by omega) ?_
      simp only [pl, pn, el, ec, sz, ss, gz, gs, if_true, if_false, Bool.false_eq_true, Bool.not_true, Bool.not_false, Nat.add_zero, Nat.zero_add, Nat.reduceAdd]
      refine wpPi_remR _ _ _ _ (((padJ m j).length + 8 : Nat) : Int) 64 (q : Int) rfl rfl rfl rfl (by omega) (by omega) (by omega) ?_
      simp only [pl, pn, el, ec, sz, ss, gz, gs, if_true, if_false, Bool.false_eq_true, Bool.not_true, Bool.not_false, Nat.add_zero, Nat.zero_add, Nat.reduceAdd]
      refine wpPi_cmp _ _ _ _ _ _ _ _ rfl rfl rfl rfl rfl true (by simp [cmpB]; omega) ?_
      simp only [pl, pn, el, ec, sz, ss, gz, gs, if_true, if_false, Bool.false_eq_true, Bool.not_true, Bool.not_false, Nat.add_zero, Nat.zero_add, Nat.reduceAdd]
      refine wpPi_nil ?_
      have hjlt : j < padN m.length := by
        rcases Nat.lt_or_ge j (padN m.length) with h | h
        · exact h
        · exfalso; unfold padN at hj h hpad; omega
      go_upto_region 3 with (fail)
      refine wp_region_seq [3, 1, 1, 3] (fun _ => True) (by rfl) (by rfl) trivial ?_
      simp only [List.zip_cons_cons, List.zip_nil_right]
      refine wpPi_move _ rfl rfl ?_
      simp only [pl, pn, el, ec, sz, ss, gz, gs, if_true, if_false, Bool.false_eq_true, Bool.not_true, Bool.not_false, Nat.add_zero, Nat.zero_add, Nat.reduceAdd]
      refine wpPi_do rfl (fun K hK => ?_)
      refine wp_buildSlice1 25 5 _ (byteV 0) (.int .u8 0) 1 (by rfl) (by rfl) Tryz.underlying25 (by kernel_rfl) (by omega) (by omega) (by rfl) (fun w7 hB7 hm7 hs7 => ?_)
      replace hB7 : w7.heap[wr.heap.size]? = some (.cells #[byteV 0] 5 (0, 0)) := hB7
      refine hK _ _ trivial ?_
      clear hK K
      try simp only [pl, pn, el, ec, sz, ss, gz, gs, if_true, if_false, Bool.false_eq_true, Bool.not_true, Bool.not_false, Nat.add_zero, Nat.zero_add, Nat.reduceAdd]
      refine wpPi_do rfl (fun K hK => ?_)
      refine wp_bytes _ _ (by rfl) w1.heap.size _ (padJ m j) (by rfl) (hoH.out.keep hm7 (fun _ _ => id)) (.slice (some ⟨wr.heap.size, 0, none⟩) 1 1) [0] (by rfl) (owns_src (owns_lit hB7)) (by simp; omega) (by omega) (fun v8 w8 ho8 hm8 => ?_)
      rw [hPS.out] at ho8
      have hM8 : Mod NoB w1 w8 := (hM.trans0 hm7).trans hm8 (fun k hk e => by have := (hoH.out.lt e).1; omega)
      refine hK _ _ trivial ?_
      clear hK K
      try simp only [pl, pn, el, ec, sz, ss, gz, gs, if_true, if_false, Bool.false_eq_true, Bool.not_true, Bool.not_false, Nat.add_zero, Nat.zero_add, Nat.reduceAdd]
      refine wpPi_assign _ rfl rfl ?_
      simp only [pl, pn, el, ec, sz, ss, gz, gs, if_true, if_false, Bool.false_eq_true, Bool.not_true, Bool.not_false, Nat.add_zero, Nat.zero_add, Nat.reduceAdd]
      refine wpPi_nil ?_
      have hME : Hid (padM (lenV v8) < padM (padJ m j).length) := by
        show _ < _
        rw [ho8.len, padJ_len, padJ_len]
        unfold padM
        omega
      have HR : Hid (PadRel w1 m v8 w8) := ⟨j + 1, hjlt, ho8, hM8⟩
      clear ho8 hM8 hm8 hm7 hB7
      go_wp2
      go_roundw
      case rel => exact HR.out
      case measure => exact hME.out
end Go.Proofs.YtchkikmmcmjcgaaGreat

/- The document's tree: right, two, one, leaves, parts. (Printed by RtrA.gen.py.) -/
namespace Go.Proofs.YtchkikmmcmjcgaaGreat
set_option linter.unusedSimpArgs false
set_option linter.unusedVariables false
set_option linter.unnecessarySimpa false
set_option linter.unusedSectionVars false
open Go.RowKit Go.Shelf

theorem fo_63_1 : fieldOff Tryz.prog 63 1 = some 1 := by kernel_rfl
theorem fo_63_2 : fieldOff Tryz.prog 63 2 = some 33 := by kernel_rfl
set_option maxRecDepth 10000 in
theorem refRight_any (way : List UInt8) (hw : way.length = 32) (i : Nat) (hi : i < 256) (w : World) : Calls Tryz.prog 30 #[.agg (idCells way), .int .i64 (i : Int)] w (RetM (.bool (bitAt way i)) w) := by
  have hsz : (idCells way).size = 32 := by rw [idCells_size, hw]
  have hq : i / 8 < 32 := by omega
  have hc : (idCells way)[i / 8]? = some (byteV (way.getD (i / 8) 0)) := by
    simp [idCells, List.getD_eq_getElem?_getD, hw, hq]
  have hbit : bitAt way i = decide ((((way.getD (i / 8) 0).toNat / 2 ^ (7 - i % 8) % 2 : Nat) : Int) = 1) := by unfold bitAt; rw [decide_eq_decide]; omega
  rw [hbit]
  have hx256 := UInt8.toNat_lt (way.getD (i / 8) 0)
  obtain ⟨C, hC⟩ : ∃ C, idCells way = C := ⟨_, rfl⟩
  rw [hC] at hsz hc ⊢
  generalize way.getD (i / 8) 0 = x at *
  have HCV := Lib.hid (show IntKind.u64.wrap ((7 - i % 8 : Nat) : Int) = ((7 - i % 8 : Nat) : Int) by simp [IntKind.wrap, IntKind.bits, IntKind.signed]; omega)
  clear hC hbit
  go_enter Tryz.func30, Tryz.ntmps30
  go_upto_region 0 with (fail)
  refine wp_region_seq [1, 3] (fun _ => True) (by rfl) (by rfl) trivial ?_
  simp only [List.zip_cons_cons, List.zip_nil_right]
  refine wpPi_do rfl (fun K hK => ?_)
  refine wp_box 24 _ _ (by rfl) (by rfl) (fun w1 hB1 hm1 hs1 => ?_)
  replace hB1 : w1.heap[w.heap.size]? = some (.cells C 24 (0, 0)) := hB1
  refine hK _ _ trivial ?_
  clear hK K
  try simp only [pl, pn, el, ec, sz, ss, gz, gs, if_true, if_false, Bool.false_eq_true, Bool.not_true, Bool.not_false, Nat.add_zero, Nat.zero_add, Nat.reduceAdd]
  refine wpPi_assign _ rfl rfl ?_
  simp only [pl, pn, el, ec, sz, ss, gz, gs, if_true, if_false, Bool.false_eq_true, Bool.not_true, Bool.not_false, Nat.add_zero, Nat.zero_add, Nat.reduceAdd]
  refine wpPi_nil ?_
  have hcell := (CellsAt.whole hB1).cell hc
  generalize hb1 : w.heap.size = b1 at *
  clear hB1 hc
  go_upto_region 1 with (fail)
  refine wp_region_seq [3, 3, 3, 1, 3, 3, 3, 3, 3, 3, 3, 3] (fun _ => True) (by rfl) (by rfl) trivial ?_
  simp only [List.zip_cons_cons, List.zip_nil_right]
  refine wpPi_move _ rfl rfl ?_
  simp only [pl, pn, el, ec, sz, ss, gz, gs, if_true, if_false, Bool.false_eq_true, Bool.not_true, Bool.not_false, Nat.add_zero, Nat.zero_add, Nat.reduceAdd]
  refine wpPi_quoR _ _ _ _ (i : Int) 8 ((i / 8 : Nat) : Int) rfl rfl rfl rfl (by rw [Int.tdiv_eq_ediv_of_nonneg (by omega)]; omega) (by omega) (by omega) (by omega) ?_
  simp only [pl, pn, el, ec, sz, ss, gz, gs, if_true, if_false, Bool.false_eq_true, Bool.not_true, Bool.not_false, Nat.add_zero, Nat.zero_add, Nat.reduceAdd]
  refine wpPi_indexA _ _ _ _ _ _ _ _ rfl rfl rfl rfl Tryz.underlying24 (n := 1) (by kernel_rfl) hq ?_
  simp only [pl, pn, el, ec, sz, ss, gz, gs, if_true, if_false, Bool.false_eq_true, Bool.not_true, Bool.not_false, Nat.add_zero, Nat.zero_add, Nat.reduceAdd]
  refine wpPi_do rfl (fun K hK => ?_)
  refine wp_exec (exec_load1 5 _ (by rfl) b1 (i / 8 * 1) (by rfl) (byteV x) (by rw [Nat.mul_one]; rw [Nat.zero_add] at hcell; exact hcell) _ Tryz.underlying5 rfl) ?_
  refine hK _ _ trivial ?_
  clear hK K
  try simp only [pl, pn, el, ec, sz, ss, gz, gs, if_true, if_false, Bool.false_eq_true, Bool.not_true, Bool.not_false, Nat.add_zero, Nat.zero_add, Nat.reduceAdd]
  refine wpPi_move _ rfl rfl ?_
  simp only [pl, pn, el, ec, sz, ss, gz, gs, if_true, if_false, Bool.false_eq_true, Bool.not_true, Bool.not_false, Nat.add_zero, Nat.zero_add, Nat.reduceAdd]
  refine wpPi_remR _ _ _ _ (i : Int) 8 ((i % 8 : Nat) : Int) rfl rfl rfl rfl (by omega) (by omega) (by omega) ?_
  simp only [pl, pn, el, ec, sz, ss, gz, gs, if_true, if_false, Bool.false_eq_true, Bool.not_true, Bool.not_false, Nat.add_zero, Nat.zero_add, Nat.reduceAdd]
  refine wpPi_subR _ _ _ _ 7 ((i % 8 : Nat) : Int) ((7 - i % 8 : Nat) : Int) rfl rfl rfl rfl (by omega) (by omega) (by omega) ?_
  simp only [pl, pn, el, ec, sz, ss, gz, gs, if_true, if_false, Bool.false_eq_true, Bool.not_true, Bool.not_false, Nat.add_zero, Nat.zero_add, Nat.reduceAdd]
  refine wpPi_any (v := .int .u64 ((7 - i % 8 : Nat) : Int)) rfl (fun w' => exec_conv_uint 3 87 _ _ rfl rfl (by kernel_rfl) Tryz.underlying87 _ HCV.out) ?_
  simp only [pl, pn, el, ec, sz, ss, gz, gs, if_true, if_false, Bool.false_eq_true, Bool.not_true, Bool.not_false, Nat.add_zero, Nat.zero_add, Nat.reduceAdd]
  refine wpPi_any (v := .int .u8 ((x.toNat / 2 ^ (7 - i % 8) : Nat) : Int)) rfl (fun w' => exec_shr8 _ _ _ _ x.toNat .u64 (7 - i % 8) rfl rfl rfl (by omega) hx256) ?_
  simp only [pl, pn, el, ec, sz, ss, gz, gs, if_true, if_false, Bool.false_eq_true, Bool.not_true, Bool.not_false, Nat.add_zero, Nat.zero_add, Nat.reduceAdd]
  refine wpPi_any (v := .int .u8 ((x.toNat / 2 ^ (7 - i % 8) % 2 : Nat) : Int)) rfl (fun w' => exec_and1 _ _ _ _ (x.toNat / 2 ^ (7 - i % 8)) rfl rfl rfl (Nat.lt_of_le_of_lt (Nat.div_le_self _ _) hx256)) ?_
  simp only [pl, pn, el, ec, sz, ss, gz, gs, if_true, if_false, Bool.false_eq_true, Bool.not_true, Bool.not_false, Nat.add_zero, Nat.zero_add, Nat.reduceAdd]
  refine wpPi_cmp _ _ _ _ _ _ _ _ rfl rfl rfl rfl rfl _ rfl ?_
  simp only [pl, pn, el, ec, sz, ss, gz, gs, if_true, if_false, Bool.false_eq_true, Bool.not_true, Bool.not_false, Nat.add_zero, Nat.zero_add, Nat.reduceAdd]
  refine wpPi_assign _ rfl rfl ?_
  simp only [pl, pn, el, ec, sz, ss, gz, gs, if_true, if_false, Bool.false_eq_true, Bool.not_true, Bool.not_false, Nat.add_zero, Nat.zero_add, Nat.reduceAdd]
  refine wpPi_nil ?_
  go_wp2
  go_ret
  exact ⟨rfl, hm1⟩
set_option maxRecDepth 10000 in
theorem refTwo_any (a b : List UInt8) (ha : a.length = 32) (hb : b.length = 32) (w : World) : Calls Tryz.prog 36 #[.agg (idCells a), .agg (idCells b)] w (RetM (.agg (idCells (twoD a b))) w) := by
  have HIS := Lib.hid (two_is a b)
  have hrs : (idCells (twoD a b)).size = 32 := by rw [idCells_size]; exact shaL_len _
  obtain ⟨C, hC⟩ : ∃ C, idCells a = C := ⟨_, rfl⟩
  obtain ⟨D, hD⟩ : ∃ D, idCells b = D := ⟨_, rfl⟩
  have HCC := Lib.hid hC
  have HDD := Lib.hid hD
  rw [hC, hD]
  clear hC hD
  go_enter Tryz.func36, Tryz.ntmps36
  go_upto_region 0 with (fail)
  refine wp_region_seq [1, 1, 1] (fun _ => True) (by rfl) (by rfl) trivial ?_
  simp only [List.zip_cons_cons, List.zip_nil_right]
  refine wpPi_do rfl (fun K hK => ?_)
  refine wp_box 24 _ _ (by rfl) (by rfl) (fun w1 hB1 hm1 hs1 => ?_)
  replace hB1 : w1.heap[w.heap.size]? = some (.cells C 24 (0, 0)) := hB1
  refine hK _ _ trivial ?_
  clear hK K
  try simp only [pl, pn, el, ec, sz, ss, gz, gs, if_true, if_false, Bool.false_eq_true, Bool.not_true, Bool.not_false, Nat.add_zero, Nat.zero_add, Nat.reduceAdd]
  refine wpPi_do rfl (fun K hK => ?_)
  refine wp_box 24 _ _ (by rfl) (by rfl) (fun w2 hB2 hm2 hs2 => ?_)
  replace hB2 : w2.heap[w1.heap.size]? = some (.cells D 24 (0, 0)) := hB2
  refine hK _ _ trivial ?_
  clear hK K
  try simp only [pl, pn, el, ec, sz, ss, gz, gs, if_true, if_false, Bool.false_eq_true, Bool.not_true, Bool.not_false, Nat.add_zero, Nat.zero_add, Nat.reduceAdd]
  refine wpPi_do rfl (fun K hK => ?_)
  refine wp_alloc 24 _ (by rfl) idZ (fun w3 hB hm3 hs3 => ?_)
  replace hB : w3.heap[w2.heap.size]? = some (.cells (idCells (List.replicate 32 0)) 24 (0, 0)) := hB
  refine hK _ _ trivial ?_
  clear hK K
  try simp only [pl, pn, el, ec, sz, ss, gz, gs, if_true, if_false, Bool.false_eq_true, Bool.not_true, Bool.not_false, Nat.add_zero, Nat.zero_add, Nat.reduceAdd]
  refine wpPi_nil ?_
  have hC1 := hm3.obj id (hm2.obj id hB1)
  have hC2 := hm3.obj id hB2
  rw [← HCC.out] at hC1
  rw [← HDD.out] at hC2
  have hW := id_slice hC1 ha
  have hV := id_slice hC2 hb
  have hM2 := (hm1.trans0 hm2).trans0 hm3
  have hlt : w.heap.size ≤ w2.heap.size := by omega
  generalize hb1 : w.heap.size = b1 at *
  generalize hb2 : w1.heap.size = b2 at *
  generalize hb3 : w2.heap.size = b3 at *
  clear hC1 hC2 hB1 hB2 hm1 hm2 hm3
  go_upto_region 1 with (fail)
  refine wp_region_pi [(1, 3), (3, 3), (0, 1), (2, 1), (4, 1), (5, 1), (6, 1)] [] (fun _ => True) (by kernel_rfl) (by kernel_rfl) (by kernel_rfl) (by kernel_rfl) (fun _ _ _ _ hd h => ⟨hd.trans h.1, h.2⟩) trivial ?_
  simp only [List.map_cons, List.map_nil, List.getD_cons_zero, List.getD_cons_succ]
  refine wpPi_sliceArr 24 5 _ _ _ 32 rfl rfl rfl Tryz.underlying24 (by kernel_rfl) ?_
  simp only [pl, pn, el, ec, sz, ss, gz, gs, if_true, if_false, Bool.false_eq_true, Bool.not_true, Bool.not_false, Nat.add_zero, Nat.zero_add, Nat.reduceAdd]
  refine wpPi_sliceArr 24 5 _ _ _ 32 rfl rfl rfl Tryz.underlying24 (by kernel_rfl) ?_
  simp only [pl, pn, el, ec, sz, ss, gz, gs, if_true, if_false, Bool.false_eq_true, Bool.not_true, Bool.not_false, Nat.add_zero, Nat.zero_add, Nat.reduceAdd]
  refine wpPi_do rfl (fun K hK => ?_)
  refine wp_byteAt _ 2 (by rfl) (by rfl) w3.heap.size (Nat.le_refl _) (fun v45 wa hob hbt hma => ?_)
  refine hK _ _ trivial ?_
  clear hK K
  try simp only [pl, pn, el, ec, sz, ss, gz, gs, if_true, if_false, Bool.false_eq_true, Bool.not_true, Bool.not_false, Nat.add_zero, Nat.zero_add, Nat.reduceAdd]
  refine wpPi_do rfl (fun K hK => ?_)
  have hU : Mod NoB w3 wa := (Mod.refl _ _).drew.trans0 hma
  refine wp_bytes _ _ (by rfl) w3.heap.size _ [2] (by rfl) hbt _ a (by rfl) (by have := (hW.keep0 hU).bsrc; rwa [ha] at this ⊢) (by rw [ha]; simp) hU.size (fun v47 wb hbu hmb => ?_)
  replace hU : Mod NoB w3 wb := hU.trans hmb (fun k hk e => by have := (hbt.lt e).1; omega)
  refine hK _ _ trivial ?_
  clear hK K
  try simp only [pl, pn, el, ec, sz, ss, gz, gs, if_true, if_false, Bool.false_eq_true, Bool.not_true, Bool.not_false, Nat.add_zero, Nat.zero_add, Nat.reduceAdd]
  refine wpPi_do rfl (fun K hK => ?_)
  refine wp_bytes _ _ (by rfl) w3.heap.size _ _ (by rfl) hbu _ b (by rfl) (by have := (hV.keep0 hU).bsrc; rwa [hb] at this ⊢) (by rw [hb, List.length_append, ha]; simp) hU.size (fun v49 wc hbx' hmc => ?_)
  replace hU : Mod NoB w3 wc := hU.trans hmc (fun k hk e => by have := (hbu.lt e).1; omega)
  refine hK _ _ trivial ?_
  clear hK K
  try simp only [pl, pn, el, ec, sz, ss, gz, gs, if_true, if_false, Bool.false_eq_true, Bool.not_true, Bool.not_false, Nat.add_zero, Nat.zero_add, Nat.reduceAdd]
  refine wpPi_do rfl (fun K hK => ?_)
  refine wp_enterQ (run_call 47 [.tmp 9] _ rfl _ Tryz.func47 rfl (by kernel_rfl) [v49] rfl _) (refSum_any hbx'.sl (by rw [List.length_append, List.length_append, ha, hb]; simp)) ?_
  rintro e wd ⟨rfl, hmd⟩
  replace hU := hU.trans0 hmd
  rw [HIS.out]
  replace hB := hU.obj id hB
  refine ⟨_, rfl, hK _ _ trivial ?_⟩
  clear hK K
  try simp only [pl, pn, el, ec, sz, ss, gz, gs, if_true, if_false, Bool.false_eq_true, Bool.not_true, Bool.not_false, Nat.add_zero, Nat.zero_add, Nat.reduceAdd]
  refine wpPi_do rfl (fun K hK => ?_)
  generalize twoD a b = y at *
  refine wp_storeA 24 _ _ b3 0 (idCells y) (by rfl) (by rfl) (by rfl) (idCells_one _) 32 (by kernel_rfl) hrs _ _ hB (by rw [hrs, idCells_size]; simp) (fun w9 hB9 hm9 => ?_)
  rw [putRow_whole (by rw [hrs, idCells_size]; rfl)] at hB9
  refine hK _ _ trivial ?_
  clear hK K
  try simp only [pl, pn, el, ec, sz, ss, gz, gs, if_true, if_false, Bool.false_eq_true, Bool.not_true, Bool.not_false, Nat.add_zero, Nat.zero_add, Nat.reduceAdd]
  refine wpPi_nil ?_
  have hM9 : Mod NoB w w9 := (hM2.trans0 hU).transB hm9 (by omega)
  clear hm9 hB hU
  go_wp2
  refine bodyPost_ret (results_cell_row rfl _ _ b3 _ _ _ _ (by rfl) hB9 Tryz.underlying24 rfl (by rw [hrs]; kernel_rfl)) rfl ?_
  exact ⟨rfl, hM9⟩
theorem oneL_is (x : Leaf) : shaL ([1] ++ x.way ++ x.val) = oneD x := by rw [List.append_assoc]; rfl
set_option maxRecDepth 10000 in
theorem refOne_any (x : Leaf) (hx : LeafOk x) (w : World) : Calls Tryz.prog 35 #[.agg (leafCells x)] w (RetM (.agg (idCells (oneD x))) w) := by
  have HIS := Lib.hid (oneL_is x)
  have hrs : (idCells (oneD x)).size = 32 := by rw [idCells_size]; exact shaL_len _
  have ha := hx.1
  have hb := hx.2
  obtain ⟨C, hC⟩ : ∃ C, leafCells x = C := ⟨_, rfl⟩
  have HCC := Lib.hid hC
  rw [hC]
  clear hC
  go_enter Tryz.func35, Tryz.ntmps35
  go_upto_region 0 with (fail)
  refine wp_region_seq [1, 1] (fun _ => True) (by rfl) (by rfl) trivial ?_
  simp only [List.zip_cons_cons, List.zip_nil_right]
  refine wpPi_do rfl (fun K hK => ?_)
  refine wp_box 63 _ _ (by rfl) (by rfl) (fun w1 hB1 hm1 hs1 => ?_)
  replace hB1 : w1.heap[w.heap.size]? = some (.cells C 63 (0, 0)) := hB1
  refine hK _ _ trivial ?_
  clear hK K
  try simp only [pl, pn, el, ec, sz, ss, gz, gs, if_true, if_false, Bool.false_eq_true, Bool.not_true, Bool.not_false, Nat.add_zero, Nat.zero_add, Nat.reduceAdd]
  refine wpPi_do rfl (fun K hK => ?_)
  refine wp_alloc 24 _ (by rfl) idZ (fun w3 hB hm3 hs3 => ?_)
  replace hB : w3.heap[w1.heap.size]? = some (.cells (idCells (List.replicate 32 0)) 24 (0, 0)) := hB
  refine hK _ _ trivial ?_
  clear hK K
  try simp only [pl, pn, el, ec, sz, ss, gz, gs, if_true, if_false, Bool.false_eq_true, Bool.not_true, Bool.not_false, Nat.add_zero, Nat.zero_add, Nat.reduceAdd]
  refine wpPi_nil ?_
  have hC1 := CellsAt.whole (hm3.obj id hB1)
  rw [← HCC.out] at hC1
  have hcw := leaf_way hx hC1
  have hcv := leaf_val hx hC1
  simp only [Nat.zero_add] at hcw hcv
  have hW := sl_of_cells hcw (by omega)
  have hV := sl_of_cells hcv (by omega)
  rw [ha] at hW; rw [hb] at hV
  have hM2 := hm1.trans0 hm3
  have hlt : w.heap.size ≤ w1.heap.size := by omega
  generalize hb1 : w.heap.size = b1 at *
  generalize hb3 : w1.heap.size = b3 at *
  clear hC1 hcw hcv hB1 hm1 hm3
  go_upto_region 1 with (fail)
  refine wp_region_pi [(1, 3), (2, 3), (4, 3), (5, 3), (0, 1), (3, 1), (6, 1), (7, 1), (8, 1)] [] (fun _ => True) (by kernel_rfl) (by kernel_rfl) (by kernel_rfl) (by kernel_rfl) (fun _ _ _ _ hd h => ⟨hd.trans h.1, h.2⟩) trivial ?_
  simp only [List.map_cons, List.map_nil, List.getD_cons_zero, List.getD_cons_succ]
  refine wpPi_field _ _ _ _ _ _ rfl rfl rfl fo_63_1 ?_
  simp only [pl, pn, el, ec, sz, ss, gz, gs, if_true, if_false, Bool.false_eq_true, Bool.not_true, Bool.not_false, Nat.add_zero, Nat.zero_add, Nat.reduceAdd]
  refine wpPi_sliceArr 24 5 _ _ _ 32 rfl rfl rfl Tryz.underlying24 (by kernel_rfl) ?_
  simp only [pl, pn, el, ec, sz, ss, gz, gs, if_true, if_false, Bool.false_eq_true, Bool.not_true, Bool.not_false, Nat.add_zero, Nat.zero_add, Nat.reduceAdd]
  refine wpPi_field _ _ _ _ _ _ rfl rfl rfl fo_63_2 ?_
  simp only [pl, pn, el, ec, sz, ss, gz, gs, if_true, if_false, Bool.false_eq_true, Bool.not_true, Bool.not_false, Nat.add_zero, Nat.zero_add, Nat.reduceAdd]
  refine wpPi_sliceArr 24 5 _ _ _ 32 rfl rfl rfl Tryz.underlying24 (by kernel_rfl) ?_
  simp only [pl, pn, el, ec, sz, ss, gz, gs, if_true, if_false, Bool.false_eq_true, Bool.not_true, Bool.not_false, Nat.add_zero, Nat.zero_add, Nat.reduceAdd]
  refine wpPi_do rfl (fun K hK => ?_)
  refine wp_byteAt _ 1 (by rfl) (by rfl) w3.heap.size (Nat.le_refl _) (fun v45 wa hob hbt hma => ?_)
  refine hK _ _ trivial ?_
  clear hK K
  try simp only [pl, pn, el, ec, sz, ss, gz, gs, if_true, if_false, Bool.false_eq_true, Bool.not_true, Bool.not_false, Nat.add_zero, Nat.zero_add, Nat.reduceAdd]
  refine wpPi_do rfl (fun K hK => ?_)
  have hU : Mod NoB w3 wa := (Mod.refl _ _).drew.trans0 hma
  refine wp_bytes _ _ (by rfl) w3.heap.size _ [1] (by rfl) hbt _ x.way (by rfl) (by have := (hW.keep0 hU).bsrc; rwa [ha] at this ⊢) (by rw [ha]; simp) hU.size (fun v47 wb hbu hmb => ?_)
  replace hU : Mod NoB w3 wb := hU.trans hmb (fun k hk e => by have := (hbt.lt e).1; omega)
  refine hK _ _ trivial ?_
  clear hK K
  try simp only [pl, pn, el, ec, sz, ss, gz, gs, if_true, if_false, Bool.false_eq_true, Bool.not_true, Bool.not_false, Nat.add_zero, Nat.zero_add, Nat.reduceAdd]
  refine wpPi_do rfl (fun K hK => ?_)
  refine wp_bytes _ _ (by rfl) w3.heap.size _ _ (by rfl) hbu _ x.val (by rfl) (by have := (hV.keep0 hU).bsrc; rwa [hb] at this ⊢) (by rw [hb, List.length_append, ha]; simp) hU.size (fun v49 wc hbx' hmc => ?_)
  replace hU : Mod NoB w3 wc := hU.trans hmc (fun k hk e => by have := (hbu.lt e).1; omega)
  refine hK _ _ trivial ?_
  clear hK K
  try simp only [pl, pn, el, ec, sz, ss, gz, gs, if_true, if_false, Bool.false_eq_true, Bool.not_true, Bool.not_false, Nat.add_zero, Nat.zero_add, Nat.reduceAdd]
  refine wpPi_do rfl (fun K hK => ?_)
  refine wp_enterQ (run_call 47 [.tmp 9] _ rfl _ Tryz.func47 rfl (by kernel_rfl) [v49] rfl _) (refSum_any hbx'.sl (by rw [List.length_append, List.length_append, ha, hb]; simp)) ?_
  rintro e wd ⟨rfl, hmd⟩
  replace hU := hU.trans0 hmd
  rw [HIS.out]
  replace hB := hU.obj id hB
  refine ⟨_, rfl, hK _ _ trivial ?_⟩
  clear hK K
  try simp only [pl, pn, el, ec, sz, ss, gz, gs, if_true, if_false, Bool.false_eq_true, Bool.not_true, Bool.not_false, Nat.add_zero, Nat.zero_add, Nat.reduceAdd]
  refine wpPi_do rfl (fun K hK => ?_)
  generalize oneD x = y at *
  refine wp_storeA 24 _ _ b3 0 (idCells y) (by rfl) (by rfl) (by rfl) (idCells_one _) 32 (by kernel_rfl) hrs _ _ hB (by rw [hrs, idCells_size]; simp) (fun w9 hB9 hm9 => ?_)
  rw [putRow_whole (by rw [hrs, idCells_size]; rfl)] at hB9
  refine hK _ _ trivial ?_
  clear hK K
  try simp only [pl, pn, el, ec, sz, ss, gz, gs, if_true, if_false, Bool.false_eq_true, Bool.not_true, Bool.not_false, Nat.add_zero, Nat.zero_add, Nat.reduceAdd]
  refine wpPi_nil ?_
  have hM9 : Mod NoB w w9 := (hM2.trans0 hU).transB hm9 (by omega)
  clear hm9 hB hU
  go_wp2
  refine bodyPost_ret (results_cell_row rfl _ _ b3 _ _ _ _ (by rfl) hB9 Tryz.underlying24 rfl (by rw [hrs]; kernel_rfl)) rfl ?_
  exact ⟨rfl, hM9⟩
end Go.Proofs.YtchkikmmcmjcgaaGreat

/- The document's tree: leaves, parts. -/
namespace Go.Proofs.YtchkikmmcmjcgaaGreat
set_option linter.unusedSimpArgs false
set_option linter.unusedVariables false
set_option linter.unnecessarySimpa false
set_option linter.unusedSectionVars false
open Go.RowKit Go.Shelf


theorem rleafZ : (Tryz.prog.info? 63).bind (·.zero) = some (.agg (leafCells zeroLeaf)) := by kernel_rfl
theorem rleafPlaces : placesOf Tryz.prog 63 = some [(0, 1), (1, 32), (33, 32)] := by kernel_rfl
theorem rleaf_i : (Tryz.prog.info? 63).map (fun i => (i.zero, i.size, i.bytes)) = some (some (.agg (leafCells zeroLeaf)), 65, 80) := by kernel_rfl
theorem rleaf_i2 : (Tryz.prog.info? 63).map (fun i => (i.zero, i.size)) = some (some (.agg (leafCells zeroLeaf)), 65) := by kernel_rfl
theorem built_rleaf (x : Leaf) (hx : LeafOk x) : Tryz.prog.built 63 [(0, .string x.key), (1, .agg (idCells x.way)), (2, .agg (idCells x.val))] = some (leafCells x) := by
  rw [← built_leaf x hx, built_struct rleafZ rleafPlaces, built_struct leafZ leafPlaces]
def RlRel (es : List Ent) (w0 : World) (v i : Value) (w : World) : Prop := ∃ k : Nat, k ≤ es.length ∧ i = .int .i64 k ∧ Gat leafEnc 63 65 w0.heap.size w v ((es.take k).map leafS) ∧ Mod NoB w0 w
def RlR (w : World) (es : List Ent) : Ending → World → Prop := fun e w' => ∃ v, e = .returned v ∧ Gat leafEnc 63 65 w.heap.size w' v (es.map leafS) ∧ Mod NoB w w'
set_option maxRecDepth 10000 in
set_option maxHeartbeats 400000 in
theorem refLeaves_any {own : Bool} {w : World} {G : Nat → Prop} {v : Value} {l : List Ent} (h : Es own w G v l) (hs : Short l) (hlen : l.length ≤ 4096) : Calls Tryz.prog 24 #[v] w (RlR w l) := by
  have HS := Lib.hid (Es.inside h)
  obtain ⟨ad, cap, rfl, hlm, -⟩ := Sl.at h
  clear h
  go_enter Tryz.func24, Tryz.ntmps24
  go_wp2
  go_loopw [3, 4] (RlRel l w) (fun _ i _ => l.length - (intOf i).toNat)
  case atStart => exact ⟨0, by omega, rfl, Gat.nil _ _ _ _ _, Mod.refl _ _⟩
  case round =>
    rename World => wr
    obtain ⟨k, hk, rfl, hgs, hm⟩ := hrel
    have HGS := Lib.hid hgs
    obtain ⟨adb, capb, rfl⟩ := hgs.slice
    clear hgs
    by_cases hlt : k < l.length
    · have hz : (k : Int) < (l.length : Int) := by omega
      have HTK := Lib.hid (show (l.take (k + 1)).map leafS = (l.take k).map leafS ++ [leafS l[k]] by rw [List.take_add_one, List.getElem?_eq_getElem hlt, List.map_append]; rfl)
      have hbl : ((l.take k).map leafS).length ≤ 4096 := by rw [List.length_map, List.length_take]; omega
      obtain ⟨_, _, hv, -, hat⟩ := Sl.at (HS.out.keep0 hm)
      cases hv
      obtain ⟨b, off, rfl, hgb, -, hc⟩ := hat k hlt
      obtain ⟨cs, hcs2, ⟨vv, rfl, hsl⟩, hc⟩ := hc k hlt
      have hsh := hs l[k] (List.getElem_mem hlt)
      have hc0 := hc.cell (j := 0) (v := .string l[k].1) rfl
      have hc1 := hc.cell (j := 1) (v := vv) rfl
      obtain ⟨av, cv, rfl, -, -⟩ := Sl.at hsl
      rw [Nat.add_zero] at hc0
      have HSL := Lib.hid hsl
      clear hat hc hsl
      obtain ⟨bq, hbq⟩ : ∃ bk, bk = (l.take k).map leafS := ⟨_, rfl⟩
      rw [← hbq] at HGS HTK hbl ⊢
      obtain ⟨x, hx⟩ : ∃ x, l[k] = x := ⟨_, rfl⟩
      rw [hx] at hc0 hc1 HSL HTK hsh
      have hkl : x.1.data.toList.length = x.1.size := by rw [Array.length_toList]; rfl
      have hwl : (shaL x.1.data.toList).length = 32 := shaL_len _
      have hvl : (shaL x.2).length = 32 := shaL_len _
      have HLE := Lib.hid (show (leafCells ⟨x.1, shaL x.1.data.toList, shaL x.2⟩) = (leafEnc (leafS x)).toArray by rw [leafEnc, Array.toArray_toList]; rfl)
      have HBL := Lib.hid (built_rleaf ⟨x.1, shaL x.1.data.toList, shaL x.2⟩ ⟨hwl, hvl⟩)
      have hcsz := leafCells_size (x := ⟨x.1, shaL x.1.data.toList, shaL x.2⟩) ⟨hwl, hvl⟩
      obtain ⟨vd, hvd⟩ : ∃ q, shaL x.2 = q := ⟨_, rfl⟩
      rw [hvd] at hvl HLE HBL hcsz
      have HVD := Lib.hid hvd
      clear hbq hx hvd
      go_upto_region 5 with (fail)
      have hT : Mod NoB wr wr.drew := (Mod.refl _ _).drew
      have hS : Mod (fun q => w.heap.size ≤ q) wr wr.drew := (Mod.refl _ _).drew
      have hnb : ¬ w.heap.size ≤ b := Nat.not_le.2 hgb
      have hsz := hm.size
      refine wp_region_tree [(0, 3), (1, 3), (2, 3), (3, 3), (4, 3), (5, 0), (6, 3), (7, 3), (8, 3), (9, 3), (10, 0), (13, 3), (14, 3), (15, 3), (16, 3), (17, 0)] 3 [(19, 0), (20, 1), (21, 1), (22, 3)] [] (fun w' => Mod (fun q => w.heap.size ≤ q) wr w') #[true, true, true, true, true, true, true, true, true, true, true, false, false, true, true, true, true, true, false, false, false, false, false] (by kernel_rfl) (by kernel_rfl) (by kernel_rfl) (by kernel_rfl) (by kernel_rfl) (fun _ _ _ _ hd h => ⟨hd.trans h.1, h.2⟩) hS ?_
      simp only [List.map_cons, List.map_nil, List.getD_cons_zero, List.getD_cons_succ]
      refine wpPi_move _ rfl rfl ?_
      simp only [pl, pn, el, ec, sz, ss, gz, gs, if_true, if_false, Bool.false_eq_true, Bool.not_true, Bool.not_false, Nat.add_zero, Nat.zero_add, Nat.reduceAdd]
      refine wpPi_move _ rfl rfl ?_
      simp only [pl, pn, el, ec, sz, ss, gz, gs, if_true, if_false, Bool.false_eq_true, Bool.not_true, Bool.not_false, Nat.add_zero, Nat.zero_add, Nat.reduceAdd]
      refine wpPi_move _ rfl rfl ?_
      simp only [pl, pn, el, ec, sz, ss, gz, gs, if_true, if_false, Bool.false_eq_true, Bool.not_true, Bool.not_false, Nat.add_zero, Nat.zero_add, Nat.reduceAdd]
      refine wpPi_index _ _ _ _ _ _ _ _ _ rfl rfl rfl rfl Tryz.underlying22 (n := 2) (by kernel_rfl) hlt ?_
      simp only [pl, pn, el, ec, sz, ss, gz, gs, if_true, if_false, Bool.false_eq_true, Bool.not_true, Bool.not_false, Nat.add_zero, Nat.zero_add, Nat.reduceAdd]
      refine wpPi_field _ _ _ _ _ _ rfl rfl rfl fo_27_0 ?_
      simp only [pl, pn, el, ec, sz, ss, gz, gs, if_true, if_false, Bool.false_eq_true, Bool.not_true, Bool.not_false, Nat.add_zero, Nat.zero_add, Nat.reduceAdd]
      refine wpPi_val rfl (fun w' hS => exec_load1 9 _ (by rfl) b (off + k * 2) (by rfl) (.string x.1) (hS.cell hnb hc0) _ Tryz.underlying9 rfl) ?_
      simp only [pl, pn, el, ec, sz, ss, gz, gs, if_true, if_false, Bool.false_eq_true, Bool.not_true, Bool.not_false, Nat.add_zero, Nat.zero_add, Nat.reduceAdd]
      refine wpPi_move _ rfl rfl ?_
      simp only [pl, pn, el, ec, sz, ss, gz, gs, if_true, if_false, Bool.false_eq_true, Bool.not_true, Bool.not_false, Nat.add_zero, Nat.zero_add, Nat.reduceAdd]
      refine wpPi_move _ rfl rfl ?_
      simp only [pl, pn, el, ec, sz, ss, gz, gs, if_true, if_false, Bool.false_eq_true, Bool.not_true, Bool.not_false, Nat.add_zero, Nat.zero_add, Nat.reduceAdd]
      refine wpPi_index _ _ _ _ _ _ _ _ _ rfl rfl rfl rfl Tryz.underlying22 (n := 2) (by kernel_rfl) hlt ?_
      simp only [pl, pn, el, ec, sz, ss, gz, gs, if_true, if_false, Bool.false_eq_true, Bool.not_true, Bool.not_false, Nat.add_zero, Nat.zero_add, Nat.reduceAdd]
      refine wpPi_field _ _ _ _ _ _ rfl rfl rfl fo_27_0 ?_
      simp only [pl, pn, el, ec, sz, ss, gz, gs, if_true, if_false, Bool.false_eq_true, Bool.not_true, Bool.not_false, Nat.add_zero, Nat.zero_add, Nat.reduceAdd]
      refine wpPi_val rfl (fun w' hS => exec_load1 9 _ (by rfl) b (off + k * 2) (by rfl) (.string x.1) (hS.cell hnb hc0) _ Tryz.underlying9 rfl) ?_
      simp only [pl, pn, el, ec, sz, ss, gz, gs, if_true, if_false, Bool.false_eq_true, Bool.not_true, Bool.not_false, Nat.add_zero, Nat.zero_add, Nat.reduceAdd]
      refine wpPi_move _ rfl rfl ?_
      simp only [pl, pn, el, ec, sz, ss, gz, gs, if_true, if_false, Bool.false_eq_true, Bool.not_true, Bool.not_false, Nat.add_zero, Nat.zero_add, Nat.reduceAdd]
      refine wpPi_move _ rfl rfl ?_
      simp only [pl, pn, el, ec, sz, ss, gz, gs, if_true, if_false, Bool.false_eq_true, Bool.not_true, Bool.not_false, Nat.add_zero, Nat.zero_add, Nat.reduceAdd]
      refine wpPi_index _ _ _ _ _ _ _ _ _ rfl rfl rfl rfl Tryz.underlying22 (n := 2) (by kernel_rfl) hlt ?_
      simp only [pl, pn, el, ec, sz, ss, gz, gs, if_true, if_false, Bool.false_eq_true, Bool.not_true, Bool.not_false, Nat.add_zero, Nat.zero_add, Nat.reduceAdd]
      refine wpPi_field _ _ _ _ _ _ rfl rfl rfl fo_27_1 ?_
      simp only [pl, pn, el, ec, sz, ss, gz, gs, if_true, if_false, Bool.false_eq_true, Bool.not_true, Bool.not_false, Nat.add_zero, Nat.zero_add, Nat.reduceAdd]
      refine wpPi_val rfl (fun w' hS => exec_load1 25 _ (by rfl) b (off + k * 2 + 1) (by rfl) _ (hS.cell hnb hc1) _ Tryz.underlying25 rfl) ?_
      simp only [pl, pn, el, ec, sz, ss, gz, gs, if_true, if_false, Bool.false_eq_true, Bool.not_true, Bool.not_false, Nat.add_zero, Nat.zero_add, Nat.reduceAdd]
      refine wpPi_nil ?_
      refine wpTree_part [11] (by kernel_rfl) ?_
      simp only [List.forall_mem_cons, List.not_mem_nil, false_implies, implies_true, and_true]
      intro K hK
      simp only [List.getElem?_toArray, Array.getD_eq_getD_getElem?, List.getElem?_cons_succ, List.getElem?_cons_zero, Option.getD_some]
      refine wp_bytesOf 9 25 5 _ x.1 (by rfl) (by rfl) Tryz.underlying9 Tryz.underlying25 Tryz.underlying5 (by unfold maxLen; omega) (fun v2 w2 hs2 hm2 => ?_)
      replace hT := hT.trans0 hm2
      clear hm2
      refine hK _ _ (hT.mono fun _ _ h => h.elim) ?_
      clear hK K
      try simp only [pl, pn, el, ec, sz, ss, gz, gs, if_true, if_false, Bool.false_eq_true, Bool.not_true, Bool.not_false, Nat.add_zero, Nat.zero_add, Nat.reduceAdd]
      refine wpTree_part [12] (by kernel_rfl) ?_
      simp only [List.forall_mem_cons, List.not_mem_nil, false_implies, implies_true, and_true]
      intro K hK
      simp only [List.getElem?_toArray, Array.getD_eq_getD_getElem?, List.getElem?_cons_succ, List.getElem?_cons_zero, Option.getD_some]
      refine wp_enterQ (run_call 47 [.tmp 22] _ rfl _ Tryz.func47 rfl (by kernel_rfl) [v2] rfl _) (refSum_any hs2 (by omega)) ?_
      rintro e w3 ⟨rfl, hm3⟩
      replace hT := hT.trans0 hm3
      clear hm3
      refine ⟨_, rfl, hK _ _ (hT.mono fun _ _ h => h.elim) ?_⟩
      clear hK K
      try simp only [pl, pn, el, ec, sz, ss, gz, gs, if_true, if_false, Bool.false_eq_true, Bool.not_true, Bool.not_false, Nat.add_zero, Nat.zero_add, Nat.reduceAdd]
      refine wpTree_part [18] (by kernel_rfl) ?_
      simp only [List.forall_mem_cons, List.not_mem_nil, false_implies, implies_true, and_true]
      intro K hK
      simp only [List.getElem?_toArray, Array.getD_eq_getD_getElem?, List.getElem?_cons_succ, List.getElem?_cons_zero, Option.getD_some]
      refine wp_enterQ (run_call 47 [.tmp 28] _ rfl _ Tryz.func47 rfl (by kernel_rfl) [.slice av x.2.length cv] rfl _) (refSum_any (HSL.out.keep0 hT) (by omega)) ?_
      rintro e w4 ⟨rfl, hm4⟩
      try replace hs2 := hs2.keep0 hm4
      replace hT := hT.trans0 hm4
      clear hm4
      rw [HVD.out]
      refine ⟨_, rfl, hK _ _ (hT.mono fun _ _ h => h.elim) ?_⟩
      clear hK K
      try simp only [pl, pn, el, ec, sz, ss, gz, gs, if_true, if_false, Bool.false_eq_true, Bool.not_true, Bool.not_false, Nat.add_zero, Nat.zero_add, Nat.reduceAdd]
      refine wpTree_done ?_
      try simp only [List.map_cons, List.map_nil, List.getD_cons_zero, List.getD_cons_succ]
      try simp only [pl, pn, el, ec, sz, ss, gz, gs, if_true, if_false, Bool.false_eq_true, Bool.not_true, Bool.not_false, Nat.add_zero, Nat.zero_add, Nat.reduceAdd]
      refine wpPi_val rfl (fun w' hS => exec_build_of 63 [(0, _), (1, _), (2, _)] [(0, .string x.1), (1, .agg (idCells (shaL x.1.data.toList))), (2, .agg (idCells vd))] _ (by rfl) (by rfl) HBL.out) ?_
      simp only [pl, pn, el, ec, sz, ss, gz, gs, if_true, if_false, Bool.false_eq_true, Bool.not_true, Bool.not_false, Nat.add_zero, Nat.zero_add, Nat.reduceAdd]
      refine wpPi_do rfl (fun K hK => ?_)
      refine wp_buildSlice1 53 63 _ (.agg (leafCells ⟨x.1, shaL x.1.data.toList, vd⟩)) (.agg (leafCells zeroLeaf)) 65 (by rfl) (by rfl) Tryz.underlying53 rleaf_i2 (by omega) (by omega) hcsz (fun w6 hB6 hm6 hs6 => ?_)
      refine hK _ _ ((hT.trans0 hm6).mono fun _ _ h => h.elim) ?_
      clear hK K
      try simp only [pl, pn, el, ec, sz, ss, gz, gs, if_true, if_false, Bool.false_eq_true, Bool.not_true, Bool.not_false, Nat.add_zero, Nat.zero_add, Nat.reduceAdd]
      refine wpPi_do rfl (fun K hK => ?_)
      refine wp_gat leafEnc _ _ 53 63 (.agg (leafCells zeroLeaf)) 65 80 (by rfl) Tryz.underlying53 rleaf_i (by kernel_rfl) (by omega) leafEnc_one w.heap.size _ _ (by rfl) (HGS.out.keep0 (hT.trans0 hm6)) _ [leafS x] (by rfl) (src_lit leafEnc_len (HLE.out ▸ hB6)) (by simp only [List.length_singleton]; unfold maxLen; omega) (by simp only [List.length_singleton]; omega) (by have := (hT.trans0 hm6).size; omega) (fun v7 w7 hg7 hm7 => ?_)
      rw [← HTK.out] at hg7
      have hM7 : Mod NoB w w7 := (hm.trans0 (hT.trans0 hm6)).trans hm7 (fun k hk e => by have := (HGS.out.lt e).1; omega)
      refine hK _ _ (((hT.trans0 hm6).mono fun _ _ h => h.elim).trans hm7 (fun k hk e => (HGS.out.lt e).1)) ?_
      clear hK K
      try simp only [pl, pn, el, ec, sz, ss, gz, gs, if_true, if_false, Bool.false_eq_true, Bool.not_true, Bool.not_false, Nat.add_zero, Nat.zero_add, Nat.reduceAdd]
      refine wpPi_assign _ rfl rfl ?_
      simp only [pl, pn, el, ec, sz, ss, gz, gs, if_true, if_false, Bool.false_eq_true, Bool.not_true, Bool.not_false, Nat.add_zero, Nat.zero_add, Nat.reduceAdd]
      refine wpPi_nil ?_
      clear hT hS hm hm6 hm7 hB6 HGS HSL HTK
      go_wp2
      go_roundw
      case rel => exact ⟨k + 1, by omega, by go_num, hg7, hM7⟩
      case measure => simp [intOf]; omega
    · obtain rfl : k = l.length := by omega
      rw [List.take_length] at HGS ⊢
      go_wp2
      go_ret
      exact ⟨_, rfl, HGS.out, hm⟩
end Go.Proofs.YtchkikmmcmjcgaaGreat

/- The document's tree: parts. (Printed by RtrC.gen.py.) -/
namespace Go.Proofs.YtchkikmmcmjcgaaGreat
set_option linter.unusedSimpArgs false
set_option linter.unusedVariables false
set_option linter.unnecessarySimpa false
set_option linter.unusedSectionVars false
open Go.RowKit Go.Shelf


def sideS (b : Bool) (i : Nat) (xs : List LeafS) : List LeafS := xs.filter fun x => decide (bitAt x.1.way i = b)
theorem sideS_map (b : Bool) (i : Nat) (xs : List LeafS) : (sideS b i xs).map (·.1) = sideL b i (xs.map (·.1)) := by
  unfold sideS sideL
  rw [List.filter_map]; rfl
theorem sideS_len (b : Bool) (i : Nat) (xs : List LeafS) : (sideS b i xs).length ≤ xs.length := List.length_filter_le _ _
theorem filt_take {xs : List LeafS} {k i : Nat} (h : k < xs.length) {b : Bool} (hb : bitAt xs[k].1.way i = b) : sideS b i (xs.take (k + 1)) = sideS b i (xs.take k) ++ [xs[k]] := by
  unfold sideS
  rw [List.take_add_one, List.getElem?_eq_getElem h, List.filter_append]
  simp [hb]
theorem filt_skip {xs : List LeafS} {k i : Nat} (h : k < xs.length) {b : Bool} (hb : bitAt xs[k].1.way i ≠ b) : sideS b i (xs.take (k + 1)) = sideS b i (xs.take k) := by
  unfold sideS
  rw [List.take_add_one, List.getElem?_eq_getElem h, List.filter_append]
  simp [hb]
theorem gat_ls {base : Nat} {w : World} {v : Value} {xs : List LeafS} {T : TypeId} (h : Gat leafEnc T 65 base w v xs) : Ls w Ever v (xs.map (·.1)) := (Sl.mono (sl_leaves (h.sl leafEnc_len).weak) (fun _ _ => trivial) (fun _ _ h => h))
def PrtRel (xs : List LeafS) (i : Nat) (w0 : World) (va vb j : Value) (w : World) : Prop :=
  ∃ k : Nat, k ≤ xs.length ∧ j = .int .i64 k ∧ Gat leafEnc 63 65 w0.heap.size w va (sideS false i (xs.take k)) ∧ Gat leafEnc 63 65 w0.heap.size w vb (sideS true i (xs.take k)) ∧ (∀ q, va.ownBlock = some q → vb.ownBlock = some q → False) ∧ Mod NoB w0 w
def PrtR (w : World) (xs : List LeafS) (i : Nat) : Ending → World → Prop := fun e w' => ∃ va vb, e = .returned (.tuple #[va, vb]) ∧ Gat leafEnc 63 65 w.heap.size w' va (sideS false i xs) ∧ Gat leafEnc 63 65 w.heap.size w' vb (sideS true i xs) ∧ Mod NoB w w'
set_option maxRecDepth 10000 in
set_option maxHeartbeats 400000 in
theorem refParts_any {G : Nat → Prop} {w : World} {v : Value} {xs : List LeafS} (h : Ls w G v (xs.map (·.1))) (i : Nat) (hi : i < 256) (hlen : xs.length ≤ 1000000) : Calls Tryz.prog 29 #[v, .int .i64 (i : Int)] w (PrtR w xs i) := by
  have HS := Lib.hid h
  obtain ⟨ad, cap, rfl, hlm, -⟩ := Sl.at h
  clear h
  rw [List.length_map] at hlm HS ⊢
  go_enter Tryz.func29, Tryz.ntmps29
  go_wp2
  go_loopw [6, 7, 8] (PrtRel xs i w) (fun _ _ j _ => xs.length - (intOf j).toNat)
  case atStart => exact ⟨0, by omega, rfl, Gat.nil _ _ _ _ _, Gat.nil _ _ _ _ _, (fun q h1 _ => by cases h1), Mod.refl _ _⟩
  case round =>
    rename World => wr
    obtain ⟨k, hk, rfl, hga, hgb, hsep, hm⟩ := hrel
    have hbla := sideS_len false i (xs.take k)
    have hblb := sideS_len true i (xs.take k)
    rw [List.length_take] at hbla hblb
    obtain ⟨ada, capa, rfl⟩ := hga.slice
    obtain ⟨adb, capb, rfl⟩ := hgb.slice
    by_cases hlt : k < xs.length
    · have hz : (k : Int) < (xs.length : Int) := by omega
      have hlt' := hlt
      have hps := HS.out.keep0 hm
      obtain ⟨_, _, hv, -, hat⟩ := Sl.at hps
      injection hv with hv1 hv2 hv3
      subst hv1 hv3
      obtain ⟨b, off, rfl, -, -, hc⟩ := hat k (by simpa using hlt)
      obtain ⟨_, -, ⟨rfl, hok⟩, hc⟩ := hc k (by simpa using hlt)
      rw [List.getElem_map] at hc hok
      have hcw := leaf_way hok hc
      have hCs := leafCells_size hok
      have HCE := Lib.hid (show (leafEnc xs[k]).toArray = leafCells xs[k].1 by rw [leafEnc, Array.toArray_toList])
      have hwl := hok.1
      obtain ⟨C, hC⟩ : ∃ C, leafCells xs[k].1 = C := ⟨_, rfl⟩
      rw [hC] at hc hCs HCE
      obtain ⟨way, hway⟩ : ∃ C, xs[k].1.way = C := ⟨_, rfl⟩
      obtain ⟨bt, hbt⟩ : ∃ t, bitAt way i = t := ⟨_, rfl⟩
      have HBIT := Lib.hid (show bitAt xs[k].1.way i = bt by rw [hway]; exact hbt)
      rw [hway] at hcw hwl
      have hws : (idCells way).size = 32 := by rw [idCells_size, hwl]
      have hcC := hc
      clear hat hps hok hC hway hv2 hc
      go_upto_region 5 with (fail)
      refine wp_region_seq [3, 3, 3, 3, 1, 3, 1] (fun _ => True) (by rfl) (by rfl) trivial ?_
      simp only [List.zip_cons_cons, List.zip_nil_right]
      refine wpPi_move _ rfl rfl ?_
      simp only [pl, pn, el, ec, sz, ss, gz, gs, if_true, if_false, Bool.false_eq_true, Bool.not_true, Bool.not_false, Nat.add_zero, Nat.zero_add, Nat.reduceAdd]
      refine wpPi_move _ rfl rfl ?_
      simp only [pl, pn, el, ec, sz, ss, gz, gs, if_true, if_false, Bool.false_eq_true, Bool.not_true, Bool.not_false, Nat.add_zero, Nat.zero_add, Nat.reduceAdd]
      refine wpPi_index _ _ _ _ _ _ _ _ _ rfl rfl rfl rfl Tryz.underlying53 (n := 65) (by kernel_rfl) hlt' ?_
      simp only [pl, pn, el, ec, sz, ss, gz, gs, if_true, if_false, Bool.false_eq_true, Bool.not_true, Bool.not_false, Nat.add_zero, Nat.zero_add, Nat.reduceAdd]
      refine wpPi_field _ _ _ _ _ _ rfl rfl rfl fo_63_1 ?_
      simp only [pl, pn, el, ec, sz, ss, gz, gs, if_true, if_false, Bool.false_eq_true, Bool.not_true, Bool.not_false, Nat.add_zero, Nat.zero_add, Nat.reduceAdd]
      refine wpPi_do rfl (fun K hK => ?_)
      refine wp_exec (exec_loadA 24 _ (by rfl) b (off + k * 65 + 1) (by rfl) (idCells way) hcw _ Tryz.underlying24 rfl 32 (by kernel_rfl) hws) ?_
      refine hK _ _ trivial ?_
      clear hK K
      try simp only [pl, pn, el, ec, sz, ss, gz, gs, if_true, if_false, Bool.false_eq_true, Bool.not_true, Bool.not_false, Nat.add_zero, Nat.zero_add, Nat.reduceAdd]
      refine wpPi_move _ rfl rfl ?_
      simp only [pl, pn, el, ec, sz, ss, gz, gs, if_true, if_false, Bool.false_eq_true, Bool.not_true, Bool.not_false, Nat.add_zero, Nat.zero_add, Nat.reduceAdd]
      refine wpPi_do rfl (fun K hK => ?_)
      refine wp_enterQ (run_call 30 [.tmp 19, .tmp 20] _ rfl _ Tryz.func30 rfl (by kernel_rfl) [.agg (idCells way), .int .i64 (i : Int)] rfl _) (refRight_any way hwl i hi _) ?_
      rintro e w4 ⟨rfl, hm4⟩
      rw [hbt]
      refine ⟨_, rfl, hK _ _ trivial ?_⟩
      clear hK K
      try simp only [pl, pn, el, ec, sz, ss, gz, gs, if_true, if_false, Bool.false_eq_true, Bool.not_true, Bool.not_false, Nat.add_zero, Nat.zero_add, Nat.reduceAdd]
      refine wpPi_nil ?_
      replace hm := hm.trans0 hm4
      replace hcC := hcC.keep hm4 id
      have HGA := Lib.hid (hga.keep0 hm4)
      have HGB := Lib.hid (hgb.keep0 hm4)
      have HSEP := Lib.hid hsep
      obtain ⟨VA, hVA⟩ : ∃ v, v = Value.slice ada (sideS false i (xs.take k)).length capa := ⟨_, rfl⟩
      obtain ⟨VB, hVB⟩ : ∃ v, v = Value.slice adb (sideS true i (xs.take k)).length capb := ⟨_, rfl⟩
      rw [← hVA] at HGA HSEP ⊢
      rw [← hVB] at HGB HSEP ⊢
      clear hm4 hga hgb hsep hbt hcw hws hwl hVA hVB
      cases bt
      · skip
        have hfa := filt_take (k := k) hlt (b := false) (i := i) (by rw [HBIT.out])
        have hfb := filt_skip (k := k) hlt (b := true) (i := i) (by rw [HBIT.out]; simp)
        have HFA := Lib.hid hfa
        have HFB := Lib.hid hfb
        clear hfa hfb
        go_upto_region 7 with (fail)
        refine wp_region_seq [3, 3, 3, 3, 1, 1, 1, 3] (fun _ => True) (by rfl) (by rfl) trivial ?_
        simp only [List.zip_cons_cons, List.zip_nil_right]
        refine wpPi_move _ rfl rfl ?_
        simp only [pl, pn, el, ec, sz, ss, gz, gs, if_true, if_false, Bool.false_eq_true, Bool.not_true, Bool.not_false, Nat.add_zero, Nat.zero_add, Nat.reduceAdd]
        refine wpPi_move _ rfl rfl ?_
        simp only [pl, pn, el, ec, sz, ss, gz, gs, if_true, if_false, Bool.false_eq_true, Bool.not_true, Bool.not_false, Nat.add_zero, Nat.zero_add, Nat.reduceAdd]
        refine wpPi_move _ rfl rfl ?_
        simp only [pl, pn, el, ec, sz, ss, gz, gs, if_true, if_false, Bool.false_eq_true, Bool.not_true, Bool.not_false, Nat.add_zero, Nat.zero_add, Nat.reduceAdd]
        refine wpPi_index _ _ _ _ _ _ _ _ _ rfl rfl rfl rfl Tryz.underlying53 (n := 65) (by kernel_rfl) hlt' ?_
        simp only [pl, pn, el, ec, sz, ss, gz, gs, if_true, if_false, Bool.false_eq_true, Bool.not_true, Bool.not_false, Nat.add_zero, Nat.zero_add, Nat.reduceAdd]
        refine wpPi_do rfl (fun K hK => ?_)
        refine wp_exec (exec_loadA 63 _ (by rfl) b (off + k * 65) (by rfl) C hcC _ Tryz.underlying63 rfl 65 (by kernel_rfl) hCs) ?_
        refine hK _ _ trivial ?_
        clear hK K
        try simp only [pl, pn, el, ec, sz, ss, gz, gs, if_true, if_false, Bool.false_eq_true, Bool.not_true, Bool.not_false, Nat.add_zero, Nat.zero_add, Nat.reduceAdd]
        refine wpPi_do rfl (fun K hK => ?_)
        refine wp_buildSlice1 53 63 _ (.agg C) (.agg (leafCells zeroLeaf)) 65 (by rfl) (by rfl) Tryz.underlying53 rleaf_i2 (by omega) (by omega) hCs (fun w5 hB5 hm5 hs5 => ?_)
        replace hB5 : w5.heap[w4.heap.size]? = some (.cells (leafEnc xs[k]).toArray 63 (0, 0)) := by rw [HCE.out]; exact hB5
        refine hK _ _ trivial ?_
        clear hK K
        try simp only [pl, pn, el, ec, sz, ss, gz, gs, if_true, if_false, Bool.false_eq_true, Bool.not_true, Bool.not_false, Nat.add_zero, Nat.zero_add, Nat.reduceAdd]
        refine wpPi_do rfl (fun K hK => ?_)
        refine wp_gatB leafEnc _ _ 53 63 (.agg (leafCells zeroLeaf)) 65 80 (by rfl) Tryz.underlying53 rleaf_i (by kernel_rfl) (by omega) leafEnc_one w.heap.size _ _ (by rfl) (HGA.out.keep0 hm5) (.slice (some ⟨w4.heap.size, 0, none⟩) 1 1) [xs[k]] (by rfl) (src_lit leafEnc_len hB5) (by simp only [List.length_singleton]; unfold maxLen; omega) (by simp only [List.length_singleton]; omega) (by have := hm.size; have := hm5.size; omega) (fun v6 w6 hg6 hm6 hn6 => ?_)
        have hgk := (HGB.out.keep0 hm5).keep hm6 (fun q h1 h2 => HSEP.out q h2 h1)
        have hsep6 : ∀ q, v6.ownBlock = some q → VB.ownBlock = some q → False := fun q h1 h2 => by
          rcases hn6 q h1 with h3 | h3
          · exact HSEP.out q h3 h2
          · have h4 := (HGB.out.lt h2).2
            have := hm5.size
            omega
        have hM6 : Mod NoB w w6 := (hm.trans0 hm5).trans hm6 (fun q hq e => by have := (HGA.out.lt e).1; omega)
        refine hK _ _ trivial ?_
        clear hK K
        try simp only [pl, pn, el, ec, sz, ss, gz, gs, if_true, if_false, Bool.false_eq_true, Bool.not_true, Bool.not_false, Nat.add_zero, Nat.zero_add, Nat.reduceAdd]
        refine wpPi_assign _ rfl rfl ?_
        simp only [pl, pn, el, ec, sz, ss, gz, gs, if_true, if_false, Bool.false_eq_true, Bool.not_true, Bool.not_false, Nat.add_zero, Nat.zero_add, Nat.reduceAdd]
        refine wpPi_nil ?_
        clear hm hm5 hm6 hn6 hB5 HGA HGB HSEP HCE
        go_wp2
        go_roundw
        case rel => exact ⟨k + 1, by omega, by go_num, by rw [HFA.out]; exact hg6, by rw [HFB.out]; exact hgk, hsep6, hM6⟩
        case measure => simp [intOf]; omega
      · skip
        have hfa := filt_skip (k := k) hlt (b := false) (i := i) (by rw [HBIT.out]; simp)
        have hfb := filt_take (k := k) hlt (b := true) (i := i) (by rw [HBIT.out])
        have HFA := Lib.hid hfa
        have HFB := Lib.hid hfb
        clear hfa hfb
        go_upto_region 6 with (fail)
        refine wp_region_seq [3, 3, 3, 3, 1, 1, 1, 3] (fun _ => True) (by rfl) (by rfl) trivial ?_
        simp only [List.zip_cons_cons, List.zip_nil_right]
        refine wpPi_move _ rfl rfl ?_
        simp only [pl, pn, el, ec, sz, ss, gz, gs, if_true, if_false, Bool.false_eq_true, Bool.not_true, Bool.not_false, Nat.add_zero, Nat.zero_add, Nat.reduceAdd]
        refine wpPi_move _ rfl rfl ?_
        simp only [pl, pn, el, ec, sz, ss, gz, gs, if_true, if_false, Bool.false_eq_true, Bool.not_true, Bool.not_false, Nat.add_zero, Nat.zero_add, Nat.reduceAdd]
        refine wpPi_move _ rfl rfl ?_
        simp only [pl, pn, el, ec, sz, ss, gz, gs, if_true, if_false, Bool.false_eq_true, Bool.not_true, Bool.not_false, Nat.add_zero, Nat.zero_add, Nat.reduceAdd]
        refine wpPi_index _ _ _ _ _ _ _ _ _ rfl rfl rfl rfl Tryz.underlying53 (n := 65) (by kernel_rfl) hlt' ?_
        simp only [pl, pn, el, ec, sz, ss, gz, gs, if_true, if_false, Bool.false_eq_true, Bool.not_true, Bool.not_false, Nat.add_zero, Nat.zero_add, Nat.reduceAdd]
        refine wpPi_do rfl (fun K hK => ?_)
        refine wp_exec (exec_loadA 63 _ (by rfl) b (off + k * 65) (by rfl) C hcC _ Tryz.underlying63 rfl 65 (by kernel_rfl) hCs) ?_
        refine hK _ _ trivial ?_
        clear hK K
        try simp only [pl, pn, el, ec, sz, ss, gz, gs, if_true, if_false, Bool.false_eq_true, Bool.not_true, Bool.not_false, Nat.add_zero, Nat.zero_add, Nat.reduceAdd]
        refine wpPi_do rfl (fun K hK => ?_)
        refine wp_buildSlice1 53 63 _ (.agg C) (.agg (leafCells zeroLeaf)) 65 (by rfl) (by rfl) Tryz.underlying53 rleaf_i2 (by omega) (by omega) hCs (fun w5 hB5 hm5 hs5 => ?_)
        replace hB5 : w5.heap[w4.heap.size]? = some (.cells (leafEnc xs[k]).toArray 63 (0, 0)) := by rw [HCE.out]; exact hB5
        refine hK _ _ trivial ?_
        clear hK K
        try simp only [pl, pn, el, ec, sz, ss, gz, gs, if_true, if_false, Bool.false_eq_true, Bool.not_true, Bool.not_false, Nat.add_zero, Nat.zero_add, Nat.reduceAdd]
        refine wpPi_do rfl (fun K hK => ?_)
        refine wp_gatB leafEnc _ _ 53 63 (.agg (leafCells zeroLeaf)) 65 80 (by rfl) Tryz.underlying53 rleaf_i (by kernel_rfl) (by omega) leafEnc_one w.heap.size _ _ (by rfl) (HGB.out.keep0 hm5) (.slice (some ⟨w4.heap.size, 0, none⟩) 1 1) [xs[k]] (by rfl) (src_lit leafEnc_len hB5) (by simp only [List.length_singleton]; unfold maxLen; omega) (by simp only [List.length_singleton]; omega) (by have := hm.size; have := hm5.size; omega) (fun v6 w6 hg6 hm6 hn6 => ?_)
        have hgk := (HGA.out.keep0 hm5).keep hm6 (fun q h1 h2 => HSEP.out q h1 h2)
        have hsep6 : ∀ q, VA.ownBlock = some q → v6.ownBlock = some q → False := fun q h1 h2 => by
          rcases hn6 q h2 with h3 | h3
          · exact HSEP.out q h1 h3
          · have h4 := (HGA.out.lt h1).2
            have := hm5.size
            omega
        have hM6 : Mod NoB w w6 := (hm.trans0 hm5).trans hm6 (fun q hq e => by have := (HGB.out.lt e).1; omega)
        refine hK _ _ trivial ?_
        clear hK K
        try simp only [pl, pn, el, ec, sz, ss, gz, gs, if_true, if_false, Bool.false_eq_true, Bool.not_true, Bool.not_false, Nat.add_zero, Nat.zero_add, Nat.reduceAdd]
        refine wpPi_assign _ rfl rfl ?_
        simp only [pl, pn, el, ec, sz, ss, gz, gs, if_true, if_false, Bool.false_eq_true, Bool.not_true, Bool.not_false, Nat.add_zero, Nat.zero_add, Nat.reduceAdd]
        refine wpPi_nil ?_
        clear hm hm5 hm6 hn6 hB5 HGA HGB HSEP HCE
        go_wp2
        go_roundw
        case rel => exact ⟨k + 1, by omega, by go_num, by rw [HFA.out]; exact hgk, by rw [HFB.out]; exact hg6, hsep6, hM6⟩
        case measure => simp [intOf]; omega
    · obtain rfl : k = xs.length := by omega
      rw [List.take_length] at hga hgb ⊢
      have HGA := Lib.hid hga
      have HGB := Lib.hid hgb
      clear hga hgb hsep hbla hblb
      go_wp2
      go_ret2
      exact ⟨_, _, rfl, HGA.out, HGB.out, hm⟩
end Go.Proofs.YtchkikmmcmjcgaaGreat

/- The document's digest of leaves. -/
namespace Go.Proofs.YtchkikmmcmjcgaaGreat
set_option linter.unusedSimpArgs false
set_option linter.unusedVariables false
set_option linter.unnecessarySimpa false
set_option linter.unusedSectionVars false
open Go.RowKit Go.Shelf


theorem leafS_of {l : List Leaf} (h : ∀ x ∈ l, LeafOk x) : ∃ xs : List LeafS, xs.map (·.1) = l := by
  induction l with
  | nil => exact ⟨[], rfl⟩
  | cons x l ih =>
    obtain ⟨xs, rfl⟩ := ih (fun y hy => h y (by simp [hy]))
    exact ⟨⟨x, h x (by simp)⟩ :: xs, rfl⟩
theorem refCut_any {w : World} {G : Nat → Prop} {v : Value} {l : List Leaf} (hl : Ls w G v l) (i : Nat) (hi : i < 256) (hp : Lie i l) (hlen : l.length ≤ 1000000) : Calls Tryz.prog 29 #[v, .int .i64 (i : Int)] w (CutR w Ever i l) := by
  obtain ⟨xs, rfl⟩ := leafS_of hp.len
  refine (refParts_any hl i hi (by simpa using hlen)).mono fun e w' => ?_
  rintro ⟨va, vb, rfl, ha, hb, hm⟩
  exact ⟨va, vb, rfl, by rw [← sideS_map]; exact gat_ls ha, by rw [← sideS_map]; exact gat_ls hb, hm⟩
set_option maxRecDepth 10000 in
theorem refDigest_none (f : Nat) (w : World) (ad : Option Addr) (cap i : Nat) : Calls Tryz.prog 23 #[.slice ad 0 cap, .int .i64 (i : Int)] w (RetM (.agg (idCells (dig f i []))) w) := by
  rw [dig_nil]
  have hrs : (idCells (shaL [0])).size = 32 := by rw [idCells_size]; exact shaL_len _
  go_enter Tryz.func23, Tryz.ntmps23
  go_upto_region 0 with (fail)
  refine wp_region_seq [1] (fun _ => True) (by rfl) (by rfl) trivial ?_
  simp only [List.zip_cons_cons, List.zip_nil_right]
  refine wpPi_do rfl (fun K hK => ?_)
  refine wp_alloc 24 _ (by rfl) idZ (fun w1 hB1 hm1 hs1 => ?_)
  replace hB1 : w1.heap[w.heap.size]? = some (.cells (idCells (List.replicate 32 0)) 24 (0, 0)) := hB1
  refine hK _ _ trivial ?_
  clear hK K
  try simp only [pl, pn, el, ec, sz, ss, gz, gs, if_true, if_false, Bool.false_eq_true, Bool.not_true, Bool.not_false, Nat.add_zero, Nat.zero_add, Nat.reduceAdd]
  refine wpPi_nil ?_
  go_upto_region 3 with (fail)
  refine wp_region_seq [1, 1, 1] (fun _ => True) (by rfl) (by rfl) trivial ?_
  simp only [List.zip_cons_cons, List.zip_nil_right]
  refine wpPi_do rfl (fun K hK => ?_)
  refine wp_buildSlice1 25 5 _ (byteV 0) (.int .u8 0) 1 (by rfl) (by rfl) Tryz.underlying25 (by kernel_rfl) (by omega) (by omega) (by rfl) (fun w2 hB2 hm2 hs2 => ?_)
  replace hB2 : w2.heap[w1.heap.size]? = some (.cells #[byteV 0] 5 (0, 0)) := hB2
  refine hK _ _ trivial ?_
  clear hK K
  try simp only [pl, pn, el, ec, sz, ss, gz, gs, if_true, if_false, Bool.false_eq_true, Bool.not_true, Bool.not_false, Nat.add_zero, Nat.zero_add, Nat.reduceAdd]
  refine wpPi_do rfl (fun K hK => ?_)
  refine wp_enterQ (run_call 47 [.tmp 11] _ rfl _ Tryz.func47 rfl (by kernel_rfl) [.slice (some ⟨w1.heap.size, 0, none⟩) 1 1] rfl _) (refSum_any (sl_of_cells (x := [0]) (CellsAt.whole hB2) (by simp)) (by simp)) ?_
  rintro e w3 ⟨rfl, hm3⟩
  have hM3 := (hm1.trans0 hm2).trans0 hm3
  replace hB1 := hm3.obj id (hm2.obj id hB1)
  generalize shaL [0] = x at *
  refine ⟨_, rfl, hK _ _ trivial ?_⟩
  clear hK K
  try simp only [pl, pn, el, ec, sz, ss, gz, gs, if_true, if_false, Bool.false_eq_true, Bool.not_true, Bool.not_false, Nat.add_zero, Nat.zero_add, Nat.reduceAdd]
  refine wpPi_do rfl (fun K hK => ?_)
  refine wp_storeA 24 _ _ w.heap.size 0 (idCells x) (by rfl) (by rfl) (by rfl) (idCells_one _) 32 (by kernel_rfl) hrs _ _ hB1 (by rw [hrs, idCells_size]; simp) (fun w4 hB4 hm4 => ?_)
  rw [putRow_whole (by rw [hrs, idCells_size]; rfl)] at hB4
  refine hK _ _ trivial ?_
  clear hK K
  try simp only [pl, pn, el, ec, sz, ss, gz, gs, if_true, if_false, Bool.false_eq_true, Bool.not_true, Bool.not_false, Nat.add_zero, Nat.zero_add, Nat.reduceAdd]
  refine wpPi_nil ?_
  have hM4 : Mod NoB w w4 := hM3.transB hm4 (Nat.le_refl _)
  clear hm4 hB1 hM3 hB2 hm1 hm2 hm3
  go_wp2
  refine bodyPost_ret (results_cell_row rfl _ _ w.heap.size _ _ _ _ (by rfl) hB4 Tryz.underlying24 rfl (by rw [hrs]; kernel_rfl)) rfl ?_
  exact ⟨rfl, hM4⟩
set_option maxRecDepth 10000 in
theorem refDigest_one (f : Nat) (w : World) (v : Value) (x : Leaf) (i : Nat) (hl : Ls w Ever v [x]) : Calls Tryz.prog 23 #[v, .int .i64 (i : Int)] w (RetM (.agg (idCells (dig f i [x]))) w) := by
  rw [dig_one]
  obtain ⟨ad, cap, rfl, -, hat⟩ := Sl.at hl
  obtain ⟨b, off, rfl, -, -, hc⟩ := hat 0 (by simp)
  obtain ⟨_, -, ⟨rfl, hok⟩, hc⟩ := hc 0 (by simp)
  rw [List.getElem_cons_zero] at hc hok
  simp only [List.length_singleton]
  have hrs : (idCells (oneD x)).size = 32 := by rw [idCells_size]; exact shaL_len _
  have hls := leafCells_size hok
  clear hat hl
  go_enter Tryz.func23, Tryz.ntmps23
  go_upto_region 0 with (fail)
  refine wp_region_seq [1] (fun _ => True) (by rfl) (by rfl) trivial ?_
  simp only [List.zip_cons_cons, List.zip_nil_right]
  refine wpPi_do rfl (fun K hK => ?_)
  refine wp_alloc 24 _ (by rfl) idZ (fun w1 hB1 hm1 hs1 => ?_)
  replace hB1 : w1.heap[w.heap.size]? = some (.cells (idCells (List.replicate 32 0)) 24 (0, 0)) := hB1
  refine hK _ _ trivial ?_
  clear hK K
  try simp only [pl, pn, el, ec, sz, ss, gz, gs, if_true, if_false, Bool.false_eq_true, Bool.not_true, Bool.not_false, Nat.add_zero, Nat.zero_add, Nat.reduceAdd]
  refine wpPi_nil ?_
  replace hc := hc.keep hm1 id
  go_upto_region 5 with (fail)
  refine wp_region_seq [3, 3, 1, 1, 1] (fun _ => True) (by rfl) (by rfl) trivial ?_
  simp only [List.zip_cons_cons, List.zip_nil_right]
  refine wpPi_move _ rfl rfl ?_
  simp only [pl, pn, el, ec, sz, ss, gz, gs, if_true, if_false, Bool.false_eq_true, Bool.not_true, Bool.not_false, Nat.add_zero, Nat.zero_add, Nat.reduceAdd]
  refine wpPi_index _ _ _ _ _ _ _ _ 0 rfl rfl rfl rfl Tryz.underlying53 (n := 65) (by kernel_rfl) (by omega) ?_
  simp only [pl, pn, el, ec, sz, ss, gz, gs, if_true, if_false, Bool.false_eq_true, Bool.not_true, Bool.not_false, Nat.add_zero, Nat.zero_add, Nat.reduceAdd]
  refine wpPi_do rfl (fun K hK => ?_)
  refine wp_exec (exec_loadA 63 _ (by rfl) b (off + 0 * 65) (by rfl) (leafCells x) hc _ Tryz.underlying63 rfl 65 (by kernel_rfl) hls) ?_
  refine hK _ _ trivial ?_
  clear hK K
  try simp only [pl, pn, el, ec, sz, ss, gz, gs, if_true, if_false, Bool.false_eq_true, Bool.not_true, Bool.not_false, Nat.add_zero, Nat.zero_add, Nat.reduceAdd]
  refine wpPi_do rfl (fun K hK => ?_)
  refine wp_enterQ (run_call 35 [.tmp 17] _ rfl _ Tryz.func35 rfl (by kernel_rfl) [.agg (leafCells x)] rfl _) (refOne_any x hok _) ?_
  rintro e w3 ⟨rfl, hm3⟩
  have hM3 := hm1.trans0 hm3
  replace hB1 := hm3.obj id hB1
  generalize oneD x = y at *
  refine ⟨_, rfl, hK _ _ trivial ?_⟩
  clear hK K
  try simp only [pl, pn, el, ec, sz, ss, gz, gs, if_true, if_false, Bool.false_eq_true, Bool.not_true, Bool.not_false, Nat.add_zero, Nat.zero_add, Nat.reduceAdd]
  refine wpPi_do rfl (fun K hK => ?_)
  refine wp_storeA 24 _ _ w.heap.size 0 (idCells y) (by rfl) (by rfl) (by rfl) (idCells_one _) 32 (by kernel_rfl) hrs _ _ hB1 (by rw [hrs, idCells_size]; simp) (fun w4 hB4 hm4 => ?_)
  rw [putRow_whole (by rw [hrs, idCells_size]; rfl)] at hB4
  refine hK _ _ trivial ?_
  clear hK K
  try simp only [pl, pn, el, ec, sz, ss, gz, gs, if_true, if_false, Bool.false_eq_true, Bool.not_true, Bool.not_false, Nat.add_zero, Nat.zero_add, Nat.reduceAdd]
  refine wpPi_nil ?_
  have hM4 : Mod NoB w w4 := hM3.transB hm4 (Nat.le_refl _)
  clear hm4 hB1 hM3 hm1 hm3
  go_wp2
  refine bodyPost_ret (results_cell_row rfl _ _ w.heap.size _ _ _ _ (by rfl) hB4 Tryz.underlying24 rfl (by rw [hrs]; kernel_rfl)) rfl ?_
  exact ⟨rfl, hM4⟩
set_option maxRecDepth 10000 in
theorem refDigest_more (f i : Nat) (hi : f + 1 + i = 256) (w : World) (v : Value) (l : List Leaf) (hl : Ls w Ever v l) (hp : Lie i l) (h2 : 2 ≤ l.length) (hlen : l.length ≤ 1000000)
    (ih : ∀ (l' : List Leaf) (v : Value) (w : World), Ls w Ever v l' → Lie (i + 1) l' → l'.length ≤ 1000000 → Calls Tryz.prog 23 #[v, .int .i64 ((i + 1 : Nat) : Int)] w (RetM (.agg (idCells (dig f (i + 1) l'))) w)) :
    Calls Tryz.prog 23 #[v, .int .i64 (i : Int)] w (RetM (.agg (idCells (dig (f + 1) i l))) w) := by
  rw [dig_more f i l h2]
  have HL := Lib.hid hl
  have IH := Lib.hid ih
  have hsl := side_len i l
  obtain ⟨ad, cap, rfl, -, -⟩ := hl
  have hl0 : ¬ (l.length : Int) = 0 := by omega
  have hl1 : ¬ (l.length : Int) = 1 := by omega
  have hA := hp.side false
  have hB := hp.side true
  have hdl : (dig f (i + 1) (sideL false i l)).length = 32 := dig_len (by omega) hA
  have hdr : (dig f (i + 1) (sideL true i l)).length = 32 := dig_len (by omega) hB
  have hrs : (idCells (twoD (dig f (i + 1) (sideL false i l)) (dig f (i + 1) (sideL true i l)))).size = 32 := by rw [idCells_size]; exact shaL_len _
  clear ih
  go_enter Tryz.func23, Tryz.ntmps23
  go_upto_region 0 with (fail)
  refine wp_region_seq [1] (fun _ => True) (by rfl) (by rfl) trivial ?_
  simp only [List.zip_cons_cons, List.zip_nil_right]
  refine wpPi_do rfl (fun K hK => ?_)
  refine wp_alloc 24 _ (by rfl) idZ (fun w1 hB1 hm1 hs1 => ?_)
  replace hB1 : w1.heap[w.heap.size]? = some (.cells (idCells (List.replicate 32 0)) 24 (0, 0)) := hB1
  refine hK _ _ trivial ?_
  clear hK K
  try simp only [pl, pn, el, ec, sz, ss, gz, gs, if_true, if_false, Bool.false_eq_true, Bool.not_true, Bool.not_false, Nat.add_zero, Nat.zero_add, Nat.reduceAdd]
  refine wpPi_nil ?_
  go_upto_region 6 with (fail)
  refine wp_region_seq [3, 3, 1, 3, 3, 3, 3, 3] (fun _ => True) (by rfl) (by rfl) trivial ?_
  simp only [List.zip_cons_cons, List.zip_nil_right]
  refine wpPi_move _ rfl rfl ?_
  simp only [pl, pn, el, ec, sz, ss, gz, gs, if_true, if_false, Bool.false_eq_true, Bool.not_true, Bool.not_false, Nat.add_zero, Nat.zero_add, Nat.reduceAdd]
  refine wpPi_move _ rfl rfl ?_
  simp only [pl, pn, el, ec, sz, ss, gz, gs, if_true, if_false, Bool.false_eq_true, Bool.not_true, Bool.not_false, Nat.add_zero, Nat.zero_add, Nat.reduceAdd]
  refine wpPi_do rfl (fun K hK => ?_)
  refine wp_enterQ (run_call 29 [.tmp 20, .tmp 21] _ rfl _ Tryz.func29 rfl (by kernel_rfl) [.slice ad l.length cap, .int .i64 (i : Int)] rfl _) (refCut_any (HL.out.keep0 hm1) i (by omega) hp hlen) ?_
  rintro e w2 ⟨v1, v2, rfl, hc1, hc2, hm2⟩
  refine ⟨_, rfl, hK _ _ trivial ?_⟩
  clear hK K
  try simp only [pl, pn, el, ec, sz, ss, gz, gs, if_true, if_false, Bool.false_eq_true, Bool.not_true, Bool.not_false, Nat.add_zero, Nat.zero_add, Nat.reduceAdd]
  refine wpPi_move _ rfl rfl ?_
  simp only [pl, pn, el, ec, sz, ss, gz, gs, if_true, if_false, Bool.false_eq_true, Bool.not_true, Bool.not_false, Nat.add_zero, Nat.zero_add, Nat.reduceAdd]
  refine wpPi_any (v := ?_) rfl (fun w' => ?_) ?_; rotate_left; · (go_simp; try with_reducible rfl)
  simp only [pl, pn, el, ec, sz, ss, gz, gs, if_true, if_false, Bool.false_eq_true, Bool.not_true, Bool.not_false, Nat.add_zero, Nat.zero_add, Nat.reduceAdd]
  refine wpPi_any (v := ?_) rfl (fun w' => ?_) ?_; rotate_left; · (go_simp; try with_reducible rfl)
  simp only [pl, pn, el, ec, sz, ss, gz, gs, if_true, if_false, Bool.false_eq_true, Bool.not_true, Bool.not_false, Nat.add_zero, Nat.zero_add, Nat.reduceAdd]
  refine wpPi_assign _ rfl rfl ?_
  simp only [pl, pn, el, ec, sz, ss, gz, gs, if_true, if_false, Bool.false_eq_true, Bool.not_true, Bool.not_false, Nat.add_zero, Nat.zero_add, Nat.reduceAdd]
  refine wpPi_assign _ rfl rfl ?_
  simp only [pl, pn, el, ec, sz, ss, gz, gs, if_true, if_false, Bool.false_eq_true, Bool.not_true, Bool.not_false, Nat.add_zero, Nat.zero_add, Nat.reduceAdd]
  refine wpPi_nil ?_
  have hM2 := hm1.trans0 hm2
  replace hB1 := hm2.obj id hB1
  clear hm1 hm2
  generalize sideL false i l = la at *
  generalize sideL true i l = lb at *
  go_upto_region 7 with (fail)
  refine wp_region_seq [3, 3, 3, 1, 3, 3, 3, 1, 1, 1] (fun _ => True) (by rfl) (by rfl) trivial ?_
  simp only [List.zip_cons_cons, List.zip_nil_right]
  refine wpPi_move _ rfl rfl ?_
  simp only [pl, pn, el, ec, sz, ss, gz, gs, if_true, if_false, Bool.false_eq_true, Bool.not_true, Bool.not_false, Nat.add_zero, Nat.zero_add, Nat.reduceAdd]
  refine wpPi_move _ rfl rfl ?_
  simp only [pl, pn, el, ec, sz, ss, gz, gs, if_true, if_false, Bool.false_eq_true, Bool.not_true, Bool.not_false, Nat.add_zero, Nat.zero_add, Nat.reduceAdd]
  refine wpPi_addR _ _ _ _ (i : Int) 1 ((i + 1 : Nat) : Int) rfl rfl rfl rfl (by omega) (by omega) (by omega) ?_
  simp only [pl, pn, el, ec, sz, ss, gz, gs, if_true, if_false, Bool.false_eq_true, Bool.not_true, Bool.not_false, Nat.add_zero, Nat.zero_add, Nat.reduceAdd]
  refine wpPi_do rfl (fun K hK => ?_)
  refine wp_enterQ (run_call 23 [.tmp 25, .tmp 27] _ rfl _ Tryz.func23 rfl (by kernel_rfl) [v1, .int .i64 ((i + 1 : Nat) : Int)] rfl _) (IH.out la v1 _ hc1 hA (by omega)) ?_
  rintro e w3 ⟨rfl, hm3⟩
  refine ⟨_, rfl, hK _ _ trivial ?_⟩
  clear hK K
  try simp only [pl, pn, el, ec, sz, ss, gz, gs, if_true, if_false, Bool.false_eq_true, Bool.not_true, Bool.not_false, Nat.add_zero, Nat.zero_add, Nat.reduceAdd]
  refine wpPi_move _ rfl rfl ?_
  simp only [pl, pn, el, ec, sz, ss, gz, gs, if_true, if_false, Bool.false_eq_true, Bool.not_true, Bool.not_false, Nat.add_zero, Nat.zero_add, Nat.reduceAdd]
  refine wpPi_move _ rfl rfl ?_
  simp only [pl, pn, el, ec, sz, ss, gz, gs, if_true, if_false, Bool.false_eq_true, Bool.not_true, Bool.not_false, Nat.add_zero, Nat.zero_add, Nat.reduceAdd]
  refine wpPi_addR _ _ _ _ (i : Int) 1 ((i + 1 : Nat) : Int) rfl rfl rfl rfl (by omega) (by omega) (by omega) ?_
  simp only [pl, pn, el, ec, sz, ss, gz, gs, if_true, if_false, Bool.false_eq_true, Bool.not_true, Bool.not_false, Nat.add_zero, Nat.zero_add, Nat.reduceAdd]
  refine wpPi_do rfl (fun K hK => ?_)
  refine wp_enterQ (run_call 23 [.tmp 29, .tmp 31] _ rfl _ Tryz.func23 rfl (by kernel_rfl) [v2, .int .i64 ((i + 1 : Nat) : Int)] rfl _) (IH.out lb v2 _ (Sl.keep0 hc2 hm3) hB (by omega)) ?_
  rintro e w4 ⟨rfl, hm4⟩
  generalize dig f (i + 1) la = da at *
  generalize dig f (i + 1) lb = db at *
  refine ⟨_, rfl, hK _ _ trivial ?_⟩
  clear hK K
  try simp only [pl, pn, el, ec, sz, ss, gz, gs, if_true, if_false, Bool.false_eq_true, Bool.not_true, Bool.not_false, Nat.add_zero, Nat.zero_add, Nat.reduceAdd]
  refine wpPi_do rfl (fun K hK => ?_)
  refine wp_enterQ (run_call 36 [.tmp 28, .tmp 32] _ rfl _ Tryz.func36 rfl (by kernel_rfl) [.agg (idCells da), .agg (idCells db)] rfl _) (refTwo_any da db hdl hdr _) ?_
  rintro e w5 ⟨rfl, hm5⟩
  have hM5 := ((hM2.trans0 hm3).trans0 hm4).trans0 hm5
  replace hB1 := ((hm3.trans0 hm4).trans0 hm5).obj id hB1
  generalize twoD da db = y at *
  refine ⟨_, rfl, hK _ _ trivial ?_⟩
  clear hK K
  try simp only [pl, pn, el, ec, sz, ss, gz, gs, if_true, if_false, Bool.false_eq_true, Bool.not_true, Bool.not_false, Nat.add_zero, Nat.zero_add, Nat.reduceAdd]
  refine wpPi_do rfl (fun K hK => ?_)
  refine wp_storeA 24 _ _ w.heap.size 0 (idCells y) (by rfl) (by rfl) (by rfl) (idCells_one _) 32 (by kernel_rfl) hrs _ _ hB1 (by rw [hrs, idCells_size]; simp) (fun w6 hB6 hm6 => ?_)
  rw [putRow_whole (by rw [hrs, idCells_size]; rfl)] at hB6
  refine hK _ _ trivial ?_
  clear hK K
  try simp only [pl, pn, el, ec, sz, ss, gz, gs, if_true, if_false, Bool.false_eq_true, Bool.not_true, Bool.not_false, Nat.add_zero, Nat.zero_add, Nat.reduceAdd]
  refine wpPi_nil ?_
  have hM6 : Mod NoB w w6 := hM5.transB hm6 (Nat.le_refl _)
  clear hm6 hB1 hM5 hm3 hm4 hm5 hM2
  go_wp2
  refine bodyPost_ret (results_cell_row rfl _ _ w.heap.size _ _ _ _ (by rfl) hB6 Tryz.underlying24 rfl (by rw [hrs]; kernel_rfl)) rfl ?_
  exact ⟨rfl, hM6⟩
theorem refDigest_any : ∀ (f i : Nat) (l : List Leaf) (v : Value) (w : World), f + i = 256 → Ls w Ever v l → Lie i l → l.length ≤ 1000000 → Calls Tryz.prog 23 #[v, .int .i64 (i : Int)] w (RetM (.agg (idCells (dig f i l))) w) := by
  intro f
  have few : ∀ (f i : Nat) (l : List Leaf) (v : Value) (w : World), Ls w Ever v l → l.length < 2 → Calls Tryz.prog 23 #[v, .int .i64 (i : Int)] w (RetM (.agg (idCells (dig f i l))) w) := fun f i l v w hl h => by
    match l, h with
    | [], _ =>
      obtain ⟨ad, cap, rfl, -, -⟩ := hl
      exact refDigest_none f w ad cap i
    | [x], _ => exact refDigest_one f w v x i hl
  induction f with
  | zero =>
    intro i l v w hi hl hp hlen
    rcases Nat.lt_or_ge l.length 2 with h | h
    · exact few 0 i l v w hl h
    · have := hp.bits h; omega
  | succ f ih =>
    intro i l v w hi hl hp hlen
    rcases Nat.lt_or_ge l.length 2 with h | h
    · exact few _ i l v w hl h
    · exact refDigest_more f i hi w v l hl hp h hlen (fun l' v' w' h1 h2 h3 => ih (i + 1) l' v' w' (by omega) h1 h2 h3)
end Go.Proofs.YtchkikmmcmjcgaaGreat

/- The document's tree: lacks. (Printed by RtrE.gen.py.) -/
namespace Go.Proofs.YtchkikmmcmjcgaaGreat
set_option linter.unusedSimpArgs false
set_option linter.unusedVariables false
set_option linter.unnecessarySimpa false
set_option linter.unusedSectionVars false
open Go.RowKit Go.Shelf


/-- Made of an entry: the way is the key's digest. -/
def Made (l : List Leaf) : Prop := ∀ x ∈ l, x.way = shaL x.key.data.toList
theorem made_leaves (l : List Ent) : Made (leavesE l) := fun x hx => by
  obtain ⟨e, _, rfl⟩ := List.mem_map.1 hx; rfl
theorem Made.side {l : List Leaf} (h : Made l) (b : Bool) (i : Nat) : Made (sideL b i l) := fun x hx => h x (side_mem.1 hx).1
theorem made_eq {x y : Leaf} (hx : x.way = shaL x.key.data.toList) (hy : y.way = shaL y.key.data.toList) (h1 : y.key = x.key) (h2 : y.val = x.val) : y = x := by
  cases x; cases y
  simp only at hx hy h1 h2
  subst h1 h2 hx hy
  rfl
theorem take_app {α : Type} {l : List α} {k : Nat} (h : k < l.length) : l.take (k + 1) = l.take k ++ [l[k]] := by rw [List.take_add_one, List.getElem?_eq_getElem h]; rfl
end Go.Proofs.YtchkikmmcmjcgaaGreat

/- Nothing: what the document's Check imports at this seat. -/
namespace Go.Proofs.YtchkikmmcmjcgaaGreat
set_option linter.unusedSimpArgs false
set_option linter.unusedVariables false
set_option linter.unnecessarySimpa false
set_option linter.unusedSectionVars false
end Go.Proofs.YtchkikmmcmjcgaaGreat
