/- What the statement TreeRoots needs, part 3. -/
import Derived.Shelf.SortM.Plain
import Derived.Shelf.SortM.SortNone
import Derived.Ground.SlgmProg
import Derived.Shelf.SlSortCmp.WholeK
import Derived.Ground.SlsfProg
import Derived.Shelf.SlicesG.CompactS
import Derived.Ground.SlgnProg
import Derived.Test.YtchkikmmcmjcgaaGreatRows
import Derived.Lib.Bytealg
import Derived.Lib.UnsafeStr
import Derived.Sort.Grow
import Derived.Shelf.SlSortCmp.InsertionK
import Derived.Laws.IdiomStrings
import Derived.Shelf.SlSortCmp.NoneTotal
import Derived.Test.YtchkikmmcmjcgaaGreatTreeRootsP2
/- Leaves in memory; an entry's digest, the digest of two sides. -/
namespace Go.Proofs.YtchkikmmcmjcgaaGreat
set_option linter.unusedSimpArgs false
set_option linter.unusedVariables false
set_option linter.unnecessarySimpa false
set_option linter.unusedSectionVars false
open Go.RowKit

theorem fo_59_1 : fieldOff Tryz.prog 59 1 = some 1 := by kernel_rfl
theorem fo_59_2 : fieldOff Tryz.prog 59 2 = some 33 := by kernel_rfl
def leafCells (x : Leaf) : Array Value := (Value.string x.key :: (x.way.map byteV ++ x.val.map byteV)).toArray
def LeafOk (x : Leaf) : Prop := x.way.length = 32 ∧ x.val.length = 32
def LeafC (cs : Array Value) (x : Leaf) : Prop := cs = leafCells x ∧ LeafOk x
theorem leafCells_size {x : Leaf} (h : LeafOk x) : (leafCells x).size = 65 := by simp [leafCells, h.1, h.2]
theorem leafCells_one (x : Leaf) : ∀ c ∈ leafCells x, c.oneCell' = true := by
  intro c hc
  simp only [leafCells, List.mem_toArray, List.mem_cons, List.mem_append, List.mem_map] at hc
  rcases hc with rfl | ⟨b, _, rfl⟩ | ⟨b, _, rfl⟩ <;> rfl
theorem leafC_one {cs : Array Value} {x : Leaf} (h : LeafC cs x) : ∀ c ∈ cs, c.oneCell' = true := by rw [h.1]; exact leafCells_one x
theorem leaf_key {w : World} {b off : Nat} {x : Leaf} (h : CellsAt w b off (leafCells x)) : w.cell? ⟨b, off + 0, none⟩ = some (.string x.key) := h.cell (j := 0) (by simp [leafCells])
theorem leaf_way {w : World} {b off : Nat} {x : Leaf} (hx : LeafOk x) (h : CellsAt w b off (leafCells x)) : CellsAt w b (off + 1) (idCells x.way) := by
  have := h.part (i := 1) (j := 33) (by rw [leafCells_size hx]; omega)
  have e : (leafCells x).extract 1 33 = idCells x.way := by
    simp only [leafCells, idCells, List.extract_toArray, List.extract_eq_take_drop]
    congr 1
    simp [hx.1]
  rwa [e] at this
theorem leaf_val {w : World} {b off : Nat} {x : Leaf} (hx : LeafOk x) (h : CellsAt w b off (leafCells x)) : CellsAt w b (off + 33) (idCells x.val) := by
  have := h.part (i := 33) (j := 65) (by rw [leafCells_size hx]; omega)
  have e : (leafCells x).extract 33 65 = idCells x.val := by
    simp only [leafCells, idCells, List.extract_toArray, List.extract_eq_take_drop]
    congr 1
    have h1 : (Value.string x.key :: (List.map byteV x.way ++ List.map byteV x.val)).drop 33 = List.map byteV x.val := by
      rw [List.drop_succ_cons, List.drop_append_of_le_length (by simp [hx.1]), List.drop_of_length_le (by simp [hx.1])]; rfl
    rw [h1, List.take_of_length_le (by simp [hx.2])]
  rwa [e] at this
theorem sl_of_cells {w : World} {b off : Nat} {x : List UInt8} (h : CellsAt w b off (idCells x)) (hl : x.length ≤ 1000000) : Sl false w (fun _ => True) 1 ByteC (.slice (some ⟨b, off, none⟩) x.length x.length) x := by
  refine ⟨_, _, rfl, Nat.le_refl _, by unfold maxLen; omega, fun _ => ⟨b, off, rfl, trivial, by simp [Owned], fun i hi => ⟨#[byteV x[i]], rfl, rfl, CellsAt.one.2 ?_⟩⟩⟩
  rw [Nat.mul_one]
  exact h.cell (by simp [idCells, hi])
theorem bss3 {w : World} {b : Nat} {e : TypeId} {v1 v2 v3 : Value} {x1 x2 x3 : List UInt8} (h : w.heap[b]? = some (.cells #[v1, v2, v3] e (0, 0))) (h1 : Sl false w (fun _ => True) 1 ByteC v1 x1) (h2 : Sl false w (fun _ => True) 1 ByteC v2 x2) (h3 : Sl false w (fun _ => True) 1 ByteC v3 x3) :
    Bss w (fun _ => True) (.slice (some ⟨b, 0, none⟩) 3 3) [x1, x2, x3] := by
  have hc := CellsAt.whole h
  refine ⟨_, _, rfl, Nat.le_refl _, by unfold maxLen; omega, fun _ => ⟨b, 0, rfl, trivial, by simp [Owned], fun i hi => ?_⟩⟩
  match i, hi with
  | 0, _ => exact ⟨_, rfl, ⟨v1, rfl, h1⟩, CellsAt.one.2 (hc.cell (j := 0) rfl)⟩
  | 1, _ => exact ⟨_, rfl, ⟨v2, rfl, h2⟩, CellsAt.one.2 (hc.cell (j := 1) rfl)⟩
  | 2, _ => exact ⟨_, rfl, ⟨v3, rfl, h3⟩, CellsAt.one.2 (hc.cell (j := 2) rfl)⟩
section
variable {P : Program} {ops : Array Oper} {Q : Exit → Act → World → Prop} {S : World → Prop} {o : Oper} {r : List (Oper × Nat)} {a : Act} {w : World}
theorem wpPi_sliceArr (t e : TypeId) (x : Operand) (b off n : Nat) (hw : Region.wanted o (yielded ops a.tmps) = true) (ho : o.op = .slice t x none none none) (hx : a.eval x = .pointer (some ⟨b, off, none⟩))
    (hu : P.underlying t = some (.array n e)) (hs : (P.info? e).map (·.size) = some 1) (hk : wpPi P ops Q S r (a.put o.dst (.slice (some ⟨b, off, none⟩) n n)) w) : wpPi P ops Q S ((o, 3) :: r) a w :=
  wpPi_any hw (fun w => by
    have he : P.elem t = e := by simp [Program.elem, hu]
    have hn : P.arrayLen t = n := by simp [Program.arrayLen, hu]
    have hsz : (sizeOf e).run P w = .ok 1 w := by
      cases hq : P.info? e with
      | none => simp [hq] at hs
      | some i => simp [hq] at hs; simp [sizeOf, typeInfo, hq, hs]
    unfold execOp
    simp only [ho, hx, Option.map_none]
    have h1 := run_sliceAt_array_all (P := P) (w := w) t ⟨b, off, none⟩ (by rw [he, hn]; exact hu)
    simp only [Sem.run_bind, h1, he, hn, hsz, Result.andThen_ok, Sem.run_pure]
    simp [slicedAt, sliced, addr_add0]) hk
end
theorem bytes_z : (Tryz.prog.info? 25).map (fun i => (i.zero, i.size)) = some (some (.slice none 0 0), 1) := by kernel_rfl
set_option maxRecDepth 10000 in
theorem one_any (x : Leaf) (hx : LeafOk x) (w : World) : Calls Tryz.prog 33 #[.agg (leafCells x)] w (RetM (.agg (idCells (oneD x))) w) := by
  have hsz := leafCells_size hx
  have hmm : (oneD x) = shaL ([[1], x.way, x.val].flatten) := by simp [oneD]
  have hml : ([[1], x.way, x.val].flatten : List UInt8).length = 65 := by simp [hx.1, hx.2]
  rw [hmm]
  have H1 := hx.1; have H2 := hx.2
  obtain ⟨C, hC⟩ : ∃ C, leafCells x = C := ⟨_, rfl⟩
  have HCC := Lib.hid hC
  rw [hC] at hsz ⊢
  clear hC hmm
  go_enter Tryz.func33, Tryz.ntmps33
  go_upto_region 0 with (fail)
  refine wp_region_seq [1, 1] (fun _ => True) (by rfl) (by rfl) trivial ?_
  simp only [List.zip_cons_cons, List.zip_nil_right]
  refine wpPi_do rfl (fun K hK => ?_)
  refine wp_box 59 _ _ (by rfl) (by rfl) (fun w1 hB1 hm1 hs1 => ?_)
  replace hB1 : w1.heap[w.heap.size]? = some (.cells C 59 (0, 0)) := hB1
  refine hK _ _ trivial ?_
  clear hK K
  try simp only [pl, pn, el, ec, sz, ss, gz, gs, if_true, if_false, Bool.false_eq_true, Bool.not_true, Bool.not_false, Nat.add_zero, Nat.zero_add, Nat.reduceAdd]
  refine wpPi_do rfl (fun K hK => ?_)
  refine wp_alloc 24 _ (by rfl) idZ (fun w2 hB2 hm2 hs2 => ?_)
  replace hB2 : w2.heap[w1.heap.size]? = some (.cells (idCells (List.replicate 32 0)) 24 (0, 0)) := hB2
  refine hK _ _ trivial ?_
  clear hK K
  try simp only [pl, pn, el, ec, sz, ss, gz, gs, if_true, if_false, Bool.false_eq_true, Bool.not_true, Bool.not_false, Nat.add_zero, Nat.zero_add, Nat.reduceAdd]
  refine wpPi_nil ?_
  have hB1' := hm2.obj id hB1
  have hC := CellsAt.whole hB1'
  rw [← HCC.out] at hC
  have hW := sl_of_cells (leaf_way hx hC) (by omega)
  have hV := sl_of_cells (leaf_val hx hC) (by omega)
  rw [H1] at hW; rw [H2] at hV
  simp only [Nat.zero_add] at hW hV
  have hM2 := hm1.trans0 hm2
  generalize hb1 : w.heap.size = b1 at *
  generalize hb2 : w1.heap.size = b2 at *
  clear hB1' hC hB1 hm1 hm2
  go_upto_region 1 with (fail)
  have hd : Mod NoB w2 w2.drew := (Mod.refl _ _).drew
  refine wp_region_pi [(1, 3), (2, 3), (3, 3), (4, 3), (0, 1), (5, 1), (6, 1), (7, 1), (8, 1)] [] (fun _ => True) (by kernel_rfl) (by kernel_rfl) (by kernel_rfl) (by kernel_rfl) (fun _ _ _ _ hd h => ⟨hd.trans h.1, h.2⟩) trivial ?_
  simp only [List.map_cons, List.map_nil, List.getD_cons_zero, List.getD_cons_succ]
  refine wpPi_field _ _ _ _ _ _ rfl rfl rfl fo_59_1 ?_
  simp only [pl, pn, el, ec, sz, ss, gz, gs, if_true, if_false, Bool.false_eq_true, Bool.not_true, Bool.not_false, Nat.add_zero, Nat.zero_add, Nat.reduceAdd]
  refine wpPi_sliceArr 24 5 _ _ _ 32 rfl rfl rfl Tryz.underlying24 (by kernel_rfl) ?_
  simp only [pl, pn, el, ec, sz, ss, gz, gs, if_true, if_false, Bool.false_eq_true, Bool.not_true, Bool.not_false, Nat.add_zero, Nat.zero_add, Nat.reduceAdd]
  refine wpPi_field _ _ _ _ _ _ rfl rfl rfl fo_59_2 ?_
  simp only [pl, pn, el, ec, sz, ss, gz, gs, if_true, if_false, Bool.false_eq_true, Bool.not_true, Bool.not_false, Nat.add_zero, Nat.zero_add, Nat.reduceAdd]
  refine wpPi_sliceArr 24 5 _ _ _ 32 rfl rfl rfl Tryz.underlying24 (by kernel_rfl) ?_
  simp only [pl, pn, el, ec, sz, ss, gz, gs, if_true, if_false, Bool.false_eq_true, Bool.not_true, Bool.not_false, Nat.add_zero, Nat.zero_add, Nat.reduceAdd]
  refine wpPi_do rfl (fun K hK => ?_)
  refine wp_buildSlice1 25 5 _ (byteV 1) (.int .u8 0) 1 (by rfl) (by rfl) Tryz.underlying25 (by kernel_rfl) (by omega) (by omega) (by rfl) (fun w5 hB5 hm5 hs5 => ?_)
  replace hB5 : w5.heap[w2.heap.size]? = some (.cells #[byteV 1] 5 (0, 0)) := hB5
  refine hK _ _ trivial ?_
  clear hK K
  try simp only [pl, pn, el, ec, sz, ss, gz, gs, if_true, if_false, Bool.false_eq_true, Bool.not_true, Bool.not_false, Nat.add_zero, Nat.zero_add, Nat.reduceAdd]
  refine wpPi_do rfl (fun K hK => ?_)
  refine wp_buildSliceL 122 25 3 [(0, _), (1, _), (2, _)] [.slice (some ⟨w2.heap.size, 0, none⟩) 1 1, .slice (some ⟨b1, 1, none⟩) 32 32, .slice (some ⟨b1, 33, none⟩) 32 32] (.slice none 0 0) 1 (by rfl) (by rfl) (by rfl) Tryz.underlying122 bytes_z (by omega) (by omega) (by simp [Value.cells]) (fun w6 hB6 hm6 hs6 => ?_)
  replace hB6 : w6.heap[w5.heap.size]? = some (.cells #[.slice (some ⟨w2.heap.size, 0, none⟩) 1 1, .slice (some ⟨b1, 1, none⟩) 32 32, .slice (some ⟨b1, 33, none⟩) 32 32] 25 (0, 0)) := hB6
  have hM6 := (hd.trans0 hm5).trans0 hm6
  have hbs := bss3 hB6 (sl_of_cells (x := [1]) (CellsAt.whole (hm6.obj id hB5)) (by simp)) (hW.keep0 hM6) (hV.keep0 hM6)
  refine hK _ _ trivial ?_
  clear hK K
  try simp only [pl, pn, el, ec, sz, ss, gz, gs, if_true, if_false, Bool.false_eq_true, Bool.not_true, Bool.not_false, Nat.add_zero, Nat.zero_add, Nat.reduceAdd]
  refine wpPi_do rfl (fun K hK => ?_)
  refine wp_enterQ (run_call 53 [.tmp 8] _ rfl _ Tryz.func53 rfl (by kernel_rfl) [.slice (some ⟨w5.heap.size, 0, none⟩) 3 3] rfl _) (concat_any hbs (by rw [hml]; omega) (by rw [hml]; omega)) ?_
  rintro e w7 ⟨v7, rfl, hb7, hm7⟩
  refine ⟨_, rfl, hK _ _ trivial ?_⟩
  clear hK K
  try simp only [pl, pn, el, ec, sz, ss, gz, gs, if_true, if_false, Bool.false_eq_true, Bool.not_true, Bool.not_false, Nat.add_zero, Nat.zero_add, Nat.reduceAdd]
  refine wpPi_do rfl (fun K hK => ?_)
  refine wp_enterQ (run_call 18 [.tmp 9] _ rfl _ Tryz.func18 rfl (by kernel_rfl) [v7] rfl _) (shaSum_any hb7.sl (by rw [hml]; omega)) ?_
  rintro e w8 ⟨rfl, hm8⟩
  have hM8 := (hM6.trans0 hm7).trans0 hm8
  replace hB2 := hM8.obj id hB2
  generalize hR : [[1], x.way, x.val].flatten = R at *
  refine ⟨_, rfl, hK _ _ trivial ?_⟩
  clear hK K
  try simp only [pl, pn, el, ec, sz, ss, gz, gs, if_true, if_false, Bool.false_eq_true, Bool.not_true, Bool.not_false, Nat.add_zero, Nat.zero_add, Nat.reduceAdd]
  refine wpPi_do rfl (fun K hK => ?_)
  have hrs : (idCells (shaL R)).size = 32 := by rw [idCells_size]; exact shaL_len _
  refine wp_storeA 24 _ _ b2 0 (idCells (shaL R)) (by rfl) (by rfl) (by rfl) (idCells_one _) 32 (by kernel_rfl) hrs _ _ hB2 (by rw [hrs, idCells_size]; simp) (fun w9 hB9 hm9 => ?_)
  rw [putRow_whole (by rw [hrs, idCells_size]; rfl)] at hB9
  refine hK _ _ trivial ?_
  clear hK K
  try simp only [pl, pn, el, ec, sz, ss, gz, gs, if_true, if_false, Bool.false_eq_true, Bool.not_true, Bool.not_false, Nat.add_zero, Nat.zero_add, Nat.reduceAdd]
  refine wpPi_nil ?_
  have hM9 : Mod NoB w w9 := (hM2.trans0 hM8).transB hm9 (by omega)
  clear hm9 hB2 hM8 hM6 hbs
  go_wp2
  refine bodyPost_ret (results_cell_row rfl _ _ b2 _ _ _ _ (by rfl) hB9 Tryz.underlying24 rfl (by rw [hrs]; kernel_rfl)) rfl ?_
  exact ⟨rfl, hM9⟩
end Go.Proofs.YtchkikmmcmjcgaaGreat

/- The digest of two sides; the bit of a way; sort.Search; leaves cut in two sides. -/
namespace Go.Proofs.YtchkikmmcmjcgaaGreat
set_option linter.unusedSimpArgs false
set_option linter.unusedVariables false
set_option linter.unnecessarySimpa false
set_option linter.unusedSectionVars false
open Go.RowKit


section
variable {P : Program} {o : Oper} {a : Act}
theorem run_callV (g : FuncId) (x : Operand) (xs : List Operand) (ts : Array TypeId) (lb : Array Value) (ho : o.op = .call { callee := .value x, args := xs.toArray, argTypes := ts }) (hx : a.eval x = .func (.func g) #[] lb)
    (eg : ∀ args w, (callFunc g args).run P w = .ok (.enter g args) w) (args : List Value) (ha : xs.map a.eval = args) (w : World) : (execOp a.eval o).run P w = .ok (.enter g (args.toArray ++ lb)) w := by
  subst ha
  unfold execOp
  simp [ho, resolve, hx, Deferred.ofValue, invoke, eg]
theorem exec_shr8 {w : World} (t : TypeId) (x y : Operand) (yt : TypeId) (m : Nat) (k : IntKind) (n : Nat) (ho : o.op = .binOp .shr t x y yt) (hx : a.eval x = .int .u8 (m : Int)) (hy : a.eval y = .int k (n : Int)) (hn : n ≤ 7) (hm : m < 256) : (execOp a.eval o).run P w = .ok (.value (.int .u8 ((m / 2 ^ n : Nat) : Int))) w := by
  have h1 : (0 : Int) ≤ (m : Int) / 2 ^ n := Int.ediv_nonneg (by omega) (Int.le_of_lt (Int.pow_pos (by omega)))
  have h2 : (m : Int) / 2 ^ n ≤ (m : Int) := Int.ediv_le_self _ (by omega)
  have h3 : ((m / 2 ^ n : Nat) : Int) = (m : Int) / 2 ^ n := by simp
  rw [h3]
  unfold execOp
  simp only [ho, hx, hy]
  go_simp
  all_goals (try rw [Int.emod_eq_of_lt h1 (by omega)])
theorem exec_and1 {w : World} (t : TypeId) (x y : Operand) (yt : TypeId) (m : Nat) (ho : o.op = .binOp .and t x y yt) (hx : a.eval x = .int .u8 (m : Int)) (hy : a.eval y = .int .u8 1) (hm : m < 256) : (execOp a.eval o).run P w = .ok (.value (.int .u8 ((m % 2 : Nat) : Int))) w := by
  have hb : bits .and .u8 (m : Int) 1 = (m : Int) % 2 := by
    have e : (BitVec.ofInt 8 (m : Int)).toNat = m := by rw [BitVec.ofInt_natCast, BitVec.toNat_ofNat]; exact Nat.mod_eq_of_lt (by omega)
    show IntKind.u8.wrap ((BitVec.ofInt 8 (m : Int) &&& BitVec.ofInt 8 1).toNat : Int) = _
    rw [BitVec.toNat_and, e, IntKind.wrap_u8', show (BitVec.ofInt 8 1).toNat = 1 from rfl, Nat.and_one_is_mod]
    omega
  unfold execOp
  simp only [ho, hx, hy]
  go_simp
end
set_option maxRecDepth 10000 in
theorem right_any (way : List UInt8) (hw : way.length = 32) (i : Nat) (hi : i < 256) (w : World) : Calls Tryz.prog 49 #[.agg (idCells way), .int .i64 (i : Int)] w (RetM (.bool (bitAt way i)) w) := by
  have hsz : (idCells way).size = 32 := by rw [idCells_size, hw]
  have hq : i / 8 < 32 := by omega
  have hc : (idCells way)[i / 8]? = some (byteV (way.getD (i / 8) 0)) := by
    simp [idCells, List.getD_eq_getElem?_getD, hw, hq]
  have hbit : bitAt way i = decide ((((way.getD (i / 8) 0).toNat / 2 ^ (7 - i % 8) % 2 : Nat) : Int) = 1) := by unfold bitAt; rw [decide_eq_decide]; omega
  rw [hbit]
  have hx256 := UInt8.toNat_lt (way.getD (i / 8) 0)
  obtain ⟨C, hC⟩ : ∃ C, idCells way = C := ⟨_, rfl⟩
  rw [hC] at hsz hc ⊢
  generalize way.getD (i / 8) 0 = x at *
  clear hC hbit
  go_enter Tryz.func49, Tryz.ntmps49
  go_upto_region 0 with (fail)
  refine wp_region_seq [1, 3] (fun _ => True) (by rfl) (by rfl) trivial ?_
  simp only [List.zip_cons_cons, List.zip_nil_right]
  refine wpPi_do rfl (fun K hK => ?_)
  refine wp_box 24 _ _ (by rfl) (by rfl) (fun w1 hB1 hm1 hs1 => ?_)
  replace hB1 : w1.heap[w.heap.size]? = some (.cells C 24 (0, 0)) := hB1
  refine hK _ _ trivial ?_
  clear hK K
  try simp only [pl, pn, el, ec, sz, ss, gz, gs, if_true, if_false, Bool.false_eq_true, Bool.not_true, Bool.not_false, Nat.add_zero, Nat.zero_add, Nat.reduceAdd]
  refine wpPi_assign _ rfl rfl ?_
  simp only [pl, pn, el, ec, sz, ss, gz, gs, if_true, if_false, Bool.false_eq_true, Bool.not_true, Bool.not_false, Nat.add_zero, Nat.zero_add, Nat.reduceAdd]
  refine wpPi_nil ?_
  have hcell := (CellsAt.whole hB1).cell hc
  generalize hb1 : w.heap.size = b1 at *
  clear hB1 hc
  go_upto_region 1 with (fail)
  refine wp_region_seq [3, 3, 3, 1, 3, 3, 3, 3, 3, 3, 3] (fun _ => True) (by rfl) (by rfl) trivial ?_
  simp only [List.zip_cons_cons, List.zip_nil_right]
  refine wpPi_move _ rfl rfl ?_
  simp only [pl, pn, el, ec, sz, ss, gz, gs, if_true, if_false, Bool.false_eq_true, Bool.not_true, Bool.not_false, Nat.add_zero, Nat.zero_add, Nat.reduceAdd]
  refine wpPi_quoR _ _ _ _ (i : Int) 8 ((i / 8 : Nat) : Int) rfl rfl rfl rfl (by rw [Int.tdiv_eq_ediv_of_nonneg (by omega)]; omega) (by omega) (by omega) (by omega) ?_
  simp only [pl, pn, el, ec, sz, ss, gz, gs, if_true, if_false, Bool.false_eq_true, Bool.not_true, Bool.not_false, Nat.add_zero, Nat.zero_add, Nat.reduceAdd]
  refine wpPi_indexA _ _ _ _ _ _ _ _ rfl rfl rfl rfl Tryz.underlying24 (n := 1) (by kernel_rfl) hq ?_
  simp only [pl, pn, el, ec, sz, ss, gz, gs, if_true, if_false, Bool.false_eq_true, Bool.not_true, Bool.not_false, Nat.add_zero, Nat.zero_add, Nat.reduceAdd]
  refine wpPi_do rfl (fun K hK => ?_)
  refine wp_exec (exec_load1 5 _ (by rfl) b1 (i / 8 * 1) (by rfl) (byteV x) (by rw [Nat.mul_one]; rw [Nat.zero_add] at hcell; exact hcell) _ Tryz.underlying5 rfl) ?_
  refine hK _ _ trivial ?_
  clear hK K
  try simp only [pl, pn, el, ec, sz, ss, gz, gs, if_true, if_false, Bool.false_eq_true, Bool.not_true, Bool.not_false, Nat.add_zero, Nat.zero_add, Nat.reduceAdd]
  refine wpPi_move _ rfl rfl ?_
  simp only [pl, pn, el, ec, sz, ss, gz, gs, if_true, if_false, Bool.false_eq_true, Bool.not_true, Bool.not_false, Nat.add_zero, Nat.zero_add, Nat.reduceAdd]
  refine wpPi_remR _ _ _ _ (i : Int) 8 ((i % 8 : Nat) : Int) rfl rfl rfl rfl (by omega) (by omega) (by omega) ?_
  simp only [pl, pn, el, ec, sz, ss, gz, gs, if_true, if_false, Bool.false_eq_true, Bool.not_true, Bool.not_false, Nat.add_zero, Nat.zero_add, Nat.reduceAdd]
  refine wpPi_subR _ _ _ _ 7 ((i % 8 : Nat) : Int) ((7 - i % 8 : Nat) : Int) rfl rfl rfl rfl (by omega) (by omega) (by omega) ?_
  simp only [pl, pn, el, ec, sz, ss, gz, gs, if_true, if_false, Bool.false_eq_true, Bool.not_true, Bool.not_false, Nat.add_zero, Nat.zero_add, Nat.reduceAdd]
  refine wpPi_any (v := .int .u8 ((x.toNat / 2 ^ (7 - i % 8) : Nat) : Int)) rfl (fun w' => exec_shr8 _ _ _ _ x.toNat .i64 (7 - i % 8) rfl rfl rfl (by omega) hx256) ?_
  simp only [pl, pn, el, ec, sz, ss, gz, gs, if_true, if_false, Bool.false_eq_true, Bool.not_true, Bool.not_false, Nat.add_zero, Nat.zero_add, Nat.reduceAdd]
  refine wpPi_any (v := .int .u8 ((x.toNat / 2 ^ (7 - i % 8) % 2 : Nat) : Int)) rfl (fun w' => exec_and1 _ _ _ _ (x.toNat / 2 ^ (7 - i % 8)) rfl rfl rfl (Nat.lt_of_le_of_lt (Nat.div_le_self _ _) hx256)) ?_
  simp only [pl, pn, el, ec, sz, ss, gz, gs, if_true, if_false, Bool.false_eq_true, Bool.not_true, Bool.not_false, Nat.add_zero, Nat.zero_add, Nat.reduceAdd]
  refine wpPi_cmp _ _ _ _ _ _ _ _ rfl rfl rfl rfl rfl _ rfl ?_
  simp only [pl, pn, el, ec, sz, ss, gz, gs, if_true, if_false, Bool.false_eq_true, Bool.not_true, Bool.not_false, Nat.add_zero, Nat.zero_add, Nat.reduceAdd]
  refine wpPi_assign _ rfl rfl ?_
  simp only [pl, pn, el, ec, sz, ss, gz, gs, if_true, if_false, Bool.false_eq_true, Bool.not_true, Bool.not_false, Nat.add_zero, Nat.zero_add, Nat.reduceAdd]
  refine wpPi_nil ?_
  go_wp2
  go_ret
  exact ⟨rfl, hm1⟩
set_option maxRecDepth 10000 in
theorem two_any (a b : List UInt8) (ha : a.length = 32) (hb : b.length = 32) (w : World) : Calls Tryz.prog 34 #[.agg (idCells a), .agg (idCells b)] w (RetM (.agg (idCells (twoD a b))) w) := by
  have hmm : twoD a b = shaL ([[2], a, b].flatten) := by simp [twoD]
  have hml : ([[2], a, b].flatten : List UInt8).length = 65 := by simp [ha, hb]
  rw [hmm]
  obtain ⟨C, hC⟩ : ∃ C, idCells a = C := ⟨_, rfl⟩
  obtain ⟨D, hD⟩ : ∃ D, idCells b = D := ⟨_, rfl⟩
  have HCC := Lib.hid hC
  have HDD := Lib.hid hD
  rw [hC, hD]
  clear hC hD hmm
  go_enter Tryz.func34, Tryz.ntmps34
  go_upto_region 0 with (fail)
  refine wp_region_seq [1, 1, 1] (fun _ => True) (by rfl) (by rfl) trivial ?_
  simp only [List.zip_cons_cons, List.zip_nil_right]
  refine wpPi_do rfl (fun K hK => ?_)
  refine wp_box 24 _ _ (by rfl) (by rfl) (fun w1 hB1 hm1 hs1 => ?_)
  replace hB1 : w1.heap[w.heap.size]? = some (.cells C 24 (0, 0)) := hB1
  refine hK _ _ trivial ?_
  clear hK K
  try simp only [pl, pn, el, ec, sz, ss, gz, gs, if_true, if_false, Bool.false_eq_true, Bool.not_true, Bool.not_false, Nat.add_zero, Nat.zero_add, Nat.reduceAdd]
  refine wpPi_do rfl (fun K hK => ?_)
  refine wp_box 24 _ _ (by rfl) (by rfl) (fun w2 hB2 hm2 hs2 => ?_)
  replace hB2 : w2.heap[w1.heap.size]? = some (.cells D 24 (0, 0)) := hB2
  refine hK _ _ trivial ?_
  clear hK K
  try simp only [pl, pn, el, ec, sz, ss, gz, gs, if_true, if_false, Bool.false_eq_true, Bool.not_true, Bool.not_false, Nat.add_zero, Nat.zero_add, Nat.reduceAdd]
  refine wpPi_do rfl (fun K hK => ?_)
  refine wp_alloc 24 _ (by rfl) idZ (fun w3 hB3 hm3 hs3 => ?_)
  replace hB3 : w3.heap[w2.heap.size]? = some (.cells (idCells (List.replicate 32 0)) 24 (0, 0)) := hB3
  refine hK _ _ trivial ?_
  clear hK K
  try simp only [pl, pn, el, ec, sz, ss, gz, gs, if_true, if_false, Bool.false_eq_true, Bool.not_true, Bool.not_false, Nat.add_zero, Nat.zero_add, Nat.reduceAdd]
  refine wpPi_nil ?_
  have hC1 := CellsAt.whole (hm3.obj id (hm2.obj id hB1))
  have hC2 := CellsAt.whole (hm3.obj id hB2)
  rw [← HCC.out] at hC1
  rw [← HDD.out] at hC2
  have hW := sl_of_cells hC1 (by omega)
  have hV := sl_of_cells hC2 (by omega)
  rw [ha] at hW; rw [hb] at hV
  have hM2 := (hm1.trans0 hm2).trans0 hm3
  have hlt : w.heap.size ≤ w2.heap.size := by omega
  generalize hb1 : w.heap.size = b1 at *
  generalize hb2 : w1.heap.size = b2 at *
  generalize hb3 : w2.heap.size = b3 at *
  clear hC1 hC2 hB1 hB2 hm1 hm2 hm3
  go_upto_region 1 with (fail)
  have hd : Mod NoB w3 w3.drew := (Mod.refl _ _).drew
  refine wp_region_pi [(1, 3), (2, 3), (0, 1), (3, 1), (4, 1), (5, 1), (6, 1)] [] (fun _ => True) (by kernel_rfl) (by kernel_rfl) (by kernel_rfl) (by kernel_rfl) (fun _ _ _ _ hd h => ⟨hd.trans h.1, h.2⟩) trivial ?_
  simp only [List.map_cons, List.map_nil, List.getD_cons_zero, List.getD_cons_succ]
  refine wpPi_sliceArr 24 5 _ _ _ 32 rfl rfl rfl Tryz.underlying24 (by kernel_rfl) ?_
  simp only [pl, pn, el, ec, sz, ss, gz, gs, if_true, if_false, Bool.false_eq_true, Bool.not_true, Bool.not_false, Nat.add_zero, Nat.zero_add, Nat.reduceAdd]
  refine wpPi_sliceArr 24 5 _ _ _ 32 rfl rfl rfl Tryz.underlying24 (by kernel_rfl) ?_
  simp only [pl, pn, el, ec, sz, ss, gz, gs, if_true, if_false, Bool.false_eq_true, Bool.not_true, Bool.not_false, Nat.add_zero, Nat.zero_add, Nat.reduceAdd]
  refine wpPi_do rfl (fun K hK => ?_)
  refine wp_buildSlice1 25 5 _ (byteV 2) (.int .u8 0) 1 (by rfl) (by rfl) Tryz.underlying25 (by kernel_rfl) (by omega) (by omega) (by rfl) (fun w5 hB5 hm5 hs5 => ?_)
  replace hB5 : w5.heap[w3.heap.size]? = some (.cells #[byteV 2] 5 (0, 0)) := hB5
  refine hK _ _ trivial ?_
  clear hK K
  try simp only [pl, pn, el, ec, sz, ss, gz, gs, if_true, if_false, Bool.false_eq_true, Bool.not_true, Bool.not_false, Nat.add_zero, Nat.zero_add, Nat.reduceAdd]
  refine wpPi_do rfl (fun K hK => ?_)
  refine wp_buildSliceL 122 25 3 [(0, _), (1, _), (2, _)] [.slice (some ⟨w3.heap.size, 0, none⟩) 1 1, .slice (some ⟨b1, 0, none⟩) 32 32, .slice (some ⟨b2, 0, none⟩) 32 32] (.slice none 0 0) 1 (by rfl) (by rfl) (by rfl) Tryz.underlying122 bytes_z (by omega) (by omega) (by simp [Value.cells]) (fun w6 hB6 hm6 hs6 => ?_)
  replace hB6 : w6.heap[w5.heap.size]? = some (.cells #[.slice (some ⟨w3.heap.size, 0, none⟩) 1 1, .slice (some ⟨b1, 0, none⟩) 32 32, .slice (some ⟨b2, 0, none⟩) 32 32] 25 (0, 0)) := hB6
  have hM6 := (hd.trans0 hm5).trans0 hm6
  have hbs := bss3 hB6 (sl_of_cells (x := [2]) (CellsAt.whole (hm6.obj id hB5)) (by simp)) (hW.keep0 hM6) (hV.keep0 hM6)
  refine hK _ _ trivial ?_
  clear hK K
  try simp only [pl, pn, el, ec, sz, ss, gz, gs, if_true, if_false, Bool.false_eq_true, Bool.not_true, Bool.not_false, Nat.add_zero, Nat.zero_add, Nat.reduceAdd]
  refine wpPi_do rfl (fun K hK => ?_)
  refine wp_enterQ (run_call 53 [.tmp 8] _ rfl _ Tryz.func53 rfl (by kernel_rfl) [.slice (some ⟨w5.heap.size, 0, none⟩) 3 3] rfl _) (concat_any hbs (by rw [hml]; omega) (by rw [hml]; omega)) ?_
  rintro e w7 ⟨v7, rfl, hb7, hm7⟩
  refine ⟨_, rfl, hK _ _ trivial ?_⟩
  clear hK K
  try simp only [pl, pn, el, ec, sz, ss, gz, gs, if_true, if_false, Bool.false_eq_true, Bool.not_true, Bool.not_false, Nat.add_zero, Nat.zero_add, Nat.reduceAdd]
  refine wpPi_do rfl (fun K hK => ?_)
  refine wp_enterQ (run_call 18 [.tmp 9] _ rfl _ Tryz.func18 rfl (by kernel_rfl) [v7] rfl _) (shaSum_any hb7.sl (by rw [hml]; omega)) ?_
  rintro e w8 ⟨rfl, hm8⟩
  have hM8 := (hM6.trans0 hm7).trans0 hm8
  replace hB3 := hM8.obj id hB3
  generalize hR : [[2], a, b].flatten = R at *
  refine ⟨_, rfl, hK _ _ trivial ?_⟩
  clear hK K
  try simp only [pl, pn, el, ec, sz, ss, gz, gs, if_true, if_false, Bool.false_eq_true, Bool.not_true, Bool.not_false, Nat.add_zero, Nat.zero_add, Nat.reduceAdd]
  refine wpPi_do rfl (fun K hK => ?_)
  have hrs : (idCells (shaL R)).size = 32 := by rw [idCells_size]; exact shaL_len _
  refine wp_storeA 24 _ _ b3 0 (idCells (shaL R)) (by rfl) (by rfl) (by rfl) (idCells_one _) 32 (by kernel_rfl) hrs _ _ hB3 (by rw [hrs, idCells_size]; simp) (fun w9 hB9 hm9 => ?_)
  rw [putRow_whole (by rw [hrs, idCells_size]; rfl)] at hB9
  refine hK _ _ trivial ?_
  clear hK K
  try simp only [pl, pn, el, ec, sz, ss, gz, gs, if_true, if_false, Bool.false_eq_true, Bool.not_true, Bool.not_false, Nat.add_zero, Nat.zero_add, Nat.reduceAdd]
  refine wpPi_nil ?_
  have hM9 : Mod NoB w w9 := (hM2.trans0 hM8).transB hm9 (by omega)
  clear hm9 hB3 hM8 hM6 hbs
  go_wp2
  refine bodyPost_ret (results_cell_row rfl _ _ b3 _ _ _ _ (by rfl) hB9 Tryz.underlying24 rfl (by rw [hrs]; kernel_rfl)) rfl ?_
  exact ⟨rfl, hM9⟩
/-- Leaves in memory. -/
def Ls (w : World) (G : Nat → Prop) (v : Value) (l : List Leaf) : Prop := Sl false w G 65 LeafC v l
set_option maxRecDepth 10000 in
theorem cutF_any {w : World} {G : Nat → Prop} {v : Value} {l : List Leaf} (hl : Ls w G v l) (Bl Bb bits : Nat) (hBl : w.heap[Bl]? = some (.cells #[v] 49 (0, 0))) (hBb : w.heap[Bb]? = some (.cells #[.int .i64 (bits : Int)] 3 (0, 0))) (i : Nat) (hi : i < l.length) (hb : bits < 256) :
    Calls Tryz.prog 64 #[.int .i64 (i : Int), .pointer (some ⟨Bl, 0, none⟩), .pointer (some ⟨Bb, 0, none⟩)] w (RetM (.bool (bitAt l[i].way bits)) w) := by
  obtain ⟨ad, cap, rfl, hlm, hat⟩ := Sl.at hl
  obtain ⟨b, off, rfl, -, -, hc⟩ := hat i hi
  obtain ⟨_, -, ⟨rfl, hok⟩, hc⟩ := hc i hi
  have hcw := leaf_way hok hc
  have hwl := hok.1
  generalize l[i] = x at *
  have hL := CellsAt.one.1 (CellsAt.whole hBl)
  have hB := CellsAt.one.1 (CellsAt.whole hBb)
  have hrs : (idCells x.way).size = 32 := by rw [idCells_size, hwl]
  clear hat hBl hBb hc hl
  go_enter Tryz.func64, Tryz.ntmps64
  go_upto_region 1 with (fail)
  have hS : Mod NoB w w.drew := (Mod.refl _ _).drew
  refine wp_region_pi [(0, 0), (1, 3), (2, 3), (3, 3), (4, 0), (5, 0), (6, 1), (7, 3)] [] (fun w' => Mod NoB w w') (by kernel_rfl) (by kernel_rfl) (by kernel_rfl) (by kernel_rfl) (fun _ _ _ _ hd h => ⟨hd.trans h.1, h.2⟩) hS ?_
  simp only [List.map_cons, List.map_nil, List.getD_cons_zero, List.getD_cons_succ]
  refine wpPi_val rfl (fun w' hS => exec_load1 49 _ (by rfl) Bl 0 (by rfl) _ (hS.cell id hL) _ Tryz.underlying49 rfl) ?_
  simp only [pl, pn, el, ec, sz, ss, gz, gs, if_true, if_false, Bool.false_eq_true, Bool.not_true, Bool.not_false, Nat.add_zero, Nat.zero_add, Nat.reduceAdd]
  refine wpPi_move _ rfl rfl ?_
  simp only [pl, pn, el, ec, sz, ss, gz, gs, if_true, if_false, Bool.false_eq_true, Bool.not_true, Bool.not_false, Nat.add_zero, Nat.zero_add, Nat.reduceAdd]
  refine wpPi_index _ _ _ _ _ _ _ _ _ rfl rfl rfl rfl Tryz.underlying49 (n := 65) (by kernel_rfl) hi ?_
  simp only [pl, pn, el, ec, sz, ss, gz, gs, if_true, if_false, Bool.false_eq_true, Bool.not_true, Bool.not_false, Nat.add_zero, Nat.zero_add, Nat.reduceAdd]
  refine wpPi_field _ _ _ _ _ _ rfl rfl rfl fo_59_1 ?_
  simp only [pl, pn, el, ec, sz, ss, gz, gs, if_true, if_false, Bool.false_eq_true, Bool.not_true, Bool.not_false, Nat.add_zero, Nat.zero_add, Nat.reduceAdd]
  refine wpPi_val rfl (fun w' hS => exec_loadA 24 _ (by rfl) b (off + i * 65 + 1) (by rfl) (idCells x.way) (hcw.keep hS id) _ Tryz.underlying24 rfl 32 (by kernel_rfl) hrs) ?_
  simp only [pl, pn, el, ec, sz, ss, gz, gs, if_true, if_false, Bool.false_eq_true, Bool.not_true, Bool.not_false, Nat.add_zero, Nat.zero_add, Nat.reduceAdd]
  refine wpPi_val rfl (fun w' hS => exec_load1 3 _ (by rfl) Bb 0 (by rfl) _ (hS.cell id hB) _ Tryz.underlying3 rfl) ?_
  simp only [pl, pn, el, ec, sz, ss, gz, gs, if_true, if_false, Bool.false_eq_true, Bool.not_true, Bool.not_false, Nat.add_zero, Nat.zero_add, Nat.reduceAdd]
  refine wpPi_do rfl (fun K hK => ?_)
  refine wp_enterQ (run_call 49 [.tmp 9, .tmp 10] _ rfl _ Tryz.func49 rfl (by kernel_rfl) [.agg (idCells x.way), .int .i64 (bits : Int)] rfl _) (right_any x.way hwl bits hb _) ?_
  rintro e w2 ⟨rfl, hm2⟩
  have hM2 := hS.trans0 hm2
  refine ⟨_, rfl, hK _ _ hM2 ?_⟩
  clear hK K
  try simp only [pl, pn, el, ec, sz, ss, gz, gs, if_true, if_false, Bool.false_eq_true, Bool.not_true, Bool.not_false, Nat.add_zero, Nat.zero_add, Nat.reduceAdd]
  refine wpPi_assign _ rfl rfl ?_
  simp only [pl, pn, el, ec, sz, ss, gz, gs, if_true, if_false, Bool.false_eq_true, Bool.not_true, Bool.not_false, Nat.add_zero, Nat.zero_add, Nat.reduceAdd]
  refine wpPi_nil ?_
  go_wp2
  go_ret
  exact ⟨rfl, hM2⟩
end Go.Proofs.YtchkikmmcmjcgaaGreat

/- The library's contracts on sorts and on a map's keys, at this program: which numbers its functions and types have, and that its bodies are the contracts' own. -/
namespace Go.Proofs.YtchkikmmcmjcgaaGreat
set_option linter.unusedSimpArgs false
set_option linter.unusedVariables false
set_option linter.unnecessarySimpa false
set_option linter.unusedSectionVars false
open Go.Shelf
def Tryz.sortA_ren : Go.Shelf.Ren := ⟨fun | 6 => 31 | 8 => 52 | 9 => 51 | 19 => 75 | 20 => 76 | 21 => 66 | 22 => 67 | 23 => 68 | 24 => 69 | 25 => 70 | 26 => 71 | 27 => 72 | 28 => 73 | 29 => 74 | 36 => 94 | 31 => 95 | 32 => 96 | 37 => 97 | 38 => 98 | 39 => 99 | 41 => 105 | n => n, fun | 27 => 67 | 29 => 9 | 3 => 3 | 32 => 87 | 26 => 67 | 0 => 0 | 44 => 91 | 46 => 98 | 4 => 4 | 36 => 114 | 35 => 113 | 41 => 102 | 5 => 5 | 9 => 9 | 53 => 136 | 57 => 140 | 63 => 146 | 64 => 147 | n => n, fun | n => n⟩
theorem Tryz.sortA : Go.Proofs.SlLaysM.n6 Tryz.prog Tryz.sortA_ren := {
  mixed := by kernel_rfl
  f6 := ⟨Tryz.f31.name, by decide, Tryz.func31.trans (congrArg some (by kernel_rfl))⟩
  f8 := Tryz.func52.trans (congrArg some (by kernel_rfl))
  f9 := ⟨Tryz.f51.name, by decide, Tryz.func51.trans (congrArg some (by kernel_rfl))⟩
  f19 := Tryz.func75.trans (congrArg some (by kernel_rfl))
  f20 := Tryz.func76.trans (congrArg some (by kernel_rfl))
  f21 := ⟨Tryz.f66.name, by decide, Tryz.func66.trans (congrArg some (by kernel_rfl))⟩
  f22 := ⟨Tryz.f67.name, by decide, Tryz.func67.trans (congrArg some (by kernel_rfl))⟩
  f23 := ⟨Tryz.f68.name, by decide, Tryz.func68.trans (congrArg some (by kernel_rfl))⟩
  f24 := ⟨Tryz.f69.name, by decide, Tryz.func69.trans (congrArg some (by kernel_rfl))⟩
  f25 := ⟨Tryz.f70.name, by decide, Tryz.func70.trans (congrArg some (by kernel_rfl))⟩
  f26 := ⟨Tryz.f71.name, by decide, Tryz.func71.trans (congrArg some (by kernel_rfl))⟩
  f27 := ⟨Tryz.f72.name, by decide, Tryz.func72.trans (congrArg some (by kernel_rfl))⟩
  f28 := ⟨Tryz.f73.name, by decide, Tryz.func73.trans (congrArg some (by kernel_rfl))⟩
  f29 := ⟨Tryz.f74.name, by decide, Tryz.func74.trans (congrArg some (by kernel_rfl))⟩
  f31 := Tryz.func95.trans (congrArg some (by kernel_rfl))
  f32 := Tryz.func96.trans (congrArg some (by kernel_rfl))
  f36 := ⟨Tryz.f94.name, by decide, Tryz.func94.trans (congrArg some (by kernel_rfl))⟩
  f37 := ⟨Tryz.f97.name, by decide, Tryz.func97.trans (congrArg some (by kernel_rfl))⟩
  f38 := ⟨Tryz.f98.name, by decide, Tryz.func98.trans (congrArg some (by kernel_rfl))⟩
  f39 := ⟨Tryz.f99.name, by decide, Tryz.func99.trans (congrArg some (by kernel_rfl))⟩
  f41 := ⟨Tryz.f105.name, by decide, Tryz.func105.trans (congrArg some (by kernel_rfl))⟩
  t0 := Tryz.underlying0
  a0 := Tryz.isAgg0
  z0 := Tryz.sizeOf0
  v0 := Tryz.zeroValue0
  t3 := Tryz.underlying3
  a3 := Tryz.isAgg3
  z3 := Tryz.sizeOf3
  v3 := Tryz.zeroValue3
  t4 := Tryz.underlying4
  a4 := Tryz.isAgg4
  z4 := Tryz.sizeOf4
  v4 := Tryz.zeroValue4
  t5 := Tryz.underlying5
  a5 := Tryz.isAgg5
  z5 := Tryz.sizeOf5
  v5 := Tryz.zeroValue5
  t9 := Tryz.underlying9
  a9 := Tryz.isAgg9
  z9 := Tryz.sizeOf9
  v9 := Tryz.zeroValue9
  t26 := Tryz.underlying67
  a26 := Tryz.isAgg67
  z26 := Tryz.sizeOf67
  v26 := Tryz.zeroValue67
  t27 := Tryz.underlying67
  a27 := Tryz.isAgg67
  z27 := Tryz.sizeOf67
  v27 := Tryz.zeroValue67
  t29 := Tryz.underlying9
  a29 := Tryz.isAgg9
  z29 := Tryz.sizeOf9
  v29 := Tryz.zeroValue9
  t32 := Tryz.underlying87
  a32 := Tryz.isAgg87
  z32 := Tryz.sizeOf87
  v32 := Tryz.zeroValue87
  t35 := Tryz.underlying113
  a35 := Tryz.isAgg113
  z35 := Tryz.sizeOf113
  v35 := Tryz.zeroValue113
  t36 := Tryz.underlying114
  a36 := Tryz.isAgg114
  z36 := Tryz.sizeOf114
  v36 := Tryz.zeroValue114
  t41 := Tryz.underlying102
  a41 := Tryz.isAgg102
  z41 := Tryz.sizeOf102
  v41 := Tryz.zeroValue102
  t44 := Tryz.underlying91
  a44 := Tryz.isAgg91
  z44 := Tryz.sizeOf91
  v44 := Tryz.zeroValue91
  t46 := Tryz.underlying98
  a46 := Tryz.isAgg98
  z46 := Tryz.sizeOf98
  v46 := Tryz.zeroValue98
  t53 := Tryz.underlying136
  a53 := Tryz.isAgg136
  z53 := Tryz.sizeOf136
  v53 := Tryz.zeroValue136
  t57 := Tryz.underlying140
  a57 := Tryz.isAgg140
  z57 := Tryz.sizeOf140
  v57 := Tryz.zeroValue140
  t63 := Tryz.underlying146
  a63 := Tryz.isAgg146
  z63 := Tryz.sizeOf146
  v63 := Tryz.zeroValue146
  t64 := Tryz.underlying147
  a64 := Tryz.isAgg147
  z64 := Tryz.sizeOf147
  v64 := Tryz.zeroValue147 }
def Tryz.sortL_ren : Go.Shelf.Ren := ⟨fun | 14 => 61 | 20 => 83 | 21 => 84 | 22 => 85 | 23 => 86 | 24 => 87 | 25 => 88 | 26 => 89 | 27 => 90 | 46 => 102 | 47 => 95 | 48 => 96 | 49 => 103 | 50 => 104 | 15 => 52 | 57 => 107 | 28 => 75 | 29 => 76 | n => n, fun | 24 => 59 | 22 => 48 | 3 => 3 | 25 => 83 | 4 => 4 | 0 => 0 | 46 => 114 | 45 => 113 | 50 => 102 | 66 => 136 | 39 => 87 | 55 => 98 | 70 => 140 | 76 => 146 | 77 => 147 | 53 => 91 | 5 => 5 | 9 => 9 | n => n, fun | n => n⟩
theorem Tryz.sortL : Go.Proofs.SlLaysF0.n14 Tryz.prog Tryz.sortL_ren := {
  mixed := by kernel_rfl
  f14 := ⟨Tryz.f61.name, by decide, Tryz.func61.trans (congrArg some (by kernel_rfl))⟩
  f15 := Tryz.func52.trans (congrArg some (by kernel_rfl))
  f20 := ⟨Tryz.f83.name, by decide, Tryz.func83.trans (congrArg some (by kernel_rfl))⟩
  f21 := ⟨Tryz.f84.name, by decide, Tryz.func84.trans (congrArg some (by kernel_rfl))⟩
  f22 := ⟨Tryz.f85.name, by decide, Tryz.func85.trans (congrArg some (by kernel_rfl))⟩
  f23 := ⟨Tryz.f86.name, by decide, Tryz.func86.trans (congrArg some (by kernel_rfl))⟩
  f24 := ⟨Tryz.f87.name, by decide, Tryz.func87.trans (congrArg some (by kernel_rfl))⟩
  f25 := ⟨Tryz.f88.name, by decide, Tryz.func88.trans (congrArg some (by kernel_rfl))⟩
  f26 := ⟨Tryz.f89.name, by decide, Tryz.func89.trans (congrArg some (by kernel_rfl))⟩
  f27 := ⟨Tryz.f90.name, by decide, Tryz.func90.trans (congrArg some (by kernel_rfl))⟩
  f28 := Tryz.func75.trans (congrArg some (by kernel_rfl))
  f29 := Tryz.func76.trans (congrArg some (by kernel_rfl))
  f46 := ⟨Tryz.f102.name, by decide, Tryz.func102.trans (congrArg some (by kernel_rfl))⟩
  f47 := Tryz.func95.trans (congrArg some (by kernel_rfl))
  f48 := Tryz.func96.trans (congrArg some (by kernel_rfl))
  f49 := ⟨Tryz.f103.name, by decide, Tryz.func103.trans (congrArg some (by kernel_rfl))⟩
  f50 := ⟨Tryz.f104.name, by decide, Tryz.func104.trans (congrArg some (by kernel_rfl))⟩
  f57 := ⟨Tryz.f107.name, by decide, Tryz.func107.trans (congrArg some (by kernel_rfl))⟩
  t0 := Tryz.underlying0
  a0 := Tryz.isAgg0
  z0 := Tryz.sizeOf0
  v0 := Tryz.zeroValue0
  t3 := Tryz.underlying3
  a3 := Tryz.isAgg3
  z3 := Tryz.sizeOf3
  v3 := Tryz.zeroValue3
  t4 := Tryz.underlying4
  a4 := Tryz.isAgg4
  z4 := Tryz.sizeOf4
  v4 := Tryz.zeroValue4
  t5 := Tryz.underlying5
  a5 := Tryz.isAgg5
  z5 := Tryz.sizeOf5
  v5 := Tryz.zeroValue5
  t9 := Tryz.underlying9
  a9 := Tryz.isAgg9
  z9 := Tryz.sizeOf9
  v9 := Tryz.zeroValue9
  t22 := Tryz.underlying48
  a22 := Tryz.isAgg48
  z22 := Tryz.sizeOf48
  v22 := Tryz.zeroValue48
  t25 := Tryz.underlying83
  a25 := Tryz.isAgg83
  z25 := Tryz.sizeOf83
  v25 := Tryz.zeroValue83
  t39 := Tryz.underlying87
  a39 := Tryz.isAgg87
  z39 := Tryz.sizeOf87
  v39 := Tryz.zeroValue87
  t45 := Tryz.underlying113
  a45 := Tryz.isAgg113
  z45 := Tryz.sizeOf113
  v45 := Tryz.zeroValue113
  t46 := Tryz.underlying114
  a46 := Tryz.isAgg114
  z46 := Tryz.sizeOf114
  v46 := Tryz.zeroValue114
  t50 := Tryz.underlying102
  a50 := Tryz.isAgg102
  z50 := Tryz.sizeOf102
  v50 := Tryz.zeroValue102
  t53 := Tryz.underlying91
  a53 := Tryz.isAgg91
  z53 := Tryz.sizeOf91
  v53 := Tryz.zeroValue91
  t55 := Tryz.underlying98
  a55 := Tryz.isAgg98
  z55 := Tryz.sizeOf98
  v55 := Tryz.zeroValue98
  t66 := Tryz.underlying136
  a66 := Tryz.isAgg136
  z66 := Tryz.sizeOf136
  v66 := Tryz.zeroValue136
  t70 := Tryz.underlying140
  a70 := Tryz.isAgg140
  z70 := Tryz.sizeOf140
  v70 := Tryz.zeroValue140
  t76 := Tryz.underlying146
  a76 := Tryz.isAgg146
  z76 := Tryz.sizeOf146
  v76 := Tryz.zeroValue146
  t77 := Tryz.underlying147
  a77 := Tryz.isAgg147
  z77 := Tryz.sizeOf147
  v77 := Tryz.zeroValue147 }
def Tryz.lenB_ren : Go.Shelf.Ren := ⟨fun | 15 => 52 | 28 => 75 | 29 => 76 | n => n, fun | 39 => 87 | 3 => 3 | 53 => 91 | 55 => 98 | 4 => 4 | 5 => 5 | 9 => 9 | n => n, fun | n => n⟩
theorem Tryz.lenB : Go.Proofs.SlLaysF0.n15 Tryz.prog Tryz.lenB_ren := {
  mixed := by kernel_rfl
  f15 := Tryz.func52.trans (congrArg some (by kernel_rfl))
  f28 := Tryz.func75.trans (congrArg some (by kernel_rfl))
  f29 := Tryz.func76.trans (congrArg some (by kernel_rfl))
  t3 := Tryz.underlying3
  a3 := Tryz.isAgg3
  z3 := Tryz.sizeOf3
  v3 := Tryz.zeroValue3
  t4 := Tryz.underlying4
  a4 := Tryz.isAgg4
  z4 := Tryz.sizeOf4
  v4 := Tryz.zeroValue4
  t5 := Tryz.underlying5
  a5 := Tryz.isAgg5
  z5 := Tryz.sizeOf5
  v5 := Tryz.zeroValue5
  t9 := Tryz.underlying9
  a9 := Tryz.isAgg9
  z9 := Tryz.sizeOf9
  v9 := Tryz.zeroValue9
  t39 := Tryz.underlying87
  a39 := Tryz.isAgg87
  z39 := Tryz.sizeOf87
  v39 := Tryz.zeroValue87
  t53 := Tryz.underlying91
  a53 := Tryz.isAgg91
  z53 := Tryz.sizeOf91
  v53 := Tryz.zeroValue91
  t55 := Tryz.underlying98
  a55 := Tryz.isAgg98
  z55 := Tryz.sizeOf98
  v55 := Tryz.zeroValue98 }
def Tryz.compactA_ren : Go.Shelf.Ren := ⟨fun | 44 => 32 | n => n, fun | 25 => 67 | 26 => 9 | 3 => 3 | 4 => 4 | 0 => 0 | n => n, fun | n => n⟩
theorem Tryz.compactA : Go.Proofs.SlLaysN.n44 Tryz.prog Tryz.compactA_ren := {
  mixed := by kernel_rfl
  f44 := ⟨Tryz.f32.name, by decide, Tryz.func32.trans (congrArg some (by kernel_rfl))⟩
  t0 := Tryz.underlying0
  a0 := Tryz.isAgg0
  z0 := Tryz.sizeOf0
  v0 := Tryz.zeroValue0
  t3 := Tryz.underlying3
  a3 := Tryz.isAgg3
  z3 := Tryz.sizeOf3
  v3 := Tryz.zeroValue3
  t4 := Tryz.underlying4
  a4 := Tryz.isAgg4
  z4 := Tryz.sizeOf4
  v4 := Tryz.zeroValue4
  t25 := Tryz.underlying67
  a25 := Tryz.isAgg67
  z25 := Tryz.sizeOf67
  v25 := Tryz.zeroValue67
  t26 := Tryz.underlying9
  a26 := Tryz.isAgg9
  z26 := Tryz.sizeOf9
  v26 := Tryz.zeroValue9
  i26 := by kernel_rfl }
end Go.Proofs.YtchkikmmcmjcgaaGreat

/- sort.Search; leaves cut in two sides; the digest of leaves. -/
namespace Go.Proofs.YtchkikmmcmjcgaaGreat
set_option linter.unusedSimpArgs false
set_option linter.unusedVariables false
set_option linter.unnecessarySimpa false
set_option linter.unusedSectionVars false
open Go.RowKit Go.Shelf


theorem exec_conv_int {P : Program} {w : World} {o : Oper} {a : Act} (t u : TypeId) (x : Operand) (m : Int) (ho : o.op = .convert t u x) (hx : a.eval x = .int .u64 m) (ht : (P.underlying t).isSome = true) (hu : P.underlying u = some (.int .i64)) (v : Int) (hv : IntKind.i64.wrap m = v) :
    (execOp a.eval o).run P w = .ok (.value (.int .i64 v)) w := by
  subst hv
  unfold execOp
  simp only [ho, hx]
  have hk : P.intKind u = .i64 := by simp [Program.intKind, hu]
  have h1 := run_convert_int (P := P) w t u .u64 m ht (by rw [hk]; exact hu)
  rw [hk] at h1
  rw [Sem.run_bind, h1]
  rfl
theorem exec_makeFunc {P : Program} {w : World} {o : Oper} {a : Act} (f : FuncId) (xs : List Operand) (ho : o.op = .makeFunc (.func f) #[] xs.toArray) (vals : List Value) (hx : xs.map a.eval = vals) : (execOp a.eval o).run P w = .ok (.value (.func (.func f) #[] vals.toArray)) w := by
  subst hx
  unfold execOp
  simp [ho, Instr.makeFunc]
def SearchRel (w0 : World) (n : Nat) (p : Nat → Bool) (iv jv : Value) (w : World) : Prop := ∃ i j : Nat, iv = .int .i64 i ∧ jv = .int .i64 j ∧ i ≤ j ∧ j ≤ n ∧ (∀ t, t < i → p t = false) ∧ (j < n → p j = true) ∧ Mod NoB w0 w
def SearchR (w : World) (n : Nat) (p : Nat → Bool) : Ending → World → Prop := fun e w' => ∃ k : Nat, k ≤ n ∧ e = .returned (.int .i64 k) ∧ (k < n → p k = true) ∧ (∀ t, t < k → p t = false) ∧ Mod NoB w w'
set_option maxRecDepth 10000 in
theorem search_any (n : Nat) (hn : n ≤ 1000000) (p : Nat → Bool) (g : FuncId) (lb : Array Value) (eg : ∀ args w, (callFunc g args).run Tryz.prog w = .ok (.enter g args) w) (w : World)
    (hf : ∀ (i : Nat) w', i < n → Mod NoB w w' → Calls Tryz.prog g (#[.int .i64 (i : Int)] ++ lb) w' (RetM (.bool (p i)) w')) (hmono : ∀ a b, a ≤ b → b < n → p a = true → p b = true) :
    Calls Tryz.prog 63 #[.int .i64 (n : Int), .func (.func g) #[] lb] w (SearchR w n p) := by
  have HF := Lib.hid hf
  have HM := Lib.hid hmono
  have EG := Lib.hid eg
  clear hf hmono eg
  go_enter Tryz.func63, Tryz.ntmps63
  go_wp2
  go_loopw [5, 6] (SearchRel w n p) (fun i j _ => (intOf j).toNat - (intOf i).toNat)
  case atStart => exact ⟨0, n, rfl, rfl, by omega, by omega, fun t ht => by omega, fun h => by omega, Mod.refl _ _⟩
  case round =>
    rename World => wr
    obtain ⟨i, j, rfl, rfl, hij, hjn, hlo, hhi, hm⟩ := hrel
    have HLO := Lib.hid hlo
    have HHI := Lib.hid hhi
    clear hlo hhi
    by_cases hlt : i < j
    · have hz : (i : Int) < (j : Int) := by omega
      have hcv1 : IntKind.u64.wrap ((i : Int) + (j : Int)) = ((i + j : Nat) : Int) := by simp [IntKind.wrap, IntKind.bits, IntKind.signed]; omega
      obtain ⟨h, hh⟩ : ∃ h, (i + j) / 2 = h := ⟨_, rfl⟩
      have hil : i ≤ h := by omega
      have hhj : h < j := by omega
      have HCV1 := Lib.hid hcv1
      clear hcv1
      go_upto_region 3 with (fail)
      refine wp_region_seq [3, 3, 3, 3, 3, 3, 3] (fun _ => True) (by rfl) (by rfl) trivial ?_
      simp only [List.zip_cons_cons, List.zip_nil_right]
      refine wpPi_move _ rfl rfl ?_
      simp only [pl, pn, el, ec, sz, ss, gz, gs, if_true, if_false, Bool.false_eq_true, Bool.not_true, Bool.not_false, Nat.add_zero, Nat.zero_add, Nat.reduceAdd]
      refine wpPi_move _ rfl rfl ?_
      simp only [pl, pn, el, ec, sz, ss, gz, gs, if_true, if_false, Bool.false_eq_true, Bool.not_true, Bool.not_false, Nat.add_zero, Nat.zero_add, Nat.reduceAdd]
      refine wpPi_addR _ _ _ _ (i : Int) (j : Int) ((i + j : Nat) : Int) rfl rfl rfl rfl (by omega) (by omega) (by omega) ?_
      simp only [pl, pn, el, ec, sz, ss, gz, gs, if_true, if_false, Bool.false_eq_true, Bool.not_true, Bool.not_false, Nat.add_zero, Nat.zero_add, Nat.reduceAdd]
      refine wpPi_any (v := .int .u64 ((i + j : Nat) : Int)) rfl (fun w' => exec_conv_uint 3 87 _ _ rfl rfl (by kernel_rfl) Tryz.underlying87 _ (by rw [Int.natCast_add]; exact HCV1.out)) ?_
      simp only [pl, pn, el, ec, sz, ss, gz, gs, if_true, if_false, Bool.false_eq_true, Bool.not_true, Bool.not_false, Nat.add_zero, Nat.zero_add, Nat.reduceAdd]
      refine wpPi_any (v := .int .u64 (h : Int)) rfl (fun w' => by rw [← hh]; exact exec_shr64 _ _ _ _ (i + j) .u64 1 rfl rfl rfl (by omega) (by omega)) ?_
      simp only [pl, pn, el, ec, sz, ss, gz, gs, if_true, if_false, Bool.false_eq_true, Bool.not_true, Bool.not_false, Nat.add_zero, Nat.zero_add, Nat.reduceAdd]
      refine wpPi_any (v := .int .i64 (h : Int)) rfl (fun w' => exec_conv_int 87 3 _ _ rfl rfl (by kernel_rfl) Tryz.underlying3 _ (wrap_in (by omega) (by omega))) ?_
      simp only [pl, pn, el, ec, sz, ss, gz, gs, if_true, if_false, Bool.false_eq_true, Bool.not_true, Bool.not_false, Nat.add_zero, Nat.zero_add, Nat.reduceAdd]
      refine wpPi_assign _ rfl rfl ?_
      simp only [pl, pn, el, ec, sz, ss, gz, gs, if_true, if_false, Bool.false_eq_true, Bool.not_true, Bool.not_false, Nat.add_zero, Nat.zero_add, Nat.reduceAdd]
      refine wpPi_nil ?_
      cases hp : p h with
      | true =>
        have HP := Lib.hid hp
        go_upto_region 4 with (fail)
        refine wp_region_seq [3, 3, 1, 3] (fun _ => True) (by rfl) (by rfl) trivial ?_
        simp only [List.zip_cons_cons, List.zip_nil_right]
        refine wpPi_move _ rfl rfl ?_
        simp only [pl, pn, el, ec, sz, ss, gz, gs, if_true, if_false, Bool.false_eq_true, Bool.not_true, Bool.not_false, Nat.add_zero, Nat.zero_add, Nat.reduceAdd]
        refine wpPi_move _ rfl rfl ?_
        simp only [pl, pn, el, ec, sz, ss, gz, gs, if_true, if_false, Bool.false_eq_true, Bool.not_true, Bool.not_false, Nat.add_zero, Nat.zero_add, Nat.reduceAdd]
        refine wpPi_do rfl (fun K hK => ?_)
        refine wp_enterQ (run_callV g _ [.tmp 19] _ lb rfl rfl EG.out [.int .i64 (h : Int)] rfl _) (HF.out h _ (by omega) hm) ?_
        rintro e w2 ⟨rfl, hm2⟩
        rw [hp]
        refine ⟨_, rfl, hK _ _ trivial ?_⟩
        clear hK K
        try simp only [pl, pn, el, ec, sz, ss, gz, gs, if_true, if_false, Bool.false_eq_true, Bool.not_true, Bool.not_false, Nat.add_zero, Nat.zero_add, Nat.reduceAdd]
        refine wpPi_not _ _ _ rfl rfl rfl ?_
        simp only [pl, pn, el, ec, sz, ss, gz, gs, if_true, if_false, Bool.false_eq_true, Bool.not_true, Bool.not_false, Nat.add_zero, Nat.zero_add, Nat.reduceAdd]
        refine wpPi_nil ?_
        clear hp
        have hM2 := hm.trans0 hm2
        clear hm hm2
        go_wp2
        go_roundw
        case rel => exact ⟨i, h, rfl, rfl, hil, by omega, HLO.out, fun _ => HP.out, hM2⟩
        case measure => simp [intOf]; omega
      | false =>
        have HP := Lib.hid hp
        go_upto_region 4 with (fail)
        refine wp_region_seq [3, 3, 1, 3] (fun _ => True) (by rfl) (by rfl) trivial ?_
        simp only [List.zip_cons_cons, List.zip_nil_right]
        refine wpPi_move _ rfl rfl ?_
        simp only [pl, pn, el, ec, sz, ss, gz, gs, if_true, if_false, Bool.false_eq_true, Bool.not_true, Bool.not_false, Nat.add_zero, Nat.zero_add, Nat.reduceAdd]
        refine wpPi_move _ rfl rfl ?_
        simp only [pl, pn, el, ec, sz, ss, gz, gs, if_true, if_false, Bool.false_eq_true, Bool.not_true, Bool.not_false, Nat.add_zero, Nat.zero_add, Nat.reduceAdd]
        refine wpPi_do rfl (fun K hK => ?_)
        refine wp_enterQ (run_callV g _ [.tmp 19] _ lb rfl rfl EG.out [.int .i64 (h : Int)] rfl _) (HF.out h _ (by omega) hm) ?_
        rintro e w2 ⟨rfl, hm2⟩
        rw [hp]
        refine ⟨_, rfl, hK _ _ trivial ?_⟩
        clear hK K
        try simp only [pl, pn, el, ec, sz, ss, gz, gs, if_true, if_false, Bool.false_eq_true, Bool.not_true, Bool.not_false, Nat.add_zero, Nat.zero_add, Nat.reduceAdd]
        refine wpPi_not _ _ _ rfl rfl rfl ?_
        simp only [pl, pn, el, ec, sz, ss, gz, gs, if_true, if_false, Bool.false_eq_true, Bool.not_true, Bool.not_false, Nat.add_zero, Nat.zero_add, Nat.reduceAdd]
        refine wpPi_nil ?_
        clear hp
        have hM2 := hm.trans0 hm2
        clear hm hm2
        go_wp2
        go_roundw
        case rel => exact ⟨h + 1, j, by go_num, rfl, by omega, hjn, fun t ht => by
          cases hpt : p t with
          | false => rfl
          | true => exact absurd (HM.out t h (by omega) (by omega) hpt) (by rw [HP.out]; simp), HHI.out, hM2⟩
        case measure => simp [intOf]; omega
    · have hz : ¬ (i : Int) < (j : Int) := by omega
      obtain rfl : i = j := by omega
      go_wp2
      go_ret
      exact ⟨i, hjn, rfl, HHI.out, HLO.out, hm⟩
def CutR (w : World) (G : Nat → Prop) (i : Nat) (l : List Leaf) : Ending → World → Prop := fun e w' => ∃ v1 v2, e = .returned (.tuple #[v1, v2]) ∧ Ls w' G v1 (sideL false i l) ∧ Ls w' G v2 (sideL true i l) ∧ Mod NoB w w'
theorem eg_cutF : ∀ args w, (callFunc 64 args).run Tryz.prog w = .ok (.enter 64 args) w := enters_of Tryz.func64 (by kernel_rfl) rfl
set_option maxRecDepth 10000 in
theorem cut_any {w : World} {G : Nat → Prop} {v : Value} {l : List Leaf} (hl : Ls w G v l) (i : Nat) (hi : i < 256) (hp : Placed i l) (hlen : l.length ≤ 1000000) : Calls Tryz.prog 46 #[v, .int .i64 (i : Int)] w (CutR w G i l) := by
  have HL := Lib.hid hl
  obtain ⟨ad, cap, rfl, hlc, hcm, -⟩ := hl
  go_enter Tryz.func46, Tryz.ntmps46
  go_upto_region 0 with (fail)
  refine wp_region_seq [1, 1, 3, 3] (fun _ => True) (by rfl) (by rfl) trivial ?_
  simp only [List.zip_cons_cons, List.zip_nil_right]
  refine wpPi_do rfl (fun K hK => ?_)
  refine wp_box 49 _ _ (by rfl) (by rfl) (fun w1 hB1 hm1 hs1 => ?_)
  replace hB1 : w1.heap[w.heap.size]? = some (.cells #[.slice ad l.length cap] 49 (0, 0)) := hB1
  refine hK _ _ trivial ?_
  clear hK K
  try simp only [pl, pn, el, ec, sz, ss, gz, gs, if_true, if_false, Bool.false_eq_true, Bool.not_true, Bool.not_false, Nat.add_zero, Nat.zero_add, Nat.reduceAdd]
  refine wpPi_do rfl (fun K hK => ?_)
  refine wp_box 3 _ _ (by rfl) (by rfl) (fun w2 hB2 hm2 hs2 => ?_)
  replace hB2 : w2.heap[w1.heap.size]? = some (.cells #[.int .i64 (i : Int)] 3 (0, 0)) := hB2
  refine hK _ _ trivial ?_
  clear hK K
  try simp only [pl, pn, el, ec, sz, ss, gz, gs, if_true, if_false, Bool.false_eq_true, Bool.not_true, Bool.not_false, Nat.add_zero, Nat.zero_add, Nat.reduceAdd]
  refine wpPi_assign _ rfl rfl ?_
  simp only [pl, pn, el, ec, sz, ss, gz, gs, if_true, if_false, Bool.false_eq_true, Bool.not_true, Bool.not_false, Nat.add_zero, Nat.zero_add, Nat.reduceAdd]
  refine wpPi_assign _ rfl rfl ?_
  simp only [pl, pn, el, ec, sz, ss, gz, gs, if_true, if_false, Bool.false_eq_true, Bool.not_true, Bool.not_false, Nat.add_zero, Nat.zero_add, Nat.reduceAdd]
  refine wpPi_nil ?_
  replace hB1 := hm2.obj id hB1
  have hM2 := hm1.trans0 hm2
  generalize w.heap.size = b1 at *
  generalize w1.heap.size = b2 at *
  clear hm1 hm2
  have hsr := search_any l.length hlen (fun j => if h : j < l.length then bitAt l[j].way i else false) 64 #[.pointer (some ⟨b1, 0, none⟩), .pointer (some ⟨b2, 0, none⟩)] eg_cutF w2 (fun j w' hj hm => by
    rw [dif_pos hj]
    exact cutF_any (HL.out.keep0 (hM2.trans0 hm)) b1 b2 i (hm.obj id hB1) (hm.obj id hB2) j hj hi) (fun a b hab hb ha => by
    have hal : a < l.length := by omega
    rw [dif_pos hal] at ha
    rw [dif_pos hb]
    rcases Nat.lt_or_ge a b with h1 | h1
    · exact bit_mono (by rw [(hp.len _ (List.getElem_mem hal)).1, (hp.len _ (List.getElem_mem hb)).1]) (List.pairwise_iff_getElem.1 hp.rise a b hal hb h1) (hp.same _ (List.getElem_mem hal) _ (List.getElem_mem hb)) ha
    · obtain rfl : a = b := by omega
      exact ha)
  generalize hpp : (fun j => if h : j < l.length then bitAt l[j].way i else false) = p at hsr
  have hL1 := CellsAt.one.1 (CellsAt.whole hB1)
  clear hB1 hB2
  go_upto_region 1 with (fail)
  refine wp_region_seq [1, 3, 1, 1, 3] (fun _ => True) (by rfl) (by rfl) trivial ?_
  simp only [List.zip_cons_cons, List.zip_nil_right]
  refine wpPi_do rfl (fun K hK => ?_)
  refine wp_exec (exec_load1 49 _ (by rfl) b1 0 (by rfl) _ hL1 _ Tryz.underlying49 rfl) ?_
  refine hK _ _ trivial ?_
  clear hK K
  try simp only [pl, pn, el, ec, sz, ss, gz, gs, if_true, if_false, Bool.false_eq_true, Bool.not_true, Bool.not_false, Nat.add_zero, Nat.zero_add, Nat.reduceAdd]
  refine wpPi_len _ _ _ _ _ rfl rfl rfl (by kernel_rfl) ?_
  simp only [pl, pn, el, ec, sz, ss, gz, gs, if_true, if_false, Bool.false_eq_true, Bool.not_true, Bool.not_false, Nat.add_zero, Nat.zero_add, Nat.reduceAdd]
  refine wpPi_do rfl (fun K hK => ?_)
  refine wp_exec (exec_makeFunc 64 [.tmp 2, .tmp 3] (by rfl) [.pointer (some ⟨b1, 0, none⟩), .pointer (some ⟨b2, 0, none⟩)] (by rfl)) ?_
  refine hK _ _ trivial ?_
  clear hK K
  try simp only [pl, pn, el, ec, sz, ss, gz, gs, if_true, if_false, Bool.false_eq_true, Bool.not_true, Bool.not_false, Nat.add_zero, Nat.zero_add, Nat.reduceAdd]
  refine wpPi_do rfl (fun K hK => ?_)
  refine wp_enterQ (run_call 63 [.tmp 8, .tmp 9] _ rfl _ Tryz.func63 rfl (by kernel_rfl) [.int .i64 (l.length : Int), .func (.func 64) #[] #[.pointer (some ⟨b1, 0, none⟩), .pointer (some ⟨b2, 0, none⟩)]] rfl _) hsr ?_
  rintro e w3 ⟨k, hk, rfl, hk1, hk2, hm3⟩
  refine ⟨_, rfl, hK _ _ trivial ?_⟩
  clear hK K
  try simp only [pl, pn, el, ec, sz, ss, gz, gs, if_true, if_false, Bool.false_eq_true, Bool.not_true, Bool.not_false, Nat.add_zero, Nat.zero_add, Nat.reduceAdd]
  refine wpPi_assign _ rfl rfl ?_
  simp only [pl, pn, el, ec, sz, ss, gz, gs, if_true, if_false, Bool.false_eq_true, Bool.not_true, Bool.not_false, Nat.add_zero, Nat.zero_add, Nat.reduceAdd]
  refine wpPi_nil ?_
  have hcut := hp.cut (n := k) hk (fun h => by
      have := hk1 h; rw [← hpp] at this
      simp only [h, dif_pos] at this
      simpa [h] using this) (fun j hj => by
      have h : j < l.length := by omega
      have := hk2 j hj; rw [← hpp] at this
      simp only [h, dif_pos] at this
      simpa [h] using this)
  have hM3 := hM2.trans0 hm3
  replace hL1 := hm3.cell id hL1
  clear hk1 hk2 hpp hsr hm3 hM2
  go_upto_region 2 with (fail)
  have hS : Mod NoB w3 w3.drew := (Mod.refl _ _).drew
  refine wp_region_pi [(0, 0), (1, 3), (2, 3), (3, 0), (4, 3), (5, 3), (6, 3), (7, 3)] [] (fun w' => Mod NoB w3 w') (by kernel_rfl) (by kernel_rfl) (by kernel_rfl) (by kernel_rfl) (fun _ _ _ _ hd h => ⟨hd.trans h.1, h.2⟩) hS ?_
  simp only [List.map_cons, List.map_nil, List.getD_cons_zero, List.getD_cons_succ]
  refine wpPi_val rfl (fun w' hS => exec_load1 49 _ (by rfl) b1 0 (by rfl) _ (hS.cell id hL1) _ Tryz.underlying49 rfl) ?_
  simp only [pl, pn, el, ec, sz, ss, gz, gs, if_true, if_false, Bool.false_eq_true, Bool.not_true, Bool.not_false, Nat.add_zero, Nat.zero_add, Nat.reduceAdd]
  refine wpPi_move _ rfl rfl ?_
  simp only [pl, pn, el, ec, sz, ss, gz, gs, if_true, if_false, Bool.false_eq_true, Bool.not_true, Bool.not_false, Nat.add_zero, Nat.zero_add, Nat.reduceAdd]
  refine wpPi_sliceTo 49 59 _ _ _ _ _ k 65 rfl rfl rfl rfl Tryz.underlying49 (by kernel_rfl) (by omega) ?_
  simp only [pl, pn, el, ec, sz, ss, gz, gs, if_true, if_false, Bool.false_eq_true, Bool.not_true, Bool.not_false, Nat.add_zero, Nat.zero_add, Nat.reduceAdd]
  refine wpPi_val rfl (fun w' hS => exec_load1 49 _ (by rfl) b1 0 (by rfl) _ (hS.cell id hL1) _ Tryz.underlying49 rfl) ?_
  simp only [pl, pn, el, ec, sz, ss, gz, gs, if_true, if_false, Bool.false_eq_true, Bool.not_true, Bool.not_false, Nat.add_zero, Nat.zero_add, Nat.reduceAdd]
  refine wpPi_move _ rfl rfl ?_
  simp only [pl, pn, el, ec, sz, ss, gz, gs, if_true, if_false, Bool.false_eq_true, Bool.not_true, Bool.not_false, Nat.add_zero, Nat.zero_add, Nat.reduceAdd]
  refine wpPi_sliceFrom 49 59 _ _ _ _ _ k 65 rfl rfl rfl rfl Tryz.underlying49 (by kernel_rfl) (by omega) ?_
  simp only [pl, pn, el, ec, sz, ss, gz, gs, if_true, if_false, Bool.false_eq_true, Bool.not_true, Bool.not_false, Nat.add_zero, Nat.zero_add, Nat.reduceAdd]
  refine wpPi_assign _ rfl rfl ?_
  simp only [pl, pn, el, ec, sz, ss, gz, gs, if_true, if_false, Bool.false_eq_true, Bool.not_true, Bool.not_false, Nat.add_zero, Nat.zero_add, Nat.reduceAdd]
  refine wpPi_assign _ rfl rfl ?_
  simp only [pl, pn, el, ec, sz, ss, gz, gs, if_true, if_false, Bool.false_eq_true, Bool.not_true, Bool.not_false, Nat.add_zero, Nat.zero_add, Nat.reduceAdd]
  refine wpPi_nil ?_
  have hMd := hM3.trans0 hS
  have hA := Sl.fst (HL.out.keep0 hMd) k hk
  have hB := Sl.cut (HL.out.keep0 hMd) k hk
  rw [hcut.1] at hA
  rw [hcut.2] at hB
  generalize sliced ad 0 k cap 65 = v1 at *
  generalize sliced ad k l.length cap 65 = v2 at *
  go_wp2
  go_ret2
  exact ⟨_, _, rfl, hA, hB, hMd⟩
end Go.Proofs.YtchkikmmcmjcgaaGreat

/- The digest of leaves. -/
namespace Go.Proofs.YtchkikmmcmjcgaaGreat
set_option linter.unusedSimpArgs false
set_option linter.unusedVariables false
set_option linter.unnecessarySimpa false
set_option linter.unusedSectionVars false
open Go.RowKit Go.Shelf


set_option maxRecDepth 10000 in
theorem digest_none (f : Nat) (w : World) (ad : Option Addr) (cap i : Nat) : Calls Tryz.prog 22 #[.slice ad 0 cap, .int .i64 (i : Int)] w (RetM (.agg (idCells (dig f i []))) w) := by
  rw [dig_nil]
  have hrs : (idCells (shaL [0])).size = 32 := by rw [idCells_size]; exact shaL_len _
  go_enter Tryz.func22, Tryz.ntmps22
  go_upto_region 0 with (fail)
  refine wp_region_seq [1] (fun _ => True) (by rfl) (by rfl) trivial ?_
  simp only [List.zip_cons_cons, List.zip_nil_right]
  refine wpPi_do rfl (fun K hK => ?_)
  refine wp_alloc 24 _ (by rfl) idZ (fun w1 hB1 hm1 hs1 => ?_)
  replace hB1 : w1.heap[w.heap.size]? = some (.cells (idCells (List.replicate 32 0)) 24 (0, 0)) := hB1
  refine hK _ _ trivial ?_
  clear hK K
  try simp only [pl, pn, el, ec, sz, ss, gz, gs, if_true, if_false, Bool.false_eq_true, Bool.not_true, Bool.not_false, Nat.add_zero, Nat.zero_add, Nat.reduceAdd]
  refine wpPi_nil ?_
  go_upto_region 3 with (fail)
  refine wp_region_seq [1, 1, 1] (fun _ => True) (by rfl) (by rfl) trivial ?_
  simp only [List.zip_cons_cons, List.zip_nil_right]
  refine wpPi_do rfl (fun K hK => ?_)
  refine wp_buildSlice1 25 5 _ (byteV 0) (.int .u8 0) 1 (by rfl) (by rfl) Tryz.underlying25 (by kernel_rfl) (by omega) (by omega) (by rfl) (fun w2 hB2 hm2 hs2 => ?_)
  replace hB2 : w2.heap[w1.heap.size]? = some (.cells #[byteV 0] 5 (0, 0)) := hB2
  refine hK _ _ trivial ?_
  clear hK K
  try simp only [pl, pn, el, ec, sz, ss, gz, gs, if_true, if_false, Bool.false_eq_true, Bool.not_true, Bool.not_false, Nat.add_zero, Nat.zero_add, Nat.reduceAdd]
  refine wpPi_do rfl (fun K hK => ?_)
  refine wp_enterQ (run_call 18 [.tmp 11] _ rfl _ Tryz.func18 rfl (by kernel_rfl) [.slice (some ⟨w1.heap.size, 0, none⟩) 1 1] rfl _) (shaSum_any (sl_of_cells (x := [0]) (CellsAt.whole hB2) (by simp)) (by simp)) ?_
  rintro e w3 ⟨rfl, hm3⟩
  have hM3 := (hm1.trans0 hm2).trans0 hm3
  replace hB1 := hm3.obj id (hm2.obj id hB1)
  generalize shaL [0] = x at *
  refine ⟨_, rfl, hK _ _ trivial ?_⟩
  clear hK K
  try simp only [pl, pn, el, ec, sz, ss, gz, gs, if_true, if_false, Bool.false_eq_true, Bool.not_true, Bool.not_false, Nat.add_zero, Nat.zero_add, Nat.reduceAdd]
  refine wpPi_do rfl (fun K hK => ?_)
  refine wp_storeA 24 _ _ w.heap.size 0 (idCells x) (by rfl) (by rfl) (by rfl) (idCells_one _) 32 (by kernel_rfl) hrs _ _ hB1 (by rw [hrs, idCells_size]; simp) (fun w4 hB4 hm4 => ?_)
  rw [putRow_whole (by rw [hrs, idCells_size]; rfl)] at hB4
  refine hK _ _ trivial ?_
  clear hK K
  try simp only [pl, pn, el, ec, sz, ss, gz, gs, if_true, if_false, Bool.false_eq_true, Bool.not_true, Bool.not_false, Nat.add_zero, Nat.zero_add, Nat.reduceAdd]
  refine wpPi_nil ?_
  have hM4 : Mod NoB w w4 := hM3.transB hm4 (Nat.le_refl _)
  clear hm4 hB1 hM3 hB2 hm1 hm2 hm3
  go_wp2
  refine bodyPost_ret (results_cell_row rfl _ _ w.heap.size _ _ _ _ (by rfl) hB4 Tryz.underlying24 rfl (by rw [hrs]; kernel_rfl)) rfl ?_
  exact ⟨rfl, hM4⟩
set_option maxRecDepth 10000 in
theorem digest_one (f : Nat) (w : World) (G : Nat → Prop) (v : Value) (x : Leaf) (i : Nat) (hl : Ls w G v [x]) : Calls Tryz.prog 22 #[v, .int .i64 (i : Int)] w (RetM (.agg (idCells (dig f i [x]))) w) := by
  rw [dig_one]
  obtain ⟨ad, cap, rfl, -, hat⟩ := Sl.at hl
  obtain ⟨b, off, rfl, -, -, hc⟩ := hat 0 (by simp)
  obtain ⟨_, -, ⟨rfl, hok⟩, hc⟩ := hc 0 (by simp)
  rw [List.getElem_cons_zero] at hc hok
  simp only [List.length_singleton]
  have hrs : (idCells (oneD x)).size = 32 := by rw [idCells_size]; exact shaL_len _
  have hls := leafCells_size hok
  clear hat hl
  go_enter Tryz.func22, Tryz.ntmps22
  go_upto_region 0 with (fail)
  refine wp_region_seq [1] (fun _ => True) (by rfl) (by rfl) trivial ?_
  simp only [List.zip_cons_cons, List.zip_nil_right]
  refine wpPi_do rfl (fun K hK => ?_)
  refine wp_alloc 24 _ (by rfl) idZ (fun w1 hB1 hm1 hs1 => ?_)
  replace hB1 : w1.heap[w.heap.size]? = some (.cells (idCells (List.replicate 32 0)) 24 (0, 0)) := hB1
  refine hK _ _ trivial ?_
  clear hK K
  try simp only [pl, pn, el, ec, sz, ss, gz, gs, if_true, if_false, Bool.false_eq_true, Bool.not_true, Bool.not_false, Nat.add_zero, Nat.zero_add, Nat.reduceAdd]
  refine wpPi_nil ?_
  replace hc := hc.keep hm1 id
  go_upto_region 5 with (fail)
  refine wp_region_seq [3, 3, 1, 1, 1] (fun _ => True) (by rfl) (by rfl) trivial ?_
  simp only [List.zip_cons_cons, List.zip_nil_right]
  refine wpPi_move _ rfl rfl ?_
  simp only [pl, pn, el, ec, sz, ss, gz, gs, if_true, if_false, Bool.false_eq_true, Bool.not_true, Bool.not_false, Nat.add_zero, Nat.zero_add, Nat.reduceAdd]
  refine wpPi_index _ _ _ _ _ _ _ _ 0 rfl rfl rfl rfl Tryz.underlying49 (n := 65) (by kernel_rfl) (by omega) ?_
  simp only [pl, pn, el, ec, sz, ss, gz, gs, if_true, if_false, Bool.false_eq_true, Bool.not_true, Bool.not_false, Nat.add_zero, Nat.zero_add, Nat.reduceAdd]
  refine wpPi_do rfl (fun K hK => ?_)
  refine wp_exec (exec_loadA 59 _ (by rfl) b (off + 0 * 65) (by rfl) (leafCells x) hc _ Tryz.underlying59 rfl 65 (by kernel_rfl) hls) ?_
  refine hK _ _ trivial ?_
  clear hK K
  try simp only [pl, pn, el, ec, sz, ss, gz, gs, if_true, if_false, Bool.false_eq_true, Bool.not_true, Bool.not_false, Nat.add_zero, Nat.zero_add, Nat.reduceAdd]
  refine wpPi_do rfl (fun K hK => ?_)
  refine wp_enterQ (run_call 33 [.tmp 17] _ rfl _ Tryz.func33 rfl (by kernel_rfl) [.agg (leafCells x)] rfl _) (one_any x hok _) ?_
  rintro e w3 ⟨rfl, hm3⟩
  have hM3 := hm1.trans0 hm3
  replace hB1 := hm3.obj id hB1
  generalize oneD x = y at *
  refine ⟨_, rfl, hK _ _ trivial ?_⟩
  clear hK K
  try simp only [pl, pn, el, ec, sz, ss, gz, gs, if_true, if_false, Bool.false_eq_true, Bool.not_true, Bool.not_false, Nat.add_zero, Nat.zero_add, Nat.reduceAdd]
  refine wpPi_do rfl (fun K hK => ?_)
  refine wp_storeA 24 _ _ w.heap.size 0 (idCells y) (by rfl) (by rfl) (by rfl) (idCells_one _) 32 (by kernel_rfl) hrs _ _ hB1 (by rw [hrs, idCells_size]; simp) (fun w4 hB4 hm4 => ?_)
  rw [putRow_whole (by rw [hrs, idCells_size]; rfl)] at hB4
  refine hK _ _ trivial ?_
  clear hK K
  try simp only [pl, pn, el, ec, sz, ss, gz, gs, if_true, if_false, Bool.false_eq_true, Bool.not_true, Bool.not_false, Nat.add_zero, Nat.zero_add, Nat.reduceAdd]
  refine wpPi_nil ?_
  have hM4 : Mod NoB w w4 := hM3.transB hm4 (Nat.le_refl _)
  clear hm4 hB1 hM3 hm1 hm3
  go_wp2
  refine bodyPost_ret (results_cell_row rfl _ _ w.heap.size _ _ _ _ (by rfl) hB4 Tryz.underlying24 rfl (by rw [hrs]; kernel_rfl)) rfl ?_
  exact ⟨rfl, hM4⟩
set_option maxRecDepth 10000 in
theorem digest_more (f i : Nat) (hi : f + 1 + i = 256) (w : World) (G : Nat → Prop) (v : Value) (l : List Leaf) (hl : Ls w G v l) (hp : Placed i l) (h2 : 2 ≤ l.length) (hlen : l.length ≤ 1000000)
    (ih : ∀ (l' : List Leaf) (v : Value) (w : World), Ls w G v l' → Placed (i + 1) l' → l'.length ≤ 1000000 → Calls Tryz.prog 22 #[v, .int .i64 ((i + 1 : Nat) : Int)] w (RetM (.agg (idCells (dig f (i + 1) l'))) w)) :
    Calls Tryz.prog 22 #[v, .int .i64 (i : Int)] w (RetM (.agg (idCells (dig (f + 1) i l))) w) := by
  rw [dig_more f i l h2]
  have HL := Lib.hid hl
  have IH := Lib.hid ih
  have hsl := side_len i l
  obtain ⟨ad, cap, rfl, -, -⟩ := hl
  have hl0 : ¬ (l.length : Int) = 0 := by omega
  have hl1 : ¬ (l.length : Int) = 1 := by omega
  have hA := hp.side false
  have hB := hp.side true
  have hdl : (dig f (i + 1) (sideL false i l)).length = 32 := dig_len (by omega) hA.lie
  have hdr : (dig f (i + 1) (sideL true i l)).length = 32 := dig_len (by omega) hB.lie
  have hrs : (idCells (twoD (dig f (i + 1) (sideL false i l)) (dig f (i + 1) (sideL true i l)))).size = 32 := by rw [idCells_size]; exact shaL_len _
  clear ih
  go_enter Tryz.func22, Tryz.ntmps22
  go_upto_region 0 with (fail)
  refine wp_region_seq [1] (fun _ => True) (by rfl) (by rfl) trivial ?_
  simp only [List.zip_cons_cons, List.zip_nil_right]
  refine wpPi_do rfl (fun K hK => ?_)
  refine wp_alloc 24 _ (by rfl) idZ (fun w1 hB1 hm1 hs1 => ?_)
  replace hB1 : w1.heap[w.heap.size]? = some (.cells (idCells (List.replicate 32 0)) 24 (0, 0)) := hB1
  refine hK _ _ trivial ?_
  clear hK K
  try simp only [pl, pn, el, ec, sz, ss, gz, gs, if_true, if_false, Bool.false_eq_true, Bool.not_true, Bool.not_false, Nat.add_zero, Nat.zero_add, Nat.reduceAdd]
  refine wpPi_nil ?_
  go_upto_region 6 with (fail)
  refine wp_region_seq [3, 3, 1, 3, 3, 3, 3, 3] (fun _ => True) (by rfl) (by rfl) trivial ?_
  simp only [List.zip_cons_cons, List.zip_nil_right]
  refine wpPi_move _ rfl rfl ?_
  simp only [pl, pn, el, ec, sz, ss, gz, gs, if_true, if_false, Bool.false_eq_true, Bool.not_true, Bool.not_false, Nat.add_zero, Nat.zero_add, Nat.reduceAdd]
  refine wpPi_move _ rfl rfl ?_
  simp only [pl, pn, el, ec, sz, ss, gz, gs, if_true, if_false, Bool.false_eq_true, Bool.not_true, Bool.not_false, Nat.add_zero, Nat.zero_add, Nat.reduceAdd]
  refine wpPi_do rfl (fun K hK => ?_)
  refine wp_enterQ (run_call 46 [.tmp 20, .tmp 21] _ rfl _ Tryz.func46 rfl (by kernel_rfl) [.slice ad l.length cap, .int .i64 (i : Int)] rfl _) (cut_any (HL.out.keep0 hm1) i (by omega) hp hlen) ?_
  rintro e w2 ⟨v1, v2, rfl, hc1, hc2, hm2⟩
  refine ⟨_, rfl, hK _ _ trivial ?_⟩
  clear hK K
  try simp only [pl, pn, el, ec, sz, ss, gz, gs, if_true, if_false, Bool.false_eq_true, Bool.not_true, Bool.not_false, Nat.add_zero, Nat.zero_add, Nat.reduceAdd]
  refine wpPi_move _ rfl rfl ?_
  simp only [pl, pn, el, ec, sz, ss, gz, gs, if_true, if_false, Bool.false_eq_true, Bool.not_true, Bool.not_false, Nat.add_zero, Nat.zero_add, Nat.reduceAdd]
  refine wpPi_any (v := ?_) rfl (fun w' => ?_) ?_; rotate_left; · (go_simp; try with_reducible rfl)
  simp only [pl, pn, el, ec, sz, ss, gz, gs, if_true, if_false, Bool.false_eq_true, Bool.not_true, Bool.not_false, Nat.add_zero, Nat.zero_add, Nat.reduceAdd]
  refine wpPi_any (v := ?_) rfl (fun w' => ?_) ?_; rotate_left; · (go_simp; try with_reducible rfl)
  simp only [pl, pn, el, ec, sz, ss, gz, gs, if_true, if_false, Bool.false_eq_true, Bool.not_true, Bool.not_false, Nat.add_zero, Nat.zero_add, Nat.reduceAdd]
  refine wpPi_assign _ rfl rfl ?_
  simp only [pl, pn, el, ec, sz, ss, gz, gs, if_true, if_false, Bool.false_eq_true, Bool.not_true, Bool.not_false, Nat.add_zero, Nat.zero_add, Nat.reduceAdd]
  refine wpPi_assign _ rfl rfl ?_
  simp only [pl, pn, el, ec, sz, ss, gz, gs, if_true, if_false, Bool.false_eq_true, Bool.not_true, Bool.not_false, Nat.add_zero, Nat.zero_add, Nat.reduceAdd]
  refine wpPi_nil ?_
  have hM2 := hm1.trans0 hm2
  replace hB1 := hm2.obj id hB1
  clear hm1 hm2
  generalize sideL false i l = la at *
  generalize sideL true i l = lb at *
  go_upto_region 7 with (fail)
  refine wp_region_seq [3, 3, 3, 1, 3, 3, 3, 1, 1, 1] (fun _ => True) (by rfl) (by rfl) trivial ?_
  simp only [List.zip_cons_cons, List.zip_nil_right]
  refine wpPi_move _ rfl rfl ?_
  simp only [pl, pn, el, ec, sz, ss, gz, gs, if_true, if_false, Bool.false_eq_true, Bool.not_true, Bool.not_false, Nat.add_zero, Nat.zero_add, Nat.reduceAdd]
  refine wpPi_move _ rfl rfl ?_
  simp only [pl, pn, el, ec, sz, ss, gz, gs, if_true, if_false, Bool.false_eq_true, Bool.not_true, Bool.not_false, Nat.add_zero, Nat.zero_add, Nat.reduceAdd]
  refine wpPi_addR _ _ _ _ (i : Int) 1 ((i + 1 : Nat) : Int) rfl rfl rfl rfl (by omega) (by omega) (by omega) ?_
  simp only [pl, pn, el, ec, sz, ss, gz, gs, if_true, if_false, Bool.false_eq_true, Bool.not_true, Bool.not_false, Nat.add_zero, Nat.zero_add, Nat.reduceAdd]
  refine wpPi_do rfl (fun K hK => ?_)
  refine wp_enterQ (run_call 22 [.tmp 25, .tmp 27] _ rfl _ Tryz.func22 rfl (by kernel_rfl) [v1, .int .i64 ((i + 1 : Nat) : Int)] rfl _) (IH.out la v1 _ hc1 hA (by omega)) ?_
  rintro e w3 ⟨rfl, hm3⟩
  refine ⟨_, rfl, hK _ _ trivial ?_⟩
  clear hK K
  try simp only [pl, pn, el, ec, sz, ss, gz, gs, if_true, if_false, Bool.false_eq_true, Bool.not_true, Bool.not_false, Nat.add_zero, Nat.zero_add, Nat.reduceAdd]
  refine wpPi_move _ rfl rfl ?_
  simp only [pl, pn, el, ec, sz, ss, gz, gs, if_true, if_false, Bool.false_eq_true, Bool.not_true, Bool.not_false, Nat.add_zero, Nat.zero_add, Nat.reduceAdd]
  refine wpPi_move _ rfl rfl ?_
  simp only [pl, pn, el, ec, sz, ss, gz, gs, if_true, if_false, Bool.false_eq_true, Bool.not_true, Bool.not_false, Nat.add_zero, Nat.zero_add, Nat.reduceAdd]
  refine wpPi_addR _ _ _ _ (i : Int) 1 ((i + 1 : Nat) : Int) rfl rfl rfl rfl (by omega) (by omega) (by omega) ?_
  simp only [pl, pn, el, ec, sz, ss, gz, gs, if_true, if_false, Bool.false_eq_true, Bool.not_true, Bool.not_false, Nat.add_zero, Nat.zero_add, Nat.reduceAdd]
  refine wpPi_do rfl (fun K hK => ?_)
  refine wp_enterQ (run_call 22 [.tmp 29, .tmp 31] _ rfl _ Tryz.func22 rfl (by kernel_rfl) [v2, .int .i64 ((i + 1 : Nat) : Int)] rfl _) (IH.out lb v2 _ (Sl.keep0 hc2 hm3) hB (by omega)) ?_
  rintro e w4 ⟨rfl, hm4⟩
  generalize dig f (i + 1) la = da at *
  generalize dig f (i + 1) lb = db at *
  refine ⟨_, rfl, hK _ _ trivial ?_⟩
  clear hK K
  try simp only [pl, pn, el, ec, sz, ss, gz, gs, if_true, if_false, Bool.false_eq_true, Bool.not_true, Bool.not_false, Nat.add_zero, Nat.zero_add, Nat.reduceAdd]
  refine wpPi_do rfl (fun K hK => ?_)
  refine wp_enterQ (run_call 34 [.tmp 28, .tmp 32] _ rfl _ Tryz.func34 rfl (by kernel_rfl) [.agg (idCells da), .agg (idCells db)] rfl _) (two_any da db hdl hdr _) ?_
  rintro e w5 ⟨rfl, hm5⟩
  have hM5 := ((hM2.trans0 hm3).trans0 hm4).trans0 hm5
  replace hB1 := ((hm3.trans0 hm4).trans0 hm5).obj id hB1
  generalize twoD da db = y at *
  refine ⟨_, rfl, hK _ _ trivial ?_⟩
  clear hK K
  try simp only [pl, pn, el, ec, sz, ss, gz, gs, if_true, if_false, Bool.false_eq_true, Bool.not_true, Bool.not_false, Nat.add_zero, Nat.zero_add, Nat.reduceAdd]
  refine wpPi_do rfl (fun K hK => ?_)
  refine wp_storeA 24 _ _ w.heap.size 0 (idCells y) (by rfl) (by rfl) (by rfl) (idCells_one _) 32 (by kernel_rfl) hrs _ _ hB1 (by rw [hrs, idCells_size]; simp) (fun w6 hB6 hm6 => ?_)
  rw [putRow_whole (by rw [hrs, idCells_size]; rfl)] at hB6
  refine hK _ _ trivial ?_
  clear hK K
  try simp only [pl, pn, el, ec, sz, ss, gz, gs, if_true, if_false, Bool.false_eq_true, Bool.not_true, Bool.not_false, Nat.add_zero, Nat.zero_add, Nat.reduceAdd]
  refine wpPi_nil ?_
  have hM6 : Mod NoB w w6 := hM5.transB hm6 (Nat.le_refl _)
  clear hm6 hB1 hM5 hm3 hm4 hm5 hM2
  go_wp2
  refine bodyPost_ret (results_cell_row rfl _ _ w.heap.size _ _ _ _ (by rfl) hB6 Tryz.underlying24 rfl (by rw [hrs]; kernel_rfl)) rfl ?_
  exact ⟨rfl, hM6⟩
theorem digest_any (G : Nat → Prop) : ∀ (f i : Nat) (l : List Leaf) (v : Value) (w : World), f + i = 256 → Ls w G v l → Placed i l → l.length ≤ 1000000 → Calls Tryz.prog 22 #[v, .int .i64 (i : Int)] w (RetM (.agg (idCells (dig f i l))) w) := by
  intro f
  have few : ∀ (f i : Nat) (l : List Leaf) (v : Value) (w : World), Ls w G v l → l.length < 2 → Calls Tryz.prog 22 #[v, .int .i64 (i : Int)] w (RetM (.agg (idCells (dig f i l))) w) := fun f i l v w hl h => by
    match l, h with
    | [], _ =>
      obtain ⟨ad, cap, rfl, -, -⟩ := hl
      exact digest_none f w ad cap i
    | [x], _ => exact digest_one f w G v x i hl
  induction f with
  | zero =>
    intro i l v w hi hl hp hlen
    rcases Nat.lt_or_ge l.length 2 with h | h
    · exact few 0 i l v w hl h
    · have := hp.bits h; omega
  | succ f ih =>
    intro i l v w hi hl hp hlen
    rcases Nat.lt_or_ge l.length 2 with h | h
    · exact few _ i l v w hl h
    · exact digest_more f i hi w G v l hl hp h hlen (fun l' v' w' h1 h2 h3 => ih (i + 1) l' v' w' (by omega) h1 h2 h3)
end Go.Proofs.YtchkikmmcmjcgaaGreat

/- Comparing texts and digests: the calls leave the world as it was, but for new blocks and draws. -/
namespace Go.Proofs.YtchkikmmcmjcgaaGreat
set_option linter.unusedSimpArgs false
set_option linter.unusedVariables false
set_option linter.unnecessarySimpa false
set_option linter.unusedSectionVars false
open Go.RowKit

/-- New blocks and draws; nothing else. -/
def Grown (w w' : World) : Prop := ∃ q os, w' = Sort.grow (w.drewN q) os
theorem Grown.refl (w : World) : Grown w w := ⟨0, #[], by simp [Sort.grow, World.drewN]⟩
theorem Grown.trans {a b c : World} (h : Grown a b) (k : Grown b c) : Grown a c := by
  obtain ⟨q, os, rfl⟩ := h
  obtain ⟨q', os', rfl⟩ := k
  exact ⟨q + q', os ++ os', by simp [Sort.grow, World.drewN, Array.append_assoc, Nat.add_assoc]⟩
theorem Grown.alloc {a b : World} (h : Grown a b) (o : Obj) : Grown a (b.alloc o) := h.trans ⟨0, #[o], by rw [Sort.alloc_eq_grow]; rfl⟩
theorem Grown.drew {a b : World} (h : Grown a b) : Grown a b.drew := h.trans ⟨1, #[], by simp only [Sort.grow, World.drewN, Array.append_empty]; rfl⟩
theorem Grown.mod {w w' : World} (h : Grown w w') : Mod NoB w w' := by
  obtain ⟨q, os, rfl⟩ := h
  refine ⟨rfl, rfl, rfl, by simp [Sort.grow, World.drewN], fun k hk _ => ?_⟩
  simp only [Sort.grow, World.drewN]
  rw [Array.getElem?_append_left hk]
theorem mod_drew (w : World) : Mod NoB w w.drew := (Mod.refl _ _).drew
/-- The call returns v; new blocks and draws beside. -/
def RetG (v : Value) (w : World) : Ending → World → Prop := fun e w' => e = .returned v ∧ Grown w w'
theorem wp_boxG {P : Program} {o : Oper} {a : Act} {w : World} {K : Act → World → Prop} {Q : Exit → Act → World → Prop} (elem : TypeId) (x : Operand) (v : Value) (ho : o.op = .box elem x) (hx : a.eval x = v)
    (h : ∀ w', w'.heap[w.heap.size]? = some (.cells v.cells elem (0, 0)) → Grown w w' → w.heap.size < w'.heap.size → K (a.put o.dst (.pointer (some ⟨w.heap.size, 0, none⟩))) w') : o.wp P a w K Q := by
  unfold Oper.wp execOp
  simp only [ho, hx]
  have hr : (Instr.box elem v).run P w = .ok (.pointer (some ⟨w.heap.size, 0, none⟩)) (w.alloc (.cells v.cells elem)) := by
    simp [Instr.box, newVar, newRow]
  simp only [Sem.run_bind, hr, Result.andThen_ok, Sem.run_pure]
  exact h _ (heap_alloc_new _ _) ((Grown.refl _).alloc _) (by simp)

theorem length_le_of_sub {α : Type} [DecidableEq α] : ∀ {l m : List α}, l.Nodup → (∀ x ∈ l, x ∈ m) → l.length ≤ m.length
  | [], _, _, _ => by simp
  | x :: l, m, hn, hs => by
    rw [List.nodup_cons] at hn
    have hx := hs x (by simp)
    have := length_le_of_sub (m := m.erase x) hn.2 fun y hy => by
      have hne : y ≠ x := by rintro rfl; exact hn.1 hy
      exact (List.mem_erase_of_ne hne).2 (hs y (by simp [hy]))
    have hl := List.length_erase_of_mem hx
    have hp : 0 < m.length := List.length_pos_iff.2 (by rintro rfl; cases hx)
    simp only [List.length_cons]; omega


/-! ### The order -/
def cmpI (a b : List UInt8) : Int := Lib.compareBytes a b
theorem cmpI_lt (a b : List UInt8) : cmpI a b = -1 ∨ cmpI a b = 0 ∨ cmpI a b = 1 := by
  induction a generalizing b with
  | nil => cases b <;> simp [cmpI, Lib.compareBytes]
  | cons x a ih =>
    cases b with
    | nil => simp [cmpI, Lib.compareBytes]
    | cons y b =>
      simp only [cmpI, Lib.compareBytes]
      split
      · simp
      · split
        · simp
        · exact ih b
theorem cmpI_bytes (a b : List UInt8) : cmpI a b = if Op.bytesLess a b then -1 else if a = b then 0 else 1 := by
  induction a generalizing b with
  | nil => cases b <;> simp [cmpI, Lib.compareBytes, Op.bytesLess]
  | cons x a ih =>
    cases b with
    | nil => simp [cmpI, Lib.compareBytes, Op.bytesLess]
    | cons y b =>
      have := ih b
      simp only [cmpI] at this
      simp only [cmpI, Lib.compareBytes, Op.bytesLess, Bool.or_eq_true, decide_eq_true_eq, Bool.and_eq_true, beq_iff_eq, List.cons.injEq]
      rcases Nat.lt_trichotomy x.toNat y.toNat with h | h | h
      · have h1 : x < y := h
        simp [h1]
      · have h1 : x = y := UInt8.toNat_inj.1 h
        subst h1
        simp [this]
      · have h1 : y < x := h
        have h2 : ¬ x < y := fun h3 => by have h3 : x.toNat < y.toNat := h3; omega
        have h3 : ¬ x = y := fun e => by subst e; omega
        simp [h1, h2, h3]
theorem cmpI_neg (a b : List UInt8) : cmpI a b < 0 ↔ a < b := by
  induction a generalizing b with
  | nil => cases b <;> simp [cmpI, Lib.compareBytes]
  | cons x a ih =>
    cases b with
    | nil => simp [cmpI, Lib.compareBytes]
    | cons y b =>
      have := ih b
      simp only [cmpI] at this
      simp only [cmpI, Lib.compareBytes, List.cons_lt_cons_iff]
      rcases Nat.lt_trichotomy x.toNat y.toNat with h | h | h
      · have h1 : x < y := h
        simp [h1]
      · have h1 : x = y := UInt8.toNat_inj.1 h
        subst h1
        have h2 : ¬ x < x := fun h3 => by have h3 : x.toNat < x.toNat := h3; omega
        simp [this, h2]
      · have h1 : y < x := h
        have h2 : ¬ x < y := fun h3 => by have h3 : x.toNat < y.toNat := h3; omega
        have h3 : ¬ x = y := fun e => by subst e; omega
        simp [h1, h2, h3]
theorem cmpI_zero (a b : List UInt8) : cmpI a b = 0 ↔ a = b := by
  rw [cmpI_bytes]
  constructor
  · intro h
    split at h
    · cases h
    · split at h
      · assumption
      · cases h
  · rintro rfl
    have h : ¬ cmpI a a < 0 := by rw [cmpI_neg]; exact List.lt_irrefl a
    split
    · rename_i hb
      rw [cmpI_bytes, if_pos hb] at h
      omega
    · simp

theorem run_loadBytesE {P : Program} {w : World} : ∀ (l : List UInt8) (a : Addr) (acc : ByteArray), (∀ j x, l[j]? = some x → w.cell? (a.add j) = some (byteV x)) →
    (Extern.Bytes.loadBytes a l.length acc).run P w = .ok ⟨acc.data ++ l.toArray⟩ w
  | [], a, acc, _ => by simp [Extern.Bytes.loadBytes]
  | x :: l, a, acc, h => by
    have h0 : w.cell? a = some (byteV x) := by
      have := h 0 x rfl
      simpa [Addr.add] using this
    have ih := run_loadBytesE (P := P) (w := w) l (a.add 1) (acc.push x) (fun j y hy => by
      have := h (j + 1) y (by simpa using hy)
      have e : (a.add 1).add j = a.add (j + 1) := by
        unfold Addr.add
        by_cases hj : j = 0
        · subst hj; simp
        · simp [hj]; omega
      rw [e]; exact this)
    have hx : ((x.toNat : Int).toNat).toUInt8 = x := by simp
    simp only [byteV] at h0
    simp only [List.length_cons, Extern.Bytes.loadBytes, Sem.run_bind, run_load, h0, Result.andThen, hx]
    rw [ih]
    congr 1
    apply ByteArray.ext
    simp [ByteArray.push]
theorem run_bytesOf_sl {P : Program} {w : World} {own : Bool} {G : Nat → Prop} {v : Value} {l : List UInt8} (h : Sl own w G 1 ByteC v l) : (Extern.Bytes.bytesOf v).run P w = .ok ⟨l.toArray⟩ w := by
  obtain ⟨a, cap, rfl, hl, hc, h⟩ := h
  by_cases hne : l = []
  · subst hne
    cases a with
    | none => rfl
    | some a => simp [Extern.Bytes.bytesOf, loadBytes]; rfl
  · obtain ⟨b, off, rfl, -, -, h⟩ := h hne
    have := run_loadBytesE (P := P) (w := w) l ⟨b, off, none⟩ .empty (fun j x hj => by
      obtain ⟨hj', hx⟩ := List.getElem?_eq_some_iff.1 hj
      obtain ⟨cs, -, hR, hc⟩ := h j hj'
      rw [hR, hx] at hc
      have := CellsAt.one.1 hc
      rw [Nat.mul_one] at this
      unfold Addr.add
      split
      · rename_i h0; subst h0; simpa using this
      · exact this)
    simpa [Extern.Bytes.bytesOf] using this
theorem exec_extern {P : Program} {w : World} {o : Oper} {a : Act} (f : FuncId) (fn : Func) (e : Array Value → Sem Value) (args : List Operand) (ts : Array TypeId) (ho : o.op = .call { callee := .value (.func f), args := args.toArray, argTypes := ts }) (hf : P.funcs[f]? = some fn) (hname : (fn.name == "runtime.NumGoroutine") = false)
    (hb : fn.body.isNone = true) (hn : Extern.findNext fn = none) (he : Extern.find fn = some e) (vs : List Value) (hvs : args.map a.eval = vs) (v : Value) (hv : (e vs.toArray).run P w = .ok v w) : (execOp a.eval o).run P w = .ok (.value v) w := by
  subst hvs
  unfold execOp
  have hr := run_callFunc_extern hf hname hb hn he (args.map a.eval).toArray w
  rw [hv] at hr
  simp [ho, resolve, invoke, Act.eval, Deferred.ofValue, hr]
theorem bytealg_run {w : World} {u v : Value} {oa ob : Bool} {Ga Gb : Nat → Prop} {x y : List UInt8} (hx : Sl oa w Ga 1 ByteC u x) (hy : Sl ob w Gb 1 ByteC v y) :
    (Extern.BytealgCompare.compare #[u, v]).run Tryz.prog w = .ok (.int .i64 (cmpI x y)) w := by
  show (do pure (goInt (Extern.BytealgCompare.cmp (← Extern.Bytes.bytesOf u) (← Extern.Bytes.bytesOf v))) : Sem Value).run Tryz.prog w = _
  simp only [Sem.run_bind, run_bytesOf_sl hx, run_bytesOf_sl hy, Result.andThen_ok, Sem.run_pure, Lib.cmp_eq]
  rfl
set_option maxRecDepth 10000 in
theorem bytesCompare_any {w : World} {u v : Value} {oa ob : Bool} {Ga Gb : Nat → Prop} {x y : List UInt8} (hx : Sl oa w Ga 1 ByteC u x) (hy : Sl ob w Gb 1 ByteC v y) :
    Calls Tryz.prog 62 #[u, v] w (RetE (.int .i64 (cmpI x y)) w) := by
  have hr := bytealg_run hx hy
  go_enter Tryz.func62, Tryz.ntmps62
  go_upto_region 1 with (fail)
  refine wp_region_seq [3, 3, 1, 3] (fun _ => True) (by rfl) (by rfl) trivial ?_
  simp only [List.zip_cons_cons, List.zip_nil_right]
  refine wpPi_move _ rfl rfl ?_
  simp only [pl, pn, el, ec, sz, ss, gz, gs, if_true, if_false, Bool.false_eq_true, Bool.not_true, Bool.not_false, Nat.add_zero, Nat.zero_add, Nat.reduceAdd]
  refine wpPi_move _ rfl rfl ?_
  simp only [pl, pn, el, ec, sz, ss, gz, gs, if_true, if_false, Bool.false_eq_true, Bool.not_true, Bool.not_false, Nat.add_zero, Nat.zero_add, Nat.reduceAdd]
  refine wpPi_do rfl (fun K hK => ?_)
  refine wp_exec (exec_extern 91 _ Extern.BytealgCompare.compare [_, _] _ (by rfl) Tryz.func91 (by kernel_rfl) (by kernel_rfl) (by kernel_rfl) (by kernel_rfl) [u, v] (by rfl) _ hr) ?_
  refine hK _ _ trivial ?_
  clear hK K
  try simp only [pl, pn, el, ec, sz, ss, gz, gs, if_true, if_false, Bool.false_eq_true, Bool.not_true, Bool.not_false, Nat.add_zero, Nat.zero_add, Nat.reduceAdd]
  refine wpPi_assign _ rfl rfl ?_
  simp only [pl, pn, el, ec, sz, ss, gz, gs, if_true, if_false, Bool.false_eq_true, Bool.not_true, Bool.not_false, Nat.add_zero, Nat.zero_add, Nat.reduceAdd]
  refine wpPi_nil ?_
  go_wp2
  go_ret
  exact ⟨rfl, rfl⟩
theorem exec_sliceA {P : Program} {w : World} {o : Oper} {a : Act} (t e : TypeId) (x : Operand) (b off n : Nat) (ho : o.op = .slice t x none none none) (hx : a.eval x = .pointer (some ⟨b, off, none⟩)) (ht : P.underlying t = some (.array n e)) (he : (P.info? e).map (·.size) = some 1) :
    (execOp a.eval o).run P w = .ok (.value (.slice (some ⟨b, off, none⟩) n n)) w := by
  have h1 : P.arrayLen t = n := by simp [Program.arrayLen, ht]
  have h2 : P.elem t = e := by simp [Program.elem, ht]
  have h3 : (sizeOf e).run P w = .ok 1 w := by
    cases hq : P.info? e with
    | none => simp [hq] at he
    | some j => simp [hq] at he; simp [sizeOf, typeInfo, hq, he]
  have h := run_sliceAt_array_all (P := P) w t ⟨b, off, none⟩ (by rw [h1, h2]; exact ht)
  rw [h2, h3, h1] at h
  unfold execOp
  have hm : (match (none : Option Operand) with | some z => some (a.eval z) | none => none) = none := rfl
  simp only [ho, hx, Option.map_none, Sem.run_bind, h, Result.andThen_ok, Sem.run_pure]
  simp [slicedAt, Addr.add]
theorem sl_idCells {w : World} {b off : Nat} {x : List UInt8} (h : CellsAt w b off (idCells x)) (hx : x.length = 32) : Sl false w (fun k => k = b) 1 ByteC (.slice (some ⟨b, off, none⟩) 32 32) x := by
  refine ⟨some ⟨b, off, none⟩, 32, by rw [hx], by omega, by unfold maxLen; omega, fun _ => ⟨b, off, rfl, rfl, fun h => (by cases h), fun i hi => ⟨#[byteV x[i]], rfl, rfl, ?_⟩⟩⟩
  rw [Nat.mul_one, CellsAt.one]
  exact h.cell (by simp [idCells, hi])
set_option maxRecDepth 10000 in
theorem shaCompare_any (x y : List UInt8) (hx : x.length = 32) (hy : y.length = 32) (w : World) : Calls Tryz.prog 45 #[.agg (idCells x), .agg (idCells y)] w (RetG (.int .i64 (cmpI x y)) w) := by
  go_enter Tryz.func45, Tryz.ntmps45
  go_upto_region 0 with (fail)
  refine wp_region_seq [1, 1, 3] (fun _ => True) (by rfl) (by rfl) trivial ?_
  simp only [List.zip_cons_cons, List.zip_nil_right]
  refine wpPi_do rfl (fun K hK => ?_)
  refine wp_boxG 24 _ _ (by rfl) (by rfl) (fun w1 hB1 hm1 hs1 => ?_)
  replace hB1 : w1.heap[w.heap.size]? = some (.cells (idCells x) 24 (0, 0)) := hB1
  refine hK _ _ trivial ?_
  clear hK K
  try simp only [pl, pn, el, ec, sz, ss, gz, gs, if_true, if_false, Bool.false_eq_true, Bool.not_true, Bool.not_false, Nat.add_zero, Nat.zero_add, Nat.reduceAdd]
  refine wpPi_do rfl (fun K hK => ?_)
  refine wp_boxG 24 _ _ (by rfl) (by rfl) (fun w2 hB2 hm2 hs2 => ?_)
  replace hB2 : w2.heap[w1.heap.size]? = some (.cells (idCells y) 24 (0, 0)) := hB2
  refine hK _ _ trivial ?_
  clear hK K
  try simp only [pl, pn, el, ec, sz, ss, gz, gs, if_true, if_false, Bool.false_eq_true, Bool.not_true, Bool.not_false, Nat.add_zero, Nat.zero_add, Nat.reduceAdd]
  refine wpPi_assign _ rfl rfl ?_
  simp only [pl, pn, el, ec, sz, ss, gz, gs, if_true, if_false, Bool.false_eq_true, Bool.not_true, Bool.not_false, Nat.add_zero, Nat.zero_add, Nat.reduceAdd]
  refine wpPi_nil ?_
  have hG := (hm1.trans hm2).drew
  have hX := sl_idCells (CellsAt.whole ((mod_drew w2).obj id (hm2.mod.obj id hB1))) hx
  have hY := sl_idCells (CellsAt.whole ((mod_drew w2).obj id hB2)) hy
  go_upto_region 1 with (fail)
  refine wp_region_pi [(0, 3), (1, 3), (2, 1), (3, 3)] [] (fun _ => True) (by kernel_rfl) (by kernel_rfl) (by kernel_rfl) (by kernel_rfl) (fun _ _ _ _ hd h => ⟨hd.trans h.1, h.2⟩) trivial ?_
  simp only [List.map_cons, List.map_nil, List.getD_cons_zero, List.getD_cons_succ]
  refine wpPi_any (v := .slice (some ⟨w.heap.size, 0, none⟩) 32 32) rfl (fun w' => exec_sliceA 24 5 _ _ _ 32 rfl rfl Tryz.underlying24 (by kernel_rfl)) ?_
  simp only [pl, pn, el, ec, sz, ss, gz, gs, if_true, if_false, Bool.false_eq_true, Bool.not_true, Bool.not_false, Nat.add_zero, Nat.zero_add, Nat.reduceAdd]
  refine wpPi_any (v := .slice (some ⟨w1.heap.size, 0, none⟩) 32 32) rfl (fun w' => exec_sliceA 24 5 _ _ _ 32 rfl rfl Tryz.underlying24 (by kernel_rfl)) ?_
  simp only [pl, pn, el, ec, sz, ss, gz, gs, if_true, if_false, Bool.false_eq_true, Bool.not_true, Bool.not_false, Nat.add_zero, Nat.zero_add, Nat.reduceAdd]
  refine wpPi_do rfl (fun K hK => ?_)
  go_wp2_with (go_at_call 62; refine (bytesCompare_any hX hY).mono ?_; rintro _ w3 ⟨rfl, hw⟩; obtain rfl := hw.symm)
  refine hK _ _ trivial ?_
  clear hK K
  try simp only [pl, pn, el, ec, sz, ss, gz, gs, if_true, if_false, Bool.false_eq_true, Bool.not_true, Bool.not_false, Nat.add_zero, Nat.zero_add, Nat.reduceAdd]
  refine wpPi_assign _ rfl rfl ?_
  simp only [pl, pn, el, ec, sz, ss, gz, gs, if_true, if_false, Bool.false_eq_true, Bool.not_true, Bool.not_false, Nat.add_zero, Nat.zero_add, Nat.reduceAdd]
  refine wpPi_nil ?_
  go_wp2
  go_ret
  exact ⟨rfl, hG⟩

/-! ### The links' keys -/
end Go.Proofs.YtchkikmmcmjcgaaGreat

/- A row of elements of several cells, as the library's sort holds it; the order of bytes; rows that are gathered. -/
namespace Go.Proofs.YtchkikmmcmjcgaaGreat
set_option linter.unusedSimpArgs false
set_option linter.unusedVariables false
set_option linter.unnecessarySimpa false
set_option linter.unusedSectionVars false
open Go.RowKit Go.Shelf Go.Sort

section
variable {α : Type} [Inhabited α] {enc : α → List Value} {k : Nat}
theorem flat_enc (hk : ∀ x, (enc x).length = k) : ∀ (l : List α) (i : Nat) (hi : i < l.length) (j : Nat), j < k → (l.flatMap enc)[i * k + j]? = (enc l[i])[j]?
  | x :: l, 0, _, j, hj => by
    simp only [List.flatMap_cons, Nat.zero_mul, Nat.zero_add, List.getElem_cons_zero]
    rw [List.getElem?_append_left (by rw [hk]; exact hj)]
  | x :: l, i + 1, hi, j, hj => by
    simp only [List.flatMap_cons, List.getElem_cons_succ]
    rw [List.getElem?_append_right (by rw [hk, Nat.succ_mul]; omega), hk, show (i + 1) * k + j - k = i * k + j by rw [Nat.succ_mul]; omega]
    exact flat_enc hk l i (by simpa using hi) j hj
theorem len_enc (hk : ∀ x, (enc x).length = k) : ∀ (l : List α), (l.flatMap enc).length = l.length * k
  | [] => by simp
  | x :: l => by simp [len_enc hk l, hk, Nat.add_mul]; omega
theorem holdsK_of_cells (hk : ∀ x, (enc x).length = k) (h0 : 0 < k) {w : World} {g e : Nat} {cur : Array Value} {l : List α} (h : w.heap[g]? = some (.cells cur e (0, 0))) (ht : cur.toList.take (l.length * k) = l.flatMap enc) : HoldsK enc k w g 0 l.toArray := by
  intro t ht'
  have hlt : t < l.length * k := by simpa using ht'
  have hi : t / k < l.length := Nat.div_lt_of_lt_mul (by rw [Nat.mul_comm]; exact hlt)
  have hm : t % k < k := Nat.mod_lt _ h0
  have e0 : t / k * k + t % k = t := by rw [Nat.mul_comm]; exact Nat.div_add_mod t k
  have h1 := flat_enc hk l (t / k) hi (t % k) hm
  rw [e0, ← ht, List.getElem?_take_of_lt hlt] at h1
  have h2 : (flatK enc k l.toArray)[t]! = (enc l[t / k])[t % k]'(by rw [hk]; exact hm) := by
    rw [get_flatK _ _ _ _ (by simpa using hlt)]
    have : l.toArray[t / k]! = l[t / k] := by simp [hi]
    rw [this]
    exact getElem!_pos _ _ (by rw [hk]; exact hm)
  refine ⟨?_, by simp [World.frozen?, h]⟩
  rw [Nat.zero_add, cell_of_row w g _ cur e (0, 0) h, h2]
  rw [Array.getElem?_toList] at h1
  rw [h1]
  exact List.getElem?_eq_getElem _
theorem sl_of_holdsK (hk : ∀ x, (enc x).length = k) {w : World} {g cap : Nat} {l : List α} (h : HoldsK enc k w g 0 l.toArray) (hc : l.length ≤ cap) (hm : cap ≤ maxLen) :
    Sl false w (fun j => j = g) k (fun cs x => cs = (enc x).toArray) (.slice (some ⟨g, 0, none⟩) l.length cap) l := by
  refine ⟨_, cap, rfl, hc, hm, fun _ => ⟨g, 0, rfl, rfl, fun h => (by cases h), fun i hi => ⟨(enc l[i]).toArray, by simp [hk], rfl, fun j hj => ?_⟩⟩⟩
  have hj' : j < k := by simpa [hk] using hj
  have := (h.cell (i := i) (c := j) (by simpa using hi) hj').1
  have e : l.toArray[i]! = l[i] := by simp [hi]
  rw [e] at this
  rw [this]
  have h2 : (enc l[i])[j]! = (enc l[i])[j]'(by rw [hk]; exact hj') := getElem!_pos _ _ (by rw [hk]; exact hj')
  simp [h2]
theorem mod_sortWorldK {w : World} {blk off n : Nat} {d : Array α} {os : Array Obj} : Mod (fun j => j = blk) w (sortWorldK enc k w blk off n d os) := by
  have hs : (mapBlock (Sort.ahead w n) blk (putCells id off (flatK enc k d))).heap.size = w.heap.size := by simp [mapBlock, Sort.ahead]
  refine ⟨rfl, rfl, rfl, ?_, fun j hj hne => ?_⟩
  · show w.heap.size ≤ ((mapBlock (Sort.ahead w n) blk (putCells id off (flatK enc k d))).heap ++ os).size
    rw [Array.size_append, hs]; omega
  · show ((mapBlock (Sort.ahead w n) blk (putCells id off (flatK enc k d))).heap ++ os)[j]? = _
    rw [Array.getElem?_append_left (by rw [hs]; exact hj)]
    show ((Sort.ahead w n).heap.modify blk _)[j]? = _
    rw [Array.getElem?_modify, if_neg (fun e => hne e.symm)]
    rfl
end

/-! ### The order of bytes -/
def ltB (a b : List UInt8) : Prop := a < b
theorem ltB_tri (a b : List UInt8) : a < b ∨ a = b ∨ b < a := by
  rcases List.le_total a b with h | h
  · rcases List.le_iff_lt_or_eq.1 h with h | h
    · exact .inl h
    · exact .inr (.inl h)
  · rcases List.le_iff_lt_or_eq.1 h with h | h
    · exact .inr (.inr h)
    · exact .inr (.inl h.symm)
theorem ltB_trans {a b c : List UInt8} (h : a < b) (k : b < c) : a < c := by
  rcases ltB_tri a c with h1 | h1 | h1
  · exact h1
  · subst h1; exact absurd h (List.lt_asymm k)
  · have h2 : c ≤ a := List.le_of_lt h1
    have h3 : a ≤ b := List.le_of_lt h
    have h4 : c ≤ b := List.le_trans h2 h3
    exact absurd k (List.not_lt.2 h4)
/-! ### Rows that are gathered by append -/
section
variable {α : Type} {enc : α → List Value} {e k : Nat}
def Gat (enc : α → List Value) (e : TypeId) (k base : Nat) (w : World) (v : Value) (l : List α) : Prop := w.ownsRow base e k v l.length (l.flatMap enc)
theorem Gat.lt {base : Nat} {w : World} {v : Value} {l : List α} (h : Gat enc e k base w v l) {q : Nat} (hq : v.ownBlock = some q) : base ≤ q ∧ q < w.heap.size := World.ownsRow.lt h q hq
theorem Gat.lts {base : Nat} {w : World} {v : Value} {l : List α} (h : Gat enc e k base w v l) : ∀ q, v.ownBlock = some q → base ≤ q ∧ q < w.heap.size := fun _ hq => h.lt hq
theorem Gat.keep {S : Nat → Prop} {base : Nat} {w w' : World} {v : Value} {l : List α} (h : Gat enc e k base w v l) (hm : Mod S w w') (hn : ∀ q, v.ownBlock = some q → ¬ S q) : Gat enc e k base w' v l := ownsRow_mod h hm hn
theorem Gat.keep0 {base : Nat} {w w' : World} {v : Value} {l : List α} (h : Gat enc e k base w v l) (hm : Mod NoB w w') : Gat enc e k base w' v l := h.keep hm (fun _ _ => id)
theorem Gat.base {base b' : Nat} {w : World} {v : Value} {l : List α} (h : Gat enc e k base w v l) (hb : b' ≤ base) : Gat enc e k b' w v l := owns_base h hb
theorem Gat.slice {base : Nat} {w : World} {v : Value} {l : List α} (h : Gat enc e k base w v l) : ∃ ad cap, v = .slice ad l.length cap := by
  rcases h.2 with ⟨rfl, h0⟩ | ⟨g, cap, cur, rfl, -⟩
  · exact ⟨none, 0, by rw [h0]⟩
  · exact ⟨_, _, rfl⟩
theorem Gat.nil (enc : α → List Value) (e k base : Nat) (w : World) : Gat enc e k base w (.slice none 0 0) [] := ⟨by simp, .inl ⟨rfl, rfl⟩⟩
theorem Gat.sl {base : Nat} {w : World} {v : Value} {l : List α} (h : Gat enc e k base w v l) (hk : ∀ x, (enc x).length = k) : Sl true w (fun q => base ≤ q ∧ q < w.heap.size ∧ v.ownBlock = some q) k (fun cs x => cs = (enc x).toArray) v l := by
  refine Sl.of_owns (css := l.map fun x => (enc x).toArray) h ?_ ?_ ⟨by simp, fun i h1 h2 => by simp⟩ rfl
  · rw [List.flatMap_map]
  · intro c hc
    obtain ⟨x, _, rfl⟩ := List.mem_map.1 hc
    simp [hk]
theorem src_lit (hk : ∀ x, (enc x).length = k) {w : World} {b : Nat} {x : α} (h : w.heap[b]? = some (.cells (enc x).toArray e (0, 0))) : Src w k (.slice (some ⟨b, 0, none⟩) 1 1) 1 ([x].flatMap enc) := by
  refine ⟨by simp [hk], _, _, rfl, fun _ => ⟨b, 0, rfl, fun j y hj => ?_⟩⟩
  have hc := CellsAt.whole h
  exact hc.cell (j := j) (by simpa using hj)
theorem Gat.src {base : Nat} {w : World} {v : Value} {l : List α} (h : Gat enc e k base w v l) : Src w k v l.length (l.flatMap enc) := owns_src h
theorem wp_gat {P : Program} {o : Oper} {a : Act} {w : World} {K : Act → World → Prop} {Q : Exit → Act → World → Prop} (enc : α → List Value) (s x : Operand) (t e : TypeId) (z : Value) (k bytes : Nat) (ho : o.op = .call { callee := .builtin .append, args := #[s, x], argTypes := #[t, t] })
    (ht : P.underlying t = some (.slice e)) (hi : (P.info? e).map (fun i => (i.zero, i.size, i.bytes)) = some (some z, k, bytes)) (hzs : z.cells.size = k) (hk0 : 0 < k) (h1 : ∀ x, ∀ c ∈ enc x, c.oneCell' = true)
    (base : Nat) (v : Value) (l : List α) (hs : a.eval s = v) (hown : Gat enc e k base w v l) (u : Value) (m : List α) (hx : a.eval x = u) (hsrc : Src w k u m.length (m.flatMap enc)) (h63 : l.length + m.length ≤ maxLen) (hlen : (l.length + m.length) * bytes ≤ 140737488355328) (hbase : base ≤ w.heap.size)
    (h : ∀ v' w', Gat enc e k base w' v' (l ++ m) → Mod (fun q => v.ownBlock = some q) w w' → K (a.put o.dst v') w') : o.wp P a w K Q := by
  refine wp_append s x t e z k bytes ho ht hi hzs hk0 base v l.length _ hs hown u m.length _ hx hsrc (fun c hc => ?_) h63 hlen hbase (fun v' w' ho' hg hv => ?_)
  · obtain ⟨y, _, hy⟩ := List.mem_flatMap.1 hc
    exact h1 y c hy
  · refine h v' w' ?_ ((Mod.refl _ _).grown hg (fun k e _ => e))
    unfold Gat
    rw [List.length_append, List.flatMap_append]
    exact ho'
end
end Go.Proofs.YtchkikmmcmjcgaaGreat

/- Entries in memory; an entry's leaf. -/
namespace Go.Proofs.YtchkikmmcmjcgaaGreat
set_option linter.unusedSimpArgs false
set_option linter.unusedVariables false
set_option linter.unnecessarySimpa false
set_option linter.unusedSectionVars false
open Go.RowKit Go.Shelf

theorem fo_27_0 : fieldOff Tryz.prog 27 0 = some 0 := by kernel_rfl
theorem fo_27_1 : fieldOff Tryz.prog 27 1 = some 1 := by kernel_rfl
def EntC (w : World) (G : Nat → Prop) (cs : Array Value) (e : Ent) : Prop := ∃ v, cs = #[.string e.1, v] ∧ Sl false w G 1 ByteC v e.2
def Es (own : Bool) (w : World) (G : Nat → Prop) (v : Value) (l : List Ent) : Prop := Sl own w G 2 (EntC w G) v l
theorem EntC.keep {S : Nat → Prop} {w w' : World} {G : Nat → Prop} {cs : Array Value} {e : Ent} (h : EntC w G cs e) (hm : Mod S w w') (hd : ∀ k, G k → ¬ S k) : EntC w' G cs e := by
  obtain ⟨v, e1, hs⟩ := h
  exact ⟨v, e1, hs.keep hm hd (fun _ _ h => h)⟩
theorem Es.keep {own : Bool} {S : Nat → Prop} {w w' : World} {G : Nat → Prop} {v : Value} {l : List Ent} (h : Es own w G v l) (hm : Mod S w w') (hd : ∀ k, G k → ¬ S k) : Es own w' G v l := Sl.keep h hm hd (fun _ _ h => h.keep hm hd)
theorem Es.keep0 {own : Bool} {w w' : World} {G : Nat → Prop} {v : Value} {l : List Ent} (h : Es own w G v l) (hm : Mod NoB w w') : Es own w' G v l := h.keep hm (fun _ _ => id)
theorem entC_one {w : World} {G : Nat → Prop} {cs : Array Value} {e : Ent} (h : EntC w G cs e) : ∀ c ∈ cs, c.oneCell' = true := by
  obtain ⟨v, rfl, hs⟩ := h
  intro c hc
  have hc : c = .string e.1 ∨ c = v := by simpa using hc
  rcases hc with rfl | rfl
  · rfl
  · exact hs.one
theorem wp_bytesOf {P : Program} {o : Oper} {a : Act} {w : World} {K : Act → World → Prop} {Q : Exit → Act → World → Prop} (src dst e : TypeId) (x : Operand) (s : ByteArray) (ho : o.op = .convert src dst x) (hx : a.eval x = .string s)
    (hs : P.underlying src = some .string) (hd : P.underlying dst = some (.slice e)) (he : P.underlying e = some (.int .u8)) (hl : s.size ≤ maxLen)
    (h : ∀ v w', Sl false w' (fun k => w.heap.size ≤ k) 1 ByteC v s.data.toList → Mod NoB w w' → K (a.put o.dst v) w') : o.wp P a w K Q := by
  unfold Oper.wp execOp
  simp only [ho, hx]
  have hr := run_bytes_of_string (P := P) w src dst e s hs hd he
  have hC1 := grownCap_ge w s.size 0 e
  have hC2 := grownCap_le_maxLen w s.size 0 e hl
  generalize grownCap w s.size 0 e = C at hr hC1 hC2
  simp only [Sem.run_bind, hr, Result.andThen_ok, Sem.run_pure]
  have hB := heap_alloc_new w.drew (.cells (bytesRow s C) e ((bytesRow s C).size, (bytesRow s C).size + 1))
  refine h _ _ ⟨some ⟨w.heap.size, 0, none⟩, C, by rw [Array.length_toList]; rfl, by simpa using hC1, hC2, fun _ => ⟨_, 0, rfl, Nat.le_refl _, by simp [Owned], fun i hi => ⟨#[byteV s.data.toList[i]], rfl, rfl, CellsAt.one.2 ?_⟩⟩⟩ (((Mod.refl _ _).drew).alloc _)
  have hcs : CellsAt (w.drew.alloc (.cells (bytesRow s C) e ((bytesRow s C).size, (bytesRow s C).size + 1))) w.heap.size 0 (bytesRow s C) := CellsAt.whole hB
  have h1 := hcs.cell (j := i) (v := byteV s.data.toList[i]) (by
    have hi' : i < s.data.size := by simpa using hi
    have hi2 : i < s.size := hi'
    simp [bytesRow, hi', hi2, byteV, Array.getElem?_append])
  rw [Nat.mul_one]
  exact h1
def zeroLeaf : Leaf := ⟨⟨#[]⟩, List.replicate 32 0, List.replicate 32 0⟩
theorem leafZ : (Tryz.prog.info? 59).bind (·.zero) = some (.agg (leafCells zeroLeaf)) := by kernel_rfl
theorem leafPlaces : placesOf Tryz.prog 59 = some [(0, 1), (1, 32), (33, 32)] := by kernel_rfl
theorem built_leaf (x : Leaf) (hx : LeafOk x) : Tryz.prog.built 59 [(0, .string x.key), (1, .agg (idCells x.way)), (2, .agg (idCells x.val))] = some (leafCells x) := by
  rw [built_struct leafZ leafPlaces]
  have h1 := hx.1
  have h2 := hx.2
  have hz : (leafCells zeroLeaf).size = 65 := by kernel_rfl
  have e1 : putRow (leafCells zeroLeaf) 0 (Value.string x.key).cells = (Value.string x.key :: (List.replicate 64 (byteV 0))).toArray := by simp [putRow, leafCells, zeroLeaf, Value.cells]
  have e2 : putRow (Value.string x.key :: (List.replicate 64 (byteV 0))).toArray 1 (Value.agg (idCells x.way)).cells = (Value.string x.key :: (x.way.map byteV ++ List.replicate 32 (byteV 0))).toArray := by simp [putRow, idCells, Value.cells, h1]
  have e3 : putRow (Value.string x.key :: (x.way.map byteV ++ List.replicate 32 (byteV 0))).toArray 33 (Value.agg (idCells x.val)).cells = leafCells x := by
    simp only [putRow, idCells, Value.cells, leafCells]
    congr 1
    have h3 : (x.way.map byteV).length = 32 := by simp [h1]
    have h4 : (Value.string x.key :: (x.way.map byteV ++ List.replicate 32 (byteV 0))).take 33 = Value.string x.key :: x.way.map byteV := by
      rw [List.take_succ_cons, List.take_append_of_le_length (by omega), List.take_of_length_le (by omega)]
    have h5 : (Value.string x.key :: (x.way.map byteV ++ List.replicate 32 (byteV 0))).drop (33 + (x.val.map byteV).length) = [] := by
      apply List.drop_of_length_le; simp [h1, h2]
    simp only [List.size_toArray, h4, h5]
    simp
  rw [fill_cons (off := 0) (size := 1) rfl rfl (by omega), e1, fill_cons (off := 1) (size := 32) rfl (by simp [Value.cells, idCells_size, h1]) (by simp), e2, fill_cons (off := 33) (size := 32) rfl (by simp [Value.cells, idCells_size, h2]) (by simp [h1]), e3, fill_nil]
set_option maxRecDepth 10000 in
theorem of_any {w : World} {G : Nat → Prop} {cs : Array Value} {e : Ent} (he : EntC w G cs e) (h1 : e.1.size ≤ 1000000) (h2 : e.2.length ≤ 1000000) : Calls Tryz.prog 28 #[.agg cs] w (RetM (.agg (leafCells (leafOf e))) w) := by
  obtain ⟨v, rfl, hs⟩ := he
  have hok : LeafOk (leafOf e) := leaf_len e
  have hlz := leafCells_size hok
  have hbl := Lib.hid (built_leaf _ hok)
  have HS := Lib.hid hs
  have hv1 := hs.one
  have hk1 : (shaL e.1.data.toList).length = 32 := shaL_len _
  have hk2 : (shaL e.2).length = 32 := shaL_len _
  obtain ⟨key, val⟩ := e
  change key.size ≤ 1000000 at h1
  change val.length ≤ 1000000 at h2
  obtain ⟨C, hC⟩ : ∃ C, leafCells (leafOf (key, val)) = C := ⟨_, rfl⟩
  rw [hC] at hlz hbl ⊢
  change Hid (Tryz.prog.built 59 [(0, .string key), (1, .agg (idCells (shaL key.data.toList))), (2, .agg (idCells (shaL val)))] = some C) at hbl
  have hC1 : ∀ c ∈ C, c.oneCell' = true := by rw [← hC]; exact leafCells_one _
  clear hC hs hok
  go_enter Tryz.func28, Tryz.ntmps28
  go_upto_region 0 with (fail)
  refine wp_region_seq [1, 1] (fun _ => True) (by rfl) (by rfl) trivial ?_
  simp only [List.zip_cons_cons, List.zip_nil_right]
  refine wpPi_do rfl (fun K hK => ?_)
  refine wp_box 27 _ _ (by rfl) (by rfl) (fun w1 hB1 hm1 hs1 => ?_)
  replace hB1 : w1.heap[w.heap.size]? = some (.cells #[.string key, v] 27 (0, 0)) := hB1
  refine hK _ _ trivial ?_
  clear hK K
  try simp only [pl, pn, el, ec, sz, ss, gz, gs, if_true, if_false, Bool.false_eq_true, Bool.not_true, Bool.not_false, Nat.add_zero, Nat.zero_add, Nat.reduceAdd]
  refine wpPi_do rfl (fun K hK => ?_)
  refine wp_alloc 59 _ (by rfl) leafZ (fun w2 hB2 hm2 hs2 => ?_)
  replace hB2 : w2.heap[w1.heap.size]? = some (.cells (leafCells zeroLeaf) 59 (0, 0)) := hB2
  refine hK _ _ trivial ?_
  clear hK K
  try simp only [pl, pn, el, ec, sz, ss, gz, gs, if_true, if_false, Bool.false_eq_true, Bool.not_true, Bool.not_false, Nat.add_zero, Nat.zero_add, Nat.reduceAdd]
  refine wpPi_nil ?_
  replace hB1 := hm2.obj id hB1
  have hM2 := hm1.trans0 hm2
  generalize hb1 : w.heap.size = b1 at *
  generalize hb2 : w1.heap.size = b2 at *
  clear hm1 hm2
  have hcw := CellsAt.whole hB1
  have hc0 := hcw.cell (j := 0) (v := .string key) rfl
  have hc1 := hcw.cell (j := 1) (v := v) rfl
  clear hcw hB1
  have hT : Mod NoB w2 w2.drew := (Mod.refl _ _).drew
  go_upto_region 1 with (fail)
  refine wp_region_pi [(0, 3), (1, 0), (2, 3), (3, 0), (6, 3), (7, 0), (4, 1), (5, 1), (8, 1), (9, 0), (10, 2)] [10] (fun w' => Mod NoB w2 w') (by kernel_rfl) (by kernel_rfl) (by kernel_rfl) (by kernel_rfl) (fun _ _ _ _ hd h => ⟨hd.trans h.1, h.2⟩) hT ?_
  simp only [List.map_cons, List.map_nil, List.getD_cons_zero, List.getD_cons_succ]
  refine wpPi_field _ _ _ _ _ _ rfl rfl rfl fo_27_0 ?_
  simp only [pl, pn, el, ec, sz, ss, gz, gs, if_true, if_false, Bool.false_eq_true, Bool.not_true, Bool.not_false, Nat.add_zero, Nat.zero_add, Nat.reduceAdd]
  refine wpPi_val rfl (fun w' hS => exec_load1 9 _ (by rfl) b1 0 (by rfl) _ (hS.cell id hc0) _ Tryz.underlying9 rfl) ?_
  simp only [pl, pn, el, ec, sz, ss, gz, gs, if_true, if_false, Bool.false_eq_true, Bool.not_true, Bool.not_false, Nat.add_zero, Nat.zero_add, Nat.reduceAdd]
  refine wpPi_field _ _ _ _ _ _ rfl rfl rfl fo_27_0 ?_
  simp only [pl, pn, el, ec, sz, ss, gz, gs, if_true, if_false, Bool.false_eq_true, Bool.not_true, Bool.not_false, Nat.add_zero, Nat.zero_add, Nat.reduceAdd]
  refine wpPi_val rfl (fun w' hS => exec_load1 9 _ (by rfl) b1 0 (by rfl) _ (hS.cell id hc0) _ Tryz.underlying9 rfl) ?_
  simp only [pl, pn, el, ec, sz, ss, gz, gs, if_true, if_false, Bool.false_eq_true, Bool.not_true, Bool.not_false, Nat.add_zero, Nat.zero_add, Nat.reduceAdd]
  refine wpPi_field _ _ _ _ _ _ rfl rfl rfl fo_27_1 ?_
  simp only [pl, pn, el, ec, sz, ss, gz, gs, if_true, if_false, Bool.false_eq_true, Bool.not_true, Bool.not_false, Nat.add_zero, Nat.zero_add, Nat.reduceAdd]
  refine wpPi_val rfl (fun w' hS => exec_load1 25 _ (by rfl) b1 1 (by rfl) _ (hS.cell id hc1) _ Tryz.underlying25 rfl) ?_
  simp only [pl, pn, el, ec, sz, ss, gz, gs, if_true, if_false, Bool.false_eq_true, Bool.not_true, Bool.not_false, Nat.add_zero, Nat.zero_add, Nat.reduceAdd]
  refine wpPi_do rfl (fun K hK => ?_)
  refine wp_bytesOf 9 25 5 _ key (by rfl) (by rfl) Tryz.underlying9 Tryz.underlying25 Tryz.underlying5 (by unfold maxLen; omega) (fun v7 w7 hs7 hm7 => ?_)
  replace hT := hT.trans0 hm7
  refine hK _ _ hT ?_
  clear hK K hm7
  try simp only [pl, pn, el, ec, sz, ss, gz, gs, if_true, if_false, Bool.false_eq_true, Bool.not_true, Bool.not_false, Nat.add_zero, Nat.zero_add, Nat.reduceAdd]
  refine wpPi_do rfl (fun K hK => ?_)
  refine wp_enterQ (run_call 18 [.tmp 7] _ rfl _ Tryz.func18 rfl (by kernel_rfl) [v7] rfl _) (shaSum_any hs7 (by rw [Array.length_toList]; exact Nat.le_trans h1 (by omega))) ?_
  rintro e w8 ⟨rfl, hm8⟩
  replace hT := hT.trans0 hm8
  refine ⟨_, rfl, hK _ _ hT ?_⟩
  clear hK K
  try simp only [pl, pn, el, ec, sz, ss, gz, gs, if_true, if_false, Bool.false_eq_true, Bool.not_true, Bool.not_false, Nat.add_zero, Nat.zero_add, Nat.reduceAdd]
  refine wpPi_do rfl (fun K hK => ?_)
  refine wp_enterQ (run_call 18 [.tmp 10] _ rfl _ Tryz.func18 rfl (by kernel_rfl) [v] rfl _) (shaSum_any (HS.out.keep0 (hM2.trans0 hT)) (Nat.le_trans h2 (by omega))) ?_
  rintro e w11 ⟨rfl, hm11⟩
  replace hT := hT.trans0 hm11
  refine ⟨_, rfl, hK _ _ hT ?_⟩
  clear hK K
  try simp only [pl, pn, el, ec, sz, ss, gz, gs, if_true, if_false, Bool.false_eq_true, Bool.not_true, Bool.not_false, Nat.add_zero, Nat.zero_add, Nat.reduceAdd]
  refine wpPi_val rfl (fun w' hS => exec_build_of 59 [(0, _), (1, _), (2, _)] [(0, .string key), (1, .agg (idCells (shaL key.data.toList))), (2, .agg (idCells (shaL val)))] C (by rfl) (by rfl) hbl.out) ?_
  simp only [pl, pn, el, ec, sz, ss, gz, gs, if_true, if_false, Bool.false_eq_true, Bool.not_true, Bool.not_false, Nat.add_zero, Nat.zero_add, Nat.reduceAdd]
  refine wpPi_last rfl (fun K hK => ?_)
  refine wp_storeA 59 _ _ b2 0 C (by rfl) (by rfl) (by rfl) hC1 65 (by kernel_rfl) hlz _ _ (hT.obj id hB2) (by rw [hlz]; exact Nat.le_of_eq rfl) (fun w9 hB9 hm9 => ?_)
  rw [putRow_whole (by rw [hlz]; rfl)] at hB9
  have hM9 : Mod NoB w w9 := (hM2.trans0 hT).transB hm9 (by omega)
  refine hK _ _ ?_
  clear hK K
  try simp only [pl, pn, el, ec, sz, ss, gz, gs, if_true, if_false, Bool.false_eq_true, Bool.not_true, Bool.not_false, Nat.add_zero, Nat.zero_add, Nat.reduceAdd]
  refine wpPi_nil ?_
  clear hm9 hT hB2
  go_wp2
  refine bodyPost_ret (results_cell_row rfl _ _ b2 _ _ _ _ (by rfl) hB9 Tryz.underlying59 rfl (by rw [hlz]; kernel_rfl)) rfl ?_
  exact ⟨rfl, hM9⟩
end Go.Proofs.YtchkikmmcmjcgaaGreat

/- Leaves sorted: slices.SortFunc by ways; sorted. -/
namespace Go.Proofs.YtchkikmmcmjcgaaGreat
set_option linter.unusedSimpArgs false
set_option linter.unusedVariables false
set_option linter.unnecessarySimpa false
set_option linter.unusedSectionVars false
open Go.RowKit Go.Shelf Go.Sort


theorem Grown.mod0 {w w' : World} (h : Grown w w') : Mod NoB w w' := h.mod
set_option maxRecDepth 10000 in
theorem sortedF_any (x y : Leaf) (hx : LeafOk x) (hy : LeafOk y) (w : World) : Calls Tryz.prog 44 #[.agg (leafCells x), .agg (leafCells y)] w (RetG (.int .i64 (cmpI x.way y.way)) w) := by
  have hxw := hx.1
  have hyw := hy.1
  have h1 : (idCells x.way).size = 32 := by rw [idCells_size, hxw]
  have h2 : (idCells y.way).size = 32 := by rw [idCells_size, hyw]
  obtain ⟨C, hC⟩ : ∃ C, leafCells x = C := ⟨_, rfl⟩
  obtain ⟨D, hD⟩ : ∃ D, leafCells y = D := ⟨_, rfl⟩
  have HC := Lib.hid hC
  have HD := Lib.hid hD
  rw [hC, hD]
  clear hC hD
  go_enter Tryz.func44, Tryz.ntmps44
  go_upto_region 0 with (fail)
  refine wp_region_seq [1, 1, 3] (fun _ => True) (by rfl) (by rfl) trivial ?_
  simp only [List.zip_cons_cons, List.zip_nil_right]
  refine wpPi_do rfl (fun K hK => ?_)
  refine wp_boxG 59 _ _ (by rfl) (by rfl) (fun w1 hB1 hm1 hs1 => ?_)
  replace hB1 : w1.heap[w.heap.size]? = some (.cells C 59 (0, 0)) := hB1
  refine hK _ _ trivial ?_
  clear hK K
  try simp only [pl, pn, el, ec, sz, ss, gz, gs, if_true, if_false, Bool.false_eq_true, Bool.not_true, Bool.not_false, Nat.add_zero, Nat.zero_add, Nat.reduceAdd]
  refine wpPi_do rfl (fun K hK => ?_)
  refine wp_boxG 59 _ _ (by rfl) (by rfl) (fun w2 hB2 hm2 hs2 => ?_)
  replace hB2 : w2.heap[w1.heap.size]? = some (.cells D 59 (0, 0)) := hB2
  refine hK _ _ trivial ?_
  clear hK K
  try simp only [pl, pn, el, ec, sz, ss, gz, gs, if_true, if_false, Bool.false_eq_true, Bool.not_true, Bool.not_false, Nat.add_zero, Nat.zero_add, Nat.reduceAdd]
  refine wpPi_assign _ rfl rfl ?_
  simp only [pl, pn, el, ec, sz, ss, gz, gs, if_true, if_false, Bool.false_eq_true, Bool.not_true, Bool.not_false, Nat.add_zero, Nat.zero_add, Nat.reduceAdd]
  refine wpPi_nil ?_
  have hc1 := CellsAt.whole (hm2.mod.obj id hB1)
  have hc2 := CellsAt.whole hB2
  rw [← HC.out] at hc1
  rw [← HD.out] at hc2
  replace hc1 := leaf_way hx hc1
  replace hc2 := leaf_way hy hc2
  rw [Nat.zero_add] at hc1 hc2
  have hG := hm1.trans hm2
  generalize w.heap.size = b1 at *
  generalize w1.heap.size = b2 at *
  clear hB1 hB2 hm1 hm2
  go_upto_region 1 with (fail)
  refine wp_region_seq [3, 1, 3, 1, 1, 3] (fun _ => True) (by rfl) (by rfl) trivial ?_
  simp only [List.zip_cons_cons, List.zip_nil_right]
  refine wpPi_field _ _ _ _ _ _ rfl rfl rfl fo_59_1 ?_
  simp only [pl, pn, el, ec, sz, ss, gz, gs, if_true, if_false, Bool.false_eq_true, Bool.not_true, Bool.not_false, Nat.add_zero, Nat.zero_add, Nat.reduceAdd]
  refine wpPi_do rfl (fun K hK => ?_)
  refine wp_exec (exec_loadA 24 _ (by rfl) b1 1 (by rfl) (idCells x.way) hc1 _ Tryz.underlying24 rfl 32 (by kernel_rfl) h1) ?_
  refine hK _ _ trivial ?_
  clear hK K
  try simp only [pl, pn, el, ec, sz, ss, gz, gs, if_true, if_false, Bool.false_eq_true, Bool.not_true, Bool.not_false, Nat.add_zero, Nat.zero_add, Nat.reduceAdd]
  refine wpPi_field _ _ _ _ _ _ rfl rfl rfl fo_59_1 ?_
  simp only [pl, pn, el, ec, sz, ss, gz, gs, if_true, if_false, Bool.false_eq_true, Bool.not_true, Bool.not_false, Nat.add_zero, Nat.zero_add, Nat.reduceAdd]
  refine wpPi_do rfl (fun K hK => ?_)
  refine wp_exec (exec_loadA 24 _ (by rfl) b2 1 (by rfl) (idCells y.way) hc2 _ Tryz.underlying24 rfl 32 (by kernel_rfl) h2) ?_
  refine hK _ _ trivial ?_
  clear hK K
  try simp only [pl, pn, el, ec, sz, ss, gz, gs, if_true, if_false, Bool.false_eq_true, Bool.not_true, Bool.not_false, Nat.add_zero, Nat.zero_add, Nat.reduceAdd]
  refine wpPi_do rfl (fun K hK => ?_)
  refine wp_enterQ (run_call 45 [.tmp 6, .tmp 8] _ rfl _ Tryz.func45 rfl (by kernel_rfl) [.agg (idCells x.way), .agg (idCells y.way)] rfl _) (shaCompare_any x.way y.way hxw hyw _) ?_
  rintro e w3 ⟨rfl, hm3⟩
  have hG3 := hG.trans hm3
  refine ⟨_, rfl, hK _ _ trivial ?_⟩
  clear hK K
  try simp only [pl, pn, el, ec, sz, ss, gz, gs, if_true, if_false, Bool.false_eq_true, Bool.not_true, Bool.not_false, Nat.add_zero, Nat.zero_add, Nat.reduceAdd]
  refine wpPi_assign _ rfl rfl ?_
  simp only [pl, pn, el, ec, sz, ss, gz, gs, if_true, if_false, Bool.false_eq_true, Bool.not_true, Bool.not_false, Nat.add_zero, Nat.zero_add, Nat.reduceAdd]
  refine wpPi_nil ?_
  go_wp2
  go_ret
  exact ⟨rfl, hG3⟩
abbrev LeafS := {x : Leaf // LeafOk x}
instance : Inhabited LeafS := ⟨⟨zeroLeaf, by simp [LeafOk, zeroLeaf]⟩⟩
def leafS (e : Ent) : LeafS := ⟨leafOf e, leaf_len e⟩
def leafEnc (x : LeafS) : List Value := (leafCells x.1).toList
theorem leafEnc_len (x : LeafS) : (leafEnc x).length = 65 := by simp [leafEnc, leafCells_size x.2]
theorem leafEnc_one (x : LeafS) : ∀ c ∈ leafEnc x, c.oneCell' = true := fun c hc => leafCells_one x.1 c (by simpa [leafEnc] using hc)
def cfL (x y : LeafS) : Int := cmpI x.1.way y.1.way
theorem swoL : SWO (ltOf cfL) := by
  have h : ∀ x y : LeafS, ltOf cfL x y = true ↔ x.1.way < y.1.way := fun x y => by simp [ltOf, cfL, cmpI_neg]
  have hf : ∀ x y : LeafS, ltOf cfL x y = false ↔ ¬ x.1.way < y.1.way := fun x y => by rw [← h]; simp
  refine ⟨fun x => (hf x x).2 (List.lt_irrefl _), fun x y z h1 h2 => (h x z).2 (List.lt_trans ((h x y).1 h1) ((h y z).1 h2)), fun x y z h1 h2 => (hf x z).2 fun h3 => ?_⟩
  have h1 := (hf x y).1 h1
  have h2 := (hf y z).1 h2
  exact absurd h3 (List.not_lt.2 (List.le_trans (List.not_lt.1 h2) (List.not_lt.1 h1)))
theorem isAggLeaf (w : World) : (isAgg 59).run Tryz.prog w = .ok true w := by
  unfold isAgg
  rw [Sem.run_bind, run_underlying Tryz.underlying59 w]; rfl
theorem sizeOf_of {t n : Nat} (h : (Tryz.prog.info? t).map (·.size) = some n) (w : World) : (sizeOf t).run Tryz.prog w = .ok n w := by
  cases hq : Tryz.prog.info? t with
  | none => simp [hq] at h
  | some i => simp [hq] at h; simp [sizeOf, typeInfo, hq, h]
theorem sizeLeaf (w : World) : (Go.sizeOf 59).run Tryz.prog w = .ok 65 w := sizeOf_of (by kernel_rfl) w
theorem cmpLaysL (g off size : Nat) (w : World) : CmpLays Tryz.prog 44 #[] leafEnc 65 cfL g off size w := by
  intro m os dk _ x y
  have h := sortedF_any x.1 y.1 x.2 y.2 (sortWorldK leafEnc 65 w g off m dk os)
  have e : (#[.agg (leafEnc x).toArray, .agg (leafEnc y).toArray] ++ #[] : Array Value) = #[.agg (leafCells x.1), .agg (leafCells y.1)] := by simp [leafEnc]
  rw [e]
  refine h.mono ?_
  rintro _ w' ⟨rfl, q, os', rfl⟩
  exact ⟨rfl, q, os', rfl⟩
def SortR (w : World) (v : Value) (ls : List LeafS) : Ending → World → Prop := fun e w' => e = .returned (.tuple #[]) ∧ Mod (fun j => v.ownBlock = some j) w w' ∧
  ∃ ls' : List LeafS, ls'.Perm ls ∧ ls'.Pairwise (fun a b => ¬ b.1.way < a.1.way) ∧ Sl false w' (fun j => v.ownBlock = some j) 65 (fun cs x => cs = (leafEnc x).toArray) v ls'
set_option maxRecDepth 10000 in
theorem sortFuncL_any (v : Value) (ls : List LeafS) (w : World) (base : Nat) (h : Gat leafEnc 59 65 base w v ls) (hlen : ls.length ≤ 65536) :
    Calls Tryz.prog 43 #[v, .func (.func 44) #[] #[]] w (SortR w v ls) := by
  rcases h.2 with ⟨rfl, h0⟩ | ⟨g, cap, cur, rfl, hb, hg, hc, hm, hcs, ht⟩
  · obtain rfl : ls = [] := List.eq_nil_of_length_eq_zero h0
    have hp := fun lim W => AnyF.pdqsortCmpFunc_none (P := Tryz.prog) (ρ := Tryz.sortL_ren) Tryz.sortL none 0 lim (.func (.func 44) #[] #[]) W
    have hl : ∀ W, Calls Tryz.prog 52 #[.int .u64 0] W fun e w' => e = .returned (.int .i64 (Lib.bitLen 0 : Nat)) ∧ w' = W := fun W => Any.bits_Len (SlLaysF0.n15.bits (P := Tryz.prog) (ρ := Tryz.lenB_ren) Tryz.lenB) 0 W (by omega) (by omega)
    have hu : (Go.Lib.bitLen 0 : Nat) = 0 := by kernel_rfl
    clear h
    go_enter Tryz.func43, Tryz.ntmps43
    go_upto_region 1 with (fail)
    refine wp_region_seq [3, 3, 3, 3, 1, 3, 1] (fun _ => True) (by rfl) (by rfl) trivial ?_
    simp only [List.zip_cons_cons, List.zip_nil_right]
    refine wpPi_move _ rfl rfl ?_
    simp only [pl, pn, el, ec, sz, ss, gz, gs, if_true, if_false, Bool.false_eq_true, Bool.not_true, Bool.not_false, Nat.add_zero, Nat.zero_add, Nat.reduceAdd]
    refine wpPi_move _ rfl rfl ?_
    simp only [pl, pn, el, ec, sz, ss, gz, gs, if_true, if_false, Bool.false_eq_true, Bool.not_true, Bool.not_false, Nat.add_zero, Nat.zero_add, Nat.reduceAdd]
    refine wpPi_move _ rfl rfl ?_
    simp only [pl, pn, el, ec, sz, ss, gz, gs, if_true, if_false, Bool.false_eq_true, Bool.not_true, Bool.not_false, Nat.add_zero, Nat.zero_add, Nat.reduceAdd]
    refine wpPi_any (v := .int .u64 ((0 : Nat) : Int)) rfl (fun w' => exec_conv_uint 3 87 _ _ rfl rfl (by kernel_rfl) Tryz.underlying87 _ (by rfl)) ?_
    simp only [pl, pn, el, ec, sz, ss, gz, gs, if_true, if_false, Bool.false_eq_true, Bool.not_true, Bool.not_false, Nat.add_zero, Nat.zero_add, Nat.reduceAdd]
    refine wpPi_do rfl (fun K hK => ?_)
    refine wp_enterQ (run_call 52 [.tmp 10] _ rfl _ Tryz.func52 rfl (by kernel_rfl) [.int .u64 0] rfl _) (hl _) ?_
    rintro e w3 ⟨rfl, rfl⟩
    refine ⟨_, rfl, hK _ _ trivial ?_⟩
    clear hK K
    try simp only [pl, pn, el, ec, sz, ss, gz, gs, if_true, if_false, Bool.false_eq_true, Bool.not_true, Bool.not_false, Nat.add_zero, Nat.zero_add, Nat.reduceAdd]
    refine wpPi_move _ rfl rfl ?_
    simp only [pl, pn, el, ec, sz, ss, gz, gs, if_true, if_false, Bool.false_eq_true, Bool.not_true, Bool.not_false, Nat.add_zero, Nat.zero_add, Nat.reduceAdd]
    refine wpPi_do rfl (fun K hK => ?_)
    refine wp_enterQ (run_call 61 [.tmp 7, .const (.int .i64 0), .tmp 8, .tmp 11, .tmp 12] _ rfl _ Tryz.func61 rfl (by kernel_rfl) [.slice none 0 0, .int .i64 0, .int .i64 0, .int .i64 ((Lib.bitLen 0 : Nat) : Int), .func (.func 44) #[] #[]] rfl _) (hp _ _) ?_
    rintro e w4 ⟨rfl, rfl⟩
    refine ⟨_, rfl, hK _ _ trivial ?_⟩
    clear hK K
    try simp only [pl, pn, el, ec, sz, ss, gz, gs, if_true, if_false, Bool.false_eq_true, Bool.not_true, Bool.not_false, Nat.add_zero, Nat.zero_add, Nat.reduceAdd]
    refine wpPi_nil ?_
    go_wp2
    go_end0
    exact ⟨rfl, Mod.refl _ _, [], List.Perm.refl _, List.Pairwise.nil, Sl.nil _ _ _ _ _⟩
  · have hH : HoldsK leafEnc 65 w g 0 ls.toArray := holdsK_of_cells leafEnc_len (by omega) hg ht
    have hlt : g < w.heap.size := (Array.getElem?_eq_some_iff.1 hg).1
    have hlim : Lib.bitLen ls.length < 4611686018427387904 := Nat.lt_of_le_of_lt (Lib.bitLen_le ls.length 62 (by omega) (by omega)) (by omega)
    have e : ls.toArray.size = ls.length := by simp
    have hp := AnyQ.pdqsortCmpFunc_all (P := Tryz.prog) (ρ := Tryz.sortL_ren) Tryz.sortL 65 isAggLeaf sizeLeaf leafEnc cfL 44 #[] swoL g 0 cap ls.toArray w (enters_of Tryz.func44 (by kernel_rfl) rfl) (cmpLaysL g 0 _ w) ⟨leafEnc_len, leafEnc_one, hH, hlt⟩ (ls.toArray.size + 1) 0 ls.toArray.size (Lib.bitLen ls.length) ls.toArray w (by omega) rfl (SWK.start hH) (Nat.zero_le _) (Nat.le_refl _) (by rw [e]; omega) hlim (Or.inl rfl)
    have hso := pdq_sorts (ltOf cfL) swoL ls.toArray 0 ls.toArray.size (Lib.bitLen ls.length) true true (Nat.zero_le _) (Nat.le_refl _) (Or.inl rfl)
    generalize pdq (ltOf cfL) ls.toArray 0 ls.toArray.size (Lib.bitLen ls.length) true true = d' at hp hso
    rw [e] at hp hso
    have hl : ∀ W, Calls Tryz.prog 52 #[.int .u64 (ls.length : Int)] W fun e w' => e = .returned (.int .i64 (Lib.bitLen ls.length : Nat)) ∧ w' = W := fun W => by
      have h := Any.bits_Len (SlLaysF0.n15.bits (P := Tryz.prog) (ρ := Tryz.lenB_ren) Tryz.lenB) (ls.length : Int) W (by omega) (by omega)
      rw [Int.toNat_natCast] at h
      exact h
    have hcv : IntKind.u64.wrap (ls.length : Int) = (ls.length : Int) := by simp [IntKind.wrap, IntKind.bits, IntKind.signed]; omega
    have HCV := Lib.hid hcv
    have HX : Hid (∀ w', SWK leafEnc 65 w g 0 d' w' → SortR w (.slice (some ⟨g, 0, none⟩) ls.length cap) ls (.returned (.tuple #[])) w') := by
      rintro w' ⟨n, os, rfl⟩
      obtain ⟨⟨hsz, -, hperm⟩, hsorted⟩ := hso
      rw [e] at hsz
      have e1 : d'.extract 0 ls.length = d' := by rw [← hsz]; exact Array.extract_size
      have e2 : ls.toArray.extract 0 ls.length = ls.toArray := by simp
      rw [e1, e2] at hperm
      have hM : Mod (fun j => j = g) w (sortWorldK leafEnc 65 w g 0 n d' os) := mod_sortWorldK
      have hH' := holdsK_sortWorldK_c leafEnc 65 w g 0 ls.toArray d' n os hH hlt (by rw [hsz, e])
      have hdl : d'.toList.length = ls.length := by rw [Array.length_toList, hsz]
      refine ⟨rfl, hM.mono (fun j _ e => by subst e; rfl), d'.toList, by simpa using hperm, ?_, ?_⟩
      · rw [List.pairwise_iff_getElem]
        intro i j hi hj hij
        rw [Array.length_toList] at hi hj
        have := hsorted i j (Nat.zero_le _) hij (by omega)
        rw [getElem!_pos d' i hi, getElem!_pos d' j hj] at this
        simpa [ltOf, cfL, cmpI_neg] using this
      · have := sl_of_holdsK leafEnc_len (l := d'.toList) (by simpa using hH') (cap := cap) (by rw [hdl]; exact hc) hm
        rw [hdl] at this
        exact this.mono (fun j e => by subst e; rfl) (fun _ _ h => h)
    clear hH hso h hcv e
    go_enter Tryz.func43, Tryz.ntmps43
    go_upto_region 1 with (fail)
    refine wp_region_seq [3, 3, 3, 3, 1, 3, 1] (fun _ => True) (by rfl) (by rfl) trivial ?_
    simp only [List.zip_cons_cons, List.zip_nil_right]
    refine wpPi_move _ rfl rfl ?_
    simp only [pl, pn, el, ec, sz, ss, gz, gs, if_true, if_false, Bool.false_eq_true, Bool.not_true, Bool.not_false, Nat.add_zero, Nat.zero_add, Nat.reduceAdd]
    refine wpPi_move _ rfl rfl ?_
    simp only [pl, pn, el, ec, sz, ss, gz, gs, if_true, if_false, Bool.false_eq_true, Bool.not_true, Bool.not_false, Nat.add_zero, Nat.zero_add, Nat.reduceAdd]
    refine wpPi_move _ rfl rfl ?_
    simp only [pl, pn, el, ec, sz, ss, gz, gs, if_true, if_false, Bool.false_eq_true, Bool.not_true, Bool.not_false, Nat.add_zero, Nat.zero_add, Nat.reduceAdd]
    refine wpPi_any (v := .int .u64 (ls.length : Int)) rfl (fun w' => exec_conv_uint 3 87 _ _ rfl rfl (by kernel_rfl) Tryz.underlying87 _ HCV.out) ?_
    simp only [pl, pn, el, ec, sz, ss, gz, gs, if_true, if_false, Bool.false_eq_true, Bool.not_true, Bool.not_false, Nat.add_zero, Nat.zero_add, Nat.reduceAdd]
    refine wpPi_do rfl (fun K hK => ?_)
    refine wp_enterQ (run_call 52 [.tmp 10] _ rfl _ Tryz.func52 rfl (by kernel_rfl) [.int .u64 (ls.length : Int)] rfl _) (hl _) ?_
    rintro e w3 ⟨rfl, rfl⟩
    refine ⟨_, rfl, hK _ _ trivial ?_⟩
    clear hK K
    try simp only [pl, pn, el, ec, sz, ss, gz, gs, if_true, if_false, Bool.false_eq_true, Bool.not_true, Bool.not_false, Nat.add_zero, Nat.zero_add, Nat.reduceAdd]
    refine wpPi_move _ rfl rfl ?_
    simp only [pl, pn, el, ec, sz, ss, gz, gs, if_true, if_false, Bool.false_eq_true, Bool.not_true, Bool.not_false, Nat.add_zero, Nat.zero_add, Nat.reduceAdd]
    refine wpPi_do rfl (fun K hK => ?_)
    refine wp_enterQ (run_call 61 [.tmp 7, .const (.int .i64 0), .tmp 8, .tmp 11, .tmp 12] _ rfl _ Tryz.func61 rfl (by kernel_rfl) [.slice (some ⟨g, 0, none⟩) ls.length cap, .int .i64 0, .int .i64 (ls.length : Int), .int .i64 ((Lib.bitLen ls.length : Nat) : Int), .func (.func 44) #[] #[]] rfl _) hp ?_
    rintro e w4 ⟨rfl, hsw⟩
    have HR := Lib.hid (HX.out _ hsw)
    refine ⟨_, rfl, hK _ _ trivial ?_⟩
    clear hK K hsw
    try simp only [pl, pn, el, ec, sz, ss, gz, gs, if_true, if_false, Bool.false_eq_true, Bool.not_true, Bool.not_false, Nat.add_zero, Nat.zero_add, Nat.reduceAdd]
    refine wpPi_nil ?_
    go_wp2
    go_end0
    exact HR.out
end Go.Proofs.YtchkikmmcmjcgaaGreat

/- Entries' leaves, sorted by their ways. -/
namespace Go.Proofs.YtchkikmmcmjcgaaGreat
set_option linter.unusedSimpArgs false
set_option linter.unusedVariables false
set_option linter.unnecessarySimpa false
set_option linter.unusedSectionVars false
open Go.RowKit Go.Shelf Go.Sort


theorem leaf_i : (Tryz.prog.info? 59).map (fun i => (i.zero, i.size, i.bytes)) = some (some (.agg (leafCells zeroLeaf)), 65, 80) := by kernel_rfl
theorem leaf_i2 : (Tryz.prog.info? 59).map (fun i => (i.zero, i.size)) = some (some (.agg (leafCells zeroLeaf)), 65) := by kernel_rfl
theorem entryZ : (Tryz.prog.info? 27).bind (·.zero) = some (.agg #[.string ⟨#[]⟩, .slice none 0 0]) := by kernel_rfl
/-- Entries that are short enough. -/
def Short (l : List Ent) : Prop := ∀ e ∈ l, e.1.size ≤ 1000000 ∧ e.2.length ≤ 1000000
/-- Leaves of some entries, rising by their ways. -/
def Sorted (es : List Ent) (ls : List Leaf) : Prop := ls.Perm (leavesE es) ∧ ls.Pairwise (fun a b => ¬ b.way < a.way)
def SortedR (w : World) (es : List Ent) : Ending → World → Prop := fun e w' => ∃ v ls, e = .returned v ∧ Ls w' (New w w') v ls ∧ Sorted es ls ∧ Mod NoB w w'
def GatRel (es : List Ent) (w0 : World) (v i : Value) (w : World) : Prop := ∃ k : Nat, k ≤ es.length ∧ i = .int .i64 k ∧ Gat leafEnc 59 65 w0.heap.size w v ((es.take k).map leafS) ∧ Mod NoB w0 w
theorem leafS_leaves (es : List Ent) : (es.map leafS).map (·.1) = leavesE es := by simp [leavesE, leafS, List.map_map, Function.comp_def]
theorem sl_leaves {own : Bool} {w : World} {G : Nat → Prop} {v : Value} {ls : List LeafS} (h : Sl own w G 65 (fun cs x => cs = (leafEnc x).toArray) v ls) : Ls w G v (ls.map (·.1)) := by
  obtain ⟨a, cap, rfl, h1, h2, h3⟩ := h
  refine ⟨a, cap, by rw [List.length_map], by rw [List.length_map]; exact h1, h2, fun hne => ?_⟩
  obtain ⟨b, off, rfl, hG, -, hc⟩ := h3 (by rintro rfl; exact hne rfl)
  refine ⟨b, off, rfl, hG, by simp [Owned], fun i hi => ?_⟩
  rw [List.length_map] at hi
  obtain ⟨cs, hs, e, hcs⟩ := hc i hi
  exact ⟨cs, hs, ⟨by rw [List.getElem_map, e]; simp [leafEnc], by rw [List.getElem_map]; exact ls[i].2⟩, hcs⟩
set_option maxRecDepth 10000 in
theorem sorted_any {own : Bool} {w : World} {G : Nat → Prop} {v : Value} {es : List Ent} (h : Es own w G v es) (hs : Short es) (hlen : es.length ≤ 65536) : Calls Tryz.prog 21 #[v] w (SortedR w es) := by
  have HS := Lib.hid h
  have HSH := Lib.hid hs
  obtain ⟨ad, cap, rfl, -, -⟩ := Sl.at h
  clear h hs
  go_enter Tryz.func21, Tryz.ntmps21
  go_wp2
  go_loopw [2, 7] (GatRel es w) (fun _ i _ => es.length - (intOf i).toNat)
  case atStart => exact ⟨0, by omega, rfl, Gat.nil _ _ _ _ _, Mod.refl _ _⟩
  case round =>
    rename World => wr
    obtain ⟨k, hk, rfl, hg, hm⟩ := hrel
    have HG := Lib.hid hg
    obtain ⟨ad2, cap2, rfl⟩ := hg.slice
    clear hg
    by_cases hlt : k < es.length
    · have hz : (k : Int) < (es.length : Int) := by omega
      have HE := HS.out.keep0 hm
      obtain ⟨_, _, hv, -, hat⟩ := Sl.at HE
      cases hv
      obtain ⟨b, off, rfl, -, -, hc⟩ := hat k hlt
      obtain ⟨cs, hcs2, hec, hc⟩ := hc k hlt
      have hsh := HSH.out _ (List.getElem_mem hlt)
      have htk : (es.take (k + 1)).map leafS = (es.take k).map leafS ++ [leafS es[k]] := by rw [List.take_succ_eq_append_getElem hlt, List.map_append]; rfl
      have hlk : ((es.take k).map leafS).length = k := by simp; omega
      have HTK := Lib.hid htk
      generalize es[k] = x at *
      have hc1 := entC_one hec
      clear htk hat HE
      go_upto_region 3 with (fail)
      refine wp_region_seq [3, 1, 1, 1] (fun _ => True) (by rfl) (by rfl) trivial ?_
      simp only [List.zip_cons_cons, List.zip_nil_right]
      refine wpPi_index _ _ _ _ _ _ _ _ _ rfl rfl rfl rfl Tryz.underlying22 (n := 2) (by kernel_rfl) hlt ?_
      simp only [pl, pn, el, ec, sz, ss, gz, gs, if_true, if_false, Bool.false_eq_true, Bool.not_true, Bool.not_false, Nat.add_zero, Nat.zero_add, Nat.reduceAdd]
      refine wpPi_do rfl (fun K hK => ?_)
      refine wp_exec (exec_loadA 27 _ (by rfl) b (off + k * 2) (by rfl) cs hc _ Tryz.underlying27 rfl 2 (by kernel_rfl) hcs2) ?_
      refine hK _ _ trivial ?_
      clear hK K
      try simp only [pl, pn, el, ec, sz, ss, gz, gs, if_true, if_false, Bool.false_eq_true, Bool.not_true, Bool.not_false, Nat.add_zero, Nat.zero_add, Nat.reduceAdd]
      refine wpPi_do rfl (fun K hK => ?_)
      refine wp_alloc 27 _ (by rfl) entryZ (fun w2 hB2 hm2 hs2 => ?_)
      replace hB2 : w2.heap[wr.heap.size]? = some (.cells #[.string ⟨#[]⟩, .slice none 0 0] 27 (0, 0)) := hB2
      refine hK _ _ trivial ?_
      clear hK K
      try simp only [pl, pn, el, ec, sz, ss, gz, gs, if_true, if_false, Bool.false_eq_true, Bool.not_true, Bool.not_false, Nat.add_zero, Nat.zero_add, Nat.reduceAdd]
      refine wpPi_do rfl (fun K hK => ?_)
      refine wp_storeA 27 _ _ wr.heap.size 0 cs (by rfl) (by rfl) (by rfl) hc1 2 (by kernel_rfl) hcs2 _ _ hB2 (by rw [hcs2]; exact Nat.le_of_eq rfl) (fun w3 hB3 hm3 => ?_)
      rw [putRow_whole (by rw [hcs2]; rfl)] at hB3
      refine hK _ _ trivial ?_
      clear hK K
      try simp only [pl, pn, el, ec, sz, ss, gz, gs, if_true, if_false, Bool.false_eq_true, Bool.not_true, Bool.not_false, Nat.add_zero, Nat.zero_add, Nat.reduceAdd]
      refine wpPi_nil ?_
      have hM3 := hm2.transB hm3 (Nat.le_refl _)
      have hec3 := hec.keep hM3 (fun _ _ => id)
      generalize wr.heap.size = b4 at *
      clear hm2 hm3 hB2 hc hec
      go_upto_region 4 with (fail)
      refine wp_region_seq [3, 1, 1, 1, 1, 3] (fun _ => True) (by rfl) (by rfl) trivial ?_
      simp only [List.zip_cons_cons, List.zip_nil_right]
      refine wpPi_move _ rfl rfl ?_
      simp only [pl, pn, el, ec, sz, ss, gz, gs, if_true, if_false, Bool.false_eq_true, Bool.not_true, Bool.not_false, Nat.add_zero, Nat.zero_add, Nat.reduceAdd]
      refine wpPi_do rfl (fun K hK => ?_)
      refine wp_exec (exec_loadA 27 _ (by rfl) b4 0 (by rfl) cs (CellsAt.whole hB3) _ Tryz.underlying27 rfl 2 (by kernel_rfl) hcs2) ?_
      refine hK _ _ trivial ?_
      clear hK K
      try simp only [pl, pn, el, ec, sz, ss, gz, gs, if_true, if_false, Bool.false_eq_true, Bool.not_true, Bool.not_false, Nat.add_zero, Nat.zero_add, Nat.reduceAdd]
      refine wpPi_do rfl (fun K hK => ?_)
      refine wp_enterQ (run_call 28 [.tmp 12] _ rfl _ Tryz.func28 rfl (by kernel_rfl) [.agg cs] rfl _) (of_any hec3 hsh.1 hsh.2) ?_
      rintro e w4 ⟨rfl, hm4⟩
      refine ⟨_, rfl, hK _ _ trivial ?_⟩
      clear hK K
      try simp only [pl, pn, el, ec, sz, ss, gz, gs, if_true, if_false, Bool.false_eq_true, Bool.not_true, Bool.not_false, Nat.add_zero, Nat.zero_add, Nat.reduceAdd]
      refine wpPi_do rfl (fun K hK => ?_)
      refine wp_buildSlice1 49 59 _ (.agg (leafCells (leafOf x))) (.agg (leafCells zeroLeaf)) 65 (by rfl) (by rfl) Tryz.underlying49 leaf_i2 (by omega) (by omega) (leafCells_size (leaf_len x)) (fun w5 hB5 hm5 hs5 => ?_)
      replace hB5 : w5.heap[w4.heap.size]? = some (.cells (leafEnc (leafS x)).toArray 59 (0, 0)) := by rw [leafEnc, Array.toArray_toList]; exact hB5
      have hM5 := (hM3.trans0 hm4).trans0 hm5
      refine hK _ _ trivial ?_
      clear hK K
      try simp only [pl, pn, el, ec, sz, ss, gz, gs, if_true, if_false, Bool.false_eq_true, Bool.not_true, Bool.not_false, Nat.add_zero, Nat.zero_add, Nat.reduceAdd]
      refine wpPi_do rfl (fun K hK => ?_)
      refine wp_gat leafEnc _ _ 49 59 (.agg (leafCells zeroLeaf)) 65 80 (by rfl) Tryz.underlying49 leaf_i (by kernel_rfl) (by omega) leafEnc_one w.heap.size _ _ (by rfl) (HG.out.keep0 hM5) (.slice (some ⟨w4.heap.size, 0, none⟩) 1 1) [leafS x] (by rfl) (src_lit leafEnc_len hB5) (by simp only [List.length_singleton]; unfold maxLen; omega) (by simp only [List.length_singleton]; omega) (by have := hm.size; have := hM5.size; omega) (fun v6 w6 hg6 hm6 => ?_)
      rw [← HTK.out] at hg6
      have hM6 : Mod NoB w w6 := (hm.trans0 hM5).trans hm6 (fun k hk e => by have := (HG.out.lt e).1; omega)
      refine hK _ _ trivial ?_
      clear hK K
      try simp only [pl, pn, el, ec, sz, ss, gz, gs, if_true, if_false, Bool.false_eq_true, Bool.not_true, Bool.not_false, Nat.add_zero, Nat.zero_add, Nat.reduceAdd]
      refine wpPi_assign _ rfl rfl ?_
      simp only [pl, pn, el, ec, sz, ss, gz, gs, if_true, if_false, Bool.false_eq_true, Bool.not_true, Bool.not_false, Nat.add_zero, Nat.zero_add, Nat.reduceAdd]
      refine wpPi_nil ?_
      clear hm6 hm5 hm4 hM3 hM5 hm hB3 hB5 hec3
      go_wp2
      go_roundw
      case rel => exact ⟨k + 1, by omega, by go_num, hg6, hM6⟩
      case measure => simp [intOf]; omega
    · have hz : ¬ (k : Int) < (es.length : Int) := by omega
      obtain rfl : k = es.length := by omega
      simp only [List.take_length] at HG ⊢
      go_upto_region 6 with (fail)
      refine wp_region_seq [3, 1] (fun _ => True) (by rfl) (by rfl) trivial ?_
      simp only [List.zip_cons_cons, List.zip_nil_right]
      refine wpPi_move _ rfl rfl ?_
      simp only [pl, pn, el, ec, sz, ss, gz, gs, if_true, if_false, Bool.false_eq_true, Bool.not_true, Bool.not_false, Nat.add_zero, Nat.zero_add, Nat.reduceAdd]
      refine wpPi_do rfl (fun K hK => ?_)
      refine wp_enterQ (run_call 43 [.tmp 17, .func 44] _ rfl _ Tryz.func43 rfl (by kernel_rfl) [.slice ad2 (es.map leafS).length cap2, .func (.func 44) #[] #[]] rfl _) (sortFuncL_any _ (es.map leafS) _ w.heap.size HG.out (by simpa using hlen)) ?_
      rintro e w3 ⟨rfl, hm3, ls, hp, ho, hsl⟩
      refine ⟨_, rfl, hK _ _ trivial ?_⟩
      clear hK K
      try simp only [pl, pn, el, ec, sz, ss, gz, gs, if_true, if_false, Bool.false_eq_true, Bool.not_true, Bool.not_false, Nat.add_zero, Nat.zero_add, Nat.reduceAdd]
      refine wpPi_nil ?_
      have hm3s := hm3.size
      have hM3 : Mod NoB w w3 := hm.trans hm3 (fun k hk e => by have := (HG.out.lt e).1; omega)
      have HR : Hid (∃ v ls', Ending.returned (.slice ad2 (es.map leafS).length cap2) = .returned v ∧ Ls w3 (New w w3) v ls' ∧ Sorted es ls' ∧ Mod NoB w w3) := by
        have hL : Ls w3 (New w w3) (.slice ad2 (es.map leafS).length cap2) (ls.map (·.1)) := Sl.mono (sl_leaves hsl) (fun k e => ⟨(HG.out.lt e).1, by have := (HG.out.lt e).2; omega⟩) (fun _ _ h => h)
        refine ⟨_, ls.map (·.1), rfl, hL, ⟨?_, ?_⟩, hM3⟩
        · rw [← leafS_leaves]; exact hp.map _
        · rw [List.pairwise_map]; exact ho
      go_wp2
      go_ret
      simp only [List.length_map] at HR
      exact HR.out
end Go.Proofs.YtchkikmmcmjcgaaGreat

/- Texts in a row: sorted, and each once. -/
namespace Go.Proofs.YtchkikmmcmjcgaaGreat
set_option linter.unusedSimpArgs false
set_option linter.unusedVariables false
set_option linter.unnecessarySimpa false
set_option linter.unusedSectionVars false
open Go.RowKit Go.Shelf

def strEnc (s : ByteArray) : List Value := [.string s]
def bl (s : ByteArray) : List UInt8 := s.data.toList
def ofL (l : List UInt8) : ByteArray := ⟨l.toArray⟩
theorem ofL_bl (s : ByteArray) : ofL (bl s) = s := by simp [ofL, bl]
theorem bl_ofL (l : List UInt8) : bl (ofL l) = l := by simp [ofL, bl]
theorem map_ofL_bl (l : List ByteArray) : (l.map bl).map ofL = l := by rw [List.map_map]; simp [Function.comp_def, ofL_bl]
theorem strEnc_one (x : ByteArray) : ∀ c ∈ strEnc x, c.oneCell' = true := by simp [strEnc, Value.oneCell']
theorem flat_str : ∀ l : List ByteArray, l.flatMap strEnc = l.map Value.string
  | [] => rfl
  | x :: l => by rw [List.flatMap_cons, flat_str l]; rfl
def sortB (l : List ByteArray) : List ByteArray := ((l.map bl).mergeSort fun x y => decide (x ≤ y)).map ofL
def compB (l : List ByteArray) : List ByteArray := (Lib.compact (l.map bl)).map ofL
theorem sortB_len (l : List ByteArray) : (sortB l).length = l.length := by simp [sortB]
theorem sortB_bl (l : List ByteArray) : (sortB l).map bl = (l.map bl).mergeSort fun x y => decide (x ≤ y) := by unfold sortB; rw [List.map_map]; simp [Function.comp_def, bl_ofL]
theorem sortB_mem (l : List ByteArray) (x : ByteArray) : x ∈ sortB l ↔ x ∈ l := by
  unfold sortB
  rw [List.mem_map]
  constructor
  · rintro ⟨y, hy, rfl⟩
    obtain ⟨s, hs, rfl⟩ := List.mem_map.1 (List.mem_mergeSort.1 hy)
    rw [ofL_bl]; exact hs
  · intro h
    exact ⟨bl x, List.mem_mergeSort.2 (List.mem_map.2 ⟨x, h, rfl⟩), ofL_bl x⟩
theorem sortB_sorted (l : List ByteArray) : ((sortB l).map bl).Pairwise (· ≤ ·) := by
  rw [sortB_bl]
  have := List.pairwise_mergeSort (le := fun (x y : List UInt8) => decide (x ≤ y)) (fun a b c h1 h2 => decide_eq_true (List.le_trans (of_decide_eq_true h1) (of_decide_eq_true h2))) (fun a b => by
    rcases List.le_total a b with h | h
    · simp [h]
    · simp [h]) (l.map bl)
  exact this.imp fun h => of_decide_eq_true h
theorem compact_rise {zs : List (List UInt8)} (hs : zs.Pairwise (· ≤ ·)) : ∀ m, m + 1 ≤ zs.length →
    (Lib.compactUpTo zs.toArray (m + 1)).Pairwise (· < ·) ∧ (∀ x ∈ Lib.compactUpTo zs.toArray (m + 1), x ≤ zs.toArray[m]!) ∧ (∀ x, x ∈ Lib.compactUpTo zs.toArray (m + 1) ↔ ∃ j, j ≤ m ∧ zs.toArray[j]! = x)
  | 0, h => by
    have e : Lib.compactUpTo zs.toArray 1 = [zs.toArray[0]!] := by rw [Lib.compactUpTo_all _ _ (Lib.keeps_lt_one _)]; rfl
    rw [e]
    refine ⟨List.pairwise_singleton _ _, fun x hx => by rw [List.mem_singleton.1 hx]; exact List.le_refl _, fun x => ?_⟩
    rw [List.mem_singleton]
    constructor
    · rintro rfl; exact ⟨0, Nat.le_refl _, rfl⟩
    · rintro ⟨j, hj, rfl⟩; obtain rfl : j = 0 := by omega
      rfl
  | m + 1, h => by
    obtain ⟨h1, h2, h3⟩ := compact_rise hs m (by omega)
    have hle : zs.toArray[m]! ≤ zs.toArray[m + 1]! := by
      rw [getElem!_pos zs.toArray m (by simp; omega), getElem!_pos zs.toArray (m + 1) (by simp; omega)]
      exact List.pairwise_iff_getElem.1 hs m (m + 1) (by omega) (by omega) (by omega)
    rw [Lib.compactUpTo_succ]
    by_cases hk : zs.toArray[m + 1]! = zs.toArray[m]!
    · rw [Lib.keeps_neg (by omega) (by rw [Nat.add_sub_cancel]; exact hk)]
      simp only [Bool.false_eq_true, if_false, List.append_nil]
      refine ⟨h1, fun x hx => by rw [hk]; exact h2 x hx, fun x => ?_⟩
      rw [h3 x]
      constructor
      · rintro ⟨j, hj, e⟩; exact ⟨j, by omega, e⟩
      · rintro ⟨j, hj, e⟩
        rcases Nat.lt_or_ge m j with hj' | hj'
        · obtain rfl : j = m + 1 := by omega
          exact ⟨m, Nat.le_refl _, by rw [← hk]; exact e⟩
        · exact ⟨j, hj', e⟩
    · rw [Lib.keeps_pos (by rw [Nat.add_sub_cancel]; exact hk)]
      simp only [if_true]
      have hlt : zs.toArray[m]! < zs.toArray[m + 1]! := by
        rcases List.le_iff_lt_or_eq.1 hle with h | h
        · exact h
        · exact absurd h.symm hk
      refine ⟨List.pairwise_append.2 ⟨h1, List.pairwise_singleton _ _, fun a ha b hb => ?_⟩, fun x hx => ?_, fun x => ?_⟩
      · rw [List.mem_singleton.1 hb]
        rcases List.le_iff_lt_or_eq.1 (h2 a ha) with h | h
        · exact List.lt_trans h hlt
        · rw [h]; exact hlt
      · rcases List.mem_append.1 hx with hx | hx
        · exact List.le_trans (h2 x hx) hle
        · rw [List.mem_singleton.1 hx]; exact List.le_refl _
      · rw [List.mem_append, List.mem_singleton, h3 x]
        constructor
        · rintro (⟨j, hj, e⟩ | rfl)
          · exact ⟨j, by omega, e⟩
          · exact ⟨m + 1, Nat.le_refl _, rfl⟩
        · rintro ⟨j, hj, e⟩
          rcases Nat.lt_or_ge m j with hj' | hj'
          · obtain rfl : j = m + 1 := by omega
            exact .inr e.symm
          · exact .inl ⟨j, hj', e⟩
/-- What sorting, then keeping each once, leaves. -/
theorem rise_sorted (l : List ByteArray) : (compB (sortB l)).Pairwise (fun x y => bl x < bl y) ∧ ∀ x, x ∈ compB (sortB l) ↔ x ∈ l := by
  have hs := sortB_sorted l
  have hm := sortB_mem l
  have hlen : ((sortB l).map bl).length = l.length := by simp [sortB_len]
  unfold compB
  cases hl : l.length with
  | zero =>
    have : l = [] := List.eq_nil_of_length_eq_zero hl
    subst this
    simp [sortB, Lib.compact, Lib.compactUpTo]
  | succ n =>
    obtain ⟨h1, -, h3⟩ := compact_rise hs n (by omega)
    have e : Lib.compact ((sortB l).map bl) = Lib.compactUpTo ((sortB l).map bl).toArray (n + 1) := by unfold Lib.compact; rw [hlen, hl]
    rw [e]
    constructor
    · rw [List.pairwise_map]
      exact h1.imp fun h => by rw [bl_ofL, bl_ofL]; exact h
    · intro x
      rw [← hm x, List.mem_map]
      constructor
      · rintro ⟨y, hy, rfl⟩
        obtain ⟨j, hj, rfl⟩ := (h3 y).1 hy
        have hj' : j < (sortB l).length := by simp [sortB_len]; omega
        have e : ((sortB l).map bl).toArray[j]! = bl (sortB l)[j] := by rw [getElem!_pos _ j (by simpa using hj')]; simp
        rw [e, ofL_bl]
        exact List.getElem_mem _
      · intro hx
        obtain ⟨j, hj, rfl⟩ := List.getElem_of_mem hx
        refine ⟨bl (sortB l)[j], (h3 _).2 ⟨j, by rw [sortB_len] at hj; omega, ?_⟩, ofL_bl _⟩
        rw [getElem!_pos _ j (by simpa using hj)]; simp
theorem split_double : ∀ {l : List ByteArray}, ¬ l.Nodup → ∃ a x b, l = a ++ x :: b ∧ x ∈ b
  | [], h => absurd List.nodup_nil h
  | x :: l, h => by
    by_cases hx : x ∈ l
    · exact ⟨[], x, l, rfl, hx⟩
    · obtain ⟨a, y, b, rfl, hy⟩ := split_double (l := l) fun hn => h (List.nodup_cons.2 ⟨hx, hn⟩)
      exact ⟨x :: a, y, b, rfl, hy⟩
theorem nodup_of_rise {l : List ByteArray} (h : l.Pairwise (fun x y => bl x < bl y)) : l.Nodup := by
  rw [List.nodup_iff_pairwise_ne]
  exact h.imp fun h e => by rw [e] at h; exact List.lt_irrefl _ h
theorem comp_short (l : List ByteArray) : (compB (sortB l)).length < l.length ↔ ¬ l.Nodup := by
  obtain ⟨h1, h2⟩ := rise_sorted l
  have hn := nodup_of_rise h1
  constructor
  · intro hlt hnd
    have := length_le_of_sub hnd (fun x hx => (h2 x).2 hx)
    omega
  · intro hd
    obtain ⟨a, x, b, e, hx⟩ := split_double hd
    have := length_le_of_sub (m := a ++ b) hn (fun y hy => by
      have hy := (h2 y).1 hy
      rw [e, List.mem_append, List.mem_cons] at hy
      rw [List.mem_append]
      rcases hy with h | rfl | h
      · exact .inl h
      · exact .inr hx
      · exact .inr h)
    have hle := congrArg List.length e
    simp only [List.length_append, List.length_cons] at this hle
    omega

/-! ### In memory -/
theorem strs_world {w : World} {g e cap q base : Nat} {os : Array Obj} {cur : Array Value} {l : List (List UInt8)} {m : Nat} (hg : w.heap[g]? = some (.cells cur e (0, 0))) (hb : base ≤ g) (hcs : cur.size = cap * 1) (hl : l.length ≤ cap) (hm : cap ≤ maxLen) (hml : m ≤ l.length) :
    Mod (fun j => j = g) w (Sort.grow (Sort.putRow Go.Proofs.encStr (Sort.ahead w q) g 0 l.toArray) os) ∧ Gat strEnc e 1 base (Sort.grow (Sort.putRow Go.Proofs.encStr (Sort.ahead w q) g 0 l.toArray) os) (.slice (some ⟨g, 0, none⟩) m cap) ((l.take m).map ofL) := by
  have hlt : g < w.heap.size := (Array.getElem?_eq_some_iff.1 hg).1
  have hsz : (Sort.putRow Go.Proofs.encStr (Sort.ahead w q) g 0 l.toArray).heap.size = w.heap.size := by simp [Sort.putRow, Sort.mapBlock, Sort.ahead]
  have hrow : (Sort.grow (Sort.putRow Go.Proofs.encStr (Sort.ahead w q) g 0 l.toArray) os).heap[g]? = some (.cells (Sort.putCells Go.Proofs.encStr 0 l.toArray cur) e (0, 0)) := by
    show ((Sort.putRow Go.Proofs.encStr (Sort.ahead w q) g 0 l.toArray).heap ++ os)[g]? = _
    rw [Array.getElem?_append_left (by rw [hsz]; exact hlt)]
    show ((Sort.ahead w q).heap.modify g _)[g]? = _
    rw [Array.getElem?_modify, if_pos rfl]
    show Option.map _ w.heap[g]? = _
    rw [hg]; rfl
  constructor
  · refine ⟨rfl, rfl, rfl, ?_, fun j hj hne => ?_⟩
    · show w.heap.size ≤ ((Sort.putRow Go.Proofs.encStr (Sort.ahead w q) g 0 l.toArray).heap ++ os).size
      rw [Array.size_append, hsz]; omega
    · show ((Sort.putRow Go.Proofs.encStr (Sort.ahead w q) g 0 l.toArray).heap ++ os)[j]? = _
      rw [Array.getElem?_append_left (by rw [hsz]; exact hj)]
      show ((Sort.ahead w q).heap.modify g _)[j]? = _
      rw [Array.getElem?_modify, if_neg (fun e => hne e.symm)]
      rfl
  · have hlen : ((l.take m).map ofL).length = m := by simp; omega
    refine ⟨by rw [flat_str]; simp, .inr ⟨g, cap, _, by rw [hlen], hb, hrow, by rw [hlen]; omega, hm, by simp [Sort.putCells, hcs], ?_⟩⟩
    rw [hlen, Nat.mul_one]
    apply List.ext_getElem?
    intro j
    rcases Nat.lt_or_ge j m with hj | hj
    · have hjc : j < cur.size := by omega
      have hjl : j < l.length := by omega
      rw [List.getElem?_take_of_lt hj, Array.getElem?_toList]
      have e1 : (Sort.putCells Go.Proofs.encStr 0 l.toArray cur)[j]? = some (Value.string (ofL l[j])) := by
        simp [Sort.putCells, hjc, hjl, ofL]
      rw [e1]
      have e2 : ((l.take m).map ofL).flatMap strEnc = ((l.take m).map ofL).map Value.string := by
        exact flat_str _
      rw [e2]
      simp [hj, hjl]
    · rw [List.getElem?_eq_none (by simp; omega), List.getElem?_eq_none (by rw [flat_str]; simp; omega)]
def StrR (S : Nat → Prop) (base : Nat) (w : World) (v : Value) (l : List ByteArray) : Ending → World → Prop := fun e w' => e = .returned (.tuple #[]) ∧ Gat strEnc 9 1 base w' v l ∧ Mod S w w'
theorem holds_of_gat {w : World} {g e cap : Nat} {cur : Array Value} {l : List ByteArray} (hg : w.heap[g]? = some (.cells cur e (0, 0))) (ht : cur.toList.take (l.length * 1) = l.flatMap strEnc) : Sort.Holds Go.Proofs.encStr w g 0 (l.map bl).toArray := by
  intro j hj
  have hj' : j < l.length := by simpa using hj
  have e2 : l.flatMap strEnc = l.map Value.string := flat_str _
  have h1 := congrArg (·[j]?) ht
  simp only [Nat.mul_one, List.getElem?_take_of_lt hj', Array.getElem?_toList] at h1
  rw [e2] at h1
  rw [List.getElem?_map, List.getElem?_eq_getElem hj', Option.map_some] at h1
  refine ⟨?_, by simp [World.frozen?, hg]⟩
  rw [Nat.zero_add, cell_of_row w g _ cur e (0, 0) hg, h1]
  have e : (l.map bl).toArray[j]! = bl l[j] := by rw [getElem!_pos _ j hj]; simp
  rw [e]
  show some (Value.string l[j]) = some (Value.string (ofL (bl l[j])))
  rw [ofL_bl]
theorem sortS_any {base : Nat} {w : World} {v : Value} {l : List ByteArray} (h : Gat strEnc 9 1 base w v l) (hlen : l.length ≤ 1000000) : Calls Tryz.prog 31 #[v] w (StrR (fun q => v.ownBlock = some q) base w v (sortB l)) := by
  rcases h.2 with ⟨rfl, h0⟩ | ⟨g, cap, cur, rfl, hb, hg, hc, hm, hcs, ht⟩
  · obtain rfl : l = [] := List.eq_nil_of_length_eq_zero h0
    refine (AnyM.slices_Sort_string_none Tryz.sortA none 0 w).mono ?_
    rintro _ _ ⟨rfl, rfl⟩
    have e : sortB [] = [] := by simp [sortB]
    rw [e]
    exact ⟨rfl, h, Mod.refl _ _⟩
  · have hH := holds_of_gat (cap := cap) hg ht
    have hlt : g < w.heap.size := (Array.getElem?_eq_some_iff.1 hg).1
    have hs := AnyM.slices_Sort_string Tryz.sortA g 0 cap (l.map bl) w hH hlt (by simp; omega)
    rw [List.length_map] at hs
    refine hs.mono ?_
    rintro _ w' ⟨rfl, n, os, rfl⟩
    have hsl : ((l.map bl).mergeSort fun x y => decide (x ≤ y)).length = l.length := by simp
    obtain ⟨h1, h2⟩ := strs_world (q := n) (os := os) (base := base) (l := (l.map bl).mergeSort fun x y => decide (x ≤ y)) (m := l.length) hg hb hcs (by rw [hsl]; exact hc) hm (by rw [hsl]; exact Nat.le_refl _)
    rw [List.take_of_length_le (by rw [hsl]; exact Nat.le_refl _)] at h2
    exact ⟨rfl, h2, h1.mono fun j _ e => by subst e; rfl⟩
def CompR (base : Nat) (w : World) (v : Value) (l : List ByteArray) : Ending → World → Prop := fun e w' => ∃ v', e = .returned v' ∧ v'.ownBlock = v.ownBlock ∧ Gat strEnc 9 1 base w' v' l ∧ Mod (fun q => v.ownBlock = some q) w w'
theorem compact_len (zs : List (List UInt8)) : (Lib.compact zs).length ≤ zs.length := by
  unfold Lib.compact Lib.compactUpTo
  rw [List.length_map]
  have := List.length_filter_le (Lib.keeps zs.toArray) (List.range zs.length)
  simpa using this
theorem compactS_any {base : Nat} {w : World} {v : Value} {l : List ByteArray} (h : Gat strEnc 9 1 base w v l) (hlen : l.length ≤ 1000000) : Calls Tryz.prog 32 #[v] w (CompR base w v (compB l)) := by
  rcases h.2 with ⟨rfl, h0⟩ | ⟨g, cap, cur, rfl, hb, hg, hc, hm, hcs, ht⟩
  · obtain rfl : l = [] := List.eq_nil_of_length_eq_zero h0
    refine (AnyG.slices_Compact_string_empty Tryz.compactA none 0 w).mono ?_
    rintro _ _ ⟨rfl, rfl⟩
    have e : compB [] = [] := by simp [compB, Lib.compact, Lib.compactUpTo]
    rw [e]
    exact ⟨_, rfl, rfl, h, Mod.refl _ _⟩
  · have hH := holds_of_gat (cap := cap) hg ht
    have hs := AnyG.slices_Compact_string Tryz.compactA g 0 cap (l.map bl) w hH (by simp; omega) (by simpa using hc)
    rw [List.length_map] at hs
    refine hs.mono ?_
    rintro _ w' ⟨rfl, n, rfl⟩
    have hcl := compact_len (l.map bl)
    rw [List.length_map] at hcl
    have hsl : (Lib.compact (l.map bl) ++ List.replicate (l.length - (Lib.compact (l.map bl)).length) []).length = l.length := by simp; omega
    obtain ⟨h1, h2⟩ := strs_world (q := n) (os := #[]) (base := base) (l := Lib.compact (l.map bl) ++ List.replicate (l.length - (Lib.compact (l.map bl)).length) []) (m := (Lib.compact (l.map bl)).length) hg hb hcs (by rw [hsl]; exact hc) hm (by rw [hsl]; exact hcl)
    rw [List.take_left, Sort.grow_empty] at h2
    rw [Sort.grow_empty] at h1
    exact ⟨_, rfl, rfl, h2, h1.mono fun j _ e => by subst e; rfl⟩
end Go.Proofs.YtchkikmmcmjcgaaGreat

/- tree.Check: why entries may not be. -/
namespace Go.Proofs.YtchkikmmcmjcgaaGreat
set_option linter.unusedSimpArgs false
set_option linter.unusedVariables false
set_option linter.unnecessarySimpa false
set_option linter.unusedSectionVars false
open Go.RowKit Go.Shelf


theorem str_i : (Tryz.prog.info? 9).map (fun i => (i.zero, i.size, i.bytes)) = some (some (.string ⟨#[]⟩), 1, 16) := by kernel_rfl
theorem str_i2 : (Tryz.prog.info? 9).map (fun i => (i.zero, i.size)) = some (some (.string ⟨#[]⟩), 1) := by kernel_rfl
def KeysRel (es : List Ent) (w0 : World) (v i : Value) (w : World) : Prop := ∃ k : Nat, k ≤ es.length ∧ i = .int .i64 k ∧ Gat strEnc 9 1 w0.heap.size w v ((es.take k).map (·.1)) ∧ Mod NoB w0 w
/-- No two neighbours of the first i have one way. -/
def WaysRel (ls : List Leaf) (w0 : World) (i : Value) (w : World) : Prop := ∃ k : Nat, 1 ≤ k ∧ k ≤ ls.length + 1 ∧ i = .int .i64 k ∧ (∀ j (h1 : 1 ≤ j) (_ : j < k) (h3 : j < ls.length), ls[j - 1].way ≠ ls[j].way) ∧ Mod NoB w0 w
theorem ways_nodup {ls : List Leaf} (hs : ls.Pairwise (fun a b => ¬ b.way < a.way)) (hn : ∀ j (h1 : 1 ≤ j) (h3 : j < ls.length), ls[j - 1].way ≠ ls[j].way) : (ls.map (·.way)).Nodup := by
  have hlt : ∀ d i (h : i + d + 1 < ls.length), ls[i].way < ls[i + d + 1].way := by
    intro d
    induction d with
    | zero =>
      intro i h
      have h1 := List.pairwise_iff_getElem.1 hs i (i + 1) (by omega) (by omega) (by omega)
      have h2 := hn (i + 1) (by omega) (by omega)
      rcases List.le_iff_lt_or_eq.1 (List.not_lt.1 h1) with h3 | h3
      · exact h3
      · exact absurd h3 (by simpa using h2)
    | succ d ih =>
      intro i h
      have h1 := List.pairwise_iff_getElem.1 hs (i + d + 1) (i + (d + 1) + 1) (by omega) (by omega) (by omega)
      have h2 := ih i (by omega)
      rcases List.le_iff_lt_or_eq.1 (List.not_lt.1 h1) with h3 | h3
      · exact List.lt_trans h2 h3
      · rw [← h3]; exact h2
  rw [List.nodup_iff_pairwise_ne, List.pairwise_iff_getElem]
  intro i j hi hj hij
  simp only [List.length_map] at hi hj
  have := hlt (j - i - 1) i (by omega)
  have e : i + (j - i - 1) + 1 = j := by omega
  simp only [e] at this
  rw [List.getElem_map, List.getElem_map]
  intro h
  rw [h] at this
  exact List.lt_irrefl _ this
set_option maxRecDepth 10000 in
theorem check_long {own : Bool} {w : World} {G : Nat → Prop} {v : Value} {es : List Ent} (h : Es own w G v es) (hlen : 4096 < es.length) : Calls Tryz.prog 12 #[v] w (RetM (.int .i64 (chkE es : Nat)) w) := by
  obtain ⟨ad, cap, rfl, -, -⟩ := Sl.at h
  have e : chkE es = 4 := by unfold chkE; rw [if_pos hlen]
  rw [e]
  clear h e
  have hz : (es.length : Int) > 4096 := by omega
  go_enter Tryz.func12, Tryz.ntmps12
  go_wp2
  go_ret
  exact ⟨rfl, Mod.refl _ _⟩
set_option maxRecDepth 10000 in
theorem check_any {own : Bool} {w : World} {G : Nat → Prop} {v : Value} {es : List Ent} (h : Es own w G v es) (hs : Short es) (hlen : es.length ≤ 4096) : Calls Tryz.prog 12 #[v] w (RetM (.int .i64 (chkE es : Nat)) w) := by
  have HS := Lib.hid h
  have HSH := Lib.hid hs
  obtain ⟨ad, cap, rfl, -, -⟩ := Sl.at h
  have hz0 : ¬ (es.length : Int) > 4096 := by omega
  clear h hs
  go_enter Tryz.func12, Tryz.ntmps12
  go_wp2
  go_loopw [3, 13] (KeysRel es w) (fun _ i _ => es.length - (intOf i).toNat)
  case atStart => exact ⟨0, by omega, rfl, Gat.nil _ _ _ _ _, Mod.refl _ _⟩
  case round =>
    rename World => wr
    obtain ⟨k, hk, rfl, hg, hm⟩ := hrel
    have HG := Lib.hid hg
    obtain ⟨ad2, cap2, rfl⟩ := hg.slice
    clear hg
    by_cases hlt : k < es.length
    · have hz : (k : Int) < (es.length : Int) := by omega
      have HE := HS.out.keep0 hm
      obtain ⟨_, _, hv, -, hat⟩ := Sl.at HE
      cases hv
      obtain ⟨b, off, rfl, -, -, hc⟩ := hat k hlt
      obtain ⟨cs, hcs2, hec, hc⟩ := hc k hlt
      have htk : (es.take (k + 1)).map (·.1) = (es.take k).map (·.1) ++ [es[k].1] := by rw [List.take_succ_eq_append_getElem hlt, List.map_append]; rfl
      have hlk : ((es.take k).map (·.1)).length = k := by simp; omega
      have HTK := Lib.hid htk
      generalize es[k] = x at *
      have hc1 := entC_one hec
      obtain ⟨vx, rfl, -⟩ := hec
      clear htk hat HE
      go_upto_region 6 with (fail)
      refine wp_region_seq [3, 1, 1, 1] (fun _ => True) (by rfl) (by rfl) trivial ?_
      simp only [List.zip_cons_cons, List.zip_nil_right]
      refine wpPi_index _ _ _ _ _ _ _ _ _ rfl rfl rfl rfl Tryz.underlying22 (n := 2) (by kernel_rfl) hlt ?_
      simp only [pl, pn, el, ec, sz, ss, gz, gs, if_true, if_false, Bool.false_eq_true, Bool.not_true, Bool.not_false, Nat.add_zero, Nat.zero_add, Nat.reduceAdd]
      refine wpPi_do rfl (fun K hK => ?_)
      refine wp_exec (exec_loadA 27 _ (by rfl) b (off + k * 2) (by rfl) #[.string x.1, vx] hc _ Tryz.underlying27 rfl 2 (by kernel_rfl) hcs2) ?_
      refine hK _ _ trivial ?_
      clear hK K
      try simp only [pl, pn, el, ec, sz, ss, gz, gs, if_true, if_false, Bool.false_eq_true, Bool.not_true, Bool.not_false, Nat.add_zero, Nat.zero_add, Nat.reduceAdd]
      refine wpPi_do rfl (fun K hK => ?_)
      refine wp_alloc 27 _ (by rfl) entryZ (fun w2 hB2 hm2 hs2 => ?_)
      replace hB2 : w2.heap[wr.heap.size]? = some (.cells #[.string ⟨#[]⟩, .slice none 0 0] 27 (0, 0)) := hB2
      refine hK _ _ trivial ?_
      clear hK K
      try simp only [pl, pn, el, ec, sz, ss, gz, gs, if_true, if_false, Bool.false_eq_true, Bool.not_true, Bool.not_false, Nat.add_zero, Nat.zero_add, Nat.reduceAdd]
      refine wpPi_do rfl (fun K hK => ?_)
      refine wp_storeA 27 _ _ wr.heap.size 0 #[.string x.1, vx] (by rfl) (by rfl) (by rfl) hc1 2 (by kernel_rfl) hcs2 _ _ hB2 (by rw [hcs2]; exact Nat.le_of_eq rfl) (fun w3 hB3 hm3 => ?_)
      rw [putRow_whole (by rw [hcs2]; rfl)] at hB3
      refine hK _ _ trivial ?_
      clear hK K
      try simp only [pl, pn, el, ec, sz, ss, gz, gs, if_true, if_false, Bool.false_eq_true, Bool.not_true, Bool.not_false, Nat.add_zero, Nat.zero_add, Nat.reduceAdd]
      refine wpPi_nil ?_
      have hM3 := hm2.transB hm3 (Nat.le_refl _)
      generalize wr.heap.size = b4 at *
      have hcl := (CellsAt.whole hB3).cell (j := 0) (v := .string x.1) rfl
      clear hm2 hm3 hB2 hc hB3
      go_upto_region 7 with (fail)
      refine wp_region_seq [3, 3, 1, 1, 1, 3] (fun _ => True) (by rfl) (by rfl) trivial ?_
      simp only [List.zip_cons_cons, List.zip_nil_right]
      refine wpPi_move _ rfl rfl ?_
      simp only [pl, pn, el, ec, sz, ss, gz, gs, if_true, if_false, Bool.false_eq_true, Bool.not_true, Bool.not_false, Nat.add_zero, Nat.zero_add, Nat.reduceAdd]
      refine wpPi_field _ _ _ _ _ _ rfl rfl rfl fo_27_0 ?_
      simp only [pl, pn, el, ec, sz, ss, gz, gs, if_true, if_false, Bool.false_eq_true, Bool.not_true, Bool.not_false, Nat.add_zero, Nat.zero_add, Nat.reduceAdd]
      refine wpPi_do rfl (fun K hK => ?_)
      refine wp_exec (exec_load1 9 _ (by rfl) b4 0 (by rfl) (.string x.1) hcl _ Tryz.underlying9 rfl) ?_
      refine hK _ _ trivial ?_
      clear hK K
      try simp only [pl, pn, el, ec, sz, ss, gz, gs, if_true, if_false, Bool.false_eq_true, Bool.not_true, Bool.not_false, Nat.add_zero, Nat.zero_add, Nat.reduceAdd]
      refine wpPi_do rfl (fun K hK => ?_)
      refine wp_buildSlice1 67 9 _ (.string x.1) (.string ⟨#[]⟩) 1 (by rfl) (by rfl) Tryz.underlying67 str_i2 (by omega) (by omega) rfl (fun w5 hB5 hm5 hs5 => ?_)
      have hM5 := hM3.trans0 hm5
      refine hK _ _ trivial ?_
      clear hK K
      try simp only [pl, pn, el, ec, sz, ss, gz, gs, if_true, if_false, Bool.false_eq_true, Bool.not_true, Bool.not_false, Nat.add_zero, Nat.zero_add, Nat.reduceAdd]
      refine wpPi_do rfl (fun K hK => ?_)
      refine wp_gat strEnc _ _ 67 9 (.string ⟨#[]⟩) 1 16 (by rfl) Tryz.underlying67 str_i (by kernel_rfl) (by omega) strEnc_one w.heap.size _ _ (by rfl) (HG.out.keep0 hM5) (.slice (some ⟨w3.heap.size, 0, none⟩) 1 1) [x.1] (by rfl) (src_lit (enc := strEnc) (x := x.1) (e := 9) (fun _ => rfl) hB5) (by simp only [List.length_singleton]; unfold maxLen; omega) (by simp only [List.length_singleton]; omega) (by have := hm.size; have := hM5.size; omega) (fun v6 w6 hg6 hm6 => ?_)
      rw [← HTK.out] at hg6
      have hM6 : Mod NoB w w6 := (hm.trans0 hM5).trans hm6 (fun k hk e => by have := (HG.out.lt e).1; omega)
      refine hK _ _ trivial ?_
      clear hK K
      try simp only [pl, pn, el, ec, sz, ss, gz, gs, if_true, if_false, Bool.false_eq_true, Bool.not_true, Bool.not_false, Nat.add_zero, Nat.zero_add, Nat.reduceAdd]
      refine wpPi_assign _ rfl rfl ?_
      simp only [pl, pn, el, ec, sz, ss, gz, gs, if_true, if_false, Bool.false_eq_true, Bool.not_true, Bool.not_false, Nat.add_zero, Nat.zero_add, Nat.reduceAdd]
      refine wpPi_nil ?_
      clear hm6 hm5 hM3 hM5 hm hB5 hcl
      go_wp2
      go_roundw
      case rel => exact ⟨k + 1, by omega, by go_num, hg6, hM6⟩
      case measure => simp [intOf]; omega
    · have hz : ¬ (k : Int) < (es.length : Int) := by omega
      obtain rfl : k = es.length := by omega
      simp only [List.take_length] at HG ⊢
      have hkl : (es.map (·.1)).length = es.length := by simp
      have hcs := comp_short (es.map (·.1))
      rw [hkl] at hcs
      have hcl := HG.out.lts
      generalize hKE : es.map (·.1) = ks at *
      go_upto_region 9 with (fail)
      refine wp_region_seq [3, 1] (fun _ => True) (by rfl) (by rfl) trivial ?_
      simp only [List.zip_cons_cons, List.zip_nil_right]
      refine wpPi_move _ rfl rfl ?_
      simp only [pl, pn, el, ec, sz, ss, gz, gs, if_true, if_false, Bool.false_eq_true, Bool.not_true, Bool.not_false, Nat.add_zero, Nat.zero_add, Nat.reduceAdd]
      refine wpPi_do rfl (fun K hK => ?_)
      refine wp_enterQ (run_call 31 [.tmp 23] _ rfl _ Tryz.func31 rfl (by kernel_rfl) [.slice ad2 ks.length cap2] rfl _) (sortS_any HG.out (by omega)) ?_
      rintro e w3 ⟨rfl, hg3, hm3⟩
      have hM3 : Mod NoB w w3 := hm.trans hm3 (fun k hk e => by have := (hcl _ e).1; omega)
      refine ⟨_, rfl, hK _ _ trivial ?_⟩
      clear hK K
      try simp only [pl, pn, el, ec, sz, ss, gz, gs, if_true, if_false, Bool.false_eq_true, Bool.not_true, Bool.not_false, Nat.add_zero, Nat.zero_add, Nat.reduceAdd]
      refine wpPi_nil ?_
      clear hm3 hm
      have hs3 := hM3.size
      have hcl3 := hg3.lts
      have hsl : (sortB ks).length = es.length := by rw [sortB_len, hkl]
      go_upto_region 10 with (fail)
      by_cases hdup : (compB (sortB ks)).length < es.length
      · have hz2 : ((compB (sortB ks)).length : Int) < (es.length : Int) := by omega
        have hchk : chkE es = 19 := by
          unfold chkE
          rw [if_neg (by omega), hKE, if_pos (hcs.1 hdup)]
        rw [hchk]
        refine wp_region_seq [3, 1, 3, 3, 3, 3] (fun _ => True) (by rfl) (by rfl) trivial ?_
        simp only [List.zip_cons_cons, List.zip_nil_right]
        refine wpPi_move _ rfl rfl ?_
        simp only [pl, pn, el, ec, sz, ss, gz, gs, if_true, if_false, Bool.false_eq_true, Bool.not_true, Bool.not_false, Nat.add_zero, Nat.zero_add, Nat.reduceAdd]
        refine wpPi_do rfl (fun K hK => ?_)
        refine wp_enterQ (run_call 32 [.tmp 25] _ rfl _ Tryz.func32 rfl (by kernel_rfl) [.slice ad2 ks.length cap2] rfl _) (compactS_any hg3 (by omega)) ?_
        rintro e w4 ⟨v4, rfl, hv4, hg4, hm4⟩
        have hM4 : Mod NoB w w4 := hM3.trans hm4 (fun k hk e => by have := (hcl3 _ e).1; omega)
        obtain ⟨ad4, cap4, rfl⟩ := hg4.slice
        refine ⟨_, rfl, hK _ _ trivial ?_⟩
        clear hK K
        try simp only [pl, pn, el, ec, sz, ss, gz, gs, if_true, if_false, Bool.false_eq_true, Bool.not_true, Bool.not_false, Nat.add_zero, Nat.zero_add, Nat.reduceAdd]
        refine wpPi_len _ _ _ _ _ rfl rfl rfl (by kernel_rfl) ?_
        simp only [pl, pn, el, ec, sz, ss, gz, gs, if_true, if_false, Bool.false_eq_true, Bool.not_true, Bool.not_false, Nat.add_zero, Nat.zero_add, Nat.reduceAdd]
        refine wpPi_move _ rfl rfl ?_
        simp only [pl, pn, el, ec, sz, ss, gz, gs, if_true, if_false, Bool.false_eq_true, Bool.not_true, Bool.not_false, Nat.add_zero, Nat.zero_add, Nat.reduceAdd]
        refine wpPi_len _ _ _ _ _ rfl rfl rfl (by kernel_rfl) ?_
        simp only [pl, pn, el, ec, sz, ss, gz, gs, if_true, if_false, Bool.false_eq_true, Bool.not_true, Bool.not_false, Nat.add_zero, Nat.zero_add, Nat.reduceAdd]
        refine wpPi_any (v := ?_) rfl (fun w' => ?_) ?_; rotate_left; · (go_simp; try with_reducible rfl)
        simp only [pl, pn, el, ec, sz, ss, gz, gs, if_true, if_false, Bool.false_eq_true, Bool.not_true, Bool.not_false, Nat.add_zero, Nat.zero_add, Nat.reduceAdd]
        refine wpPi_nil ?_
        clear hm4 hM3
        go_wp2
        go_ret
        exact ⟨rfl, hM4⟩
      · have hz2 : ¬ ((compB (sortB ks)).length : Int) < (es.length : Int) := by omega
        have hnd : ks.Nodup := Classical.not_not.1 fun h => hdup (hcs.2 h)
        refine wp_region_seq [3, 1, 3, 3, 3, 3] (fun _ => True) (by rfl) (by rfl) trivial ?_
        simp only [List.zip_cons_cons, List.zip_nil_right]
        refine wpPi_move _ rfl rfl ?_
        simp only [pl, pn, el, ec, sz, ss, gz, gs, if_true, if_false, Bool.false_eq_true, Bool.not_true, Bool.not_false, Nat.add_zero, Nat.zero_add, Nat.reduceAdd]
        refine wpPi_do rfl (fun K hK => ?_)
        refine wp_enterQ (run_call 32 [.tmp 25] _ rfl _ Tryz.func32 rfl (by kernel_rfl) [.slice ad2 ks.length cap2] rfl _) (compactS_any hg3 (by omega)) ?_
        rintro e w4 ⟨v4, rfl, hv4, hg4, hm4⟩
        have hM4 : Mod NoB w w4 := hM3.trans hm4 (fun k hk e => by have := (hcl3 _ e).1; omega)
        obtain ⟨ad4, cap4, rfl⟩ := hg4.slice
        refine ⟨_, rfl, hK _ _ trivial ?_⟩
        clear hK K
        try simp only [pl, pn, el, ec, sz, ss, gz, gs, if_true, if_false, Bool.false_eq_true, Bool.not_true, Bool.not_false, Nat.add_zero, Nat.zero_add, Nat.reduceAdd]
        refine wpPi_len _ _ _ _ _ rfl rfl rfl (by kernel_rfl) ?_
        simp only [pl, pn, el, ec, sz, ss, gz, gs, if_true, if_false, Bool.false_eq_true, Bool.not_true, Bool.not_false, Nat.add_zero, Nat.zero_add, Nat.reduceAdd]
        refine wpPi_move _ rfl rfl ?_
        simp only [pl, pn, el, ec, sz, ss, gz, gs, if_true, if_false, Bool.false_eq_true, Bool.not_true, Bool.not_false, Nat.add_zero, Nat.zero_add, Nat.reduceAdd]
        refine wpPi_len _ _ _ _ _ rfl rfl rfl (by kernel_rfl) ?_
        simp only [pl, pn, el, ec, sz, ss, gz, gs, if_true, if_false, Bool.false_eq_true, Bool.not_true, Bool.not_false, Nat.add_zero, Nat.zero_add, Nat.reduceAdd]
        refine wpPi_any (v := ?_) rfl (fun w' => ?_) ?_; rotate_left; · (go_simp; try with_reducible rfl)
        simp only [pl, pn, el, ec, sz, ss, gz, gs, if_true, if_false, Bool.false_eq_true, Bool.not_true, Bool.not_false, Nat.add_zero, Nat.zero_add, Nat.reduceAdd]
        refine wpPi_nil ?_
        clear hm4 hM3
        go_upto_region 12 with (fail)
        refine wp_region_seq [3, 1, 3] (fun _ => True) (by rfl) (by rfl) trivial ?_
        simp only [List.zip_cons_cons, List.zip_nil_right]
        refine wpPi_move _ rfl rfl ?_
        simp only [pl, pn, el, ec, sz, ss, gz, gs, if_true, if_false, Bool.false_eq_true, Bool.not_true, Bool.not_false, Nat.add_zero, Nat.zero_add, Nat.reduceAdd]
        refine wpPi_do rfl (fun K hK => ?_)
        refine wp_enterQ (run_call 21 [.tmp 31] _ rfl _ Tryz.func21 rfl (by kernel_rfl) [.slice ad es.length cap] rfl _) (sorted_any (HS.out.keep0 hM4) HSH.out (by omega)) ?_
        rintro e w5 ⟨v5, ls, rfl, hl5, ⟨hp5, ho5⟩, hm5⟩
        have hM5 := hM4.trans0 hm5
        refine ⟨_, rfl, hK _ _ trivial ?_⟩
        clear hK K
        try simp only [pl, pn, el, ec, sz, ss, gz, gs, if_true, if_false, Bool.false_eq_true, Bool.not_true, Bool.not_false, Nat.add_zero, Nat.zero_add, Nat.reduceAdd]
        refine wpPi_assign _ rfl rfl ?_
        simp only [pl, pn, el, ec, sz, ss, gz, gs, if_true, if_false, Bool.false_eq_true, Bool.not_true, Bool.not_false, Nat.add_zero, Nat.zero_add, Nat.reduceAdd]
        refine wpPi_nil ?_
        have hll : ls.length = es.length := by rw [hp5.length_eq]; simp [leavesE]
        have hnw : ((leavesE es).map (·.way)).Nodup ↔ (ls.map (·.way)).Nodup := (hp5.map (·.way)).nodup_iff.symm
        have hchk : chkE es = if ¬ (ls.map (·.way)).Nodup then 9 else 0 := by
          simp only [chkE, show ¬ 4096 < es.length by omega, hKE, hnd, hnw, if_false, not_true]
        have HCHK := Lib.hid hchk
        have HL := Lib.hid hl5
        obtain ⟨ad5, cap5, rfl, -, -⟩ := Sl.at hl5
        have hlb : ls.length ≤ 4096 := by omega
        clear hm5 hM4 hchk hl5 hp5 hnw hll
        go_wp2
        go_loopw [7] (WaysRel ls w5) (fun i _ => ls.length + 1 - (intOf i).toNat)
        case atStart => exact ⟨1, by omega, by omega, rfl, fun j h1 h2 h3 => by omega, Mod.refl _ _⟩
        case round =>
          rename World => wq
          obtain ⟨i, hi1, hi2, rfl, hne, hmq⟩ := hrel
          have HNE := Lib.hid hne
          clear hne
          by_cases hlt : i < ls.length
          · have hz3 : (i : Int) < (ls.length : Int) := by omega
            obtain ⟨_, _, hv, -, hat⟩ := Sl.at (HL.out.keep0 hmq)
            cases hv
            obtain ⟨b, off, rfl, -, -, hc⟩ := hat i hlt
            have hi1' : i - 1 < ls.length := by omega
            obtain ⟨_, -, ⟨rfl, hok1⟩, hc1⟩ := hc (i - 1) hi1'
            obtain ⟨_, -, ⟨rfl, hok2⟩, hc2⟩ := hc i hlt
            have hw1 := leaf_way hok1 hc1
            have hw2 := leaf_way hok2 hc2
            have hx1 := hok1.1
            have hx2 := hok2.1
            have hr1 : (idCells ls[i - 1].way).size = 32 := by rw [idCells_size, hx1]
            have hr2 : (idCells ls[i].way).size = 32 := by rw [idCells_size, hx2]
            clear hat hc hc1 hc2 hok1 hok2
            by_cases heq : ls[i - 1].way = ls[i].way
            · have hout : chkE es = 9 := by
                rw [HCHK.out, if_pos]
                intro hnd
                have := List.pairwise_iff_getElem.1 hnd (i - 1) i (by simpa using hi1') (by simpa using hlt) (by omega)
                simp only [List.getElem_map] at this
                exact this heq
              rw [hout]
              generalize ls[i - 1].way = x1 at *
              generalize ls[i].way = x2 at *
              go_upto_region 16 with (fail)
              have hS : Mod NoB wq wq.drew := (Mod.refl _ _).drew
              refine wp_region_pi [(0, 3), (1, 3), (2, 3), (3, 3), (4, 3), (5, 0), (6, 3), (7, 3), (8, 3), (9, 3), (10, 0), (11, 0)] [] (fun w' => Mod NoB wq w') (by kernel_rfl) (by kernel_rfl) (by kernel_rfl) (by kernel_rfl) (fun _ _ _ _ hd h => ⟨hd.trans h.1, h.2⟩) hS ?_
              simp only [List.map_cons, List.map_nil, List.getD_cons_zero, List.getD_cons_succ]
              refine wpPi_move _ rfl rfl ?_
              simp only [pl, pn, el, ec, sz, ss, gz, gs, if_true, if_false, Bool.false_eq_true, Bool.not_true, Bool.not_false, Nat.add_zero, Nat.zero_add, Nat.reduceAdd]
              refine wpPi_move _ rfl rfl ?_
              simp only [pl, pn, el, ec, sz, ss, gz, gs, if_true, if_false, Bool.false_eq_true, Bool.not_true, Bool.not_false, Nat.add_zero, Nat.zero_add, Nat.reduceAdd]
              refine wpPi_subR _ _ _ _ (i : Int) 1 ((i - 1 : Nat) : Int) rfl rfl rfl rfl (by omega) (by omega) (by omega) ?_
              simp only [pl, pn, el, ec, sz, ss, gz, gs, if_true, if_false, Bool.false_eq_true, Bool.not_true, Bool.not_false, Nat.add_zero, Nat.zero_add, Nat.reduceAdd]
              refine wpPi_index _ _ _ _ _ _ _ _ _ rfl rfl rfl rfl Tryz.underlying49 (n := 65) (by kernel_rfl) hi1' ?_
              simp only [pl, pn, el, ec, sz, ss, gz, gs, if_true, if_false, Bool.false_eq_true, Bool.not_true, Bool.not_false, Nat.add_zero, Nat.zero_add, Nat.reduceAdd]
              refine wpPi_field _ _ _ _ _ _ rfl rfl rfl fo_59_1 ?_
              simp only [pl, pn, el, ec, sz, ss, gz, gs, if_true, if_false, Bool.false_eq_true, Bool.not_true, Bool.not_false, Nat.add_zero, Nat.zero_add, Nat.reduceAdd]
              refine wpPi_val rfl (fun w' hS => exec_loadA 24 _ (by rfl) b (off + (i - 1) * 65 + 1) (by rfl) (idCells x1) (hw1.keep hS id) _ Tryz.underlying24 rfl 32 (by kernel_rfl) hr1) ?_
              simp only [pl, pn, el, ec, sz, ss, gz, gs, if_true, if_false, Bool.false_eq_true, Bool.not_true, Bool.not_false, Nat.add_zero, Nat.zero_add, Nat.reduceAdd]
              refine wpPi_move _ rfl rfl ?_
              simp only [pl, pn, el, ec, sz, ss, gz, gs, if_true, if_false, Bool.false_eq_true, Bool.not_true, Bool.not_false, Nat.add_zero, Nat.zero_add, Nat.reduceAdd]
              refine wpPi_move _ rfl rfl ?_
              simp only [pl, pn, el, ec, sz, ss, gz, gs, if_true, if_false, Bool.false_eq_true, Bool.not_true, Bool.not_false, Nat.add_zero, Nat.zero_add, Nat.reduceAdd]
              refine wpPi_index _ _ _ _ _ _ _ _ _ rfl rfl rfl rfl Tryz.underlying49 (n := 65) (by kernel_rfl) hlt ?_
              simp only [pl, pn, el, ec, sz, ss, gz, gs, if_true, if_false, Bool.false_eq_true, Bool.not_true, Bool.not_false, Nat.add_zero, Nat.zero_add, Nat.reduceAdd]
              refine wpPi_field _ _ _ _ _ _ rfl rfl rfl fo_59_1 ?_
              simp only [pl, pn, el, ec, sz, ss, gz, gs, if_true, if_false, Bool.false_eq_true, Bool.not_true, Bool.not_false, Nat.add_zero, Nat.zero_add, Nat.reduceAdd]
              refine wpPi_val rfl (fun w' hS => exec_loadA 24 _ (by rfl) b (off + i * 65 + 1) (by rfl) (idCells x2) (hw2.keep hS id) _ Tryz.underlying24 rfl 32 (by kernel_rfl) hr2) ?_
              simp only [pl, pn, el, ec, sz, ss, gz, gs, if_true, if_false, Bool.false_eq_true, Bool.not_true, Bool.not_false, Nat.add_zero, Nat.zero_add, Nat.reduceAdd]
              refine wpPi_val rfl (fun w' hS => exec_eql_id _ _ _ _ rfl x1 x2 rfl rfl 32 5 Tryz.underlying24 Tryz.underlying5 (by kernel_rfl) (by kernel_rfl) hx1 hx2 true (decide_eq_true heq)) ?_
              simp only [pl, pn, el, ec, sz, ss, gz, gs, if_true, if_false, Bool.false_eq_true, Bool.not_true, Bool.not_false, Nat.add_zero, Nat.zero_add, Nat.reduceAdd]
              refine wpPi_nil ?_
              have hMq := hM5.trans0 (hmq.trans0 hS)
              clear hmq hS hM5
              go_wp2
              go_ret
              exact ⟨rfl, hMq⟩
            · have hstep : ∀ j (h1 : 1 ≤ j) (_ : j < i + 1) (h3 : j < ls.length), ls[j - 1].way ≠ ls[j].way := fun j h1 h2 h3 => by
                rcases Nat.lt_or_ge j i with h4 | h4
                · exact HNE.out j h1 h4 h3
                · obtain rfl : j = i := by omega
                  exact heq
              have HSTEP := Lib.hid hstep
              clear hstep
              generalize ls[i - 1].way = x1 at *
              generalize ls[i].way = x2 at *
              go_upto_region 16 with (fail)
              have hS : Mod NoB wq wq.drew := (Mod.refl _ _).drew
              refine wp_region_pi [(0, 3), (1, 3), (2, 3), (3, 3), (4, 3), (5, 0), (6, 3), (7, 3), (8, 3), (9, 3), (10, 0), (11, 0)] [] (fun w' => Mod NoB wq w') (by kernel_rfl) (by kernel_rfl) (by kernel_rfl) (by kernel_rfl) (fun _ _ _ _ hd h => ⟨hd.trans h.1, h.2⟩) hS ?_
              simp only [List.map_cons, List.map_nil, List.getD_cons_zero, List.getD_cons_succ]
              refine wpPi_move _ rfl rfl ?_
              simp only [pl, pn, el, ec, sz, ss, gz, gs, if_true, if_false, Bool.false_eq_true, Bool.not_true, Bool.not_false, Nat.add_zero, Nat.zero_add, Nat.reduceAdd]
              refine wpPi_move _ rfl rfl ?_
              simp only [pl, pn, el, ec, sz, ss, gz, gs, if_true, if_false, Bool.false_eq_true, Bool.not_true, Bool.not_false, Nat.add_zero, Nat.zero_add, Nat.reduceAdd]
              refine wpPi_subR _ _ _ _ (i : Int) 1 ((i - 1 : Nat) : Int) rfl rfl rfl rfl (by omega) (by omega) (by omega) ?_
              simp only [pl, pn, el, ec, sz, ss, gz, gs, if_true, if_false, Bool.false_eq_true, Bool.not_true, Bool.not_false, Nat.add_zero, Nat.zero_add, Nat.reduceAdd]
              refine wpPi_index _ _ _ _ _ _ _ _ _ rfl rfl rfl rfl Tryz.underlying49 (n := 65) (by kernel_rfl) hi1' ?_
              simp only [pl, pn, el, ec, sz, ss, gz, gs, if_true, if_false, Bool.false_eq_true, Bool.not_true, Bool.not_false, Nat.add_zero, Nat.zero_add, Nat.reduceAdd]
              refine wpPi_field _ _ _ _ _ _ rfl rfl rfl fo_59_1 ?_
              simp only [pl, pn, el, ec, sz, ss, gz, gs, if_true, if_false, Bool.false_eq_true, Bool.not_true, Bool.not_false, Nat.add_zero, Nat.zero_add, Nat.reduceAdd]
              refine wpPi_val rfl (fun w' hS => exec_loadA 24 _ (by rfl) b (off + (i - 1) * 65 + 1) (by rfl) (idCells x1) (hw1.keep hS id) _ Tryz.underlying24 rfl 32 (by kernel_rfl) hr1) ?_
              simp only [pl, pn, el, ec, sz, ss, gz, gs, if_true, if_false, Bool.false_eq_true, Bool.not_true, Bool.not_false, Nat.add_zero, Nat.zero_add, Nat.reduceAdd]
              refine wpPi_move _ rfl rfl ?_
              simp only [pl, pn, el, ec, sz, ss, gz, gs, if_true, if_false, Bool.false_eq_true, Bool.not_true, Bool.not_false, Nat.add_zero, Nat.zero_add, Nat.reduceAdd]
              refine wpPi_move _ rfl rfl ?_
              simp only [pl, pn, el, ec, sz, ss, gz, gs, if_true, if_false, Bool.false_eq_true, Bool.not_true, Bool.not_false, Nat.add_zero, Nat.zero_add, Nat.reduceAdd]
              refine wpPi_index _ _ _ _ _ _ _ _ _ rfl rfl rfl rfl Tryz.underlying49 (n := 65) (by kernel_rfl) hlt ?_
              simp only [pl, pn, el, ec, sz, ss, gz, gs, if_true, if_false, Bool.false_eq_true, Bool.not_true, Bool.not_false, Nat.add_zero, Nat.zero_add, Nat.reduceAdd]
              refine wpPi_field _ _ _ _ _ _ rfl rfl rfl fo_59_1 ?_
              simp only [pl, pn, el, ec, sz, ss, gz, gs, if_true, if_false, Bool.false_eq_true, Bool.not_true, Bool.not_false, Nat.add_zero, Nat.zero_add, Nat.reduceAdd]
              refine wpPi_val rfl (fun w' hS => exec_loadA 24 _ (by rfl) b (off + i * 65 + 1) (by rfl) (idCells x2) (hw2.keep hS id) _ Tryz.underlying24 rfl 32 (by kernel_rfl) hr2) ?_
              simp only [pl, pn, el, ec, sz, ss, gz, gs, if_true, if_false, Bool.false_eq_true, Bool.not_true, Bool.not_false, Nat.add_zero, Nat.zero_add, Nat.reduceAdd]
              refine wpPi_val rfl (fun w' hS => exec_eql_id _ _ _ _ rfl x1 x2 rfl rfl 32 5 Tryz.underlying24 Tryz.underlying5 (by kernel_rfl) (by kernel_rfl) hx1 hx2 false (decide_eq_false heq)) ?_
              simp only [pl, pn, el, ec, sz, ss, gz, gs, if_true, if_false, Bool.false_eq_true, Bool.not_true, Bool.not_false, Nat.add_zero, Nat.zero_add, Nat.reduceAdd]
              refine wpPi_nil ?_
              have hMq := hmq.trans0 hS
              clear hmq hS
              go_wp2
              go_roundw
              case rel => exact ⟨i + 1, by omega, by omega, by go_num, HSTEP.out, hMq⟩
              case measure => simp [intOf]; omega
          · have hz3 : ¬ (i : Int) < (ls.length : Int) := by omega
            have hout : chkE es = 0 := by
              rw [HCHK.out, if_neg]
              intro hnd
              exact hnd (ways_nodup ho5 fun j h1 h3 => HNE.out j h1 (by omega) h3)
            rw [hout]
            have hMq := hM5.trans0 hmq
            clear hmq hM5
            go_wp2
            go_ret
            exact ⟨rfl, hMq⟩
end Go.Proofs.YtchkikmmcmjcgaaGreat

/- tree.Root: the digest of all; pairs turned about. -/
namespace Go.Proofs.YtchkikmmcmjcgaaGreat
set_option linter.unusedSimpArgs false
set_option linter.unusedVariables false
set_option linter.unnecessarySimpa false
set_option linter.unusedSectionVars false
open Go.RowKit Go.Shelf

theorem fo_101_0 : fieldOff Tryz.prog 101 0 = some 0 := by kernel_rfl
theorem fo_101_1 : fieldOff Tryz.prog 101 1 = some 1 := by kernel_rfl
theorem placed_of {es : List Ent} {ls : List Leaf} (hs : Sorted es ls) (h : chkE es = 0) : Placed 0 ls := by
  have hl := (lie_of_chk h).perm hs.1.symm
  refine ⟨hl.len, fun _ _ _ _ j hj => by omega, ?_⟩
  have hn := hl.nd
  rw [List.nodup_iff_pairwise_ne, List.pairwise_map] at hn
  exact (hs.2.and hn).imp fun ⟨h1, h2⟩ => by
    rcases List.le_iff_lt_or_eq.1 (List.not_lt.1 h1) with h3 | h3
    · exact h3
    · exact absurd h3 h2
theorem sorted_len {es : List Ent} {ls : List Leaf} (hs : Sorted es ls) : ls.length = es.length := by rw [hs.1.length_eq]; simp [leavesE]
def zeroID : List UInt8 := List.replicate 32 0
def rootOut (es : List Ent) : List UInt8 := if chkE es = 0 then rootE es else zeroID
theorem built_zero : Tryz.prog.built 24 [] = some (idCells zeroID) := by kernel_rfl
def RootR (w : World) (es : List Ent) : Ending → World → Prop := fun e w' => e = .returned (.tuple #[.agg (idCells (rootOut es)), .int .i64 (chkE es : Nat)]) ∧ Mod NoB w w'
set_option maxRecDepth 10000 in
theorem root_any {own : Bool} {w : World} {G : Nat → Prop} {v : Value} {es : List Ent} (h : Es own w G v es) (hs : Short es) (hlen : es.length ≤ 4096) : Calls Tryz.prog 7 #[v] w (RootR w es) := by
  have HS := Lib.hid h
  have HSH := Lib.hid hs
  obtain ⟨ad, cap, rfl, -, -⟩ := Sl.at h
  clear h hs
  go_enter Tryz.func7, Tryz.ntmps7
  go_upto_region 0 with (fail)
  refine wp_region_seq [1, 3] (fun _ => True) (by rfl) (by rfl) trivial ?_
  simp only [List.zip_cons_cons, List.zip_nil_right]
  refine wpPi_do rfl (fun K hK => ?_)
  refine wp_alloc 24 _ (by rfl) idZ (fun w1 hB1 hm1 hs1 => ?_)
  replace hB1 : w1.heap[w.heap.size]? = some (.cells (idCells (List.replicate 32 0)) 24 (0, 0)) := hB1
  refine hK _ _ trivial ?_
  clear hK K
  try simp only [pl, pn, el, ec, sz, ss, gz, gs, if_true, if_false, Bool.false_eq_true, Bool.not_true, Bool.not_false, Nat.add_zero, Nat.zero_add, Nat.reduceAdd]
  refine wpPi_assign _ rfl rfl ?_
  simp only [pl, pn, el, ec, sz, ss, gz, gs, if_true, if_false, Bool.false_eq_true, Bool.not_true, Bool.not_false, Nat.add_zero, Nat.zero_add, Nat.reduceAdd]
  refine wpPi_nil ?_
  go_upto_region 1 with (fail)
  refine wp_region_seq [3, 1, 3] (fun _ => True) (by rfl) (by rfl) trivial ?_
  simp only [List.zip_cons_cons, List.zip_nil_right]
  refine wpPi_move _ rfl rfl ?_
  simp only [pl, pn, el, ec, sz, ss, gz, gs, if_true, if_false, Bool.false_eq_true, Bool.not_true, Bool.not_false, Nat.add_zero, Nat.zero_add, Nat.reduceAdd]
  refine wpPi_do rfl (fun K hK => ?_)
  refine wp_enterQ (run_call 12 [.tmp 5] _ rfl _ Tryz.func12 rfl (by kernel_rfl) [.slice ad es.length cap] rfl _) (check_any (HS.out.keep0 hm1) HSH.out hlen) ?_
  rintro e w2 ⟨rfl, hm2⟩
  have hM2 := hm1.trans0 hm2
  replace hB1 := hm2.obj id hB1
  refine ⟨_, rfl, hK _ _ trivial ?_⟩
  clear hK K
  try simp only [pl, pn, el, ec, sz, ss, gz, gs, if_true, if_false, Bool.false_eq_true, Bool.not_true, Bool.not_false, Nat.add_zero, Nat.zero_add, Nat.reduceAdd]
  refine wpPi_assign _ rfl rfl ?_
  simp only [pl, pn, el, ec, sz, ss, gz, gs, if_true, if_false, Bool.false_eq_true, Bool.not_true, Bool.not_false, Nat.add_zero, Nat.zero_add, Nat.reduceAdd]
  refine wpPi_nil ?_
  clear hm1 hm2
  by_cases hc : chkE es = 0
  · have ho : rootOut es = rootE es := by unfold rootOut; rw [if_pos hc]
    have HO := Lib.hid ho
    have HC := Lib.hid hc
    rw [hc]
    clear hc ho
    go_upto_region 4 with (fail)
    refine wp_region_seq [3, 1, 1, 1, 3] (fun _ => True) (by rfl) (by rfl) trivial ?_
    simp only [List.zip_cons_cons, List.zip_nil_right]
    refine wpPi_move _ rfl rfl ?_
    simp only [pl, pn, el, ec, sz, ss, gz, gs, if_true, if_false, Bool.false_eq_true, Bool.not_true, Bool.not_false, Nat.add_zero, Nat.zero_add, Nat.reduceAdd]
    refine wpPi_do rfl (fun K hK => ?_)
    refine wp_enterQ (run_call 21 [.tmp 11] _ rfl _ Tryz.func21 rfl (by kernel_rfl) [.slice ad es.length cap] rfl _) (sorted_any (HS.out.keep0 hM2) HSH.out (by omega)) ?_
    rintro e w3 ⟨v3, ls, rfl, hl3, hsr, hm3⟩
    refine ⟨_, rfl, hK _ _ trivial ?_⟩
    clear hK K
    try simp only [pl, pn, el, ec, sz, ss, gz, gs, if_true, if_false, Bool.false_eq_true, Bool.not_true, Bool.not_false, Nat.add_zero, Nat.zero_add, Nat.reduceAdd]
    refine wpPi_do rfl (fun K hK => ?_)
    refine wp_enterQ (run_call 22 [.tmp 12, .const (.int .i64 0)] _ rfl _ Tryz.func22 rfl (by kernel_rfl) [v3, .int .i64 ((0 : Nat) : Int)] rfl _) (digest_any _ 256 0 ls v3 _ rfl hl3 (placed_of hsr HC.out) (by rw [sorted_len hsr]; omega)) ?_
    rintro e w4 ⟨rfl, hm4⟩
    have hM4 := (hM2.trans0 hm3).trans0 hm4
    replace hB1 := (hm3.trans0 hm4).obj id hB1
    have hd : dig 256 0 ls = rootOut es := by rw [HO.out]; exact dig_perm 256 0 hsr.1
    rw [hd]
    have hrs : (idCells (rootOut es)).size = 32 := by rw [idCells_size, ← hd]; exact dig_len rfl ((lie_of_chk HC.out).perm hsr.1.symm)
    refine ⟨_, rfl, hK _ _ trivial ?_⟩
    clear hK K hm3 hm4 hd
    try simp only [pl, pn, el, ec, sz, ss, gz, gs, if_true, if_false, Bool.false_eq_true, Bool.not_true, Bool.not_false, Nat.add_zero, Nat.zero_add, Nat.reduceAdd]
    refine wpPi_do rfl (fun K hK => ?_)
    refine wp_storeA 24 _ _ w.heap.size 0 (idCells (rootOut es)) (by rfl) (by rfl) (by rfl) (idCells_one _) 32 (by kernel_rfl) hrs _ _ hB1 (by rw [hrs, idCells_size]; simp) (fun w5 hB5 hm5 => ?_)
    rw [putRow_whole (by rw [hrs, idCells_size]; rfl)] at hB5
    refine hK _ _ trivial ?_
    clear hK K
    try simp only [pl, pn, el, ec, sz, ss, gz, gs, if_true, if_false, Bool.false_eq_true, Bool.not_true, Bool.not_false, Nat.add_zero, Nat.zero_add, Nat.reduceAdd]
    refine wpPi_assign _ rfl rfl ?_
    simp only [pl, pn, el, ec, sz, ss, gz, gs, if_true, if_false, Bool.false_eq_true, Bool.not_true, Bool.not_false, Nat.add_zero, Nat.zero_add, Nat.reduceAdd]
    refine wpPi_nil ?_
    have hM5 : Mod NoB w w5 := hM4.transB hm5 (Nat.le_refl _)
    clear hm5 hB1 hM4 hM2
    go_wp2
    refine bodyPost_ret (results_row_tmp (P := Tryz.prog) (ty := 24) rfl _ _ w.heap.size _ _ _ _ (by rfl) hB5 Tryz.underlying24 rfl (by rw [hrs]; kernel_rfl)) rfl ?_
    exact ⟨by rw [HC.out]; rfl, hM5⟩
  · have ho : rootOut es = zeroID := by unfold rootOut; rw [if_neg hc]
    have hc2 : ¬ ((chkE es : Nat) : Int) = 0 := by omega
    have HO := Lib.hid ho
    clear ho hc
    have hrs : (idCells zeroID).size = 32 := by kernel_rfl
    go_upto_region 3 with (fail)
    refine wp_region_seq [0, 3, 1, 3] (fun _ => True) (by rfl) (by rfl) trivial ?_
    simp only [List.zip_cons_cons, List.zip_nil_right]
    refine wpPi_val rfl (fun w' hS => exec_build_of 24 [] [] (idCells zeroID) (by rfl) (by rfl) built_zero) ?_
    simp only [pl, pn, el, ec, sz, ss, gz, gs, if_true, if_false, Bool.false_eq_true, Bool.not_true, Bool.not_false, Nat.add_zero, Nat.zero_add, Nat.reduceAdd]
    refine wpPi_move _ rfl rfl ?_
    simp only [pl, pn, el, ec, sz, ss, gz, gs, if_true, if_false, Bool.false_eq_true, Bool.not_true, Bool.not_false, Nat.add_zero, Nat.zero_add, Nat.reduceAdd]
    refine wpPi_do rfl (fun K hK => ?_)
    refine wp_storeA 24 _ _ w.heap.size 0 (idCells zeroID) (by rfl) (by rfl) (by rfl) (idCells_one _) 32 (by kernel_rfl) hrs _ _ hB1 (by rw [hrs, idCells_size]; simp) (fun w5 hB5 hm5 => ?_)
    rw [putRow_whole (by rw [hrs, idCells_size]; rfl)] at hB5
    refine hK _ _ trivial ?_
    clear hK K
    try simp only [pl, pn, el, ec, sz, ss, gz, gs, if_true, if_false, Bool.false_eq_true, Bool.not_true, Bool.not_false, Nat.add_zero, Nat.zero_add, Nat.reduceAdd]
    refine wpPi_assign _ rfl rfl ?_
    simp only [pl, pn, el, ec, sz, ss, gz, gs, if_true, if_false, Bool.false_eq_true, Bool.not_true, Bool.not_false, Nat.add_zero, Nat.zero_add, Nat.reduceAdd]
    refine wpPi_nil ?_
    have hM5 : Mod NoB w w5 := hM2.transB hm5 (Nat.le_refl _)
    clear hm5 hB1 hM2
    go_wp2
    refine bodyPost_ret (results_row_tmp (P := Tryz.prog) (ty := 24) rfl _ _ w.heap.size _ _ _ _ (by rfl) hB5 Tryz.underlying24 rfl (by rw [hrs]; kernel_rfl)) rfl ?_
    exact ⟨by rw [HO.out]; rfl, hM5⟩
theorem pairZ : (Tryz.prog.info? 101).bind (·.zero) = some (.agg #[.slice none 0 0, .slice none 0 0]) := by kernel_rfl
theorem pairPlaces : placesOf Tryz.prog 101 = some [(0, 1), (1, 1)] := by kernel_rfl
theorem built_pair (a b : Value) (ha : a.cells.size = 1) (hb : b.cells.size = 1) (ha' : a.cells = #[a]) (hb' : b.cells = #[b]) : Tryz.prog.built 101 [(0, a), (1, b)] = some #[a, b] := by
  rw [built_struct pairZ pairPlaces, fill_cons (off := 0) (size := 1) rfl ha (by simp), fill_cons (off := 1) (size := 1) rfl hb (by simp [ha', putRow]), fill_nil, ha', hb']
  rfl
set_option maxRecDepth 10000 in
theorem turnedP_any (a1 a2 : Option Addr) (n1 n2 c1 c2 : Nat) (w : World) : Calls Tryz.prog 82 #[.agg #[.slice a1 n1 c1, .slice a2 n2 c2]] w (RetM (.agg #[.slice a2 n2 c2, .slice a1 n1 c1]) w) := by
  have hb := built_pair (.slice a2 n2 c2) (.slice a1 n1 c1) rfl rfl rfl rfl
  go_enter Tryz.func82, Tryz.ntmps82
  go_upto_region 0 with (fail)
  refine wp_region_seq [1, 1] (fun _ => True) (by rfl) (by rfl) trivial ?_
  simp only [List.zip_cons_cons, List.zip_nil_right]
  refine wpPi_do rfl (fun K hK => ?_)
  refine wp_box 101 _ _ (by rfl) (by rfl) (fun w1 hB1 hm1 hs1 => ?_)
  replace hB1 : w1.heap[w.heap.size]? = some (.cells #[.slice a1 n1 c1, .slice a2 n2 c2] 101 (0, 0)) := hB1
  refine hK _ _ trivial ?_
  clear hK K
  try simp only [pl, pn, el, ec, sz, ss, gz, gs, if_true, if_false, Bool.false_eq_true, Bool.not_true, Bool.not_false, Nat.add_zero, Nat.zero_add, Nat.reduceAdd]
  refine wpPi_do rfl (fun K hK => ?_)
  refine wp_alloc 101 _ (by rfl) pairZ (fun w2 hB2 hm2 hs2 => ?_)
  replace hB2 : w2.heap[w1.heap.size]? = some (.cells #[.slice none 0 0, .slice none 0 0] 101 (0, 0)) := hB2
  refine hK _ _ trivial ?_
  clear hK K
  try simp only [pl, pn, el, ec, sz, ss, gz, gs, if_true, if_false, Bool.false_eq_true, Bool.not_true, Bool.not_false, Nat.add_zero, Nat.zero_add, Nat.reduceAdd]
  refine wpPi_nil ?_
  have hcw := CellsAt.whole (hm2.obj id hB1)
  have h0 := hcw.cell (j := 0) (v := .slice a1 n1 c1) rfl
  have h1 := hcw.cell (j := 1) (v := .slice a2 n2 c2) rfl
  have hM2 := hm1.trans0 hm2
  generalize hb1 : w.heap.size = b1 at *
  generalize hb2 : w1.heap.size = b2 at *
  clear hm1 hm2 hcw hB1
  go_upto_region 1 with (fail)
  refine wp_region_seq [3, 1, 3, 1, 0, 1] (fun _ => True) (by rfl) (by rfl) trivial ?_
  simp only [List.zip_cons_cons, List.zip_nil_right]
  refine wpPi_field _ _ _ _ _ _ rfl rfl rfl fo_101_1 ?_
  simp only [pl, pn, el, ec, sz, ss, gz, gs, if_true, if_false, Bool.false_eq_true, Bool.not_true, Bool.not_false, Nat.add_zero, Nat.zero_add, Nat.reduceAdd]
  refine wpPi_do rfl (fun K hK => ?_)
  refine wp_exec (exec_load1 49 _ (by rfl) b1 1 (by rfl) _ h1 _ Tryz.underlying49 rfl) ?_
  refine hK _ _ trivial ?_
  clear hK K
  try simp only [pl, pn, el, ec, sz, ss, gz, gs, if_true, if_false, Bool.false_eq_true, Bool.not_true, Bool.not_false, Nat.add_zero, Nat.zero_add, Nat.reduceAdd]
  refine wpPi_field _ _ _ _ _ _ rfl rfl rfl fo_101_0 ?_
  simp only [pl, pn, el, ec, sz, ss, gz, gs, if_true, if_false, Bool.false_eq_true, Bool.not_true, Bool.not_false, Nat.add_zero, Nat.zero_add, Nat.reduceAdd]
  refine wpPi_do rfl (fun K hK => ?_)
  refine wp_exec (exec_load1 49 _ (by rfl) b1 0 (by rfl) _ h0 _ Tryz.underlying49 rfl) ?_
  refine hK _ _ trivial ?_
  clear hK K
  try simp only [pl, pn, el, ec, sz, ss, gz, gs, if_true, if_false, Bool.false_eq_true, Bool.not_true, Bool.not_false, Nat.add_zero, Nat.zero_add, Nat.reduceAdd]
  refine wpPi_val rfl (fun w' hS => exec_build_of 101 [(0, _), (1, _)] [(0, .slice a2 n2 c2), (1, .slice a1 n1 c1)] _ (by rfl) (by rfl) hb) ?_
  simp only [pl, pn, el, ec, sz, ss, gz, gs, if_true, if_false, Bool.false_eq_true, Bool.not_true, Bool.not_false, Nat.add_zero, Nat.zero_add, Nat.reduceAdd]
  refine wpPi_do rfl (fun K hK => ?_)
  refine wp_storeA 101 _ _ b2 0 #[.slice a2 n2 c2, .slice a1 n1 c1] (by rfl) (by rfl) (by rfl) (by simp [Value.oneCell']) 2 (by kernel_rfl) rfl _ _ hB2 (by simp) (fun w3 hB3 hm3 => ?_)
  rw [putRow_whole (by rfl)] at hB3
  refine hK _ _ trivial ?_
  clear hK K
  try simp only [pl, pn, el, ec, sz, ss, gz, gs, if_true, if_false, Bool.false_eq_true, Bool.not_true, Bool.not_false, Nat.add_zero, Nat.zero_add, Nat.reduceAdd]
  refine wpPi_nil ?_
  have hM3 : Mod NoB w w3 := hM2.transB hm3 (by omega)
  clear hm3 hB2
  go_wp2
  refine bodyPost_ret (results_cell_row rfl _ _ b2 _ _ _ _ (by rfl) hB3 Tryz.underlying101 rfl (by kernel_rfl)) rfl ?_
  exact ⟨rfl, hM3⟩
end Go.Proofs.YtchkikmmcmjcgaaGreat
