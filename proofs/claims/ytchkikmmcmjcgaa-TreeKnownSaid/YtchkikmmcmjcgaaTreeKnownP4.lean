/- What the statement TreeKnown needs, part 4. -/
import Derived.Laws.StructEq
import Derived.Test.YtchkikmmcmjcgaaTreeKnownP3
/- Leaves compared: slices.Index, slices.Contains; which leaves are lacking. -/
namespace Go.Proofs.Ytchkikmmcmjcgaa
set_option linter.unusedSimpArgs false
set_option linter.unusedVariables false
set_option linter.unnecessarySimpa false
set_option linter.unusedSectionVars false
open Go.RowKit Go.Shelf


theorem isAggStringT (w : World) : (isAgg 9).run Try.prog w = .ok false w := by
  unfold isAgg
  rw [Sem.run_bind, run_underlying Try.underlying9 w]; rfl
theorem isAggIDT (w : World) : (isAgg 38).run Try.prog w = .ok true w := by
  unfold isAgg
  rw [Sem.run_bind, run_underlying Try.underlying38 w]; rfl
theorem sizeIDT (w : World) : (sizeOf 38).run Try.prog w = .ok 32 w := sizeOf_of (by kernel_rfl) w
theorem sizeU8T (w : World) : (sizeOf 5).run Try.prog w = .ok 1 w := sizeOf_of (by kernel_rfl) w
theorem part_key (x : Leaf) (w : World) : (part 9 (leafCells x) 0).run Try.prog w = .ok (.string x.key) w := by
  unfold part
  rw [Sem.run_bind, isAggStringT w]
  have e : (leafCells x)[0]? = some (.string x.key) := by
    rw [← Array.getElem?_toList]; simp [leafCells]
  simp [e]
theorem part_way {x : Leaf} (h : LeafOk x) (w : World) : (part 38 (leafCells x) 1).run Try.prog w = .ok (.agg (idCells x.way)) w := by
  have hx : (leafCells x).extract 1 (1 + 32) = idCells x.way := by
    simp only [leafCells, idCells, List.extract_toArray, List.extract_eq_take_drop]
    congr 1
    simp [h.1]
  unfold part
  rw [Sem.run_bind, isAggIDT w]
  simp [sizeIDT, hx]
theorem part_val {x : Leaf} (h : LeafOk x) (w : World) : (part 38 (leafCells x) 33).run Try.prog w = .ok (.agg (idCells x.val)) w := by
  have hx : (leafCells x).extract 33 (33 + 32) = idCells x.val := by
    simp only [leafCells, idCells, List.extract_toArray, List.extract_eq_take_drop]
    congr 1
    have h1 : (Value.string x.key :: (List.map byteV x.way ++ List.map byteV x.val)).drop 33 = List.map byteV x.val := by
      rw [List.drop_succ_cons, List.drop_append_of_le_length (by simp [h.1]), List.drop_of_length_le (by simp [h.1])]; rfl
    rw [h1, List.take_of_length_le (by simp [h.2])]
  unfold part
  rw [Sem.run_bind, isAggIDT w]
  simp [sizeIDT, hx]
theorem run_eql_leaf {x y : Leaf} (hx : LeafOk x) (hy : LeafOk y) (w : World) : (binOp .eql 63 (.agg (leafCells x)) (.agg (leafCells y))).run Try.prog w = .ok (.bool (decide (x = y))) w := by
  have hp : Try.prog.stoodInHeld 63 = false := by kernel_rfl
  have hS : Try.prog.underlying 63 = some (.struct (Try.prog.fieldsOf 63)) := by kernel_rfl
  rw [run_eql_struct, show (10000 : Nat) = 9999 + 1 from rfl, run_equalIn_struct w 9999 63 _ _ hS hp]
  simp only [Program.fieldsOf, Try.underlying63]
  have he : ∀ (a b : List UInt8), a.length = 32 → b.length = 32 → (Op.equalIn 9999 38 (.agg (idCells a)) (.agg (idCells b))).run Try.prog w = .ok (a == b) w := fun a b ha hb => run_equalIn_bytes w 9997 38 5 32 Try.underlying38 Try.underlying5 (fun w => sizeU8T w) a b ha hb
  have he1 := he x.way y.way hx.1 hy.1
  have he2 := he x.val y.val hx.2 hy.2
  simp [Op.eqFields, part_key, part_way hx, part_way hy, part_val hx, part_val hy, run_equalIn_string w 9998 9 _ _ Try.underlying9, he1, he2]
  have hk : x.key.toList = y.key.toList ↔ x.key = y.key := by
    rw [ByteArray.toList_eq, ByteArray.toList_eq]
    exact ⟨fun h => ByteArray.ext (Array.toList_inj.1 h), fun h => by rw [h]⟩
  have hd : (x = y) ↔ x.key = y.key ∧ x.way = y.way ∧ x.val = y.val := by cases x; cases y; simp
  have e : decide (x = y) = (decide (x.key = y.key) && (decide (x.way = y.way) && decide (x.val = y.val))) := by rw [Bool.eq_iff_iff]; simp [hd]
  rw [e]
  by_cases h1 : x.key = y.key <;> by_cases h2 : x.way = y.way <;> by_cases h3 : x.val = y.val <;> simp [hk, h1, h2, h3]
theorem exec_eql_leaf {w : World} {o : Oper} {a : Act} (x y : Operand) (yt : TypeId) (ho : o.op = .binOp .eql 63 x y yt) (u v : Leaf) (hx : a.eval x = .agg (leafCells u)) (hy : a.eval y = .agg (leafCells v)) (hu : LeafOk u) (hv : LeafOk v) (b : Bool) (hb : decide (u = v) = b) :
    (execOp a.eval o).run Try.prog w = .ok (.value (.bool b)) w := by
  subst hb
  have h1 := run_eqGuard_agg (P := Try.prog) w .eql 63 x y (leafCells u) (leafCells v) (by kernel_rfl)
  unfold execOp
  simp only [ho, hx, hy, Sem.run_bind, h1, Result.andThen_ok, run_eql_leaf hu hv, Sem.run_pure]
def IdxRel (x : Leaf) (l : List Leaf) (w0 : World) (i : Value) (w : World) : Prop := ∃ k : Nat, k ≤ l.length ∧ i = .int .i64 k ∧ (∀ j (_ : j < k) (h : j < l.length), x ≠ l[j]) ∧ Mod NoB w0 w
def IdxR (x : Leaf) (l : List Leaf) (w : World) : Ending → World → Prop := fun e w' => ∃ r : Int, e = .returned (.int .i64 r) ∧ (0 ≤ r ↔ x ∈ l) ∧ Mod NoB w w'
set_option maxRecDepth 10000 in
theorem indexL_any {w : World} {G : Nat → Prop} {v : Value} {l : List Leaf} (h : Ls w G v l) (x : Leaf) (hx : LeafOk x) : Calls Try.prog 101 #[v, .agg (leafCells x)] w (IdxR x l w) := by
  have HS := Lib.hid h
  obtain ⟨ad, cap, rfl, hlm, -⟩ := Sl.at h
  have hxs := leafCells_size hx
  obtain ⟨C, hC⟩ : ∃ C, leafCells x = C := ⟨_, rfl⟩
  have HC := Lib.hid hC
  rw [hC] at hxs ⊢
  clear h hC
  go_enter Try.func101, Try.ntmps101
  go_upto_region 0 with (fail)
  refine wp_region_seq [1, 3] (fun _ => True) (by rfl) (by rfl) trivial ?_
  simp only [List.zip_cons_cons, List.zip_nil_right]
  refine wpPi_do rfl (fun K hK => ?_)
  refine wp_box 63 _ _ (by rfl) (by rfl) (fun w1 hB1 hm1 hs1 => ?_)
  replace hB1 : w1.heap[w.heap.size]? = some (.cells C 63 (0, 0)) := hB1
  refine hK _ _ trivial ?_
  clear hK K
  try simp only [pl, pn, el, ec, sz, ss, gz, gs, if_true, if_false, Bool.false_eq_true, Bool.not_true, Bool.not_false, Nat.add_zero, Nat.zero_add, Nat.reduceAdd]
  refine wpPi_assign _ rfl rfl ?_
  simp only [pl, pn, el, ec, sz, ss, gz, gs, if_true, if_false, Bool.false_eq_true, Bool.not_true, Bool.not_false, Nat.add_zero, Nat.zero_add, Nat.reduceAdd]
  refine wpPi_nil ?_
  have HS1 := Lib.hid (HS.out.keep0 hm1)
  have hcb := CellsAt.whole hB1
  generalize w.heap.size = b3 at *
  clear hB1
  go_wp2
  go_loopw [8] (IdxRel x l w1) (fun i _ => l.length - (intOf i).toNat)
  case atStart => exact ⟨0, by omega, rfl, fun j h1 h2 => by omega, Mod.refl _ _⟩
  case round =>
    rename World => wr
    obtain ⟨k, hk, rfl, hne, hm⟩ := hrel
    have HNE := Lib.hid hne
    clear hne
    by_cases hlt : k < l.length
    · have hz : (k : Int) < (l.length : Int) := by omega
      obtain ⟨_, _, hv, -, hat⟩ := Sl.at (HS1.out.keep0 hm)
      cases hv
      obtain ⟨b, off, rfl, -, -, hc⟩ := hat k hlt
      obtain ⟨_, -, ⟨rfl, hok⟩, hc⟩ := hc k hlt
      have hys := leafCells_size hok
      have hcb' := hcb.keep hm id
      by_cases heq : x = l[k]
      · have hmem : x ∈ l := by rw [heq]; exact List.getElem_mem hlt
        generalize l[k] = y at *
        go_upto_region 4 with (fail)
        have hS : Mod NoB wr wr.drew := (Mod.refl _ _).drew
        refine wp_region_pi [(0, 0), (1, 3), (2, 3), (3, 3), (4, 0), (5, 0)] [] (fun w' => Mod NoB wr w') (by kernel_rfl) (by kernel_rfl) (by kernel_rfl) (by kernel_rfl) (fun _ _ _ _ hd h => ⟨hd.trans h.1, h.2⟩) hS ?_
        simp only [List.map_cons, List.map_nil, List.getD_cons_zero, List.getD_cons_succ]
        refine wpPi_val rfl (fun w' hS => exec_loadA 63 _ (by rfl) b3 0 (by rfl) C (hcb'.keep hS id) _ Try.underlying63 rfl 65 (by kernel_rfl) hxs) ?_
        simp only [pl, pn, el, ec, sz, ss, gz, gs, if_true, if_false, Bool.false_eq_true, Bool.not_true, Bool.not_false, Nat.add_zero, Nat.zero_add, Nat.reduceAdd]
        refine wpPi_move _ rfl rfl ?_
        simp only [pl, pn, el, ec, sz, ss, gz, gs, if_true, if_false, Bool.false_eq_true, Bool.not_true, Bool.not_false, Nat.add_zero, Nat.zero_add, Nat.reduceAdd]
        refine wpPi_move _ rfl rfl ?_
        simp only [pl, pn, el, ec, sz, ss, gz, gs, if_true, if_false, Bool.false_eq_true, Bool.not_true, Bool.not_false, Nat.add_zero, Nat.zero_add, Nat.reduceAdd]
        refine wpPi_index _ _ _ _ _ _ _ _ _ rfl rfl rfl rfl Try.underlying58 (n := 65) (by kernel_rfl) hlt ?_
        simp only [pl, pn, el, ec, sz, ss, gz, gs, if_true, if_false, Bool.false_eq_true, Bool.not_true, Bool.not_false, Nat.add_zero, Nat.zero_add, Nat.reduceAdd]
        refine wpPi_val rfl (fun w' hS => exec_loadA 63 _ (by rfl) b (off + k * 65) (by rfl) (leafCells y) (hc.keep hS id) _ Try.underlying63 rfl 65 (by kernel_rfl) hys) ?_
        simp only [pl, pn, el, ec, sz, ss, gz, gs, if_true, if_false, Bool.false_eq_true, Bool.not_true, Bool.not_false, Nat.add_zero, Nat.zero_add, Nat.reduceAdd]
        refine wpPi_val rfl (fun w' hS => exec_eql_leaf _ _ _ rfl x y (by rw [HC.out]; rfl) rfl hx hok true (decide_eq_true heq)) ?_
        simp only [pl, pn, el, ec, sz, ss, gz, gs, if_true, if_false, Bool.false_eq_true, Bool.not_true, Bool.not_false, Nat.add_zero, Nat.zero_add, Nat.reduceAdd]
        refine wpPi_nil ?_
        have hMq := (hm1.trans0 hm).trans0 hS
        clear hm hS
        go_wp2
        go_ret
        exact ⟨k, rfl, ⟨fun _ => hmem, fun _ => by omega⟩, hMq⟩
      · have hstep : ∀ j (_ : j < k + 1) (h : j < l.length), x ≠ l[j] := fun j h1 h2 => by
          rcases Nat.lt_or_ge j k with h4 | h4
          · exact HNE.out j h4 h2
          · obtain rfl : j = k := by omega
            exact heq
        have HSTEP := Lib.hid hstep
        clear hstep
        generalize l[k] = y at *
        go_upto_region 4 with (fail)
        have hS : Mod NoB wr wr.drew := (Mod.refl _ _).drew
        refine wp_region_pi [(0, 0), (1, 3), (2, 3), (3, 3), (4, 0), (5, 0)] [] (fun w' => Mod NoB wr w') (by kernel_rfl) (by kernel_rfl) (by kernel_rfl) (by kernel_rfl) (fun _ _ _ _ hd h => ⟨hd.trans h.1, h.2⟩) hS ?_
        simp only [List.map_cons, List.map_nil, List.getD_cons_zero, List.getD_cons_succ]
        refine wpPi_val rfl (fun w' hS => exec_loadA 63 _ (by rfl) b3 0 (by rfl) C (hcb'.keep hS id) _ Try.underlying63 rfl 65 (by kernel_rfl) hxs) ?_
        simp only [pl, pn, el, ec, sz, ss, gz, gs, if_true, if_false, Bool.false_eq_true, Bool.not_true, Bool.not_false, Nat.add_zero, Nat.zero_add, Nat.reduceAdd]
        refine wpPi_move _ rfl rfl ?_
        simp only [pl, pn, el, ec, sz, ss, gz, gs, if_true, if_false, Bool.false_eq_true, Bool.not_true, Bool.not_false, Nat.add_zero, Nat.zero_add, Nat.reduceAdd]
        refine wpPi_move _ rfl rfl ?_
        simp only [pl, pn, el, ec, sz, ss, gz, gs, if_true, if_false, Bool.false_eq_true, Bool.not_true, Bool.not_false, Nat.add_zero, Nat.zero_add, Nat.reduceAdd]
        refine wpPi_index _ _ _ _ _ _ _ _ _ rfl rfl rfl rfl Try.underlying58 (n := 65) (by kernel_rfl) hlt ?_
        simp only [pl, pn, el, ec, sz, ss, gz, gs, if_true, if_false, Bool.false_eq_true, Bool.not_true, Bool.not_false, Nat.add_zero, Nat.zero_add, Nat.reduceAdd]
        refine wpPi_val rfl (fun w' hS => exec_loadA 63 _ (by rfl) b (off + k * 65) (by rfl) (leafCells y) (hc.keep hS id) _ Try.underlying63 rfl 65 (by kernel_rfl) hys) ?_
        simp only [pl, pn, el, ec, sz, ss, gz, gs, if_true, if_false, Bool.false_eq_true, Bool.not_true, Bool.not_false, Nat.add_zero, Nat.zero_add, Nat.reduceAdd]
        refine wpPi_val rfl (fun w' hS => exec_eql_leaf _ _ _ rfl x y (by rw [HC.out]; rfl) rfl hx hok false (decide_eq_false heq)) ?_
        simp only [pl, pn, el, ec, sz, ss, gz, gs, if_true, if_false, Bool.false_eq_true, Bool.not_true, Bool.not_false, Nat.add_zero, Nat.zero_add, Nat.reduceAdd]
        refine wpPi_nil ?_
        have hMq := hm.trans0 hS
        clear hm hS
        go_wp2
        go_roundw
        case rel => exact ⟨k + 1, by omega, by go_num, HSTEP.out, hMq⟩
        case measure => simp [intOf]; omega
    · have hz : ¬ (k : Int) < (l.length : Int) := by omega
      have hnm : x ∉ l := fun hm => by
        obtain ⟨j, hj, e⟩ := List.getElem_of_mem hm
        exact HNE.out j (by omega) hj e.symm
      have hMq := hm1.trans0 hm
      clear hm
      go_wp2
      go_ret
      exact ⟨-1, rfl, ⟨fun h => by omega, fun h => absurd h hnm⟩, hMq⟩
set_option maxRecDepth 10000 in
theorem containsL_any {w : World} {G : Nat → Prop} {v : Value} {l : List Leaf} (h : Ls w G v l) (x : Leaf) (hx : LeafOk x) : Calls Try.prog 71 #[v, .agg (leafCells x)] w (RetM (.bool (decide (x ∈ l))) w) := by
  have HS := Lib.hid h
  obtain ⟨ad, cap, rfl, -, -⟩ := Sl.at h
  have hxs := leafCells_size hx
  obtain ⟨C, hC⟩ : ∃ C, leafCells x = C := ⟨_, rfl⟩
  have HC := Lib.hid hC
  rw [hC] at hxs ⊢
  clear h hC
  go_enter Try.func71, Try.ntmps71
  go_upto_region 0 with (fail)
  refine wp_region_seq [1, 3] (fun _ => True) (by rfl) (by rfl) trivial ?_
  simp only [List.zip_cons_cons, List.zip_nil_right]
  refine wpPi_do rfl (fun K hK => ?_)
  refine wp_box 63 _ _ (by rfl) (by rfl) (fun w1 hB1 hm1 hs1 => ?_)
  replace hB1 : w1.heap[w.heap.size]? = some (.cells C 63 (0, 0)) := hB1
  refine hK _ _ trivial ?_
  clear hK K
  try simp only [pl, pn, el, ec, sz, ss, gz, gs, if_true, if_false, Bool.false_eq_true, Bool.not_true, Bool.not_false, Nat.add_zero, Nat.zero_add, Nat.reduceAdd]
  refine wpPi_assign _ rfl rfl ?_
  simp only [pl, pn, el, ec, sz, ss, gz, gs, if_true, if_false, Bool.false_eq_true, Bool.not_true, Bool.not_false, Nat.add_zero, Nat.zero_add, Nat.reduceAdd]
  refine wpPi_nil ?_
  have hcb := CellsAt.whole hB1
  generalize w.heap.size = b3 at *
  clear hB1
  go_upto_region 1 with (fail)
  refine wp_region_seq [3, 1, 1, 3, 3] (fun _ => True) (by rfl) (by rfl) trivial ?_
  simp only [List.zip_cons_cons, List.zip_nil_right]
  refine wpPi_move _ rfl rfl ?_
  simp only [pl, pn, el, ec, sz, ss, gz, gs, if_true, if_false, Bool.false_eq_true, Bool.not_true, Bool.not_false, Nat.add_zero, Nat.zero_add, Nat.reduceAdd]
  refine wpPi_do rfl (fun K hK => ?_)
  refine wp_exec (exec_loadA 63 _ (by rfl) b3 0 (by rfl) C hcb _ Try.underlying63 rfl 65 (by kernel_rfl) hxs) ?_
  refine hK _ _ trivial ?_
  clear hK K
  try simp only [pl, pn, el, ec, sz, ss, gz, gs, if_true, if_false, Bool.false_eq_true, Bool.not_true, Bool.not_false, Nat.add_zero, Nat.zero_add, Nat.reduceAdd]
  refine wpPi_do rfl (fun K hK => ?_)
  refine wp_enterQ (run_call 101 [.tmp 5, .tmp 6] _ rfl _ Try.func101 rfl (by kernel_rfl) [.slice ad l.length cap, .agg C] rfl _) (by rw [← HC.out]; exact indexL_any (HS.out.keep0 hm1) x hx) ?_
  rintro e w2 ⟨r, rfl, hr, hm2⟩
  have hM2 := hm1.trans0 hm2
  refine ⟨_, rfl, hK _ _ trivial ?_⟩
  clear hK K
  try simp only [pl, pn, el, ec, sz, ss, gz, gs, if_true, if_false, Bool.false_eq_true, Bool.not_true, Bool.not_false, Nat.add_zero, Nat.zero_add, Nat.reduceAdd]
  refine wpPi_cmp _ _ _ _ _ _ _ _ rfl rfl rfl rfl rfl (decide (x ∈ l)) (by simp only [cmpB]; rw [decide_eq_decide]; exact hr) ?_
  simp only [pl, pn, el, ec, sz, ss, gz, gs, if_true, if_false, Bool.false_eq_true, Bool.not_true, Bool.not_false, Nat.add_zero, Nat.zero_add, Nat.reduceAdd]
  refine wpPi_assign _ rfl rfl ?_
  simp only [pl, pn, el, ec, sz, ss, gz, gs, if_true, if_false, Bool.false_eq_true, Bool.not_true, Bool.not_false, Nat.add_zero, Nat.zero_add, Nat.reduceAdd]
  refine wpPi_nil ?_
  go_wp2
  go_ret
  exact ⟨rfl, hM2⟩
end Go.Proofs.Ytchkikmmcmjcgaa

/- tree.lacks, tree.differ: which keys differ at a place. -/
namespace Go.Proofs.Ytchkikmmcmjcgaa
set_option linter.unusedSimpArgs false
set_option linter.unusedVariables false
set_option linter.unnecessarySimpa false
set_option linter.unusedSectionVars false
open Go.RowKit Go.Shelf

theorem fo_63_0 : fieldOff Try.prog 63 0 = some 0 := by kernel_rfl
theorem lack_succ {a b : List Leaf} {k : Nat} (h : k < a.length) : lackL (a.take (k + 1)) b = lackL (a.take k) b ++ (if a[k] ∈ b then [] else [a[k].key]) := by
  unfold lackL
  rw [List.take_succ_eq_append_getElem h, List.filter_append, List.map_append]
  by_cases hb : a[k] ∈ b <;> simp [hb]
def LackRel (a b : List Leaf) (base : Nat) (w0 : World) (v i : Value) (w : World) : Prop := ∃ k : Nat, k ≤ a.length ∧ i = .int .i64 k ∧ Gat strEnc 9 1 base w v (lackL (a.take k) b) ∧ Mod NoB w0 w
def KeysR (w : World) (l : List ByteArray) : Ending → World → Prop := fun e w' => ∃ v, e = .returned v ∧ Gat strEnc 9 1 w.heap.size w' v l ∧ Mod NoB w w'
set_option maxRecDepth 10000 in
set_option maxHeartbeats 1000000 in
theorem lacks_any {w : World} {G G' : Nat → Prop} {va vb : Value} {a b : List Leaf} (ha : Ls w G va a) (hb : Ls w G' vb b) (hal : a.length ≤ 1000000) : Calls Try.prog 52 #[.agg #[va, vb]] w (KeysR w (lackL a b)) := by
  have HA := Lib.hid ha
  have HB := Lib.hid hb
  obtain ⟨aa, ca, rfl, -, -⟩ := Sl.at ha
  obtain ⟨ab, cb, rfl, -, -⟩ := Sl.at hb
  have hz32 : (leafCells zeroLeaf).size = 65 := by kernel_rfl
  clear ha hb
  go_enter Try.func52, Try.ntmps52
  go_upto_region 0 with (fail)
  refine wp_region_seq [1, 3] (fun _ => True) (by rfl) (by rfl) trivial ?_
  simp only [List.zip_cons_cons, List.zip_nil_right]
  refine wpPi_do rfl (fun K hK => ?_)
  refine wp_box 61 _ _ (by rfl) (by rfl) (fun w1 hB1 hm1 hs1 => ?_)
  replace hB1 : w1.heap[w.heap.size]? = some (.cells #[.slice aa a.length ca, .slice ab b.length cb] 61 (0, 0)) := hB1
  refine hK _ _ trivial ?_
  clear hK K
  try simp only [pl, pn, el, ec, sz, ss, gz, gs, if_true, if_false, Bool.false_eq_true, Bool.not_true, Bool.not_false, Nat.add_zero, Nat.zero_add, Nat.reduceAdd]
  refine wpPi_assign _ rfl rfl ?_
  simp only [pl, pn, el, ec, sz, ss, gz, gs, if_true, if_false, Bool.false_eq_true, Bool.not_true, Bool.not_false, Nat.add_zero, Nat.zero_add, Nat.reduceAdd]
  refine wpPi_nil ?_
  have hcw := CellsAt.whole hB1
  have h0 := hcw.cell (j := 0) (v := .slice aa a.length ca) rfl
  have h1 := hcw.cell (j := 1) (v := .slice ab b.length cb) rfl
  have hsz0 : w.heap.size ≤ w1.heap.size := hm1.size
  generalize hb1 : w.heap.size = b1 at *
  clear hcw hB1
  go_upto_region 1 with (fail)
  refine wp_region_seq [3, 1, 3, 3] (fun _ => True) (by rfl) (by rfl) trivial ?_
  simp only [List.zip_cons_cons, List.zip_nil_right]
  refine wpPi_field _ _ _ _ _ _ rfl rfl rfl fo_61_0 ?_
  simp only [pl, pn, el, ec, sz, ss, gz, gs, if_true, if_false, Bool.false_eq_true, Bool.not_true, Bool.not_false, Nat.add_zero, Nat.zero_add, Nat.reduceAdd]
  refine wpPi_do rfl (fun K hK => ?_)
  refine wp_exec (exec_load1 58 _ (by rfl) b1 0 (by rfl) _ h0 _ Try.underlying58 rfl) ?_
  refine hK _ _ trivial ?_
  clear hK K
  try simp only [pl, pn, el, ec, sz, ss, gz, gs, if_true, if_false, Bool.false_eq_true, Bool.not_true, Bool.not_false, Nat.add_zero, Nat.zero_add, Nat.reduceAdd]
  refine wpPi_len _ _ _ _ _ rfl rfl rfl (by kernel_rfl) ?_
  simp only [pl, pn, el, ec, sz, ss, gz, gs, if_true, if_false, Bool.false_eq_true, Bool.not_true, Bool.not_false, Nat.add_zero, Nat.zero_add, Nat.reduceAdd]
  refine wpPi_move _ rfl rfl ?_
  simp only [pl, pn, el, ec, sz, ss, gz, gs, if_true, if_false, Bool.false_eq_true, Bool.not_true, Bool.not_false, Nat.add_zero, Nat.zero_add, Nat.reduceAdd]
  refine wpPi_nil ?_
  clear h0
  go_wp2
  go_loopw [2, 8] (LackRel a b w1.heap.size w1) (fun _ i _ => a.length - (intOf i).toNat)
  case atStart => exact ⟨0, by omega, rfl, Gat.nil _ _ _ _ _, Mod.refl _ _⟩
  case round =>
    rename World => wr
    obtain ⟨k, hk, rfl, hg, hm⟩ := hrel
    have HG := Lib.hid hg
    obtain ⟨ad2, cap2, rfl⟩ := hg.slice
    clear hg
    by_cases hlt : k < a.length
    · have hz : (k : Int) < (a.length : Int) := by omega
      obtain ⟨_, _, hv, -, hat⟩ := Sl.at (HA.out.keep0 (hm1.trans0 hm))
      cases hv
      obtain ⟨bq, off, rfl, -, -, hc⟩ := hat k hlt
      obtain ⟨_, -, ⟨rfl, hok⟩, hc⟩ := hc k hlt
      have hxs := leafCells_size hok
      have hls := lack_succ (b := b) hlt
      have hlk := lack_len (a.take k) b
      have hkl : (a.take k).length = k := by simp; omega
      have HLS := Lib.hid hls
      have hnl : (lackL (a.take k) b).length ≤ 1000000 := by omega
      clear hat hls hlk hkl
      generalize a[k] = x at *
      go_upto_region 3 with (fail)
      refine wp_region_seq [3, 1, 1, 1] (fun _ => True) (by rfl) (by rfl) trivial ?_
      simp only [List.zip_cons_cons, List.zip_nil_right]
      refine wpPi_index _ _ _ _ _ _ _ _ _ rfl rfl rfl rfl Try.underlying58 (n := 65) (by kernel_rfl) hlt ?_
      simp only [pl, pn, el, ec, sz, ss, gz, gs, if_true, if_false, Bool.false_eq_true, Bool.not_true, Bool.not_false, Nat.add_zero, Nat.zero_add, Nat.reduceAdd]
      refine wpPi_do rfl (fun K hK => ?_)
      refine wp_exec (exec_loadA 63 _ (by rfl) bq (off + k * 65) (by rfl) (leafCells x) hc _ Try.underlying63 rfl 65 (by kernel_rfl) hxs) ?_
      refine hK _ _ trivial ?_
      clear hK K
      try simp only [pl, pn, el, ec, sz, ss, gz, gs, if_true, if_false, Bool.false_eq_true, Bool.not_true, Bool.not_false, Nat.add_zero, Nat.zero_add, Nat.reduceAdd]
      refine wpPi_do rfl (fun K hK => ?_)
      refine wp_alloc 63 _ (by rfl) leafZ (fun w2 hB2 hm2 hs2 => ?_)
      replace hB2 : w2.heap[wr.heap.size]? = some (.cells (leafCells zeroLeaf) 63 (0, 0)) := hB2
      refine hK _ _ trivial ?_
      clear hK K
      try simp only [pl, pn, el, ec, sz, ss, gz, gs, if_true, if_false, Bool.false_eq_true, Bool.not_true, Bool.not_false, Nat.add_zero, Nat.zero_add, Nat.reduceAdd]
      refine wpPi_do rfl (fun K hK => ?_)
      refine wp_storeA 63 _ _ wr.heap.size 0 (leafCells x) (by rfl) (by rfl) (by rfl) (leafCells_one x) 65 (by kernel_rfl) hxs _ _ hB2 (by rw [hxs, hz32]; exact Nat.le_refl _) (fun w3 hB3 hm3 => ?_)
      rw [putRow_whole (by rw [hxs, hz32])] at hB3
      refine hK _ _ trivial ?_
      clear hK K
      try simp only [pl, pn, el, ec, sz, ss, gz, gs, if_true, if_false, Bool.false_eq_true, Bool.not_true, Bool.not_false, Nat.add_zero, Nat.zero_add, Nat.reduceAdd]
      refine wpPi_nil ?_
      have hM3 := hm2.transB hm3 (Nat.le_refl _)
      have hmw := hm.trans0 hM3
      generalize wr.heap.size = b4 at *
      clear hm2 hm3 hB2 hc
      have hcx := CellsAt.whole hB3
      have hkx := leaf_key hcx
      go_upto_region 4 with (fail)
      by_cases hmem : x ∈ b
      · rw [if_pos hmem, List.append_nil] at HLS
        refine wp_region_seq [3, 1, 1, 1, 3] (fun _ => True) (by rfl) (by rfl) trivial ?_
        simp only [List.zip_cons_cons, List.zip_nil_right]
        refine wpPi_field _ _ _ _ _ _ rfl rfl rfl fo_61_1 ?_
        simp only [pl, pn, el, ec, sz, ss, gz, gs, if_true, if_false, Bool.false_eq_true, Bool.not_true, Bool.not_false, Nat.add_zero, Nat.zero_add, Nat.reduceAdd]
        refine wpPi_do rfl (fun K hK => ?_)
        refine wp_exec (exec_load1 58 _ (by rfl) b1 1 (by rfl) _ (hmw.cell id h1) _ Try.underlying58 rfl) ?_
        refine hK _ _ trivial ?_
        clear hK K
        try simp only [pl, pn, el, ec, sz, ss, gz, gs, if_true, if_false, Bool.false_eq_true, Bool.not_true, Bool.not_false, Nat.add_zero, Nat.zero_add, Nat.reduceAdd]
        refine wpPi_do rfl (fun K hK => ?_)
        refine wp_exec (exec_loadA 63 _ (by rfl) b4 0 (by rfl) (leafCells x) hcx _ Try.underlying63 rfl 65 (by kernel_rfl) hxs) ?_
        refine hK _ _ trivial ?_
        clear hK K
        try simp only [pl, pn, el, ec, sz, ss, gz, gs, if_true, if_false, Bool.false_eq_true, Bool.not_true, Bool.not_false, Nat.add_zero, Nat.zero_add, Nat.reduceAdd]
        refine wpPi_do rfl (fun K hK => ?_)
        refine wp_enterQ (run_call 71 [.tmp 13, .tmp 14] _ rfl _ Try.func71 rfl (by kernel_rfl) [.slice ab b.length cb, .agg (leafCells x)] rfl _) (containsL_any (HB.out.keep0 (hm1.trans0 hmw)) x hok) ?_
        rintro e w4 ⟨rfl, hm4⟩
        rw [decide_eq_true hmem]
        have hM4 := hM3.trans0 hm4
        refine ⟨_, rfl, hK _ _ trivial ?_⟩
        clear hK K
        try simp only [pl, pn, el, ec, sz, ss, gz, gs, if_true, if_false, Bool.false_eq_true, Bool.not_true, Bool.not_false, Nat.add_zero, Nat.zero_add, Nat.reduceAdd]
        refine wpPi_not _ _ _ rfl rfl rfl ?_
        simp only [pl, pn, el, ec, sz, ss, gz, gs, if_true, if_false, Bool.false_eq_true, Bool.not_true, Bool.not_false, Nat.add_zero, Nat.zero_add, Nat.reduceAdd]
        refine wpPi_nil ?_
        have hMr := hm.trans0 hM4
        have hgr := HG.out.keep0 hM4
        clear hm4 hM4 hM3 hmw hm
        go_wp2
        go_roundw
        case rel => exact ⟨k + 1, by omega, by go_num, by rw [HLS.out]; exact hgr, hMr⟩
        case measure => simp [intOf]; omega
      · rw [if_neg hmem] at HLS
        refine wp_region_seq [3, 1, 1, 1, 3] (fun _ => True) (by rfl) (by rfl) trivial ?_
        simp only [List.zip_cons_cons, List.zip_nil_right]
        refine wpPi_field _ _ _ _ _ _ rfl rfl rfl fo_61_1 ?_
        simp only [pl, pn, el, ec, sz, ss, gz, gs, if_true, if_false, Bool.false_eq_true, Bool.not_true, Bool.not_false, Nat.add_zero, Nat.zero_add, Nat.reduceAdd]
        refine wpPi_do rfl (fun K hK => ?_)
        refine wp_exec (exec_load1 58 _ (by rfl) b1 1 (by rfl) _ (hmw.cell id h1) _ Try.underlying58 rfl) ?_
        refine hK _ _ trivial ?_
        clear hK K
        try simp only [pl, pn, el, ec, sz, ss, gz, gs, if_true, if_false, Bool.false_eq_true, Bool.not_true, Bool.not_false, Nat.add_zero, Nat.zero_add, Nat.reduceAdd]
        refine wpPi_do rfl (fun K hK => ?_)
        refine wp_exec (exec_loadA 63 _ (by rfl) b4 0 (by rfl) (leafCells x) hcx _ Try.underlying63 rfl 65 (by kernel_rfl) hxs) ?_
        refine hK _ _ trivial ?_
        clear hK K
        try simp only [pl, pn, el, ec, sz, ss, gz, gs, if_true, if_false, Bool.false_eq_true, Bool.not_true, Bool.not_false, Nat.add_zero, Nat.zero_add, Nat.reduceAdd]
        refine wpPi_do rfl (fun K hK => ?_)
        refine wp_enterQ (run_call 71 [.tmp 13, .tmp 14] _ rfl _ Try.func71 rfl (by kernel_rfl) [.slice ab b.length cb, .agg (leafCells x)] rfl _) (containsL_any (HB.out.keep0 (hm1.trans0 hmw)) x hok) ?_
        rintro e w4 ⟨rfl, hm4⟩
        rw [decide_eq_false hmem]
        have hM4 := hM3.trans0 hm4
        refine ⟨_, rfl, hK _ _ trivial ?_⟩
        clear hK K
        try simp only [pl, pn, el, ec, sz, ss, gz, gs, if_true, if_false, Bool.false_eq_true, Bool.not_true, Bool.not_false, Nat.add_zero, Nat.zero_add, Nat.reduceAdd]
        refine wpPi_not _ _ _ rfl rfl rfl ?_
        simp only [pl, pn, el, ec, sz, ss, gz, gs, if_true, if_false, Bool.false_eq_true, Bool.not_true, Bool.not_false, Nat.add_zero, Nat.zero_add, Nat.reduceAdd]
        refine wpPi_nil ?_
        replace hkx := hm4.cell id hkx
        clear hcx hmw hM3
        go_upto_region 5 with (fail)
        refine wp_region_seq [3, 3, 1, 1, 1, 3] (fun _ => True) (by rfl) (by rfl) trivial ?_
        simp only [List.zip_cons_cons, List.zip_nil_right]
        refine wpPi_move _ rfl rfl ?_
        simp only [pl, pn, el, ec, sz, ss, gz, gs, if_true, if_false, Bool.false_eq_true, Bool.not_true, Bool.not_false, Nat.add_zero, Nat.zero_add, Nat.reduceAdd]
        refine wpPi_field _ _ _ _ _ _ rfl rfl rfl fo_63_0 ?_
        simp only [pl, pn, el, ec, sz, ss, gz, gs, if_true, if_false, Bool.false_eq_true, Bool.not_true, Bool.not_false, Nat.add_zero, Nat.zero_add, Nat.reduceAdd]
        refine wpPi_do rfl (fun K hK => ?_)
        refine wp_exec (exec_load1 9 _ (by rfl) b4 0 (by rfl) (.string x.key) hkx _ Try.underlying9 rfl) ?_
        refine hK _ _ trivial ?_
        clear hK K
        try simp only [pl, pn, el, ec, sz, ss, gz, gs, if_true, if_false, Bool.false_eq_true, Bool.not_true, Bool.not_false, Nat.add_zero, Nat.zero_add, Nat.reduceAdd]
        refine wpPi_do rfl (fun K hK => ?_)
        refine wp_buildSlice1 26 9 _ (.string x.key) (.string ⟨#[]⟩) 1 (by rfl) (by rfl) Try.underlying26 str_i2 (by omega) (by omega) rfl (fun w5 hB5 hm5 hs5 => ?_)
        have hM5 := hM4.trans0 hm5
        refine hK _ _ trivial ?_
        clear hK K
        try simp only [pl, pn, el, ec, sz, ss, gz, gs, if_true, if_false, Bool.false_eq_true, Bool.not_true, Bool.not_false, Nat.add_zero, Nat.zero_add, Nat.reduceAdd]
        refine wpPi_do rfl (fun K hK => ?_)
        refine wp_gat strEnc _ _ 26 9 (.string ⟨#[]⟩) 1 16 (by rfl) Try.underlying26 str_i (by kernel_rfl) (by omega) strEnc_one w1.heap.size _ _ (by rfl) (HG.out.keep0 hM5) (.slice (some ⟨w4.heap.size, 0, none⟩) 1 1) [x.key] (by rfl) (src_lit (enc := strEnc) (x := x.key) (e := 9) (fun _ => rfl) hB5) (by simp only [List.length_singleton]; unfold maxLen; omega) (by simp only [List.length_singleton]; omega) (by have := hm.size; have := hM5.size; omega) (fun v6 w6 hg6 hm6 => ?_)
        rw [← HLS.out] at hg6
        refine hK _ _ trivial ?_
        clear hK K
        try simp only [pl, pn, el, ec, sz, ss, gz, gs, if_true, if_false, Bool.false_eq_true, Bool.not_true, Bool.not_false, Nat.add_zero, Nat.zero_add, Nat.reduceAdd]
        refine wpPi_assign _ rfl rfl ?_
        simp only [pl, pn, el, ec, sz, ss, gz, gs, if_true, if_false, Bool.false_eq_true, Bool.not_true, Bool.not_false, Nat.add_zero, Nat.zero_add, Nat.reduceAdd]
        refine wpPi_nil ?_
        have hMr : Mod NoB w1 w6 := (hm.trans0 hM5).trans hm6 (fun k hk e => by have := (HG.out.lt e).1; omega)
        clear hm6 hm5 hM5 hM4 hm4 hm hB5
        go_wp2
        go_roundw
        case rel => exact ⟨k + 1, by omega, by go_num, hg6, hMr⟩
        case measure => simp [intOf]; omega
    · have hz : ¬ (k : Int) < (a.length : Int) := by omega
      obtain rfl : k = a.length := by omega
      simp only [List.take_length] at HG ⊢
      have hMr := hm1.trans0 hm
      have hgr : Gat strEnc 9 1 w.heap.size wr (.slice ad2 (lackL a b).length cap2) (lackL a b) := HG.out.base (by rw [hb1]; exact hsz0)
      clear hm
      go_wp2
      go_ret
      exact ⟨_, rfl, hgr, hMr⟩
end Go.Proofs.Ytchkikmmcmjcgaa

/- tree.differ: which keys differ at a place, and how many places are compared. -/
namespace Go.Proofs.Ytchkikmmcmjcgaa
set_option linter.unusedSimpArgs false
set_option linter.unusedVariables false
set_option linter.unnecessarySimpa false
set_option linter.unusedSectionVars false
open Go.RowKit Go.Shelf


def DifferR (w : World) (p : List ByteArray × Nat) : Ending → World → Prop := fun e w' => ∃ v, e = .returned (.tuple #[v, .int .i64 (p.2 : Int)]) ∧ Gat strEnc 9 1 w.heap.size w' v p.1 ∧ Mod NoB w w'
set_option maxRecDepth 10000 in
set_option maxHeartbeats 1000000 in
theorem differ_same (f i : Nat) (hi : f + i = 256) {w : World} {G G' : Nat → Prop} {va vb : Value} {a b : List Leaf} (ha : Ls w G va a) (hb : Ls w G' vb b) (hpa : Placed i a) (hpb : Placed i b) (hal : a.length ≤ 65536) (hbl : b.length ≤ 65536) (hd : dig f i a = dig f i b) :
    Calls Try.prog 32 #[.agg #[va, vb], .int .i64 (i : Int)] w (DifferR w (dif f i a b)) := by
  rw [dif_same hd]
  have HA := Lib.hid ha
  have HB := Lib.hid hb
  have hda := dig_len hi hpa.lie
  have hdb := dig_len hi hpb.lie
  have hva := Sl.one ha
  have hvb := Sl.one hb
  have HD := Lib.hid hd
  obtain ⟨aa, ca, rfl, -, -⟩ := Sl.at ha
  obtain ⟨ab, cb, rfl, -, -⟩ := Sl.at hb
  clear ha hb hd
  go_enter Try.func32, Try.ntmps32
  go_upto_region 0 with (fail)
  refine wp_region_seq [1, 3, 3] (fun _ => True) (by rfl) (by rfl) trivial ?_
  simp only [List.zip_cons_cons, List.zip_nil_right]
  refine wpPi_do rfl (fun K hK => ?_)
  refine wp_box 61 _ _ (by rfl) (by rfl) (fun w1 hB1 hm1 hs1 => ?_)
  replace hB1 : w1.heap[w.heap.size]? = some (.cells #[.slice aa a.length ca, .slice ab b.length cb] 61 (0, 0)) := hB1
  refine hK _ _ trivial ?_
  clear hK K
  try simp only [pl, pn, el, ec, sz, ss, gz, gs, if_true, if_false, Bool.false_eq_true, Bool.not_true, Bool.not_false, Nat.add_zero, Nat.zero_add, Nat.reduceAdd]
  refine wpPi_assign _ rfl rfl ?_
  simp only [pl, pn, el, ec, sz, ss, gz, gs, if_true, if_false, Bool.false_eq_true, Bool.not_true, Bool.not_false, Nat.add_zero, Nat.zero_add, Nat.reduceAdd]
  refine wpPi_assign _ rfl rfl ?_
  simp only [pl, pn, el, ec, sz, ss, gz, gs, if_true, if_false, Bool.false_eq_true, Bool.not_true, Bool.not_false, Nat.add_zero, Nat.zero_add, Nat.reduceAdd]
  refine wpPi_nil ?_
  have hcw := CellsAt.whole hB1
  have h0 := hcw.cell (j := 0) (v := .slice aa a.length ca) rfl
  have h1 := hcw.cell (j := 1) (v := .slice ab b.length cb) rfl
  generalize hb1 : w.heap.size = b1 at *
  clear hB1 hcw
  go_upto_region 1 with (fail)
  have hS : Mod NoB w1 w1.drew := (Mod.refl _ _).drew
  refine wp_region_pi [(0, 3), (1, 0), (2, 3), (4, 3), (5, 0), (6, 3), (3, 1), (7, 1), (8, 0), (9, 3)] [] (fun w' => Mod NoB w1 w') (by kernel_rfl) (by kernel_rfl) (by kernel_rfl) (by kernel_rfl) (fun _ _ _ _ hd h => ⟨hd.trans h.1, h.2⟩) hS ?_
  simp only [List.map_cons, List.map_nil, List.getD_cons_zero, List.getD_cons_succ]
  refine wpPi_field _ _ _ _ _ _ rfl rfl rfl fo_61_0 ?_
  simp only [pl, pn, el, ec, sz, ss, gz, gs, if_true, if_false, Bool.false_eq_true, Bool.not_true, Bool.not_false, Nat.add_zero, Nat.zero_add, Nat.reduceAdd]
  refine wpPi_val rfl (fun w' hS => exec_load1 58 _ (by rfl) b1 0 (by rfl) _ (hS.cell id h0) _ Try.underlying58 rfl) ?_
  simp only [pl, pn, el, ec, sz, ss, gz, gs, if_true, if_false, Bool.false_eq_true, Bool.not_true, Bool.not_false, Nat.add_zero, Nat.zero_add, Nat.reduceAdd]
  refine wpPi_move _ rfl rfl ?_
  simp only [pl, pn, el, ec, sz, ss, gz, gs, if_true, if_false, Bool.false_eq_true, Bool.not_true, Bool.not_false, Nat.add_zero, Nat.zero_add, Nat.reduceAdd]
  refine wpPi_field _ _ _ _ _ _ rfl rfl rfl fo_61_1 ?_
  simp only [pl, pn, el, ec, sz, ss, gz, gs, if_true, if_false, Bool.false_eq_true, Bool.not_true, Bool.not_false, Nat.add_zero, Nat.zero_add, Nat.reduceAdd]
  refine wpPi_val rfl (fun w' hS => exec_load1 58 _ (by rfl) b1 1 (by rfl) _ (hS.cell id h1) _ Try.underlying58 rfl) ?_
  simp only [pl, pn, el, ec, sz, ss, gz, gs, if_true, if_false, Bool.false_eq_true, Bool.not_true, Bool.not_false, Nat.add_zero, Nat.zero_add, Nat.reduceAdd]
  refine wpPi_move _ rfl rfl ?_
  simp only [pl, pn, el, ec, sz, ss, gz, gs, if_true, if_false, Bool.false_eq_true, Bool.not_true, Bool.not_false, Nat.add_zero, Nat.zero_add, Nat.reduceAdd]
  refine wpPi_do rfl (fun K hK => ?_)
  refine wp_enterQ (run_call 39 [.tmp 14, .tmp 15] _ rfl _ Try.func39 rfl (by kernel_rfl) [.slice aa a.length ca, .int .i64 (i : Int)] rfl _) (digest_any _ f i a _ _ hi (HA.out.keep0 (hm1.trans0 hS)) hpa (by omega)) ?_
  rintro e w2 ⟨rfl, hm2⟩
  have hS2 := hS.trans0 hm2
  refine ⟨_, rfl, hK _ _ hS2 ?_⟩
  clear hK K
  try simp only [pl, pn, el, ec, sz, ss, gz, gs, if_true, if_false, Bool.false_eq_true, Bool.not_true, Bool.not_false, Nat.add_zero, Nat.zero_add, Nat.reduceAdd]
  refine wpPi_do rfl (fun K hK => ?_)
  refine wp_enterQ (run_call 39 [.tmp 18, .tmp 19] _ rfl _ Try.func39 rfl (by kernel_rfl) [.slice ab b.length cb, .int .i64 (i : Int)] rfl _) (digest_any _ f i b _ _ hi (HB.out.keep0 (hm1.trans0 hS2)) hpb (by omega)) ?_
  rintro e w3 ⟨rfl, hm3⟩
  have hS3 := hS2.trans0 hm3
  refine ⟨_, rfl, hK _ _ hS3 ?_⟩
  clear hK K
  try simp only [pl, pn, el, ec, sz, ss, gz, gs, if_true, if_false, Bool.false_eq_true, Bool.not_true, Bool.not_false, Nat.add_zero, Nat.zero_add, Nat.reduceAdd]
  refine wpPi_val rfl (fun w' hS => exec_eql_id _ _ _ _ rfl (dig f i a) (dig f i b) rfl rfl 32 5 Try.underlying38 Try.underlying5 (by kernel_rfl) (by kernel_rfl) hda hdb true (decide_eq_true HD.out)) ?_
  simp only [pl, pn, el, ec, sz, ss, gz, gs, if_true, if_false, Bool.false_eq_true, Bool.not_true, Bool.not_false, Nat.add_zero, Nat.zero_add, Nat.reduceAdd]
  refine wpPi_assign _ rfl rfl ?_
  simp only [pl, pn, el, ec, sz, ss, gz, gs, if_true, if_false, Bool.false_eq_true, Bool.not_true, Bool.not_false, Nat.add_zero, Nat.zero_add, Nat.reduceAdd]
  refine wpPi_nil ?_
  have hM3 := hm1.trans0 hS3
  clear hm1 hm2 hm3 hS hS2 hS3 h0 h1
  go_wp2
  go_ret2
  exact ⟨_, rfl, Gat.nil _ _ _ _ _, hM3⟩
set_option maxRecDepth 10000 in
set_option maxHeartbeats 1000000 in
theorem differ_few (f i : Nat) (hi : f + i = 256) {w : World} {G G' : Nat → Prop} {va vb : Value} {a b : List Leaf} (ha : Ls w G va a) (hb : Ls w G' vb b) (hpa : Placed i a) (hpb : Placed i b) (hal : a.length ≤ 65536) (hbl : b.length ≤ 65536) (hd : dig f i a ≠ dig f i b) (h2 : a.length < 2 ∨ b.length < 2) :
    Calls Try.prog 32 #[.agg #[va, vb], .int .i64 (i : Int)] w (DifferR w (dif f i a b)) := by
  rw [dif_few hd h2]
  have HA := Lib.hid ha
  have HB := Lib.hid hb
  have hda := dig_len hi hpa.lie
  have hdb := dig_len hi hpb.lie
  have hla := lack_len a b
  have hlb := lack_len b a
  have HD := Lib.hid hd
  obtain ⟨aa, ca, rfl, -, -⟩ := Sl.at ha
  obtain ⟨ab, cb, rfl, -, -⟩ := Sl.at hb
  clear ha hb hd
  go_enter Try.func32, Try.ntmps32
  go_upto_region 0 with (fail)
  refine wp_region_seq [1, 3, 3] (fun _ => True) (by rfl) (by rfl) trivial ?_
  simp only [List.zip_cons_cons, List.zip_nil_right]
  refine wpPi_do rfl (fun K hK => ?_)
  refine wp_box 61 _ _ (by rfl) (by rfl) (fun w1 hB1 hm1 hs1 => ?_)
  replace hB1 : w1.heap[w.heap.size]? = some (.cells #[.slice aa a.length ca, .slice ab b.length cb] 61 (0, 0)) := hB1
  refine hK _ _ trivial ?_
  clear hK K
  try simp only [pl, pn, el, ec, sz, ss, gz, gs, if_true, if_false, Bool.false_eq_true, Bool.not_true, Bool.not_false, Nat.add_zero, Nat.zero_add, Nat.reduceAdd]
  refine wpPi_assign _ rfl rfl ?_
  simp only [pl, pn, el, ec, sz, ss, gz, gs, if_true, if_false, Bool.false_eq_true, Bool.not_true, Bool.not_false, Nat.add_zero, Nat.zero_add, Nat.reduceAdd]
  refine wpPi_assign _ rfl rfl ?_
  simp only [pl, pn, el, ec, sz, ss, gz, gs, if_true, if_false, Bool.false_eq_true, Bool.not_true, Bool.not_false, Nat.add_zero, Nat.zero_add, Nat.reduceAdd]
  refine wpPi_nil ?_
  have hcw := CellsAt.whole hB1
  have h0 := hcw.cell (j := 0) (v := .slice aa a.length ca) rfl
  have h1 := hcw.cell (j := 1) (v := .slice ab b.length cb) rfl
  have hsz1 : w.heap.size ≤ w1.heap.size := hm1.size
  generalize hb1 : w.heap.size = b1 at *
  clear hB1
  go_upto_region 1 with (fail)
  have hS : Mod NoB w1 w1.drew := (Mod.refl _ _).drew
  refine wp_region_pi [(0, 3), (1, 0), (2, 3), (4, 3), (5, 0), (6, 3), (3, 1), (7, 1), (8, 0), (9, 3)] [] (fun w' => Mod NoB w1 w') (by kernel_rfl) (by kernel_rfl) (by kernel_rfl) (by kernel_rfl) (fun _ _ _ _ hd h => ⟨hd.trans h.1, h.2⟩) hS ?_
  simp only [List.map_cons, List.map_nil, List.getD_cons_zero, List.getD_cons_succ]
  refine wpPi_field _ _ _ _ _ _ rfl rfl rfl fo_61_0 ?_
  simp only [pl, pn, el, ec, sz, ss, gz, gs, if_true, if_false, Bool.false_eq_true, Bool.not_true, Bool.not_false, Nat.add_zero, Nat.zero_add, Nat.reduceAdd]
  refine wpPi_val rfl (fun w' hS => exec_load1 58 _ (by rfl) b1 0 (by rfl) _ (hS.cell id h0) _ Try.underlying58 rfl) ?_
  simp only [pl, pn, el, ec, sz, ss, gz, gs, if_true, if_false, Bool.false_eq_true, Bool.not_true, Bool.not_false, Nat.add_zero, Nat.zero_add, Nat.reduceAdd]
  refine wpPi_move _ rfl rfl ?_
  simp only [pl, pn, el, ec, sz, ss, gz, gs, if_true, if_false, Bool.false_eq_true, Bool.not_true, Bool.not_false, Nat.add_zero, Nat.zero_add, Nat.reduceAdd]
  refine wpPi_field _ _ _ _ _ _ rfl rfl rfl fo_61_1 ?_
  simp only [pl, pn, el, ec, sz, ss, gz, gs, if_true, if_false, Bool.false_eq_true, Bool.not_true, Bool.not_false, Nat.add_zero, Nat.zero_add, Nat.reduceAdd]
  refine wpPi_val rfl (fun w' hS => exec_load1 58 _ (by rfl) b1 1 (by rfl) _ (hS.cell id h1) _ Try.underlying58 rfl) ?_
  simp only [pl, pn, el, ec, sz, ss, gz, gs, if_true, if_false, Bool.false_eq_true, Bool.not_true, Bool.not_false, Nat.add_zero, Nat.zero_add, Nat.reduceAdd]
  refine wpPi_move _ rfl rfl ?_
  simp only [pl, pn, el, ec, sz, ss, gz, gs, if_true, if_false, Bool.false_eq_true, Bool.not_true, Bool.not_false, Nat.add_zero, Nat.zero_add, Nat.reduceAdd]
  refine wpPi_do rfl (fun K hK => ?_)
  refine wp_enterQ (run_call 39 [.tmp 14, .tmp 15] _ rfl _ Try.func39 rfl (by kernel_rfl) [.slice aa a.length ca, .int .i64 (i : Int)] rfl _) (digest_any _ f i a _ _ hi (HA.out.keep0 (hm1.trans0 hS)) hpa (by omega)) ?_
  rintro e w2 ⟨rfl, hm2⟩
  have hS2 := hS.trans0 hm2
  refine ⟨_, rfl, hK _ _ hS2 ?_⟩
  clear hK K
  try simp only [pl, pn, el, ec, sz, ss, gz, gs, if_true, if_false, Bool.false_eq_true, Bool.not_true, Bool.not_false, Nat.add_zero, Nat.zero_add, Nat.reduceAdd]
  refine wpPi_do rfl (fun K hK => ?_)
  refine wp_enterQ (run_call 39 [.tmp 18, .tmp 19] _ rfl _ Try.func39 rfl (by kernel_rfl) [.slice ab b.length cb, .int .i64 (i : Int)] rfl _) (digest_any _ f i b _ _ hi (HB.out.keep0 (hm1.trans0 hS2)) hpb (by omega)) ?_
  rintro e w3 ⟨rfl, hm3⟩
  have hS3 := hS2.trans0 hm3
  refine ⟨_, rfl, hK _ _ hS3 ?_⟩
  clear hK K
  try simp only [pl, pn, el, ec, sz, ss, gz, gs, if_true, if_false, Bool.false_eq_true, Bool.not_true, Bool.not_false, Nat.add_zero, Nat.zero_add, Nat.reduceAdd]
  refine wpPi_val rfl (fun w' hS => exec_eql_id _ _ _ _ rfl (dig f i a) (dig f i b) rfl rfl 32 5 Try.underlying38 Try.underlying5 (by kernel_rfl) (by kernel_rfl) hda hdb false (decide_eq_false HD.out)) ?_
  simp only [pl, pn, el, ec, sz, ss, gz, gs, if_true, if_false, Bool.false_eq_true, Bool.not_true, Bool.not_false, Nat.add_zero, Nat.zero_add, Nat.reduceAdd]
  refine wpPi_assign _ rfl rfl ?_
  simp only [pl, pn, el, ec, sz, ss, gz, gs, if_true, if_false, Bool.false_eq_true, Bool.not_true, Bool.not_false, Nat.add_zero, Nat.zero_add, Nat.reduceAdd]
  refine wpPi_nil ?_
  have hM3 := hm1.trans0 hS3
  replace hcw := hcw.keep hS3 id
  replace h0 := hS3.cell id h0
  replace h1 := hS3.cell id h1
  have hsz3 := hS3.size
  clear hm1 hm2 hm3 hS hS2 hS3
  generalize dig f i a = da at *
  generalize dig f i b = db at *
  have HN : Hid (2 ≤ a.length → b.length < 2) := fun h => by omega
  clear h2
  by_cases ha2 : (a.length : Int) < 2
  · go_upto_region 3 with (fail)
    refine wp_region_seq [3, 1, 3, 3, 3, 3, 0, 3, 3, 3, 3] (fun _ => True) (by rfl) (by rfl) trivial ?_
    simp only [List.zip_cons_cons, List.zip_nil_right]
    refine wpPi_field _ _ _ _ _ _ rfl rfl rfl fo_61_0 ?_
    simp only [pl, pn, el, ec, sz, ss, gz, gs, if_true, if_false, Bool.false_eq_true, Bool.not_true, Bool.not_false, Nat.add_zero, Nat.zero_add, Nat.reduceAdd]
    refine wpPi_do rfl (fun K hK => ?_)
    refine wp_exec (exec_load1 58 _ (by rfl) b1 0 (by rfl) _ h0 _ Try.underlying58 rfl) ?_
    refine hK _ _ trivial ?_
    clear hK K
    try simp only [pl, pn, el, ec, sz, ss, gz, gs, if_true, if_false, Bool.false_eq_true, Bool.not_true, Bool.not_false, Nat.add_zero, Nat.zero_add, Nat.reduceAdd]
    refine wpPi_len _ _ _ _ _ rfl rfl rfl (by kernel_rfl) ?_
    simp only [pl, pn, el, ec, sz, ss, gz, gs, if_true, if_false, Bool.false_eq_true, Bool.not_true, Bool.not_false, Nat.add_zero, Nat.zero_add, Nat.reduceAdd]
    refine wpPi_any (v := ?_) rfl (fun w' => ?_) ?_; rotate_left; · (go_simp; try with_reducible rfl)
    simp only [pl, pn, el, ec, sz, ss, gz, gs, if_true, if_false, Bool.false_eq_true, Bool.not_true, Bool.not_false, Nat.add_zero, Nat.zero_add, Nat.reduceAdd]
    refine wpPi_move _ rfl rfl ?_
    simp only [pl, pn, el, ec, sz, ss, gz, gs, if_true, if_false, Bool.false_eq_true, Bool.not_true, Bool.not_false, Nat.add_zero, Nat.zero_add, Nat.reduceAdd]
    refine wpPi_skip rfl ?_
    simp only [pl, pn, el, ec, sz, ss, gz, gs, if_true, if_false, Bool.false_eq_true, Bool.not_true, Bool.not_false, Nat.add_zero, Nat.zero_add, Nat.reduceAdd]
    refine wpPi_skip0 rfl ?_
    simp only [pl, pn, el, ec, sz, ss, gz, gs, if_true, if_false, Bool.false_eq_true, Bool.not_true, Bool.not_false, Nat.add_zero, Nat.zero_add, Nat.reduceAdd]
    refine wpPi_skip rfl ?_
    simp only [pl, pn, el, ec, sz, ss, gz, gs, if_true, if_false, Bool.false_eq_true, Bool.not_true, Bool.not_false, Nat.add_zero, Nat.zero_add, Nat.reduceAdd]
    refine wpPi_skip rfl ?_
    simp only [pl, pn, el, ec, sz, ss, gz, gs, if_true, if_false, Bool.false_eq_true, Bool.not_true, Bool.not_false, Nat.add_zero, Nat.zero_add, Nat.reduceAdd]
    refine wpPi_pick _ _ _ _ rfl rfl rfl ?_
    simp only [pl, pn, el, ec, sz, ss, gz, gs, if_true, if_false, Bool.false_eq_true, Bool.not_true, Bool.not_false, Nat.add_zero, Nat.zero_add, Nat.reduceAdd]
    refine wpPi_assign _ rfl rfl ?_
    simp only [pl, pn, el, ec, sz, ss, gz, gs, if_true, if_false, Bool.false_eq_true, Bool.not_true, Bool.not_false, Nat.add_zero, Nat.zero_add, Nat.reduceAdd]
    refine wpPi_nil ?_
    go_upto_region 4 with (fail)
    have hS : Mod NoB w3 w3.drew := (Mod.refl _ _).drew
    refine wp_region_pi [(0, 0), (2, 0), (1, 1), (3, 1), (4, 1), (5, 1), (6, 3), (7, 3)] [] (fun w' => Mod NoB w3 w') (by kernel_rfl) (by kernel_rfl) (by kernel_rfl) (by kernel_rfl) (fun _ _ _ _ hd h => ⟨hd.trans h.1, h.2⟩) hS ?_
    simp only [List.map_cons, List.map_nil, List.getD_cons_zero, List.getD_cons_succ]
    refine wpPi_val rfl (fun w' hS => exec_loadA 61 _ (by rfl) b1 0 (by rfl) _ (hcw.keep hS id) _ Try.underlying61 rfl 2 (by kernel_rfl) rfl) ?_
    simp only [pl, pn, el, ec, sz, ss, gz, gs, if_true, if_false, Bool.false_eq_true, Bool.not_true, Bool.not_false, Nat.add_zero, Nat.zero_add, Nat.reduceAdd]
    refine wpPi_val rfl (fun w' hS => exec_loadA 61 _ (by rfl) b1 0 (by rfl) _ (hcw.keep hS id) _ Try.underlying61 rfl 2 (by kernel_rfl) rfl) ?_
    simp only [pl, pn, el, ec, sz, ss, gz, gs, if_true, if_false, Bool.false_eq_true, Bool.not_true, Bool.not_false, Nat.add_zero, Nat.zero_add, Nat.reduceAdd]
    refine wpPi_do rfl (fun K hK => ?_)
    refine wp_enterQ (run_call 52 [.tmp 33] _ rfl _ Try.func52 rfl (by kernel_rfl) [.agg #[.slice aa a.length ca, .slice ab b.length cb]] rfl _) (lacks_any (HA.out.keep0 (hM3.trans0 hS)) (HB.out.keep0 (hM3.trans0 hS)) (by omega)) ?_
    rintro e w4 ⟨v4, rfl, hg4, hm4⟩
    have hS4 := hS.trans0 hm4
    refine ⟨_, rfl, hK _ _ hS4 ?_⟩
    clear hK K
    try simp only [pl, pn, el, ec, sz, ss, gz, gs, if_true, if_false, Bool.false_eq_true, Bool.not_true, Bool.not_false, Nat.add_zero, Nat.zero_add, Nat.reduceAdd]
    refine wpPi_do rfl (fun K hK => ?_)
    refine wp_enterQ (run_call 53 [.tmp 35] _ rfl _ Try.func53 rfl (by kernel_rfl) [.agg #[.slice aa a.length ca, .slice ab b.length cb]] rfl _) (turnedP_any aa ab a.length b.length ca cb _) ?_
    rintro e w5 ⟨rfl, hm5⟩
    have hS5 := hS4.trans0 hm5
    refine ⟨_, rfl, hK _ _ hS5 ?_⟩
    clear hK K
    try simp only [pl, pn, el, ec, sz, ss, gz, gs, if_true, if_false, Bool.false_eq_true, Bool.not_true, Bool.not_false, Nat.add_zero, Nat.zero_add, Nat.reduceAdd]
    refine wpPi_do rfl (fun K hK => ?_)
    refine wp_enterQ (run_call 52 [.tmp 36] _ rfl _ Try.func52 rfl (by kernel_rfl) [.agg #[.slice ab b.length cb, .slice aa a.length ca]] rfl _) (lacks_any (HB.out.keep0 (hM3.trans0 hS5)) (HA.out.keep0 (hM3.trans0 hS5)) (by omega)) ?_
    rintro e w6 ⟨v6, rfl, hg6, hm6⟩
    have hS6 := hS5.trans0 hm6
    replace hg4 := hg4.keep0 (hm5.trans0 hm6)
    have hs34 := hS.size
    refine ⟨_, rfl, hK _ _ hS6 ?_⟩
    clear hK K
    try simp only [pl, pn, el, ec, sz, ss, gz, gs, if_true, if_false, Bool.false_eq_true, Bool.not_true, Bool.not_false, Nat.add_zero, Nat.zero_add, Nat.reduceAdd]
    refine wpPi_do rfl (fun K hK => ?_)
    have hsz6 := hS6.size
    refine wp_gat strEnc _ _ 26 9 (.string ⟨#[]⟩) 1 16 (by rfl) Try.underlying26 str_i (by kernel_rfl) (by omega) strEnc_one w3.heap.size _ _ (by rfl) (hg4.base hs34) v6 _ (by rfl) hg6.src (by unfold maxLen; omega) (by omega) hsz6 (fun v7 w7 hg7 hm7 => ?_)
    have hM7 : Mod NoB w3 w7 := hS6.trans hm7 (fun k hk e => by have := (hg4.lt e).1; omega)
    refine hK _ _ hM7 ?_
    clear hK K
    try simp only [pl, pn, el, ec, sz, ss, gz, gs, if_true, if_false, Bool.false_eq_true, Bool.not_true, Bool.not_false, Nat.add_zero, Nat.zero_add, Nat.reduceAdd]
    refine wpPi_assign _ rfl rfl ?_
    simp only [pl, pn, el, ec, sz, ss, gz, gs, if_true, if_false, Bool.false_eq_true, Bool.not_true, Bool.not_false, Nat.add_zero, Nat.zero_add, Nat.reduceAdd]
    refine wpPi_assign _ rfl rfl ?_
    simp only [pl, pn, el, ec, sz, ss, gz, gs, if_true, if_false, Bool.false_eq_true, Bool.not_true, Bool.not_false, Nat.add_zero, Nat.zero_add, Nat.reduceAdd]
    refine wpPi_nil ?_
    have hMr := hM3.trans0 hM7
    have hgr := hg7.base (b' := w.heap.size) (by omega)
    clear hm7 hM7 hS6 hS5 hS4 hS hm4 hm5 hm6 hg4 hg6 hM3
    go_wp2
    go_ret2
    exact ⟨_, rfl, hgr, hMr⟩
  · have hb2 : (b.length : Int) < 2 := by have := HN.out (by omega); omega
    go_upto_region 3 with (fail)
    refine wp_region_seq [3, 1, 3, 3, 3, 3, 1, 3, 3, 3, 3] (fun _ => True) (by rfl) (by rfl) trivial ?_
    simp only [List.zip_cons_cons, List.zip_nil_right]
    refine wpPi_field _ _ _ _ _ _ rfl rfl rfl fo_61_0 ?_
    simp only [pl, pn, el, ec, sz, ss, gz, gs, if_true, if_false, Bool.false_eq_true, Bool.not_true, Bool.not_false, Nat.add_zero, Nat.zero_add, Nat.reduceAdd]
    refine wpPi_do rfl (fun K hK => ?_)
    refine wp_exec (exec_load1 58 _ (by rfl) b1 0 (by rfl) _ h0 _ Try.underlying58 rfl) ?_
    refine hK _ _ trivial ?_
    clear hK K
    try simp only [pl, pn, el, ec, sz, ss, gz, gs, if_true, if_false, Bool.false_eq_true, Bool.not_true, Bool.not_false, Nat.add_zero, Nat.zero_add, Nat.reduceAdd]
    refine wpPi_len _ _ _ _ _ rfl rfl rfl (by kernel_rfl) ?_
    simp only [pl, pn, el, ec, sz, ss, gz, gs, if_true, if_false, Bool.false_eq_true, Bool.not_true, Bool.not_false, Nat.add_zero, Nat.zero_add, Nat.reduceAdd]
    refine wpPi_any (v := ?_) rfl (fun w' => ?_) ?_; rotate_left; · (go_simp; try with_reducible rfl)
    simp only [pl, pn, el, ec, sz, ss, gz, gs, if_true, if_false, Bool.false_eq_true, Bool.not_true, Bool.not_false, Nat.add_zero, Nat.zero_add, Nat.reduceAdd]
    refine wpPi_move _ rfl rfl ?_
    simp only [pl, pn, el, ec, sz, ss, gz, gs, if_true, if_false, Bool.false_eq_true, Bool.not_true, Bool.not_false, Nat.add_zero, Nat.zero_add, Nat.reduceAdd]
    refine wpPi_field _ _ _ _ _ _ rfl rfl rfl fo_61_1 ?_
    simp only [pl, pn, el, ec, sz, ss, gz, gs, if_true, if_false, Bool.false_eq_true, Bool.not_true, Bool.not_false, Nat.add_zero, Nat.zero_add, Nat.reduceAdd]
    refine wpPi_do rfl (fun K hK => ?_)
    refine wp_exec (exec_load1 58 _ (by rfl) b1 1 (by rfl) _ h1 _ Try.underlying58 rfl) ?_
    refine hK _ _ trivial ?_
    clear hK K
    try simp only [pl, pn, el, ec, sz, ss, gz, gs, if_true, if_false, Bool.false_eq_true, Bool.not_true, Bool.not_false, Nat.add_zero, Nat.zero_add, Nat.reduceAdd]
    refine wpPi_len _ _ _ _ _ rfl rfl rfl (by kernel_rfl) ?_
    simp only [pl, pn, el, ec, sz, ss, gz, gs, if_true, if_false, Bool.false_eq_true, Bool.not_true, Bool.not_false, Nat.add_zero, Nat.zero_add, Nat.reduceAdd]
    refine wpPi_any (v := ?_) rfl (fun w' => ?_) ?_; rotate_left; · (go_simp; try with_reducible rfl)
    simp only [pl, pn, el, ec, sz, ss, gz, gs, if_true, if_false, Bool.false_eq_true, Bool.not_true, Bool.not_false, Nat.add_zero, Nat.zero_add, Nat.reduceAdd]
    refine wpPi_pick _ _ _ _ rfl rfl rfl ?_
    simp only [pl, pn, el, ec, sz, ss, gz, gs, if_true, if_false, Bool.false_eq_true, Bool.not_true, Bool.not_false, Nat.add_zero, Nat.zero_add, Nat.reduceAdd]
    refine wpPi_assign _ rfl rfl ?_
    simp only [pl, pn, el, ec, sz, ss, gz, gs, if_true, if_false, Bool.false_eq_true, Bool.not_true, Bool.not_false, Nat.add_zero, Nat.zero_add, Nat.reduceAdd]
    refine wpPi_nil ?_
    go_upto_region 4 with (fail)
    have hS : Mod NoB w3 w3.drew := (Mod.refl _ _).drew
    refine wp_region_pi [(0, 0), (2, 0), (1, 1), (3, 1), (4, 1), (5, 1), (6, 3), (7, 3)] [] (fun w' => Mod NoB w3 w') (by kernel_rfl) (by kernel_rfl) (by kernel_rfl) (by kernel_rfl) (fun _ _ _ _ hd h => ⟨hd.trans h.1, h.2⟩) hS ?_
    simp only [List.map_cons, List.map_nil, List.getD_cons_zero, List.getD_cons_succ]
    refine wpPi_val rfl (fun w' hS => exec_loadA 61 _ (by rfl) b1 0 (by rfl) _ (hcw.keep hS id) _ Try.underlying61 rfl 2 (by kernel_rfl) rfl) ?_
    simp only [pl, pn, el, ec, sz, ss, gz, gs, if_true, if_false, Bool.false_eq_true, Bool.not_true, Bool.not_false, Nat.add_zero, Nat.zero_add, Nat.reduceAdd]
    refine wpPi_val rfl (fun w' hS => exec_loadA 61 _ (by rfl) b1 0 (by rfl) _ (hcw.keep hS id) _ Try.underlying61 rfl 2 (by kernel_rfl) rfl) ?_
    simp only [pl, pn, el, ec, sz, ss, gz, gs, if_true, if_false, Bool.false_eq_true, Bool.not_true, Bool.not_false, Nat.add_zero, Nat.zero_add, Nat.reduceAdd]
    refine wpPi_do rfl (fun K hK => ?_)
    refine wp_enterQ (run_call 52 [.tmp 33] _ rfl _ Try.func52 rfl (by kernel_rfl) [.agg #[.slice aa a.length ca, .slice ab b.length cb]] rfl _) (lacks_any (HA.out.keep0 (hM3.trans0 hS)) (HB.out.keep0 (hM3.trans0 hS)) (by omega)) ?_
    rintro e w4 ⟨v4, rfl, hg4, hm4⟩
    have hS4 := hS.trans0 hm4
    refine ⟨_, rfl, hK _ _ hS4 ?_⟩
    clear hK K
    try simp only [pl, pn, el, ec, sz, ss, gz, gs, if_true, if_false, Bool.false_eq_true, Bool.not_true, Bool.not_false, Nat.add_zero, Nat.zero_add, Nat.reduceAdd]
    refine wpPi_do rfl (fun K hK => ?_)
    refine wp_enterQ (run_call 53 [.tmp 35] _ rfl _ Try.func53 rfl (by kernel_rfl) [.agg #[.slice aa a.length ca, .slice ab b.length cb]] rfl _) (turnedP_any aa ab a.length b.length ca cb _) ?_
    rintro e w5 ⟨rfl, hm5⟩
    have hS5 := hS4.trans0 hm5
    refine ⟨_, rfl, hK _ _ hS5 ?_⟩
    clear hK K
    try simp only [pl, pn, el, ec, sz, ss, gz, gs, if_true, if_false, Bool.false_eq_true, Bool.not_true, Bool.not_false, Nat.add_zero, Nat.zero_add, Nat.reduceAdd]
    refine wpPi_do rfl (fun K hK => ?_)
    refine wp_enterQ (run_call 52 [.tmp 36] _ rfl _ Try.func52 rfl (by kernel_rfl) [.agg #[.slice ab b.length cb, .slice aa a.length ca]] rfl _) (lacks_any (HB.out.keep0 (hM3.trans0 hS5)) (HA.out.keep0 (hM3.trans0 hS5)) (by omega)) ?_
    rintro e w6 ⟨v6, rfl, hg6, hm6⟩
    have hS6 := hS5.trans0 hm6
    replace hg4 := hg4.keep0 (hm5.trans0 hm6)
    have hs34 := hS.size
    refine ⟨_, rfl, hK _ _ hS6 ?_⟩
    clear hK K
    try simp only [pl, pn, el, ec, sz, ss, gz, gs, if_true, if_false, Bool.false_eq_true, Bool.not_true, Bool.not_false, Nat.add_zero, Nat.zero_add, Nat.reduceAdd]
    refine wpPi_do rfl (fun K hK => ?_)
    have hsz6 := hS6.size
    refine wp_gat strEnc _ _ 26 9 (.string ⟨#[]⟩) 1 16 (by rfl) Try.underlying26 str_i (by kernel_rfl) (by omega) strEnc_one w3.heap.size _ _ (by rfl) (hg4.base hs34) v6 _ (by rfl) hg6.src (by unfold maxLen; omega) (by omega) hsz6 (fun v7 w7 hg7 hm7 => ?_)
    have hM7 : Mod NoB w3 w7 := hS6.trans hm7 (fun k hk e => by have := (hg4.lt e).1; omega)
    refine hK _ _ hM7 ?_
    clear hK K
    try simp only [pl, pn, el, ec, sz, ss, gz, gs, if_true, if_false, Bool.false_eq_true, Bool.not_true, Bool.not_false, Nat.add_zero, Nat.zero_add, Nat.reduceAdd]
    refine wpPi_assign _ rfl rfl ?_
    simp only [pl, pn, el, ec, sz, ss, gz, gs, if_true, if_false, Bool.false_eq_true, Bool.not_true, Bool.not_false, Nat.add_zero, Nat.zero_add, Nat.reduceAdd]
    refine wpPi_assign _ rfl rfl ?_
    simp only [pl, pn, el, ec, sz, ss, gz, gs, if_true, if_false, Bool.false_eq_true, Bool.not_true, Bool.not_false, Nat.add_zero, Nat.zero_add, Nat.reduceAdd]
    refine wpPi_nil ?_
    have hMr := hM3.trans0 hM7
    have hgr := hg7.base (b' := w.heap.size) (by omega)
    clear hm7 hM7 hS6 hS5 hS4 hS hm4 hm5 hm6 hg4 hg6 hM3
    go_wp2
    go_ret2
    exact ⟨_, rfl, hgr, hMr⟩
end Go.Proofs.Ytchkikmmcmjcgaa

/- tree.differ: two sides. -/
namespace Go.Proofs.Ytchkikmmcmjcgaa
set_option linter.unusedSimpArgs false
set_option linter.unusedVariables false
set_option linter.unnecessarySimpa false
set_option linter.unusedSectionVars false
open Go.RowKit Go.Shelf


theorem Ls.bound {w : World} {G : Nat → Prop} {v : Value} {l : List Leaf} (h : Ls w G v l) : Ls w (fun k => k < w.heap.size) v l := by
  obtain ⟨ad, cap, e, h1, h2, h3⟩ := h
  refine ⟨ad, cap, e, h1, h2, fun hne => ?_⟩
  obtain ⟨b, off, ha, hG, ho, hc⟩ := h3 hne
  refine ⟨b, off, ha, ?_, ho, hc⟩
  cases l with
  | nil => exact absurd rfl hne
  | cons x l =>
    obtain ⟨cs, hs, ⟨rfl, hok⟩, hcs⟩ := hc 0 (by simp)
    exact block_lt_of_cell (leaf_key hcs)
theorem Ls.keepB {w w' : World} {G : Nat → Prop} {B : Nat} {v : Value} {l : List Leaf} (h : Ls w G v l) (hm : Mod (fun k => k = B) w w') (hd : ∀ k, G k → k ≠ B) : Ls w' G v l := Sl.keepB h hm hd
theorem Ls.keep0 {w w' : World} {G : Nat → Prop} {v : Value} {l : List Leaf} (h : Ls w G v l) (hm : Mod NoB w w') : Ls w' G v l := Sl.keep0 h hm
theorem Ls.all {w : World} {G : Nat → Prop} {v : Value} {l : List Leaf} (h : Ls w G v l) : Ls w (fun _ => True) v l := Sl.mono h (fun _ _ => trivial) (fun _ _ h => h)
set_option maxRecDepth 10000 in
set_option maxHeartbeats 2000000 in
theorem differ_more (f i : Nat) (hi : f + 1 + i = 256) {w : World} {G G' : Nat → Prop} {va vb : Value} {a b : List Leaf} (ha : Ls w G va a) (hb : Ls w G' vb b) (hpa : Placed i a) (hpb : Placed i b) (hal : a.length ≤ 65536) (hbl : b.length ≤ 65536) (hd : dig (f + 1) i a ≠ dig (f + 1) i b) (h2 : 2 ≤ a.length) (h3 : 2 ≤ b.length)
    (ih : ∀ (a' b' : List Leaf) (va vb : Value) (w : World), Ls w (fun _ => True) va a' → Ls w (fun _ => True) vb b' → Placed (i + 1) a' → Placed (i + 1) b' → a'.length ≤ 65536 → b'.length ≤ 65536 → Calls Try.prog 32 #[.agg #[va, vb], .int .i64 ((i + 1 : Nat) : Int)] w (DifferR w (dif f (i + 1) a' b'))) :
    Calls Try.prog 32 #[.agg #[va, vb], .int .i64 (i : Int)] w (DifferR w (dif (f + 1) i a b)) := by
  have hcnt := dif_count (f + 1) i a b
  rw [dif_more hd h2 h3] at hcnt ⊢
  have HA := Lib.hid ha.bound
  have HB := Lib.hid hb.bound
  have IH := Lib.hid ih
  have hda := dig_len hi hpa.lie
  have hdb := dig_len hi hpb.lie
  have HD := Lib.hid hd
  have hsa := side_len i a
  have hsb := side_len i b
  have hal1 := hpa.side false
  have hal2 := hpa.side true
  have hbl1 := hpb.side false
  have hbl2 := hpb.side true
  have hk1 := dif_keys f (i + 1) (sideL false i a) (sideL false i b)
  have hk2 := dif_keys f (i + 1) (sideL true i a) (sideL true i b)
  have ha2 : ¬ (a.length : Int) < 2 := by omega
  have hb2 : ¬ (b.length : Int) < 2 := by omega
  have hfa : 2 * (f + 1) * a.length ≤ 512 * 65536 := Nat.mul_le_mul (by omega) hal
  obtain ⟨aa, ca, rfl, -, -⟩ := Sl.at ha
  obtain ⟨ab, cb, rfl, -, -⟩ := Sl.at hb
  have HP := Lib.hid hpa
  have HQ := Lib.hid hpb
  clear ha hb hd ih
  go_enter Try.func32, Try.ntmps32
  go_upto_region 0 with (fail)
  refine wp_region_seq [1, 3, 3] (fun _ => True) (by rfl) (by rfl) trivial ?_
  simp only [List.zip_cons_cons, List.zip_nil_right]
  refine wpPi_do rfl (fun K hK => ?_)
  refine wp_box 61 _ _ (by rfl) (by rfl) (fun w1 hB1 hm1 hs1 => ?_)
  replace hB1 : w1.heap[w.heap.size]? = some (.cells #[.slice aa a.length ca, .slice ab b.length cb] 61 (0, 0)) := hB1
  refine hK _ _ trivial ?_
  clear hK K
  try simp only [pl, pn, el, ec, sz, ss, gz, gs, if_true, if_false, Bool.false_eq_true, Bool.not_true, Bool.not_false, Nat.add_zero, Nat.zero_add, Nat.reduceAdd]
  refine wpPi_assign _ rfl rfl ?_
  simp only [pl, pn, el, ec, sz, ss, gz, gs, if_true, if_false, Bool.false_eq_true, Bool.not_true, Bool.not_false, Nat.add_zero, Nat.zero_add, Nat.reduceAdd]
  refine wpPi_assign _ rfl rfl ?_
  simp only [pl, pn, el, ec, sz, ss, gz, gs, if_true, if_false, Bool.false_eq_true, Bool.not_true, Bool.not_false, Nat.add_zero, Nat.zero_add, Nat.reduceAdd]
  refine wpPi_nil ?_
  have hcw := CellsAt.whole hB1
  have h0 := hcw.cell (j := 0) (v := .slice aa a.length ca) rfl
  have h1 := hcw.cell (j := 1) (v := .slice ab b.length cb) rfl
  have hsz1 : w.heap.size ≤ w1.heap.size := hm1.size
  generalize hb1 : w.heap.size = b1 at *
  clear hB1 hcw
  go_upto_region 1 with (fail)
  have hS : Mod NoB w1 w1.drew := (Mod.refl _ _).drew
  refine wp_region_pi [(0, 3), (1, 0), (2, 3), (4, 3), (5, 0), (6, 3), (3, 1), (7, 1), (8, 0), (9, 3)] [] (fun w' => Mod NoB w1 w') (by kernel_rfl) (by kernel_rfl) (by kernel_rfl) (by kernel_rfl) (fun _ _ _ _ hd h => ⟨hd.trans h.1, h.2⟩) hS ?_
  simp only [List.map_cons, List.map_nil, List.getD_cons_zero, List.getD_cons_succ]
  refine wpPi_field _ _ _ _ _ _ rfl rfl rfl fo_61_0 ?_
  simp only [pl, pn, el, ec, sz, ss, gz, gs, if_true, if_false, Bool.false_eq_true, Bool.not_true, Bool.not_false, Nat.add_zero, Nat.zero_add, Nat.reduceAdd]
  refine wpPi_val rfl (fun w' hS => exec_load1 58 _ (by rfl) b1 0 (by rfl) _ (hS.cell id h0) _ Try.underlying58 rfl) ?_
  simp only [pl, pn, el, ec, sz, ss, gz, gs, if_true, if_false, Bool.false_eq_true, Bool.not_true, Bool.not_false, Nat.add_zero, Nat.zero_add, Nat.reduceAdd]
  refine wpPi_move _ rfl rfl ?_
  simp only [pl, pn, el, ec, sz, ss, gz, gs, if_true, if_false, Bool.false_eq_true, Bool.not_true, Bool.not_false, Nat.add_zero, Nat.zero_add, Nat.reduceAdd]
  refine wpPi_field _ _ _ _ _ _ rfl rfl rfl fo_61_1 ?_
  simp only [pl, pn, el, ec, sz, ss, gz, gs, if_true, if_false, Bool.false_eq_true, Bool.not_true, Bool.not_false, Nat.add_zero, Nat.zero_add, Nat.reduceAdd]
  refine wpPi_val rfl (fun w' hS => exec_load1 58 _ (by rfl) b1 1 (by rfl) _ (hS.cell id h1) _ Try.underlying58 rfl) ?_
  simp only [pl, pn, el, ec, sz, ss, gz, gs, if_true, if_false, Bool.false_eq_true, Bool.not_true, Bool.not_false, Nat.add_zero, Nat.zero_add, Nat.reduceAdd]
  refine wpPi_move _ rfl rfl ?_
  simp only [pl, pn, el, ec, sz, ss, gz, gs, if_true, if_false, Bool.false_eq_true, Bool.not_true, Bool.not_false, Nat.add_zero, Nat.zero_add, Nat.reduceAdd]
  refine wpPi_do rfl (fun K hK => ?_)
  refine wp_enterQ (run_call 39 [.tmp 14, .tmp 15] _ rfl _ Try.func39 rfl (by kernel_rfl) [.slice aa a.length ca, .int .i64 (i : Int)] rfl _) (digest_any _ (f + 1) i a _ _ hi (HA.out.keep0 (hm1.trans0 hS)) HP.out (by omega)) ?_
  rintro e w2 ⟨rfl, hm2⟩
  have hS2 := hS.trans0 hm2
  refine ⟨_, rfl, hK _ _ hS2 ?_⟩
  clear hK K
  try simp only [pl, pn, el, ec, sz, ss, gz, gs, if_true, if_false, Bool.false_eq_true, Bool.not_true, Bool.not_false, Nat.add_zero, Nat.zero_add, Nat.reduceAdd]
  refine wpPi_do rfl (fun K hK => ?_)
  refine wp_enterQ (run_call 39 [.tmp 18, .tmp 19] _ rfl _ Try.func39 rfl (by kernel_rfl) [.slice ab b.length cb, .int .i64 (i : Int)] rfl _) (digest_any _ (f + 1) i b _ _ hi (HB.out.keep0 (hm1.trans0 hS2)) HQ.out (by omega)) ?_
  rintro e w3 ⟨rfl, hm3⟩
  have hS3 := hS2.trans0 hm3
  refine ⟨_, rfl, hK _ _ hS3 ?_⟩
  clear hK K
  try simp only [pl, pn, el, ec, sz, ss, gz, gs, if_true, if_false, Bool.false_eq_true, Bool.not_true, Bool.not_false, Nat.add_zero, Nat.zero_add, Nat.reduceAdd]
  refine wpPi_val rfl (fun w' hS => exec_eql_id _ _ _ _ rfl (dig (f + 1) i a) (dig (f + 1) i b) rfl rfl 32 5 Try.underlying38 Try.underlying5 (by kernel_rfl) (by kernel_rfl) hda hdb false (decide_eq_false HD.out)) ?_
  simp only [pl, pn, el, ec, sz, ss, gz, gs, if_true, if_false, Bool.false_eq_true, Bool.not_true, Bool.not_false, Nat.add_zero, Nat.zero_add, Nat.reduceAdd]
  refine wpPi_assign _ rfl rfl ?_
  simp only [pl, pn, el, ec, sz, ss, gz, gs, if_true, if_false, Bool.false_eq_true, Bool.not_true, Bool.not_false, Nat.add_zero, Nat.zero_add, Nat.reduceAdd]
  refine wpPi_nil ?_
  have hM3 := hm1.trans0 hS3
  replace h0 := hS3.cell id h0
  replace h1 := hS3.cell id h1
  have hsz3 := hS3.size
  clear hm1 hm2 hm3 hS hS2 hS3 HD
  generalize dig (f + 1) i a = da at *
  generalize dig (f + 1) i b = db at *
  clear hpa hpb
  go_upto_region 3 with (fail)
  refine wp_region_seq [3, 1, 3, 3, 3, 3, 1, 3, 3, 3, 3] (fun _ => True) (by rfl) (by rfl) trivial ?_
  simp only [List.zip_cons_cons, List.zip_nil_right]
  refine wpPi_field _ _ _ _ _ _ rfl rfl rfl fo_61_0 ?_
  simp only [pl, pn, el, ec, sz, ss, gz, gs, if_true, if_false, Bool.false_eq_true, Bool.not_true, Bool.not_false, Nat.add_zero, Nat.zero_add, Nat.reduceAdd]
  refine wpPi_do rfl (fun K hK => ?_)
  refine wp_exec (exec_load1 58 _ (by rfl) b1 0 (by rfl) _ h0 _ Try.underlying58 rfl) ?_
  refine hK _ _ trivial ?_
  clear hK K
  try simp only [pl, pn, el, ec, sz, ss, gz, gs, if_true, if_false, Bool.false_eq_true, Bool.not_true, Bool.not_false, Nat.add_zero, Nat.zero_add, Nat.reduceAdd]
  refine wpPi_len _ _ _ _ _ rfl rfl rfl (by kernel_rfl) ?_
  simp only [pl, pn, el, ec, sz, ss, gz, gs, if_true, if_false, Bool.false_eq_true, Bool.not_true, Bool.not_false, Nat.add_zero, Nat.zero_add, Nat.reduceAdd]
  refine wpPi_any (v := ?_) rfl (fun w' => ?_) ?_; rotate_left; · (go_simp; try with_reducible rfl)
  simp only [pl, pn, el, ec, sz, ss, gz, gs, if_true, if_false, Bool.false_eq_true, Bool.not_true, Bool.not_false, Nat.add_zero, Nat.zero_add, Nat.reduceAdd]
  refine wpPi_move _ rfl rfl ?_
  simp only [pl, pn, el, ec, sz, ss, gz, gs, if_true, if_false, Bool.false_eq_true, Bool.not_true, Bool.not_false, Nat.add_zero, Nat.zero_add, Nat.reduceAdd]
  refine wpPi_field _ _ _ _ _ _ rfl rfl rfl fo_61_1 ?_
  simp only [pl, pn, el, ec, sz, ss, gz, gs, if_true, if_false, Bool.false_eq_true, Bool.not_true, Bool.not_false, Nat.add_zero, Nat.zero_add, Nat.reduceAdd]
  refine wpPi_do rfl (fun K hK => ?_)
  refine wp_exec (exec_load1 58 _ (by rfl) b1 1 (by rfl) _ h1 _ Try.underlying58 rfl) ?_
  refine hK _ _ trivial ?_
  clear hK K
  try simp only [pl, pn, el, ec, sz, ss, gz, gs, if_true, if_false, Bool.false_eq_true, Bool.not_true, Bool.not_false, Nat.add_zero, Nat.zero_add, Nat.reduceAdd]
  refine wpPi_len _ _ _ _ _ rfl rfl rfl (by kernel_rfl) ?_
  simp only [pl, pn, el, ec, sz, ss, gz, gs, if_true, if_false, Bool.false_eq_true, Bool.not_true, Bool.not_false, Nat.add_zero, Nat.zero_add, Nat.reduceAdd]
  refine wpPi_any (v := ?_) rfl (fun w' => ?_) ?_; rotate_left; · (go_simp; try with_reducible rfl)
  simp only [pl, pn, el, ec, sz, ss, gz, gs, if_true, if_false, Bool.false_eq_true, Bool.not_true, Bool.not_false, Nat.add_zero, Nat.zero_add, Nat.reduceAdd]
  refine wpPi_pick _ _ _ _ rfl rfl rfl ?_
  simp only [pl, pn, el, ec, sz, ss, gz, gs, if_true, if_false, Bool.false_eq_true, Bool.not_true, Bool.not_false, Nat.add_zero, Nat.zero_add, Nat.reduceAdd]
  refine wpPi_assign _ rfl rfl ?_
  simp only [pl, pn, el, ec, sz, ss, gz, gs, if_true, if_false, Bool.false_eq_true, Bool.not_true, Bool.not_false, Nat.add_zero, Nat.zero_add, Nat.reduceAdd]
  refine wpPi_nil ?_
  go_upto_region 5 with (fail)
  refine wp_region_seq [1, 1] (fun _ => True) (by rfl) (by rfl) trivial ?_
  simp only [List.zip_cons_cons, List.zip_nil_right]
  refine wpPi_do rfl (fun K hK => ?_)
  refine wp_alloc 61 _ (by rfl) pairZ (fun w4 hB4 hm4 hs4 => ?_)
  replace hB4 : w4.heap[w3.heap.size]? = some (.cells #[.slice none 0 0, .slice none 0 0] 61 (0, 0)) := hB4
  refine hK _ _ trivial ?_
  clear hK K
  try simp only [pl, pn, el, ec, sz, ss, gz, gs, if_true, if_false, Bool.false_eq_true, Bool.not_true, Bool.not_false, Nat.add_zero, Nat.zero_add, Nat.reduceAdd]
  refine wpPi_do rfl (fun K hK => ?_)
  refine wp_alloc 61 _ (by rfl) pairZ (fun w5 hB5 hm5 hs5 => ?_)
  replace hB5 : w5.heap[w4.heap.size]? = some (.cells #[.slice none 0 0, .slice none 0 0] 61 (0, 0)) := hB5
  refine hK _ _ trivial ?_
  clear hK K
  try simp only [pl, pn, el, ec, sz, ss, gz, gs, if_true, if_false, Bool.false_eq_true, Bool.not_true, Bool.not_false, Nat.add_zero, Nat.zero_add, Nat.reduceAdd]
  refine wpPi_nil ?_
  replace hB4 := hm5.obj id hB4
  have hM5 := (hm4.trans0 hm5)
  have hs35 : w3.heap.size < w4.heap.size := hs4
  generalize hb6 : w3.heap.size = b6 at *
  generalize hb7 : w4.heap.size = b7 at *
  clear hm4 hm5
  go_upto_region 6 with (fail)
  refine wp_region_seq [3, 1, 3, 1, 3, 3, 3, 3, 1, 3, 1] (fun _ => True) (by rfl) (by rfl) trivial ?_
  simp only [List.zip_cons_cons, List.zip_nil_right]
  refine wpPi_field _ _ _ _ _ _ rfl rfl rfl fo_61_0 ?_
  simp only [pl, pn, el, ec, sz, ss, gz, gs, if_true, if_false, Bool.false_eq_true, Bool.not_true, Bool.not_false, Nat.add_zero, Nat.zero_add, Nat.reduceAdd]
  refine wpPi_do rfl (fun K hK => ?_)
  refine wp_exec (exec_load1 58 _ (by rfl) b1 0 (by rfl) _ (hM5.cell id h0) _ Try.underlying58 rfl) ?_
  refine hK _ _ trivial ?_
  clear hK K
  try simp only [pl, pn, el, ec, sz, ss, gz, gs, if_true, if_false, Bool.false_eq_true, Bool.not_true, Bool.not_false, Nat.add_zero, Nat.zero_add, Nat.reduceAdd]
  refine wpPi_move _ rfl rfl ?_
  simp only [pl, pn, el, ec, sz, ss, gz, gs, if_true, if_false, Bool.false_eq_true, Bool.not_true, Bool.not_false, Nat.add_zero, Nat.zero_add, Nat.reduceAdd]
  refine wpPi_do rfl (fun K hK => ?_)
  refine wp_enterQ (run_call 54 [.tmp 41, .tmp 42] _ rfl _ Try.func54 rfl (by kernel_rfl) [.slice aa a.length ca, .int .i64 (i : Int)] rfl _) (cut_any (HA.out.keep0 (hM3.trans0 hM5)) i (by omega) HP.out (by omega)) ?_
  rintro e w6 ⟨v1, v2, rfl, hc1, hc2, hm6⟩
  replace hB4 := hm6.obj id hB4
  replace hB5 := hm6.obj id hB5
  have hv1 := Sl.one hc1
  have hv2 := Sl.one hc2
  refine ⟨_, rfl, hK _ _ trivial ?_⟩
  clear hK K
  try simp only [pl, pn, el, ec, sz, ss, gz, gs, if_true, if_false, Bool.false_eq_true, Bool.not_true, Bool.not_false, Nat.add_zero, Nat.zero_add, Nat.reduceAdd]
  refine wpPi_move _ rfl rfl ?_
  simp only [pl, pn, el, ec, sz, ss, gz, gs, if_true, if_false, Bool.false_eq_true, Bool.not_true, Bool.not_false, Nat.add_zero, Nat.zero_add, Nat.reduceAdd]
  refine wpPi_any (v := ?_) rfl (fun w' => ?_) ?_; rotate_left; · (go_simp; try with_reducible rfl)
  simp only [pl, pn, el, ec, sz, ss, gz, gs, if_true, if_false, Bool.false_eq_true, Bool.not_true, Bool.not_false, Nat.add_zero, Nat.zero_add, Nat.reduceAdd]
  refine wpPi_any (v := ?_) rfl (fun w' => ?_) ?_; rotate_left; · (go_simp; try with_reducible rfl)
  simp only [pl, pn, el, ec, sz, ss, gz, gs, if_true, if_false, Bool.false_eq_true, Bool.not_true, Bool.not_false, Nat.add_zero, Nat.zero_add, Nat.reduceAdd]
  refine wpPi_field _ _ _ _ _ _ rfl rfl rfl fo_61_0 ?_
  simp only [pl, pn, el, ec, sz, ss, gz, gs, if_true, if_false, Bool.false_eq_true, Bool.not_true, Bool.not_false, Nat.add_zero, Nat.zero_add, Nat.reduceAdd]
  refine wpPi_do rfl (fun K hK => ?_)
  refine wp_store1 58 _ _ b6 0 v1 (by rfl) (by rfl) (by rfl) hv1 (by kernel_rfl) _ _ hB4 (by simp) (fun w7 hB7 hm7 => ?_)
  replace hB7 : w7.heap[b6]? = some (.cells #[v1, .slice none 0 0] 61 (0, 0)) := hB7
  replace hB5 := hm7.objB (by omega) hB5
  refine hK _ _ trivial ?_
  clear hK K
  try simp only [pl, pn, el, ec, sz, ss, gz, gs, if_true, if_false, Bool.false_eq_true, Bool.not_true, Bool.not_false, Nat.add_zero, Nat.zero_add, Nat.reduceAdd]
  refine wpPi_field _ _ _ _ _ _ rfl rfl rfl fo_61_0 ?_
  simp only [pl, pn, el, ec, sz, ss, gz, gs, if_true, if_false, Bool.false_eq_true, Bool.not_true, Bool.not_false, Nat.add_zero, Nat.zero_add, Nat.reduceAdd]
  refine wpPi_do rfl (fun K hK => ?_)
  refine wp_store1 58 _ _ b7 0 v2 (by rfl) (by rfl) (by rfl) hv2 (by kernel_rfl) _ _ hB5 (by simp) (fun w8 hB8 hm8 => ?_)
  replace hB8 : w8.heap[b7]? = some (.cells #[v2, .slice none 0 0] 61 (0, 0)) := hB8
  replace hB7 := hm8.objB (by omega) hB7
  refine hK _ _ trivial ?_
  clear hK K
  try simp only [pl, pn, el, ec, sz, ss, gz, gs, if_true, if_false, Bool.false_eq_true, Bool.not_true, Bool.not_false, Nat.add_zero, Nat.zero_add, Nat.reduceAdd]
  refine wpPi_nil ?_
  have hM8 : Mod NoB w3 w8 := ((hM5.trans0 hm6).transB hm7 (by omega)).transB hm8 (by omega)
  replace hc1 := (hc1.keepB hm7 (fun k hk => by omega)).keepB hm8 (fun k hk => by omega)
  replace hc2 := (hc2.keepB hm7 (fun k hk => by omega)).keepB hm8 (fun k hk => by omega)
  clear hM5 hm6 hm7 hm8 hB4 hB5
  go_upto_region 7 with (fail)
  refine wp_region_seq [3, 1, 3, 1, 3, 3, 3, 3, 1, 3, 1] (fun _ => True) (by rfl) (by rfl) trivial ?_
  simp only [List.zip_cons_cons, List.zip_nil_right]
  refine wpPi_field _ _ _ _ _ _ rfl rfl rfl fo_61_1 ?_
  simp only [pl, pn, el, ec, sz, ss, gz, gs, if_true, if_false, Bool.false_eq_true, Bool.not_true, Bool.not_false, Nat.add_zero, Nat.zero_add, Nat.reduceAdd]
  refine wpPi_do rfl (fun K hK => ?_)
  refine wp_exec (exec_load1 58 _ (by rfl) b1 1 (by rfl) _ (hM8.cell id h1) _ Try.underlying58 rfl) ?_
  refine hK _ _ trivial ?_
  clear hK K
  try simp only [pl, pn, el, ec, sz, ss, gz, gs, if_true, if_false, Bool.false_eq_true, Bool.not_true, Bool.not_false, Nat.add_zero, Nat.zero_add, Nat.reduceAdd]
  refine wpPi_move _ rfl rfl ?_
  simp only [pl, pn, el, ec, sz, ss, gz, gs, if_true, if_false, Bool.false_eq_true, Bool.not_true, Bool.not_false, Nat.add_zero, Nat.zero_add, Nat.reduceAdd]
  refine wpPi_do rfl (fun K hK => ?_)
  refine wp_enterQ (run_call 54 [.tmp 50, .tmp 51] _ rfl _ Try.func54 rfl (by kernel_rfl) [.slice ab b.length cb, .int .i64 (i : Int)] rfl _) (cut_any (HB.out.keep0 (hM3.trans0 hM8)) i (by omega) HQ.out (by omega)) ?_
  rintro e w9 ⟨u1, u2, rfl, hd1, hd2, hm9⟩
  replace hB7 := hm9.obj id hB7
  replace hB8 := hm9.obj id hB8
  have hu1 := Sl.one hd1
  have hu2 := Sl.one hd2
  refine ⟨_, rfl, hK _ _ trivial ?_⟩
  clear hK K
  try simp only [pl, pn, el, ec, sz, ss, gz, gs, if_true, if_false, Bool.false_eq_true, Bool.not_true, Bool.not_false, Nat.add_zero, Nat.zero_add, Nat.reduceAdd]
  refine wpPi_move _ rfl rfl ?_
  simp only [pl, pn, el, ec, sz, ss, gz, gs, if_true, if_false, Bool.false_eq_true, Bool.not_true, Bool.not_false, Nat.add_zero, Nat.zero_add, Nat.reduceAdd]
  refine wpPi_any (v := ?_) rfl (fun w' => ?_) ?_; rotate_left; · (go_simp; try with_reducible rfl)
  simp only [pl, pn, el, ec, sz, ss, gz, gs, if_true, if_false, Bool.false_eq_true, Bool.not_true, Bool.not_false, Nat.add_zero, Nat.zero_add, Nat.reduceAdd]
  refine wpPi_any (v := ?_) rfl (fun w' => ?_) ?_; rotate_left; · (go_simp; try with_reducible rfl)
  simp only [pl, pn, el, ec, sz, ss, gz, gs, if_true, if_false, Bool.false_eq_true, Bool.not_true, Bool.not_false, Nat.add_zero, Nat.zero_add, Nat.reduceAdd]
  refine wpPi_field _ _ _ _ _ _ rfl rfl rfl fo_61_1 ?_
  simp only [pl, pn, el, ec, sz, ss, gz, gs, if_true, if_false, Bool.false_eq_true, Bool.not_true, Bool.not_false, Nat.add_zero, Nat.zero_add, Nat.reduceAdd]
  refine wpPi_do rfl (fun K hK => ?_)
  refine wp_store1 58 _ _ b6 1 u1 (by rfl) (by rfl) (by rfl) hu1 (by kernel_rfl) _ _ hB7 (by simp) (fun w10 hB10 hm10 => ?_)
  replace hB10 : w10.heap[b6]? = some (.cells #[v1, u1] 61 (0, 0)) := hB10
  replace hB8 := hm10.objB (by omega) hB8
  refine hK _ _ trivial ?_
  clear hK K
  try simp only [pl, pn, el, ec, sz, ss, gz, gs, if_true, if_false, Bool.false_eq_true, Bool.not_true, Bool.not_false, Nat.add_zero, Nat.zero_add, Nat.reduceAdd]
  refine wpPi_field _ _ _ _ _ _ rfl rfl rfl fo_61_1 ?_
  simp only [pl, pn, el, ec, sz, ss, gz, gs, if_true, if_false, Bool.false_eq_true, Bool.not_true, Bool.not_false, Nat.add_zero, Nat.zero_add, Nat.reduceAdd]
  refine wpPi_do rfl (fun K hK => ?_)
  refine wp_store1 58 _ _ b7 1 u2 (by rfl) (by rfl) (by rfl) hu2 (by kernel_rfl) _ _ hB8 (by simp) (fun w11 hB11 hm11 => ?_)
  replace hB11 : w11.heap[b7]? = some (.cells #[v2, u2] 61 (0, 0)) := hB11
  replace hB10 := hm11.objB (by omega) hB10
  refine hK _ _ trivial ?_
  clear hK K
  try simp only [pl, pn, el, ec, sz, ss, gz, gs, if_true, if_false, Bool.false_eq_true, Bool.not_true, Bool.not_false, Nat.add_zero, Nat.zero_add, Nat.reduceAdd]
  refine wpPi_nil ?_
  have hM11 : Mod NoB w3 w11 := ((hM8.trans0 hm9).transB hm10 (by omega)).transB hm11 (by omega)
  replace hc1 := ((hc1.keep0 hm9).keepB hm10 (fun k hk => by omega)).keepB hm11 (fun k hk => by omega)
  replace hc2 := ((hc2.keep0 hm9).keepB hm10 (fun k hk => by omega)).keepB hm11 (fun k hk => by omega)
  replace hd1 := (hd1.keepB hm10 (fun k hk => by omega)).keepB hm11 (fun k hk => by omega)
  replace hd2 := (hd2.keepB hm10 (fun k hk => by omega)).keepB hm11 (fun k hk => by omega)
  clear hM8 hm9 hm10 hm11 hB7 hB8
  generalize hA1 : sideL false i a = a1 at *
  generalize hA2 : sideL true i a = a2 at *
  generalize hE1 : sideL false i b = e1 at *
  generalize hE2 : sideL true i b = e2 at *
  clear hA1 hA2 hE1 hE2
  have hM11s := hM11.size
  go_upto_region 8 with (fail)
  refine wp_region_seq [1, 3, 3, 1, 3, 3, 3, 3, 3] (fun _ => True) (by rfl) (by rfl) trivial ?_
  simp only [List.zip_cons_cons, List.zip_nil_right]
  refine wpPi_do rfl (fun K hK => ?_)
  refine wp_exec (exec_loadA 61 _ (by rfl) b6 0 (by rfl) _ (CellsAt.whole hB10) _ Try.underlying61 rfl 2 (by kernel_rfl) rfl) ?_
  refine hK _ _ trivial ?_
  clear hK K
  try simp only [pl, pn, el, ec, sz, ss, gz, gs, if_true, if_false, Bool.false_eq_true, Bool.not_true, Bool.not_false, Nat.add_zero, Nat.zero_add, Nat.reduceAdd]
  refine wpPi_move _ rfl rfl ?_
  simp only [pl, pn, el, ec, sz, ss, gz, gs, if_true, if_false, Bool.false_eq_true, Bool.not_true, Bool.not_false, Nat.add_zero, Nat.zero_add, Nat.reduceAdd]
  refine wpPi_addR _ _ _ _ (i : Int) 1 ((i + 1 : Nat) : Int) rfl rfl rfl rfl (by omega) (by omega) (by omega) ?_
  simp only [pl, pn, el, ec, sz, ss, gz, gs, if_true, if_false, Bool.false_eq_true, Bool.not_true, Bool.not_false, Nat.add_zero, Nat.zero_add, Nat.reduceAdd]
  refine wpPi_do rfl (fun K hK => ?_)
  refine wp_enterQ (run_call 32 [.tmp 58, .tmp 60] _ rfl _ Try.func32 rfl (by kernel_rfl) [.agg #[v1, u1], .int .i64 ((i + 1 : Nat) : Int)] rfl _) (IH.out a1 e1 v1 u1 _ hc1.all hd1.all hal1 hbl1 (by omega) (by omega)) ?_
  rintro e w12 ⟨vl, rfl, hg12, hm12⟩
  generalize dif f (i + 1) a1 e1 = p1 at *
  refine ⟨_, rfl, hK _ _ trivial ?_⟩
  clear hK K
  try simp only [pl, pn, el, ec, sz, ss, gz, gs, if_true, if_false, Bool.false_eq_true, Bool.not_true, Bool.not_false, Nat.add_zero, Nat.zero_add, Nat.reduceAdd]
  refine wpPi_move _ rfl rfl ?_
  simp only [pl, pn, el, ec, sz, ss, gz, gs, if_true, if_false, Bool.false_eq_true, Bool.not_true, Bool.not_false, Nat.add_zero, Nat.zero_add, Nat.reduceAdd]
  refine wpPi_any (v := ?_) rfl (fun w' => ?_) ?_; rotate_left; · (go_simp; try with_reducible rfl)
  simp only [pl, pn, el, ec, sz, ss, gz, gs, if_true, if_false, Bool.false_eq_true, Bool.not_true, Bool.not_false, Nat.add_zero, Nat.zero_add, Nat.reduceAdd]
  refine wpPi_any (v := ?_) rfl (fun w' => ?_) ?_; rotate_left; · (go_simp; try with_reducible rfl)
  simp only [pl, pn, el, ec, sz, ss, gz, gs, if_true, if_false, Bool.false_eq_true, Bool.not_true, Bool.not_false, Nat.add_zero, Nat.zero_add, Nat.reduceAdd]
  refine wpPi_assign _ rfl rfl ?_
  simp only [pl, pn, el, ec, sz, ss, gz, gs, if_true, if_false, Bool.false_eq_true, Bool.not_true, Bool.not_false, Nat.add_zero, Nat.zero_add, Nat.reduceAdd]
  refine wpPi_assign _ rfl rfl ?_
  simp only [pl, pn, el, ec, sz, ss, gz, gs, if_true, if_false, Bool.false_eq_true, Bool.not_true, Bool.not_false, Nat.add_zero, Nat.zero_add, Nat.reduceAdd]
  refine wpPi_nil ?_
  replace hB11 := hm12.obj id hB11
  go_upto_region 9 with (fail)
  refine wp_region_seq [1, 3, 3, 1, 3, 3, 3, 3, 3] (fun _ => True) (by rfl) (by rfl) trivial ?_
  simp only [List.zip_cons_cons, List.zip_nil_right]
  refine wpPi_do rfl (fun K hK => ?_)
  refine wp_exec (exec_loadA 61 _ (by rfl) b7 0 (by rfl) _ (CellsAt.whole hB11) _ Try.underlying61 rfl 2 (by kernel_rfl) rfl) ?_
  refine hK _ _ trivial ?_
  clear hK K
  try simp only [pl, pn, el, ec, sz, ss, gz, gs, if_true, if_false, Bool.false_eq_true, Bool.not_true, Bool.not_false, Nat.add_zero, Nat.zero_add, Nat.reduceAdd]
  refine wpPi_move _ rfl rfl ?_
  simp only [pl, pn, el, ec, sz, ss, gz, gs, if_true, if_false, Bool.false_eq_true, Bool.not_true, Bool.not_false, Nat.add_zero, Nat.zero_add, Nat.reduceAdd]
  refine wpPi_addR _ _ _ _ (i : Int) 1 ((i + 1 : Nat) : Int) rfl rfl rfl rfl (by omega) (by omega) (by omega) ?_
  simp only [pl, pn, el, ec, sz, ss, gz, gs, if_true, if_false, Bool.false_eq_true, Bool.not_true, Bool.not_false, Nat.add_zero, Nat.zero_add, Nat.reduceAdd]
  refine wpPi_do rfl (fun K hK => ?_)
  refine wp_enterQ (run_call 32 [.tmp 65, .tmp 67] _ rfl _ Try.func32 rfl (by kernel_rfl) [.agg #[v2, u2], .int .i64 ((i + 1 : Nat) : Int)] rfl _) (IH.out a2 e2 v2 u2 _ (hc2.keep0 hm12).all (hd2.keep0 hm12).all hal2 hbl2 (by omega) (by omega)) ?_
  rintro e w13 ⟨vr, rfl, hg13, hm13⟩
  generalize dif f (i + 1) a2 e2 = p2 at *
  replace hg12 := hg12.keep0 hm13
  refine ⟨_, rfl, hK _ _ trivial ?_⟩
  clear hK K
  try simp only [pl, pn, el, ec, sz, ss, gz, gs, if_true, if_false, Bool.false_eq_true, Bool.not_true, Bool.not_false, Nat.add_zero, Nat.zero_add, Nat.reduceAdd]
  refine wpPi_move _ rfl rfl ?_
  simp only [pl, pn, el, ec, sz, ss, gz, gs, if_true, if_false, Bool.false_eq_true, Bool.not_true, Bool.not_false, Nat.add_zero, Nat.zero_add, Nat.reduceAdd]
  refine wpPi_any (v := ?_) rfl (fun w' => ?_) ?_; rotate_left; · (go_simp; try with_reducible rfl)
  simp only [pl, pn, el, ec, sz, ss, gz, gs, if_true, if_false, Bool.false_eq_true, Bool.not_true, Bool.not_false, Nat.add_zero, Nat.zero_add, Nat.reduceAdd]
  refine wpPi_any (v := ?_) rfl (fun w' => ?_) ?_; rotate_left; · (go_simp; try with_reducible rfl)
  simp only [pl, pn, el, ec, sz, ss, gz, gs, if_true, if_false, Bool.false_eq_true, Bool.not_true, Bool.not_false, Nat.add_zero, Nat.zero_add, Nat.reduceAdd]
  refine wpPi_assign _ rfl rfl ?_
  simp only [pl, pn, el, ec, sz, ss, gz, gs, if_true, if_false, Bool.false_eq_true, Bool.not_true, Bool.not_false, Nat.add_zero, Nat.zero_add, Nat.reduceAdd]
  refine wpPi_assign _ rfl rfl ?_
  simp only [pl, pn, el, ec, sz, ss, gz, gs, if_true, if_false, Bool.false_eq_true, Bool.not_true, Bool.not_false, Nat.add_zero, Nat.zero_add, Nat.reduceAdd]
  refine wpPi_nil ?_
  have hM13 := (hM11.trans0 hm12).trans0 hm13
  have hM13s := hM13.size
  have hM12s := hm12.size
  have hM13t := hm13.size
  clear hm12 hm13 hM11 hB10 hB11 hc1 hc2 hd1 hd2
  go_upto_region 10 with (fail)
  refine wp_region_seq [3, 3, 1, 3, 3, 3, 3, 3, 3] (fun _ => True) (by rfl) (by rfl) trivial ?_
  simp only [List.zip_cons_cons, List.zip_nil_right]
  refine wpPi_move _ rfl rfl ?_
  simp only [pl, pn, el, ec, sz, ss, gz, gs, if_true, if_false, Bool.false_eq_true, Bool.not_true, Bool.not_false, Nat.add_zero, Nat.zero_add, Nat.reduceAdd]
  refine wpPi_move _ rfl rfl ?_
  simp only [pl, pn, el, ec, sz, ss, gz, gs, if_true, if_false, Bool.false_eq_true, Bool.not_true, Bool.not_false, Nat.add_zero, Nat.zero_add, Nat.reduceAdd]
  refine wpPi_do rfl (fun K hK => ?_)
  refine wp_gat strEnc _ _ 26 9 (.string ⟨#[]⟩) 1 16 (by rfl) Try.underlying26 str_i (by kernel_rfl) (by omega) strEnc_one b6 _ _ (by rfl) (hg12.base (by omega)) vr _ (by rfl) hg13.src (by unfold maxLen; omega) (by omega) (by omega) (fun v14 w14 hg14 hm14 => ?_)
  have hM14 : Mod NoB w3 w14 := hM13.trans hm14 (fun k hk e => by have := (hg12.lt e).1; omega)
  refine hK _ _ trivial ?_
  clear hK K
  try simp only [pl, pn, el, ec, sz, ss, gz, gs, if_true, if_false, Bool.false_eq_true, Bool.not_true, Bool.not_false, Nat.add_zero, Nat.zero_add, Nat.reduceAdd]
  refine wpPi_move _ rfl rfl ?_
  simp only [pl, pn, el, ec, sz, ss, gz, gs, if_true, if_false, Bool.false_eq_true, Bool.not_true, Bool.not_false, Nat.add_zero, Nat.zero_add, Nat.reduceAdd]
  refine wpPi_move _ rfl rfl ?_
  simp only [pl, pn, el, ec, sz, ss, gz, gs, if_true, if_false, Bool.false_eq_true, Bool.not_true, Bool.not_false, Nat.add_zero, Nat.zero_add, Nat.reduceAdd]
  refine wpPi_addR _ _ _ _ (p1.2 : Int) (p2.2 : Int) ((p1.2 + p2.2 : Nat) : Int) rfl rfl rfl rfl (by omega) (by omega) (by omega) ?_
  simp only [pl, pn, el, ec, sz, ss, gz, gs, if_true, if_false, Bool.false_eq_true, Bool.not_true, Bool.not_false, Nat.add_zero, Nat.zero_add, Nat.reduceAdd]
  refine wpPi_addR _ _ _ _ ((p1.2 + p2.2 : Nat) : Int) 1 ((p1.2 + p2.2 + 1 : Nat) : Int) rfl rfl rfl rfl (by omega) (by omega) (by omega) ?_
  simp only [pl, pn, el, ec, sz, ss, gz, gs, if_true, if_false, Bool.false_eq_true, Bool.not_true, Bool.not_false, Nat.add_zero, Nat.zero_add, Nat.reduceAdd]
  refine wpPi_assign _ rfl rfl ?_
  simp only [pl, pn, el, ec, sz, ss, gz, gs, if_true, if_false, Bool.false_eq_true, Bool.not_true, Bool.not_false, Nat.add_zero, Nat.zero_add, Nat.reduceAdd]
  refine wpPi_assign _ rfl rfl ?_
  simp only [pl, pn, el, ec, sz, ss, gz, gs, if_true, if_false, Bool.false_eq_true, Bool.not_true, Bool.not_false, Nat.add_zero, Nat.zero_add, Nat.reduceAdd]
  refine wpPi_nil ?_
  have hMr := hM3.trans0 hM14
  have hgr := hg14.base (b' := w.heap.size) (by omega)
  clear hm14 hM14 hM13 hg12 hg13 hM3
  go_wp2
  go_ret2
  exact ⟨_, rfl, hgr, hMr⟩
theorem differ_any : ∀ (f i : Nat) (a b : List Leaf) (va vb : Value) (w : World), f + i = 256 → Ls w (fun _ => True) va a → Ls w (fun _ => True) vb b → Placed i a → Placed i b → a.length ≤ 65536 → b.length ≤ 65536 → Calls Try.prog 32 #[.agg #[va, vb], .int .i64 (i : Int)] w (DifferR w (dif f i a b)) := by
  intro f
  induction f with
  | zero =>
    intro i a b va vb w hi ha hb hpa hpb hal hbl
    rcases dif_ways 0 i a b with h | ⟨h, h2⟩ | ⟨g, hg, -⟩
    · exact differ_same 0 i hi ha hb hpa hpb hal hbl h
    · exact differ_few 0 i hi ha hb hpa hpb hal hbl h h2
    · cases hg
  | succ f ih =>
    intro i a b va vb w hi ha hb hpa hpb hal hbl
    rcases dif_ways (f + 1) i a b with h | ⟨h, h2⟩ | ⟨g, hg, h, h2, h3⟩
    · exact differ_same _ i hi ha hb hpa hpb hal hbl h
    · exact differ_few _ i hi ha hb hpa hpb hal hbl h h2
    · exact differ_more f i hi ha hb hpa hpb hal hbl h h2 h3 (fun a' b' va vb w h1 h2 h3 h4 h5 h6 => ih (i + 1) a' b' va vb w (by omega) h1 h2 h3 h4 h5 h6)
end Go.Proofs.Ytchkikmmcmjcgaa

/- slices.BinarySearchFunc over leaves. -/
namespace Go.Proofs.Ytchkikmmcmjcgaa
set_option linter.unusedSimpArgs false
set_option linter.unusedVariables false
set_option linter.unnecessarySimpa false
set_option linter.unusedSectionVars false
open Go.RowKit Go.Shelf


set_option maxRecDepth 10000 in
theorem differF_any (x : Leaf) (t : List UInt8) (hx : LeafOk x) (ht : t.length = 32) (w : World) : Calls Try.prog 30 #[.agg (leafCells x), .agg (idCells t)] w (RetM (.int .i64 (cmpI x.way t)) w) := by
  have hxw := hx.1
  have h1 : (idCells x.way).size = 32 := by rw [idCells_size, hxw]
  have h2 : (idCells t).size = 32 := by rw [idCells_size, ht]
  obtain ⟨C, hC⟩ : ∃ C, leafCells x = C := ⟨_, rfl⟩
  have HC := Lib.hid hC
  rw [hC]
  clear hC
  go_enter Try.func30, Try.ntmps30
  go_upto_region 0 with (fail)
  refine wp_region_seq [1, 1, 3] (fun _ => True) (by rfl) (by rfl) trivial ?_
  simp only [List.zip_cons_cons, List.zip_nil_right]
  refine wpPi_do rfl (fun K hK => ?_)
  refine wp_box 63 _ _ (by rfl) (by rfl) (fun w1 hB1 hm1 hs1 => ?_)
  replace hB1 : w1.heap[w.heap.size]? = some (.cells C 63 (0, 0)) := hB1
  refine hK _ _ trivial ?_
  clear hK K
  try simp only [pl, pn, el, ec, sz, ss, gz, gs, if_true, if_false, Bool.false_eq_true, Bool.not_true, Bool.not_false, Nat.add_zero, Nat.zero_add, Nat.reduceAdd]
  refine wpPi_do rfl (fun K hK => ?_)
  refine wp_box 38 _ _ (by rfl) (by rfl) (fun w2 hB2 hm2 hs2 => ?_)
  replace hB2 : w2.heap[w1.heap.size]? = some (.cells (idCells t) 38 (0, 0)) := hB2
  refine hK _ _ trivial ?_
  clear hK K
  try simp only [pl, pn, el, ec, sz, ss, gz, gs, if_true, if_false, Bool.false_eq_true, Bool.not_true, Bool.not_false, Nat.add_zero, Nat.zero_add, Nat.reduceAdd]
  refine wpPi_assign _ rfl rfl ?_
  simp only [pl, pn, el, ec, sz, ss, gz, gs, if_true, if_false, Bool.false_eq_true, Bool.not_true, Bool.not_false, Nat.add_zero, Nat.zero_add, Nat.reduceAdd]
  refine wpPi_nil ?_
  have hc1 := CellsAt.whole (hm2.obj id hB1)
  have hc2 := CellsAt.whole hB2
  rw [← HC.out] at hc1
  replace hc1 := leaf_way hx hc1
  rw [Nat.zero_add] at hc1
  have hG := hm1.trans0 hm2
  generalize w.heap.size = b1 at *
  generalize w1.heap.size = b2 at *
  clear hB1 hB2 hm1 hm2
  go_upto_region 1 with (fail)
  refine wp_region_seq [3, 1, 1, 1, 3] (fun _ => True) (by rfl) (by rfl) trivial ?_
  simp only [List.zip_cons_cons, List.zip_nil_right]
  refine wpPi_field _ _ _ _ _ _ rfl rfl rfl fo_63_1 ?_
  simp only [pl, pn, el, ec, sz, ss, gz, gs, if_true, if_false, Bool.false_eq_true, Bool.not_true, Bool.not_false, Nat.add_zero, Nat.zero_add, Nat.reduceAdd]
  refine wpPi_do rfl (fun K hK => ?_)
  refine wp_exec (exec_loadA 38 _ (by rfl) b1 1 (by rfl) (idCells x.way) hc1 _ Try.underlying38 rfl 32 (by kernel_rfl) h1) ?_
  refine hK _ _ trivial ?_
  clear hK K
  try simp only [pl, pn, el, ec, sz, ss, gz, gs, if_true, if_false, Bool.false_eq_true, Bool.not_true, Bool.not_false, Nat.add_zero, Nat.zero_add, Nat.reduceAdd]
  refine wpPi_do rfl (fun K hK => ?_)
  refine wp_exec (exec_loadA 38 _ (by rfl) b2 0 (by rfl) (idCells t) hc2 _ Try.underlying38 rfl 32 (by kernel_rfl) h2) ?_
  refine hK _ _ trivial ?_
  clear hK K
  try simp only [pl, pn, el, ec, sz, ss, gz, gs, if_true, if_false, Bool.false_eq_true, Bool.not_true, Bool.not_false, Nat.add_zero, Nat.zero_add, Nat.reduceAdd]
  refine wpPi_do rfl (fun K hK => ?_)
  refine wp_enterQ (run_call 31 [.tmp 6, .tmp 7] _ rfl _ Try.func31 rfl (by kernel_rfl) [.agg (idCells x.way), .agg (idCells t)] rfl _) (shaCompare_any x.way t hxw ht _) ?_
  rintro e w3 ⟨rfl, hm3⟩
  have hG3 := hG.trans0 hm3.mod
  refine ⟨_, rfl, hK _ _ trivial ?_⟩
  clear hK K
  try simp only [pl, pn, el, ec, sz, ss, gz, gs, if_true, if_false, Bool.false_eq_true, Bool.not_true, Bool.not_false, Nat.add_zero, Nat.zero_add, Nat.reduceAdd]
  refine wpPi_assign _ rfl rfl ?_
  simp only [pl, pn, el, ec, sz, ss, gz, gs, if_true, if_false, Bool.false_eq_true, Bool.not_true, Bool.not_false, Nat.add_zero, Nat.zero_add, Nat.reduceAdd]
  refine wpPi_nil ?_
  go_wp2
  go_ret
  exact ⟨rfl, hG3⟩
theorem eg_differF : ∀ args w, (callFunc 30 args).run Try.prog w = .ok (.enter 30 args) w := enters_of Try.func30 (by kernel_rfl) rfl
def BinRel (l : List Leaf) (t : List UInt8) (w0 : World) (iv jv : Value) (w : World) : Prop := ∃ i j : Nat, iv = .int .i64 i ∧ jv = .int .i64 j ∧ i ≤ j ∧ j ≤ l.length ∧ (∀ q (_ : q < i) (h : q < l.length), l[q].way < t) ∧ (∀ h : j < l.length, ¬ l[j].way < t) ∧ Mod NoB w0 w
def BinR (l : List Leaf) (t : List UInt8) (w : World) : Ending → World → Prop := fun e w' => ∃ (k : Nat) (b : Bool), e = .returned (.tuple #[.int .i64 k, .bool b]) ∧ (b = true → ∃ h : k < l.length, l[k].way = t) ∧ (b = false → ∀ x ∈ l, x.way ≠ t) ∧ Mod NoB w w'
set_option maxRecDepth 10000 in
set_option maxHeartbeats 1000000 in
theorem binSearch_any {w : World} {G : Nat → Prop} {v : Value} {l : List Leaf} (h : Ls w G v l) (hp : Placed 0 l) (hlen : l.length ≤ 65536) (t : List UInt8) (ht : t.length = 32) :
    Calls Try.prog 29 #[v, .agg (idCells t), .func (.func 30) #[] #[]] w (BinR l t w) := by
  have HS := Lib.hid h
  have HP := Lib.hid hp
  obtain ⟨ad, cap, rfl, hlm, -⟩ := Sl.at h
  have h2 : (idCells t).size = 32 := by rw [idCells_size, ht]
  obtain ⟨C, hC⟩ : ∃ C, idCells t = C := ⟨_, rfl⟩
  have HC := Lib.hid hC
  rw [hC] at h2 ⊢
  clear h hC hp
  go_enter Try.func29, Try.ntmps29
  go_upto_region 0 with (fail)
  refine wp_region_seq [1, 3, 3] (fun _ => True) (by rfl) (by rfl) trivial ?_
  simp only [List.zip_cons_cons, List.zip_nil_right]
  refine wpPi_do rfl (fun K hK => ?_)
  refine wp_box 38 _ _ (by rfl) (by rfl) (fun w1 hB1 hm1 hs1 => ?_)
  replace hB1 : w1.heap[w.heap.size]? = some (.cells C 38 (0, 0)) := hB1
  refine hK _ _ trivial ?_
  clear hK K
  try simp only [pl, pn, el, ec, sz, ss, gz, gs, if_true, if_false, Bool.false_eq_true, Bool.not_true, Bool.not_false, Nat.add_zero, Nat.zero_add, Nat.reduceAdd]
  refine wpPi_assign _ rfl rfl ?_
  simp only [pl, pn, el, ec, sz, ss, gz, gs, if_true, if_false, Bool.false_eq_true, Bool.not_true, Bool.not_false, Nat.add_zero, Nat.zero_add, Nat.reduceAdd]
  refine wpPi_assign _ rfl rfl ?_
  simp only [pl, pn, el, ec, sz, ss, gz, gs, if_true, if_false, Bool.false_eq_true, Bool.not_true, Bool.not_false, Nat.add_zero, Nat.zero_add, Nat.reduceAdd]
  refine wpPi_nil ?_
  have hcb := CellsAt.whole hB1
  have HS1 := Lib.hid (HS.out.keep0 hm1)
  generalize w.heap.size = b4 at *
  clear hB1
  go_wp2
  go_loopw [9, 10] (BinRel l t w1) (fun i j _ => (intOf j).toNat - (intOf i).toNat)
  case atStart => exact ⟨0, l.length, rfl, rfl, by omega, by omega, fun q h1 h2 => by omega, fun h => by omega, Mod.refl _ _⟩
  case round =>
    rename World => wr
    obtain ⟨i, j, rfl, rfl, hij, hjn, hlo, hhi, hm⟩ := hrel
    have HLO := Lib.hid hlo
    have HHI := Lib.hid hhi
    clear hlo hhi
    have hcr := hcb.keep hm id
    by_cases hlt : i < j
    · have hz : (i : Int) < (j : Int) := by omega
      obtain ⟨q, hh⟩ : ∃ q, (i + j) / 2 = q := ⟨_, rfl⟩
      have hil : i ≤ q := by omega
      have hhj : q < j := by omega
      have hql : q < l.length := by omega
      have hcv1 : IntKind.u64.wrap ((i : Int) + (j : Int)) = ((i + j : Nat) : Int) := by simp [IntKind.wrap, IntKind.bits, IntKind.signed]; omega
      have HCV1 := Lib.hid hcv1
      clear hcv1
      go_upto_region 4 with (fail)
      refine wp_region_seq [3, 3, 3, 3, 3, 3, 3] (fun _ => True) (by rfl) (by rfl) trivial ?_
      simp only [List.zip_cons_cons, List.zip_nil_right]
      refine wpPi_move _ rfl rfl ?_
      simp only [pl, pn, el, ec, sz, ss, gz, gs, if_true, if_false, Bool.false_eq_true, Bool.not_true, Bool.not_false, Nat.add_zero, Nat.zero_add, Nat.reduceAdd]
      refine wpPi_move _ rfl rfl ?_
      simp only [pl, pn, el, ec, sz, ss, gz, gs, if_true, if_false, Bool.false_eq_true, Bool.not_true, Bool.not_false, Nat.add_zero, Nat.zero_add, Nat.reduceAdd]
      refine wpPi_addR _ _ _ _ (i : Int) (j : Int) ((i + j : Nat) : Int) rfl rfl rfl rfl (by omega) (by omega) (by omega) ?_
      simp only [pl, pn, el, ec, sz, ss, gz, gs, if_true, if_false, Bool.false_eq_true, Bool.not_true, Bool.not_false, Nat.add_zero, Nat.zero_add, Nat.reduceAdd]
      refine wpPi_any (v := .int .u64 ((i + j : Nat) : Int)) rfl (fun w' => exec_conv_uint 3 92 _ _ rfl rfl (by kernel_rfl) Try.underlying92 _ (by rw [Int.natCast_add]; exact HCV1.out)) ?_
      simp only [pl, pn, el, ec, sz, ss, gz, gs, if_true, if_false, Bool.false_eq_true, Bool.not_true, Bool.not_false, Nat.add_zero, Nat.zero_add, Nat.reduceAdd]
      refine wpPi_any (v := .int .u64 (q : Int)) rfl (fun w' => by rw [← hh]; exact exec_shr64 _ _ _ _ (i + j) .u64 1 rfl rfl rfl (by omega) (by omega)) ?_
      simp only [pl, pn, el, ec, sz, ss, gz, gs, if_true, if_false, Bool.false_eq_true, Bool.not_true, Bool.not_false, Nat.add_zero, Nat.zero_add, Nat.reduceAdd]
      refine wpPi_any (v := .int .i64 (q : Int)) rfl (fun w' => exec_conv_int 92 3 _ _ rfl rfl (by kernel_rfl) Try.underlying3 _ (wrap_in (by omega) (by omega))) ?_
      simp only [pl, pn, el, ec, sz, ss, gz, gs, if_true, if_false, Bool.false_eq_true, Bool.not_true, Bool.not_false, Nat.add_zero, Nat.zero_add, Nat.reduceAdd]
      refine wpPi_assign _ rfl rfl ?_
      simp only [pl, pn, el, ec, sz, ss, gz, gs, if_true, if_false, Bool.false_eq_true, Bool.not_true, Bool.not_false, Nat.add_zero, Nat.zero_add, Nat.reduceAdd]
      refine wpPi_nil ?_
      obtain ⟨_, _, hv, -, hat⟩ := Sl.at (HS1.out.keep0 hm)
      cases hv
      obtain ⟨b, off, rfl, -, -, hc⟩ := hat q hql
      obtain ⟨_, -, ⟨rfl, hok⟩, hc⟩ := hc q hql
      have hys := leafCells_size hok
      clear hat
      by_cases hless : l[q].way < t
      · have hcm : cmpI l[q].way t < 0 := (cmpI_neg _ _).2 hless
        have hstep : ∀ q' (_ : q' < q + 1) (h : q' < l.length), l[q'].way < t := fun q' h1 h2 => by
          rcases Nat.lt_or_ge q' q with h3 | h3
          · have := List.pairwise_iff_getElem.1 HP.out.rise q' q h2 hql h3
            exact List.lt_trans this hless
          · obtain rfl : q' = q := by omega
            exact hless
        have HST := Lib.hid hstep
        clear hstep hless
        generalize l[q] = y at *
        go_upto_region 5 with (fail)
        have hS : Mod NoB wr wr.drew := (Mod.refl _ _).drew
        refine wp_region_pi [(0, 3), (1, 3), (2, 3), (3, 3), (4, 0), (5, 0), (6, 1), (7, 3)] [] (fun w' => Mod NoB wr w') (by kernel_rfl) (by kernel_rfl) (by kernel_rfl) (by kernel_rfl) (fun _ _ _ _ hd h => ⟨hd.trans h.1, h.2⟩) hS ?_
        simp only [List.map_cons, List.map_nil, List.getD_cons_zero, List.getD_cons_succ]
        refine wpPi_move _ rfl rfl ?_
        simp only [pl, pn, el, ec, sz, ss, gz, gs, if_true, if_false, Bool.false_eq_true, Bool.not_true, Bool.not_false, Nat.add_zero, Nat.zero_add, Nat.reduceAdd]
        refine wpPi_move _ rfl rfl ?_
        simp only [pl, pn, el, ec, sz, ss, gz, gs, if_true, if_false, Bool.false_eq_true, Bool.not_true, Bool.not_false, Nat.add_zero, Nat.zero_add, Nat.reduceAdd]
        refine wpPi_move _ rfl rfl ?_
        simp only [pl, pn, el, ec, sz, ss, gz, gs, if_true, if_false, Bool.false_eq_true, Bool.not_true, Bool.not_false, Nat.add_zero, Nat.zero_add, Nat.reduceAdd]
        refine wpPi_index _ _ _ _ _ _ _ _ _ rfl rfl rfl rfl Try.underlying58 (n := 65) (by kernel_rfl) hql ?_
        simp only [pl, pn, el, ec, sz, ss, gz, gs, if_true, if_false, Bool.false_eq_true, Bool.not_true, Bool.not_false, Nat.add_zero, Nat.zero_add, Nat.reduceAdd]
        refine wpPi_val rfl (fun w' hS => exec_loadA 63 _ (by rfl) b (off + q * 65) (by rfl) (leafCells y) (hc.keep hS id) _ Try.underlying63 rfl 65 (by kernel_rfl) hys) ?_
        simp only [pl, pn, el, ec, sz, ss, gz, gs, if_true, if_false, Bool.false_eq_true, Bool.not_true, Bool.not_false, Nat.add_zero, Nat.zero_add, Nat.reduceAdd]
        refine wpPi_val rfl (fun w' hS => exec_loadA 38 _ (by rfl) b4 0 (by rfl) C (hcr.keep hS id) _ Try.underlying38 rfl 32 (by kernel_rfl) h2) ?_
        simp only [pl, pn, el, ec, sz, ss, gz, gs, if_true, if_false, Bool.false_eq_true, Bool.not_true, Bool.not_false, Nat.add_zero, Nat.zero_add, Nat.reduceAdd]
        refine wpPi_do rfl (fun K hK => ?_)
        refine wp_enterQ (run_callV 30 _ [.tmp 28, .tmp 29] _ #[] rfl rfl eg_differF [.agg (leafCells y), .agg C] rfl _) (by rw [← HC.out]; exact differF_any y t hok ht _) ?_
        rintro e w2 ⟨rfl, hm2⟩
        have hS2 := hS.trans0 hm2
        refine ⟨_, rfl, hK _ _ hS2 ?_⟩
        clear hK K
        try simp only [pl, pn, el, ec, sz, ss, gz, gs, if_true, if_false, Bool.false_eq_true, Bool.not_true, Bool.not_false, Nat.add_zero, Nat.zero_add, Nat.reduceAdd]
        refine wpPi_cmp _ _ _ _ _ _ _ _ rfl rfl rfl rfl rfl true (decide_eq_true hcm) ?_
        simp only [pl, pn, el, ec, sz, ss, gz, gs, if_true, if_false, Bool.false_eq_true, Bool.not_true, Bool.not_false, Nat.add_zero, Nat.zero_add, Nat.reduceAdd]
        refine wpPi_nil ?_
        have hMr := hm.trans0 hS2
        clear hm hS hS2 hm2 hc
        go_wp2
        go_roundw
        case rel => exact ⟨q + 1, j, by go_num, rfl, by omega, hjn, HST.out, HHI.out, hMr⟩
        case measure => simp [intOf]; omega
      · have hcm : ¬ cmpI l[q].way t < 0 := fun h => hless ((cmpI_neg _ _).1 h)
        have hstep : ∀ h : q < l.length, ¬ l[q].way < t := fun _ => hless
        have HST := Lib.hid hstep
        clear hstep hless
        generalize l[q] = y at hcm hok hc hys
        go_upto_region 5 with (fail)
        have hS : Mod NoB wr wr.drew := (Mod.refl _ _).drew
        refine wp_region_pi [(0, 3), (1, 3), (2, 3), (3, 3), (4, 0), (5, 0), (6, 1), (7, 3)] [] (fun w' => Mod NoB wr w') (by kernel_rfl) (by kernel_rfl) (by kernel_rfl) (by kernel_rfl) (fun _ _ _ _ hd h => ⟨hd.trans h.1, h.2⟩) hS ?_
        simp only [List.map_cons, List.map_nil, List.getD_cons_zero, List.getD_cons_succ]
        refine wpPi_move _ rfl rfl ?_
        simp only [pl, pn, el, ec, sz, ss, gz, gs, if_true, if_false, Bool.false_eq_true, Bool.not_true, Bool.not_false, Nat.add_zero, Nat.zero_add, Nat.reduceAdd]
        refine wpPi_move _ rfl rfl ?_
        simp only [pl, pn, el, ec, sz, ss, gz, gs, if_true, if_false, Bool.false_eq_true, Bool.not_true, Bool.not_false, Nat.add_zero, Nat.zero_add, Nat.reduceAdd]
        refine wpPi_move _ rfl rfl ?_
        simp only [pl, pn, el, ec, sz, ss, gz, gs, if_true, if_false, Bool.false_eq_true, Bool.not_true, Bool.not_false, Nat.add_zero, Nat.zero_add, Nat.reduceAdd]
        refine wpPi_index _ _ _ _ _ _ _ _ _ rfl rfl rfl rfl Try.underlying58 (n := 65) (by kernel_rfl) hql ?_
        simp only [pl, pn, el, ec, sz, ss, gz, gs, if_true, if_false, Bool.false_eq_true, Bool.not_true, Bool.not_false, Nat.add_zero, Nat.zero_add, Nat.reduceAdd]
        refine wpPi_val rfl (fun w' hS => exec_loadA 63 _ (by rfl) b (off + q * 65) (by rfl) (leafCells y) (hc.keep hS id) _ Try.underlying63 rfl 65 (by kernel_rfl) hys) ?_
        simp only [pl, pn, el, ec, sz, ss, gz, gs, if_true, if_false, Bool.false_eq_true, Bool.not_true, Bool.not_false, Nat.add_zero, Nat.zero_add, Nat.reduceAdd]
        refine wpPi_val rfl (fun w' hS => exec_loadA 38 _ (by rfl) b4 0 (by rfl) C (hcr.keep hS id) _ Try.underlying38 rfl 32 (by kernel_rfl) h2) ?_
        simp only [pl, pn, el, ec, sz, ss, gz, gs, if_true, if_false, Bool.false_eq_true, Bool.not_true, Bool.not_false, Nat.add_zero, Nat.zero_add, Nat.reduceAdd]
        refine wpPi_do rfl (fun K hK => ?_)
        refine wp_enterQ (run_callV 30 _ [.tmp 28, .tmp 29] _ #[] rfl rfl eg_differF [.agg (leafCells y), .agg C] rfl _) (by rw [← HC.out]; exact differF_any y t hok ht _) ?_
        rintro e w2 ⟨rfl, hm2⟩
        have hS2 := hS.trans0 hm2
        refine ⟨_, rfl, hK _ _ hS2 ?_⟩
        clear hK K
        try simp only [pl, pn, el, ec, sz, ss, gz, gs, if_true, if_false, Bool.false_eq_true, Bool.not_true, Bool.not_false, Nat.add_zero, Nat.zero_add, Nat.reduceAdd]
        refine wpPi_cmp _ _ _ _ _ _ _ _ rfl rfl rfl rfl rfl false (decide_eq_false hcm) ?_
        simp only [pl, pn, el, ec, sz, ss, gz, gs, if_true, if_false, Bool.false_eq_true, Bool.not_true, Bool.not_false, Nat.add_zero, Nat.zero_add, Nat.reduceAdd]
        refine wpPi_nil ?_
        have hMr := hm.trans0 hS2
        clear hm hS hS2 hm2 hc
        go_wp2
        go_roundw
        case rel => exact ⟨i, q, rfl, rfl, hil, by omega, HLO.out, HST.out, hMr⟩
        case measure => simp [intOf]; omega
    · have hz : ¬ (i : Int) < (j : Int) := by omega
      obtain rfl : i = j := by omega
      by_cases hil : i < l.length
      · have hz2 : (i : Int) < (l.length : Int) := by omega
        obtain ⟨_, _, hv, -, hat⟩ := Sl.at (HS1.out.keep0 hm)
        cases hv
        obtain ⟨b, off, rfl, -, -, hc⟩ := hat i hil
        obtain ⟨_, -, ⟨rfl, hok⟩, hc⟩ := hc i hil
        have hys := leafCells_size hok
        clear hat
        by_cases heq : l[i].way = t
        · have hcm : cmpI l[i].way t = 0 := (cmpI_zero _ _).2 heq
          have hout : ∃ h : i < l.length, l[i].way = t := ⟨hil, heq⟩
          have HO := Lib.hid hout
          clear heq hout
          generalize l[i] = y at hcm hok hc hys
          go_upto_region 8 with (fail)
          have hS : Mod NoB wr wr.drew := (Mod.refl _ _).drew
          refine wp_region_pi [(0, 3), (1, 3), (2, 3), (3, 3), (4, 3), (5, 3), (6, 3), (7, 3), (8, 3), (9, 0), (10, 0), (11, 1), (12, 3), (13, 3), (14, 3), (15, 3)] [] (fun w' => Mod NoB wr w') (by kernel_rfl) (by kernel_rfl) (by kernel_rfl) (by kernel_rfl) (fun _ _ _ _ hd h => ⟨hd.trans h.1, h.2⟩) hS ?_
          simp only [List.map_cons, List.map_nil, List.getD_cons_zero, List.getD_cons_succ]
          refine wpPi_move _ rfl rfl ?_
          simp only [pl, pn, el, ec, sz, ss, gz, gs, if_true, if_false, Bool.false_eq_true, Bool.not_true, Bool.not_false, Nat.add_zero, Nat.zero_add, Nat.reduceAdd]
          refine wpPi_move _ rfl rfl ?_
          simp only [pl, pn, el, ec, sz, ss, gz, gs, if_true, if_false, Bool.false_eq_true, Bool.not_true, Bool.not_false, Nat.add_zero, Nat.zero_add, Nat.reduceAdd]
          refine wpPi_move _ rfl rfl ?_
          simp only [pl, pn, el, ec, sz, ss, gz, gs, if_true, if_false, Bool.false_eq_true, Bool.not_true, Bool.not_false, Nat.add_zero, Nat.zero_add, Nat.reduceAdd]
          refine wpPi_cmp _ _ _ _ _ _ _ _ rfl rfl rfl rfl rfl true (decide_eq_true hz2) ?_
          simp only [pl, pn, el, ec, sz, ss, gz, gs, if_true, if_false, Bool.false_eq_true, Bool.not_true, Bool.not_false, Nat.add_zero, Nat.zero_add, Nat.reduceAdd]
          refine wpPi_move _ rfl rfl ?_
          simp only [pl, pn, el, ec, sz, ss, gz, gs, if_true, if_false, Bool.false_eq_true, Bool.not_true, Bool.not_false, Nat.add_zero, Nat.zero_add, Nat.reduceAdd]
          refine wpPi_move _ rfl rfl ?_
          simp only [pl, pn, el, ec, sz, ss, gz, gs, if_true, if_false, Bool.false_eq_true, Bool.not_true, Bool.not_false, Nat.add_zero, Nat.zero_add, Nat.reduceAdd]
          refine wpPi_move _ rfl rfl ?_
          simp only [pl, pn, el, ec, sz, ss, gz, gs, if_true, if_false, Bool.false_eq_true, Bool.not_true, Bool.not_false, Nat.add_zero, Nat.zero_add, Nat.reduceAdd]
          refine wpPi_move _ rfl rfl ?_
          simp only [pl, pn, el, ec, sz, ss, gz, gs, if_true, if_false, Bool.false_eq_true, Bool.not_true, Bool.not_false, Nat.add_zero, Nat.zero_add, Nat.reduceAdd]
          refine wpPi_index _ _ _ _ _ _ _ _ _ rfl rfl rfl rfl Try.underlying58 (n := 65) (by kernel_rfl) hil ?_
          simp only [pl, pn, el, ec, sz, ss, gz, gs, if_true, if_false, Bool.false_eq_true, Bool.not_true, Bool.not_false, Nat.add_zero, Nat.zero_add, Nat.reduceAdd]
          refine wpPi_val rfl (fun w' hS => exec_loadA 63 _ (by rfl) b (off + i * 65) (by rfl) (leafCells y) (hc.keep hS id) _ Try.underlying63 rfl 65 (by kernel_rfl) hys) ?_
          simp only [pl, pn, el, ec, sz, ss, gz, gs, if_true, if_false, Bool.false_eq_true, Bool.not_true, Bool.not_false, Nat.add_zero, Nat.zero_add, Nat.reduceAdd]
          refine wpPi_val rfl (fun w' hS => exec_loadA 38 _ (by rfl) b4 0 (by rfl) C (hcr.keep hS id) _ Try.underlying38 rfl 32 (by kernel_rfl) h2) ?_
          simp only [pl, pn, el, ec, sz, ss, gz, gs, if_true, if_false, Bool.false_eq_true, Bool.not_true, Bool.not_false, Nat.add_zero, Nat.zero_add, Nat.reduceAdd]
          refine wpPi_do rfl (fun K hK => ?_)
          refine wp_enterQ (run_callV 30 _ [.tmp 44, .tmp 45] _ #[] rfl rfl eg_differF [.agg (leafCells y), .agg C] rfl _) (by rw [← HC.out]; exact differF_any y t hok ht _) ?_
          rintro e w2 ⟨rfl, hm2⟩
          have hS2 := hS.trans0 hm2
          refine ⟨_, rfl, hK _ _ hS2 ?_⟩
          clear hK K
          try simp only [pl, pn, el, ec, sz, ss, gz, gs, if_true, if_false, Bool.false_eq_true, Bool.not_true, Bool.not_false, Nat.add_zero, Nat.zero_add, Nat.reduceAdd]
          refine wpPi_cmp _ _ _ _ _ _ _ _ rfl rfl rfl rfl rfl true (decide_eq_true hcm) ?_
          simp only [pl, pn, el, ec, sz, ss, gz, gs, if_true, if_false, Bool.false_eq_true, Bool.not_true, Bool.not_false, Nat.add_zero, Nat.zero_add, Nat.reduceAdd]
          refine wpPi_pick _ _ _ _ rfl rfl rfl ?_
          simp only [pl, pn, el, ec, sz, ss, gz, gs, if_true, if_false, Bool.false_eq_true, Bool.not_true, Bool.not_false, Nat.add_zero, Nat.zero_add, Nat.reduceAdd]
          refine wpPi_assign _ rfl rfl ?_
          simp only [pl, pn, el, ec, sz, ss, gz, gs, if_true, if_false, Bool.false_eq_true, Bool.not_true, Bool.not_false, Nat.add_zero, Nat.zero_add, Nat.reduceAdd]
          refine wpPi_assign _ rfl rfl ?_
          simp only [pl, pn, el, ec, sz, ss, gz, gs, if_true, if_false, Bool.false_eq_true, Bool.not_true, Bool.not_false, Nat.add_zero, Nat.zero_add, Nat.reduceAdd]
          refine wpPi_nil ?_
          have hMr := hm1.trans0 (hm.trans0 hS2)
          clear hm hS hS2 hm2 hc
          go_wp2
          go_ret2
          exact ⟨i, true, rfl, fun _ => HO.out, (fun h => by cases h), hMr⟩
        · have hcm : ¬ cmpI l[i].way t = 0 := fun h => heq ((cmpI_zero _ _).1 h)
          have hout : ∀ x ∈ l, x.way ≠ t := fun x hx e => by
            obtain ⟨q, hq, rfl⟩ := List.getElem_of_mem hx
            rcases Nat.lt_trichotomy q i with h3 | h3 | h3
            · have := HLO.out q h3 hq
              rw [e] at this; exact List.lt_irrefl _ this
            · subst h3; exact heq e
            · have h4 := List.pairwise_iff_getElem.1 HP.out.rise i q hil hq h3
              rw [e] at h4
              exact HHI.out hil h4
          have HO := Lib.hid hout
          clear heq hout
          generalize l[i] = y at hcm hok hc hys
          go_upto_region 8 with (fail)
          have hS : Mod NoB wr wr.drew := (Mod.refl _ _).drew
          refine wp_region_pi [(0, 3), (1, 3), (2, 3), (3, 3), (4, 3), (5, 3), (6, 3), (7, 3), (8, 3), (9, 0), (10, 0), (11, 1), (12, 3), (13, 3), (14, 3), (15, 3)] [] (fun w' => Mod NoB wr w') (by kernel_rfl) (by kernel_rfl) (by kernel_rfl) (by kernel_rfl) (fun _ _ _ _ hd h => ⟨hd.trans h.1, h.2⟩) hS ?_
          simp only [List.map_cons, List.map_nil, List.getD_cons_zero, List.getD_cons_succ]
          refine wpPi_move _ rfl rfl ?_
          simp only [pl, pn, el, ec, sz, ss, gz, gs, if_true, if_false, Bool.false_eq_true, Bool.not_true, Bool.not_false, Nat.add_zero, Nat.zero_add, Nat.reduceAdd]
          refine wpPi_move _ rfl rfl ?_
          simp only [pl, pn, el, ec, sz, ss, gz, gs, if_true, if_false, Bool.false_eq_true, Bool.not_true, Bool.not_false, Nat.add_zero, Nat.zero_add, Nat.reduceAdd]
          refine wpPi_move _ rfl rfl ?_
          simp only [pl, pn, el, ec, sz, ss, gz, gs, if_true, if_false, Bool.false_eq_true, Bool.not_true, Bool.not_false, Nat.add_zero, Nat.zero_add, Nat.reduceAdd]
          refine wpPi_cmp _ _ _ _ _ _ _ _ rfl rfl rfl rfl rfl true (decide_eq_true hz2) ?_
          simp only [pl, pn, el, ec, sz, ss, gz, gs, if_true, if_false, Bool.false_eq_true, Bool.not_true, Bool.not_false, Nat.add_zero, Nat.zero_add, Nat.reduceAdd]
          refine wpPi_move _ rfl rfl ?_
          simp only [pl, pn, el, ec, sz, ss, gz, gs, if_true, if_false, Bool.false_eq_true, Bool.not_true, Bool.not_false, Nat.add_zero, Nat.zero_add, Nat.reduceAdd]
          refine wpPi_move _ rfl rfl ?_
          simp only [pl, pn, el, ec, sz, ss, gz, gs, if_true, if_false, Bool.false_eq_true, Bool.not_true, Bool.not_false, Nat.add_zero, Nat.zero_add, Nat.reduceAdd]
          refine wpPi_move _ rfl rfl ?_
          simp only [pl, pn, el, ec, sz, ss, gz, gs, if_true, if_false, Bool.false_eq_true, Bool.not_true, Bool.not_false, Nat.add_zero, Nat.zero_add, Nat.reduceAdd]
          refine wpPi_move _ rfl rfl ?_
          simp only [pl, pn, el, ec, sz, ss, gz, gs, if_true, if_false, Bool.false_eq_true, Bool.not_true, Bool.not_false, Nat.add_zero, Nat.zero_add, Nat.reduceAdd]
          refine wpPi_index _ _ _ _ _ _ _ _ _ rfl rfl rfl rfl Try.underlying58 (n := 65) (by kernel_rfl) hil ?_
          simp only [pl, pn, el, ec, sz, ss, gz, gs, if_true, if_false, Bool.false_eq_true, Bool.not_true, Bool.not_false, Nat.add_zero, Nat.zero_add, Nat.reduceAdd]
          refine wpPi_val rfl (fun w' hS => exec_loadA 63 _ (by rfl) b (off + i * 65) (by rfl) (leafCells y) (hc.keep hS id) _ Try.underlying63 rfl 65 (by kernel_rfl) hys) ?_
          simp only [pl, pn, el, ec, sz, ss, gz, gs, if_true, if_false, Bool.false_eq_true, Bool.not_true, Bool.not_false, Nat.add_zero, Nat.zero_add, Nat.reduceAdd]
          refine wpPi_val rfl (fun w' hS => exec_loadA 38 _ (by rfl) b4 0 (by rfl) C (hcr.keep hS id) _ Try.underlying38 rfl 32 (by kernel_rfl) h2) ?_
          simp only [pl, pn, el, ec, sz, ss, gz, gs, if_true, if_false, Bool.false_eq_true, Bool.not_true, Bool.not_false, Nat.add_zero, Nat.zero_add, Nat.reduceAdd]
          refine wpPi_do rfl (fun K hK => ?_)
          refine wp_enterQ (run_callV 30 _ [.tmp 44, .tmp 45] _ #[] rfl rfl eg_differF [.agg (leafCells y), .agg C] rfl _) (by rw [← HC.out]; exact differF_any y t hok ht _) ?_
          rintro e w2 ⟨rfl, hm2⟩
          have hS2 := hS.trans0 hm2
          refine ⟨_, rfl, hK _ _ hS2 ?_⟩
          clear hK K
          try simp only [pl, pn, el, ec, sz, ss, gz, gs, if_true, if_false, Bool.false_eq_true, Bool.not_true, Bool.not_false, Nat.add_zero, Nat.zero_add, Nat.reduceAdd]
          refine wpPi_cmp _ _ _ _ _ _ _ _ rfl rfl rfl rfl rfl false (decide_eq_false hcm) ?_
          simp only [pl, pn, el, ec, sz, ss, gz, gs, if_true, if_false, Bool.false_eq_true, Bool.not_true, Bool.not_false, Nat.add_zero, Nat.zero_add, Nat.reduceAdd]
          refine wpPi_pick _ _ _ _ rfl rfl rfl ?_
          simp only [pl, pn, el, ec, sz, ss, gz, gs, if_true, if_false, Bool.false_eq_true, Bool.not_true, Bool.not_false, Nat.add_zero, Nat.zero_add, Nat.reduceAdd]
          refine wpPi_assign _ rfl rfl ?_
          simp only [pl, pn, el, ec, sz, ss, gz, gs, if_true, if_false, Bool.false_eq_true, Bool.not_true, Bool.not_false, Nat.add_zero, Nat.zero_add, Nat.reduceAdd]
          refine wpPi_assign _ rfl rfl ?_
          simp only [pl, pn, el, ec, sz, ss, gz, gs, if_true, if_false, Bool.false_eq_true, Bool.not_true, Bool.not_false, Nat.add_zero, Nat.zero_add, Nat.reduceAdd]
          refine wpPi_nil ?_
          have hMr := hm1.trans0 (hm.trans0 hS2)
          clear hm hS hS2 hm2 hc
          go_wp2
          go_ret2
          exact ⟨i, false, rfl, (fun h => by cases h), fun _ => HO.out, hMr⟩
      · have hz2 : ¬ (i : Int) < (l.length : Int) := by omega
        have hout : ∀ x ∈ l, x.way ≠ t := fun x hx e => by
          obtain ⟨q, hq, rfl⟩ := List.getElem_of_mem hx
          have := HLO.out q (by omega) hq
          rw [e] at this; exact List.lt_irrefl _ this
        have HO := Lib.hid hout
        clear hout
        go_upto_region 8 with (fail)
        have hS : Mod NoB wr wr.drew := (Mod.refl _ _).drew
        refine wp_region_pi [(0, 3), (1, 3), (2, 3), (3, 3), (4, 3), (5, 3), (6, 3), (7, 3), (8, 3), (9, 0), (10, 0), (11, 1), (12, 3), (13, 3), (14, 3), (15, 3)] [] (fun w' => Mod NoB wr w') (by kernel_rfl) (by kernel_rfl) (by kernel_rfl) (by kernel_rfl) (fun _ _ _ _ hd h => ⟨hd.trans h.1, h.2⟩) hS ?_
        simp only [List.map_cons, List.map_nil, List.getD_cons_zero, List.getD_cons_succ]
        refine wpPi_move _ rfl rfl ?_
        simp only [pl, pn, el, ec, sz, ss, gz, gs, if_true, if_false, Bool.false_eq_true, Bool.not_true, Bool.not_false, Nat.add_zero, Nat.zero_add, Nat.reduceAdd]
        refine wpPi_move _ rfl rfl ?_
        simp only [pl, pn, el, ec, sz, ss, gz, gs, if_true, if_false, Bool.false_eq_true, Bool.not_true, Bool.not_false, Nat.add_zero, Nat.zero_add, Nat.reduceAdd]
        refine wpPi_move _ rfl rfl ?_
        simp only [pl, pn, el, ec, sz, ss, gz, gs, if_true, if_false, Bool.false_eq_true, Bool.not_true, Bool.not_false, Nat.add_zero, Nat.zero_add, Nat.reduceAdd]
        refine wpPi_cmp _ _ _ _ _ _ _ _ rfl rfl rfl rfl rfl false (decide_eq_false hz2) ?_
        simp only [pl, pn, el, ec, sz, ss, gz, gs, if_true, if_false, Bool.false_eq_true, Bool.not_true, Bool.not_false, Nat.add_zero, Nat.zero_add, Nat.reduceAdd]
        refine wpPi_move _ rfl rfl ?_
        simp only [pl, pn, el, ec, sz, ss, gz, gs, if_true, if_false, Bool.false_eq_true, Bool.not_true, Bool.not_false, Nat.add_zero, Nat.zero_add, Nat.reduceAdd]
        refine wpPi_skip rfl ?_
        simp only [pl, pn, el, ec, sz, ss, gz, gs, if_true, if_false, Bool.false_eq_true, Bool.not_true, Bool.not_false, Nat.add_zero, Nat.zero_add, Nat.reduceAdd]
        refine wpPi_skip rfl ?_
        simp only [pl, pn, el, ec, sz, ss, gz, gs, if_true, if_false, Bool.false_eq_true, Bool.not_true, Bool.not_false, Nat.add_zero, Nat.zero_add, Nat.reduceAdd]
        refine wpPi_skip rfl ?_
        simp only [pl, pn, el, ec, sz, ss, gz, gs, if_true, if_false, Bool.false_eq_true, Bool.not_true, Bool.not_false, Nat.add_zero, Nat.zero_add, Nat.reduceAdd]
        refine wpPi_skip rfl ?_
        simp only [pl, pn, el, ec, sz, ss, gz, gs, if_true, if_false, Bool.false_eq_true, Bool.not_true, Bool.not_false, Nat.add_zero, Nat.zero_add, Nat.reduceAdd]
        refine wpPi_skip0 rfl ?_
        simp only [pl, pn, el, ec, sz, ss, gz, gs, if_true, if_false, Bool.false_eq_true, Bool.not_true, Bool.not_false, Nat.add_zero, Nat.zero_add, Nat.reduceAdd]
        refine wpPi_skip0 rfl ?_
        simp only [pl, pn, el, ec, sz, ss, gz, gs, if_true, if_false, Bool.false_eq_true, Bool.not_true, Bool.not_false, Nat.add_zero, Nat.zero_add, Nat.reduceAdd]
        refine wpPi_do_skip rfl hS ?_
        simp only [pl, pn, el, ec, sz, ss, gz, gs, if_true, if_false, Bool.false_eq_true, Bool.not_true, Bool.not_false, Nat.add_zero, Nat.zero_add, Nat.reduceAdd]
        refine wpPi_skip rfl ?_
        simp only [pl, pn, el, ec, sz, ss, gz, gs, if_true, if_false, Bool.false_eq_true, Bool.not_true, Bool.not_false, Nat.add_zero, Nat.zero_add, Nat.reduceAdd]
        refine wpPi_pick _ _ _ _ rfl rfl rfl ?_
        simp only [pl, pn, el, ec, sz, ss, gz, gs, if_true, if_false, Bool.false_eq_true, Bool.not_true, Bool.not_false, Nat.add_zero, Nat.zero_add, Nat.reduceAdd]
        refine wpPi_assign _ rfl rfl ?_
        simp only [pl, pn, el, ec, sz, ss, gz, gs, if_true, if_false, Bool.false_eq_true, Bool.not_true, Bool.not_false, Nat.add_zero, Nat.zero_add, Nat.reduceAdd]
        refine wpPi_assign _ rfl rfl ?_
        simp only [pl, pn, el, ec, sz, ss, gz, gs, if_true, if_false, Bool.false_eq_true, Bool.not_true, Bool.not_false, Nat.add_zero, Nat.zero_add, Nat.reduceAdd]
        refine wpPi_nil ?_
        have hMr := hm1.trans0 (hm.trans0 hS)
        clear hm hS
        go_wp2
        go_ret2
        exact ⟨i, false, rfl, (fun h => by cases h), fun _ => HO.out, hMr⟩
end Go.Proofs.Ytchkikmmcmjcgaa

/- tree.Differ: which keys differ. -/
namespace Go.Proofs.Ytchkikmmcmjcgaa
set_option linter.unusedSimpArgs false
set_option linter.unusedVariables false
set_option linter.unnecessarySimpa false
set_option linter.unusedSectionVars false
open Go.RowKit Go.Shelf


theorem exec_index_agg1 {P : Program} {w : World} {o : Oper} {a : Act} (t e : TypeId) (x y : Operand) (n : Nat) (cs : Array Value) (i : Nat) (c : Value) (ho : o.op = .index t x y) (hx : a.eval x = .agg cs) (hy : a.eval y = .int .i64 (i : Int)) (hu : P.underlying t = some (.array n e)) (hs : (P.info? e).map (·.size) = some 1)
    (hag : ∀ w, (isAgg e).run P w = .ok false w) (hlt : i < n) (hc : cs[i]? = some c) : (execOp a.eval o).run P w = .ok (.value c) w := by
  have hsz : ∀ w, (sizeOf e).run P w = .ok 1 w := fun w => by
    cases hq : P.info? e with
    | none => simp [hq] at hs
    | some i => simp [hq] at hs; simp [sizeOf, typeInfo, hq, hs]
  have hi : (0 : Int) ≤ (i : Int) ∧ (i : Int) < (n : Int) := by omega
  unfold execOp
  simp only [ho, hx, hy]
  have hr : (Instr.index t (.agg cs) (.int .i64 (i : Int))).run P w = .ok c w := by
    unfold Instr.index
    simp only [Sem.run_bind, asIntOf, Sem.run_pure, Result.andThen_ok, run_underlying hu, hi, and_self, if_true, hsz, Int.toNat_natCast, Nat.mul_one]
    unfold part
    simp [hag, hc]
  simp only [Sem.run_bind, hr, Result.andThen_ok, Sem.run_pure]
theorem isAggS (w : World) : (isAgg 22).run Try.prog w = .ok false w := by
  unfold isAgg
  rw [Sem.run_bind, run_underlying Try.underlying22 w]; rfl
theorem built_a2 (a1 a2 : Option Addr) (n1 n2 c1 c2 : Nat) : Try.prog.built 56 [(0, .slice a1 n1 c1), (1, .slice a2 n2 c2)] = some #[.slice a1 n1 c1, .slice a2 n2 c2] := by kernel_rfl
def DifOk (a b : List Ent) (ks : List ByteArray) (n : Nat) : Prop := (errD a b = 0 → Rise (difE a b).1 ks ∧ n = (difE a b).2) ∧ (errD a b ≠ 0 → ks = [] ∧ n = 0)
def DfR (w : World) (a b : List Ent) : Ending → World → Prop := fun e w' => ∃ v ks n, e = .returned (.tuple #[v, .int .i64 ((n : Nat) : Int), .int .i64 ((errD a b : Nat) : Int)]) ∧ Gat strEnc 9 1 w.heap.size w' v ks ∧ DifOk a b ks n ∧ Mod NoB w w'
def DfRel1 (a b : List Ent) (w0 : World) (i : Value) (w : World) : Prop := ∃ k : Nat, k ≤ 2 ∧ i = .int .i64 k ∧ (1 ≤ k → chkE a = 0) ∧ (2 ≤ k → chkE b = 0) ∧ Mod NoB w0 w
def DfRel2 (la lb : List Leaf) (w0 : World) (i : Value) (w : World) : Prop := ∃ k : Nat, k ≤ la.length ∧ i = .int .i64 k ∧ (∀ j (_ : j < k) (h : j < la.length), ∀ y ∈ lb, y.way = la[j].way → y.key = la[j].key) ∧ Mod NoB w0 w
theorem Lie.eq_of_way {i : Nat} {l : List Leaf} (h : Lie i l) {x y : Leaf} (hx : x ∈ l) (hy : y ∈ l) (e : x.way = y.way) : x = y := by
  obtain ⟨p, hp, rfl⟩ := List.getElem_of_mem hx
  obtain ⟨q, hq, rfl⟩ := List.getElem_of_mem hy
  have k : ∀ p q, (hp : p < l.length) → (hq : q < l.length) → p < q → l[p].way ≠ l[q].way := fun p q hp hq hpq => by
    have := List.pairwise_iff_getElem.1 h.nd p q (by simpa using hp) (by simpa using hq) hpq
    simpa using this
  rcases Nat.lt_trichotomy p q with h3 | h3 | h3
  · exact absurd e (k p q hp hq h3)
  · subst h3; rfl
  · exact absurd e.symm (k q p hq hp h3)
theorem difOk_of {a b : List Ent} {la lb : List Leaf} (ha : Sorted a la) (hb : Sorted b lb) (h : errD a b = 0) : DifOk a b (compB (sortB (dif 256 0 la lb).1)) (dif 256 0 la lb).2 := by
  have hp := dif_perm 256 0 ha.1 hb.1
  refine ⟨fun _ => ⟨?_, hp.2⟩, fun h' => absurd h h'⟩
  obtain ⟨h1, h2⟩ := rise_sorted (dif 256 0 la lb).1
  exact ⟨h1, fun x => by rw [h2 x]; exact hp.1.mem_iff⟩
set_option maxRecDepth 10000 in
set_option maxHeartbeats 2000000 in
theorem treeDiffer_any {own own' : Bool} {w : World} {G G' : Nat → Prop} {va vb : Value} {a b : List Ent} (ha : Es own w G va a) (hb : Es own' w G' vb b) (hsa : Short a) (hsb : Short b) (hla : a.length ≤ 4096) (hlb : b.length ≤ 4096) :
    Calls Try.prog 11 #[va, vb] w (DfR w a b) := by
  have HA := Lib.hid ha
  have HB := Lib.hid hb
  have HSA := Lib.hid hsa
  have HSB := Lib.hid hsb
  obtain ⟨aa, ca, rfl, -, -⟩ := Sl.at ha
  obtain ⟨ab, cb, rfl, -, -⟩ := Sl.at hb
  have hbt := built_a2 aa ab a.length b.length ca cb
  clear ha hb hsa hsb
  go_enter Try.func11, Try.ntmps11
  go_upto_region 1 with (fail)
  refine wp_region_seq [3, 3, 0, 3] (fun _ => True) (by rfl) (by rfl) trivial ?_
  simp only [List.zip_cons_cons, List.zip_nil_right]
  refine wpPi_move _ rfl rfl ?_
  simp only [pl, pn, el, ec, sz, ss, gz, gs, if_true, if_false, Bool.false_eq_true, Bool.not_true, Bool.not_false, Nat.add_zero, Nat.zero_add, Nat.reduceAdd]
  refine wpPi_move _ rfl rfl ?_
  simp only [pl, pn, el, ec, sz, ss, gz, gs, if_true, if_false, Bool.false_eq_true, Bool.not_true, Bool.not_false, Nat.add_zero, Nat.zero_add, Nat.reduceAdd]
  refine wpPi_val rfl (fun w' hS => exec_build_of 56 [(0, _), (1, _)] [(0, .slice aa a.length ca), (1, .slice ab b.length cb)] _ (by rfl) (by rfl) hbt) ?_
  simp only [pl, pn, el, ec, sz, ss, gz, gs, if_true, if_false, Bool.false_eq_true, Bool.not_true, Bool.not_false, Nat.add_zero, Nat.zero_add, Nat.reduceAdd]
  refine wpPi_move _ rfl rfl ?_
  simp only [pl, pn, el, ec, sz, ss, gz, gs, if_true, if_false, Bool.false_eq_true, Bool.not_true, Bool.not_false, Nat.add_zero, Nat.zero_add, Nat.reduceAdd]
  refine wpPi_nil ?_
  clear hbt
  go_wp2
  go_loopw [20] (DfRel1 a b w) (fun i _ => 2 - (intOf i).toNat)
  case atStart => exact ⟨0, by omega, rfl, fun h => by omega, fun h => by omega, Mod.refl _ _⟩
  case round =>
    rename World => wr
    obtain ⟨k, hk, rfl, hk1, hk2, hm⟩ := hrel
    have hk3 : k = 0 ∨ k = 1 ∨ k = 2 := by omega
    rcases hk3 with rfl | rfl | rfl
    · have hz : ((0 : Nat) : Int) < 2 := by omega
      go_upto_region 3 with (fail)
      refine wp_region_seq [0, 3] (fun _ => True) (by rfl) (by rfl) trivial ?_
      simp only [List.zip_cons_cons, List.zip_nil_right]
      refine wpPi_val rfl (fun w' hS => exec_index_agg1 56 22 _ _ 2 _ 0 (.slice aa a.length ca) rfl rfl rfl Try.underlying56 (by kernel_rfl) isAggS (by omega) rfl) ?_
      simp only [pl, pn, el, ec, sz, ss, gz, gs, if_true, if_false, Bool.false_eq_true, Bool.not_true, Bool.not_false, Nat.add_zero, Nat.zero_add, Nat.reduceAdd]
      refine wpPi_assign _ rfl rfl ?_
      simp only [pl, pn, el, ec, sz, ss, gz, gs, if_true, if_false, Bool.false_eq_true, Bool.not_true, Bool.not_false, Nat.add_zero, Nat.zero_add, Nat.reduceAdd]
      refine wpPi_nil ?_
      go_upto_region 4 with (fail)
      refine wp_region_seq [3, 1, 3] (fun _ => True) (by rfl) (by rfl) trivial ?_
      simp only [List.zip_cons_cons, List.zip_nil_right]
      refine wpPi_move _ rfl rfl ?_
      simp only [pl, pn, el, ec, sz, ss, gz, gs, if_true, if_false, Bool.false_eq_true, Bool.not_true, Bool.not_false, Nat.add_zero, Nat.zero_add, Nat.reduceAdd]
      refine wpPi_do rfl (fun K hK => ?_)
      refine wp_enterQ (run_call 21 [.tmp 23] _ rfl _ Try.func21 rfl (by kernel_rfl) [.slice aa a.length ca] rfl _) (check_any (HA.out.keep0 hm) HSA.out hla) ?_
      rintro e w2 ⟨rfl, hm2⟩
      have hM2 := hm.trans0 hm2
      refine ⟨_, rfl, hK _ _ trivial ?_⟩
      clear hK K
      try simp only [pl, pn, el, ec, sz, ss, gz, gs, if_true, if_false, Bool.false_eq_true, Bool.not_true, Bool.not_false, Nat.add_zero, Nat.zero_add, Nat.reduceAdd]
      refine wpPi_assign _ rfl rfl ?_
      simp only [pl, pn, el, ec, sz, ss, gz, gs, if_true, if_false, Bool.false_eq_true, Bool.not_true, Bool.not_false, Nat.add_zero, Nat.zero_add, Nat.reduceAdd]
      refine wpPi_nil ?_
      clear hm hm2
      by_cases hc : chkE a = 0
      · have HC := Lib.hid hc
        rw [hc]
        clear hc hk1 hk2
        go_wp2
        go_roundw
        case rel => exact ⟨1, by omega, by go_num, fun _ => HC.out, fun h => by omega, hM2⟩
        case measure => simp [intOf]
      · have hc2 : ¬ ((chkE a : Nat) : Int) = 0 := by omega
        have hee : errD a b = chkE a := by unfold errD; rw [if_pos hc]
        have hok : DifOk a b [] 0 := ⟨fun h => absurd (hee ▸ h) hc, fun _ => ⟨rfl, rfl⟩⟩
        have HO := Lib.hid hok
        have HE := Lib.hid hee
        clear hc hee hok hk1 hk2
        go_wp2
        go_ret3
        exact ⟨_, [], 0, by rw [HE.out]; rfl, Gat.nil _ _ _ _ _, HO.out, hM2⟩
    · have hz : ((1 : Nat) : Int) < 2 := by omega
      have HC1 := Lib.hid (hk1 (by omega))
      go_upto_region 3 with (fail)
      refine wp_region_seq [0, 3] (fun _ => True) (by rfl) (by rfl) trivial ?_
      simp only [List.zip_cons_cons, List.zip_nil_right]
      refine wpPi_val rfl (fun w' hS => exec_index_agg1 56 22 _ _ 2 _ 1 (.slice ab b.length cb) rfl rfl rfl Try.underlying56 (by kernel_rfl) isAggS (by omega) rfl) ?_
      simp only [pl, pn, el, ec, sz, ss, gz, gs, if_true, if_false, Bool.false_eq_true, Bool.not_true, Bool.not_false, Nat.add_zero, Nat.zero_add, Nat.reduceAdd]
      refine wpPi_assign _ rfl rfl ?_
      simp only [pl, pn, el, ec, sz, ss, gz, gs, if_true, if_false, Bool.false_eq_true, Bool.not_true, Bool.not_false, Nat.add_zero, Nat.zero_add, Nat.reduceAdd]
      refine wpPi_nil ?_
      go_upto_region 4 with (fail)
      refine wp_region_seq [3, 1, 3] (fun _ => True) (by rfl) (by rfl) trivial ?_
      simp only [List.zip_cons_cons, List.zip_nil_right]
      refine wpPi_move _ rfl rfl ?_
      simp only [pl, pn, el, ec, sz, ss, gz, gs, if_true, if_false, Bool.false_eq_true, Bool.not_true, Bool.not_false, Nat.add_zero, Nat.zero_add, Nat.reduceAdd]
      refine wpPi_do rfl (fun K hK => ?_)
      refine wp_enterQ (run_call 21 [.tmp 23] _ rfl _ Try.func21 rfl (by kernel_rfl) [.slice ab b.length cb] rfl _) (check_any (HB.out.keep0 hm) HSB.out hlb) ?_
      rintro e w2 ⟨rfl, hm2⟩
      have hM2 := hm.trans0 hm2
      refine ⟨_, rfl, hK _ _ trivial ?_⟩
      clear hK K
      try simp only [pl, pn, el, ec, sz, ss, gz, gs, if_true, if_false, Bool.false_eq_true, Bool.not_true, Bool.not_false, Nat.add_zero, Nat.zero_add, Nat.reduceAdd]
      refine wpPi_assign _ rfl rfl ?_
      simp only [pl, pn, el, ec, sz, ss, gz, gs, if_true, if_false, Bool.false_eq_true, Bool.not_true, Bool.not_false, Nat.add_zero, Nat.zero_add, Nat.reduceAdd]
      refine wpPi_nil ?_
      clear hm hm2
      by_cases hc : chkE b = 0
      · have HC := Lib.hid hc
        rw [hc]
        clear hc hk1 hk2
        go_wp2
        go_roundw
        case rel => exact ⟨2, by omega, by go_num, fun _ => HC1.out, fun _ => HC.out, hM2⟩
        case measure => simp [intOf]
      · have hc2 : ¬ ((chkE b : Nat) : Int) = 0 := by omega
        have hee : errD a b = chkE b := by unfold errD; rw [if_neg (by rw [HC1.out]; simp), if_pos hc]
        have hok : DifOk a b [] 0 := ⟨fun h => absurd (hee ▸ h) hc, fun _ => ⟨rfl, rfl⟩⟩
        have HO := Lib.hid hok
        have HE := Lib.hid hee
        clear hc hee hok hk1 hk2
        go_wp2
        go_ret3
        exact ⟨_, [], 0, by rw [HE.out]; rfl, Gat.nil _ _ _ _ _, HO.out, hM2⟩
    · have hz : ¬ ((2 : Nat) : Int) < 2 := by omega
      have HC1 := Lib.hid (hk1 (by omega))
      have HC2 := Lib.hid (hk2 (by omega))
      clear hk1 hk2
      go_upto_region 8 with (fail)
      refine wp_region_seq [3, 1, 3, 1, 0, 1, 1] (fun _ => True) (by rfl) (by rfl) trivial ?_
      simp only [List.zip_cons_cons, List.zip_nil_right]
      refine wpPi_move _ rfl rfl ?_
      simp only [pl, pn, el, ec, sz, ss, gz, gs, if_true, if_false, Bool.false_eq_true, Bool.not_true, Bool.not_false, Nat.add_zero, Nat.zero_add, Nat.reduceAdd]
      refine wpPi_do rfl (fun K hK => ?_)
      refine wp_enterQ (run_call 28 [.tmp 29] _ rfl _ Try.func28 rfl (by kernel_rfl) [.slice aa a.length ca] rfl _) (sorted_any (HA.out.keep0 hm) HSA.out (by omega)) ?_
      rintro e w2 ⟨v2, la, rfl, hA2, hsrA, hm2⟩
      have hM2 := hm.trans0 hm2
      refine ⟨_, rfl, hK _ _ trivial ?_⟩
      clear hK K
      try simp only [pl, pn, el, ec, sz, ss, gz, gs, if_true, if_false, Bool.false_eq_true, Bool.not_true, Bool.not_false, Nat.add_zero, Nat.zero_add, Nat.reduceAdd]
      refine wpPi_move _ rfl rfl ?_
      simp only [pl, pn, el, ec, sz, ss, gz, gs, if_true, if_false, Bool.false_eq_true, Bool.not_true, Bool.not_false, Nat.add_zero, Nat.zero_add, Nat.reduceAdd]
      refine wpPi_do rfl (fun K hK => ?_)
      refine wp_enterQ (run_call 28 [.tmp 31] _ rfl _ Try.func28 rfl (by kernel_rfl) [.slice ab b.length cb] rfl _) (sorted_any (HB.out.keep0 hM2) HSB.out (by omega)) ?_
      rintro e w3 ⟨v3, lb, rfl, hB3, hsrB, hm3⟩
      have hM3 := hM2.trans0 hm3
      replace hA2 := Ls.bound (Ls.keep0 hA2 hm3)
      replace hB3 := Ls.bound hB3
      have HLA := Lib.hid hA2
      have HLB := Lib.hid hB3
      obtain ⟨xa, cxa, rfl, -, -⟩ := Sl.at hA2
      obtain ⟨xb, cxb, rfl, -, -⟩ := Sl.at hB3
      have hbp := built_pair (.slice xa la.length cxa) (.slice xb lb.length cxb) rfl rfl rfl rfl
      clear hA2 hB3 hm2 hm3 hm
      refine ⟨_, rfl, hK _ _ trivial ?_⟩
      clear hK K
      try simp only [pl, pn, el, ec, sz, ss, gz, gs, if_true, if_false, Bool.false_eq_true, Bool.not_true, Bool.not_false, Nat.add_zero, Nat.zero_add, Nat.reduceAdd]
      refine wpPi_val rfl (fun w' hS => exec_build_of 61 [(0, _), (1, _)] [(0, .slice xa la.length cxa), (1, .slice xb lb.length cxb)] _ (by rfl) (by rfl) hbp) ?_
      simp only [pl, pn, el, ec, sz, ss, gz, gs, if_true, if_false, Bool.false_eq_true, Bool.not_true, Bool.not_false, Nat.add_zero, Nat.zero_add, Nat.reduceAdd]
      refine wpPi_do rfl (fun K hK => ?_)
      refine wp_alloc 61 _ (by rfl) pairZ (fun w4 hB4 hm4 hs4 => ?_)
      replace hB4 : w4.heap[w3.heap.size]? = some (.cells #[.slice none 0 0, .slice none 0 0] 61 (0, 0)) := hB4
      refine hK _ _ trivial ?_
      clear hK K
      try simp only [pl, pn, el, ec, sz, ss, gz, gs, if_true, if_false, Bool.false_eq_true, Bool.not_true, Bool.not_false, Nat.add_zero, Nat.zero_add, Nat.reduceAdd]
      refine wpPi_do rfl (fun K hK => ?_)
      refine wp_storeA 61 _ _ w3.heap.size 0 #[.slice xa la.length cxa, .slice xb lb.length cxb] (by rfl) (by rfl) (by rfl) (by simp [Value.oneCell']) 2 (by kernel_rfl) rfl _ _ hB4 (by simp) (fun w5 hB5 hm5 => ?_)
      rw [putRow_whole (by rfl)] at hB5
      refine hK _ _ trivial ?_
      clear hK K
      try simp only [pl, pn, el, ec, sz, ss, gz, gs, if_true, if_false, Bool.false_eq_true, Bool.not_true, Bool.not_false, Nat.add_zero, Nat.zero_add, Nat.reduceAdd]
      refine wpPi_nil ?_
      have hM5 : Mod NoB w3 w5 := hm4.transB hm5 (Nat.le_refl _)
      have HLA5 := Lib.hid (HLA.out.keep0 hM5)
      have HLB5 := Lib.hid (HLB.out.keep0 hM5)
      have hMw := hM3.trans0 hM5
      have hlaS := sorted_len hsrA
      have hlbS := sorted_len hsrB
      have hlal : la.length ≤ 4096 := by omega
      have hlbl : lb.length ≤ 4096 := by omega
      have HPA := Lib.hid (placed_of hsrA HC1.out)
      have HPB := Lib.hid (placed_of hsrB HC2.out)
      have HSRA := Lib.hid hsrA
      have HSRB := Lib.hid hsrB
      have hcw := CellsAt.whole hB5
      have h0 := hcw.cell (j := 0) (v := .slice xa la.length cxa) rfl
      have h1 := hcw.cell (j := 1) (v := .slice xb lb.length cxb) rfl
      have hsw : w.heap.size ≤ w5.heap.size := hMw.size
      generalize hb10 : w3.heap.size = b10 at *
      clear hm4 hm5 hB4 hB5 hlaS hlbS hsrA hsrB hM2 hM3 HLA HLB hM5
      go_upto_region 9 with (fail)
      refine wp_region_seq [3, 1, 3, 3] (fun _ => True) (by rfl) (by rfl) trivial ?_
      simp only [List.zip_cons_cons, List.zip_nil_right]
      refine wpPi_field _ _ _ _ _ _ rfl rfl rfl fo_61_0 ?_
      simp only [pl, pn, el, ec, sz, ss, gz, gs, if_true, if_false, Bool.false_eq_true, Bool.not_true, Bool.not_false, Nat.add_zero, Nat.zero_add, Nat.reduceAdd]
      refine wpPi_do rfl (fun K hK => ?_)
      refine wp_exec (exec_load1 58 _ (by rfl) b10 0 (by rfl) _ h0 _ Try.underlying58 rfl) ?_
      refine hK _ _ trivial ?_
      clear hK K
      try simp only [pl, pn, el, ec, sz, ss, gz, gs, if_true, if_false, Bool.false_eq_true, Bool.not_true, Bool.not_false, Nat.add_zero, Nat.zero_add, Nat.reduceAdd]
      refine wpPi_len _ _ _ _ _ rfl rfl rfl (by kernel_rfl) ?_
      simp only [pl, pn, el, ec, sz, ss, gz, gs, if_true, if_false, Bool.false_eq_true, Bool.not_true, Bool.not_false, Nat.add_zero, Nat.zero_add, Nat.reduceAdd]
      refine wpPi_move _ rfl rfl ?_
      simp only [pl, pn, el, ec, sz, ss, gz, gs, if_true, if_false, Bool.false_eq_true, Bool.not_true, Bool.not_false, Nat.add_zero, Nat.zero_add, Nat.reduceAdd]
      refine wpPi_nil ?_
      go_wp2
      go_loopw [37] (DfRel2 la lb w5) (fun i _ => la.length - (intOf i).toNat)
      case atStart => exact ⟨0, by omega, rfl, fun j h1 h2 => by omega, Mod.refl _ _⟩
      case round =>
        rename World => wq
        obtain ⟨k, hk, rfl, hall, hm⟩ := hrel
        have HALL := Lib.hid hall
        clear hall
        by_cases hlt : k < la.length
        · have hz2 : (k : Int) < (la.length : Int) := by omega
          obtain ⟨_, _, hv, -, hat⟩ := Sl.at (HLA5.out.keep0 hm)
          cases hv
          obtain ⟨bq, off, rfl, -, -, hc⟩ := hat k hlt
          obtain ⟨_, -, ⟨rfl, hok⟩, hc⟩ := hc k hlt
          have hxs := leafCells_size hok
          have hz32 : (leafCells zeroLeaf).size = 65 := by kernel_rfl
          have hxmem : la[k] ∈ la := List.getElem_mem hlt
          clear hat
          obtain ⟨x, hxk⟩ : ∃ x, la[k] = x := ⟨_, rfl⟩
          rw [hxk] at hok hc hxs hxmem
          have HXK := Lib.hid hxk
          clear hxk
          have hxw := hok.1
          have hxr : (idCells x.way).size = 32 := by rw [idCells_size, hxw]
          go_upto_region 11 with (fail)
          refine wp_region_seq [3, 1, 1, 1] (fun _ => True) (by rfl) (by rfl) trivial ?_
          simp only [List.zip_cons_cons, List.zip_nil_right]
          refine wpPi_index _ _ _ _ _ _ _ _ _ rfl rfl rfl rfl Try.underlying58 (n := 65) (by kernel_rfl) hlt ?_
          simp only [pl, pn, el, ec, sz, ss, gz, gs, if_true, if_false, Bool.false_eq_true, Bool.not_true, Bool.not_false, Nat.add_zero, Nat.zero_add, Nat.reduceAdd]
          refine wpPi_do rfl (fun K hK => ?_)
          refine wp_exec (exec_loadA 63 _ (by rfl) bq (off + k * 65) (by rfl) (leafCells x) hc _ Try.underlying63 rfl 65 (by kernel_rfl) hxs) ?_
          refine hK _ _ trivial ?_
          clear hK K
          try simp only [pl, pn, el, ec, sz, ss, gz, gs, if_true, if_false, Bool.false_eq_true, Bool.not_true, Bool.not_false, Nat.add_zero, Nat.zero_add, Nat.reduceAdd]
          refine wpPi_do rfl (fun K hK => ?_)
          refine wp_alloc 63 _ (by rfl) leafZ (fun w6 hB6 hm6 hs6 => ?_)
          replace hB6 : w6.heap[wq.heap.size]? = some (.cells (leafCells zeroLeaf) 63 (0, 0)) := hB6
          refine hK _ _ trivial ?_
          clear hK K
          try simp only [pl, pn, el, ec, sz, ss, gz, gs, if_true, if_false, Bool.false_eq_true, Bool.not_true, Bool.not_false, Nat.add_zero, Nat.zero_add, Nat.reduceAdd]
          refine wpPi_do rfl (fun K hK => ?_)
          refine wp_storeA 63 _ _ wq.heap.size 0 (leafCells x) (by rfl) (by rfl) (by rfl) (leafCells_one x) 65 (by kernel_rfl) hxs _ _ hB6 (by rw [hxs, hz32]; exact Nat.le_refl _) (fun w7 hB7 hm7 => ?_)
          rw [putRow_whole (by rw [hxs, hz32])] at hB7
          refine hK _ _ trivial ?_
          clear hK K
          try simp only [pl, pn, el, ec, sz, ss, gz, gs, if_true, if_false, Bool.false_eq_true, Bool.not_true, Bool.not_false, Nat.add_zero, Nat.zero_add, Nat.reduceAdd]
          refine wpPi_nil ?_
          have hM7 : Mod NoB w5 w7 := hm.trans0 (hm6.transB hm7 (Nat.le_refl _))
          generalize wq.heap.size = b12 at *
          clear hm6 hm7 hB6 hc hm
          have hcx := CellsAt.whole hB7
          have hkx := leaf_key hcx
          have hwx := leaf_way hok hcx
          rw [Nat.zero_add] at hkx hwx
          clear hcx hB7
          go_upto_region 12 with (fail)
          refine wp_region_seq [3, 1, 3, 1, 1, 3, 3, 3, 3, 3] (fun _ => True) (by rfl) (by rfl) trivial ?_
          simp only [List.zip_cons_cons, List.zip_nil_right]
          refine wpPi_field _ _ _ _ _ _ rfl rfl rfl fo_61_1 ?_
          simp only [pl, pn, el, ec, sz, ss, gz, gs, if_true, if_false, Bool.false_eq_true, Bool.not_true, Bool.not_false, Nat.add_zero, Nat.zero_add, Nat.reduceAdd]
          refine wpPi_do rfl (fun K hK => ?_)
          refine wp_exec (exec_load1 58 _ (by rfl) b10 1 (by rfl) _ (hM7.cell id h1) _ Try.underlying58 rfl) ?_
          refine hK _ _ trivial ?_
          clear hK K
          try simp only [pl, pn, el, ec, sz, ss, gz, gs, if_true, if_false, Bool.false_eq_true, Bool.not_true, Bool.not_false, Nat.add_zero, Nat.zero_add, Nat.reduceAdd]
          refine wpPi_field _ _ _ _ _ _ rfl rfl rfl fo_63_1 ?_
          simp only [pl, pn, el, ec, sz, ss, gz, gs, if_true, if_false, Bool.false_eq_true, Bool.not_true, Bool.not_false, Nat.add_zero, Nat.zero_add, Nat.reduceAdd]
          refine wpPi_do rfl (fun K hK => ?_)
          refine wp_exec (exec_loadA 38 _ (by rfl) b12 1 (by rfl) (idCells x.way) hwx _ Try.underlying38 rfl 32 (by kernel_rfl) hxr) ?_
          refine hK _ _ trivial ?_
          clear hK K
          try simp only [pl, pn, el, ec, sz, ss, gz, gs, if_true, if_false, Bool.false_eq_true, Bool.not_true, Bool.not_false, Nat.add_zero, Nat.zero_add, Nat.reduceAdd]
          refine wpPi_do rfl (fun K hK => ?_)
          refine wp_enterQ (run_call 29 [.tmp 43, .tmp 45, .func 30] _ rfl _ Try.func29 rfl (by kernel_rfl) [.slice xb lb.length cxb, .agg (idCells x.way), .func (.func 30) #[] #[]] rfl _) (binSearch_any (HLB5.out.keep0 hM7) HPB.out (by omega) x.way hxw) ?_
          rintro e w8 ⟨q, bb, rfl, hq1, hq2, hm8⟩
          have hM8 := hM7.trans0 hm8
          replace hkx := hm8.cell id hkx
          refine ⟨_, rfl, hK _ _ trivial ?_⟩
          clear hK K
          try simp only [pl, pn, el, ec, sz, ss, gz, gs, if_true, if_false, Bool.false_eq_true, Bool.not_true, Bool.not_false, Nat.add_zero, Nat.zero_add, Nat.reduceAdd]
          refine wpPi_move _ rfl rfl ?_
          simp only [pl, pn, el, ec, sz, ss, gz, gs, if_true, if_false, Bool.false_eq_true, Bool.not_true, Bool.not_false, Nat.add_zero, Nat.zero_add, Nat.reduceAdd]
          refine wpPi_any (v := ?_) rfl (fun w' => ?_) ?_; rotate_left; · (go_simp; try with_reducible rfl)
          simp only [pl, pn, el, ec, sz, ss, gz, gs, if_true, if_false, Bool.false_eq_true, Bool.not_true, Bool.not_false, Nat.add_zero, Nat.zero_add, Nat.reduceAdd]
          refine wpPi_any (v := ?_) rfl (fun w' => ?_) ?_; rotate_left; · (go_simp; try with_reducible rfl)
          simp only [pl, pn, el, ec, sz, ss, gz, gs, if_true, if_false, Bool.false_eq_true, Bool.not_true, Bool.not_false, Nat.add_zero, Nat.zero_add, Nat.reduceAdd]
          refine wpPi_assign _ rfl rfl ?_
          simp only [pl, pn, el, ec, sz, ss, gz, gs, if_true, if_false, Bool.false_eq_true, Bool.not_true, Bool.not_false, Nat.add_zero, Nat.zero_add, Nat.reduceAdd]
          refine wpPi_assign _ rfl rfl ?_
          simp only [pl, pn, el, ec, sz, ss, gz, gs, if_true, if_false, Bool.false_eq_true, Bool.not_true, Bool.not_false, Nat.add_zero, Nat.zero_add, Nat.reduceAdd]
          refine wpPi_nil ?_
          clear hm8 hM7 hwx
          cases bb with
          | false =>
            have hstep : ∀ j (_ : j < k + 1) (h : j < la.length), ∀ y ∈ lb, y.way = la[j].way → y.key = la[j].key := fun j h1 h2 y hy e => by
              rcases Nat.lt_or_ge j k with h4 | h4
              · exact HALL.out j h4 h2 y hy e
              · obtain rfl : j = k := by omega
                rw [HXK.out] at e
                exact absurd e (hq2 rfl y hy)
            have HST := Lib.hid hstep
            clear hstep hq1 hq2
            go_upto_region 13 with (fail)
            have hS : Mod NoB w8 w8.drew := (Mod.refl _ _).drew
            refine wp_region_pi [(0, 3), (1, 3), (2, 3), (3, 0), (4, 3), (5, 3), (6, 3), (7, 0), (8, 3), (9, 0), (10, 3), (11, 3)] [] (fun w' => Mod NoB w8 w') (by kernel_rfl) (by kernel_rfl) (by kernel_rfl) (by kernel_rfl) (fun _ _ _ _ hd h => ⟨hd.trans h.1, h.2⟩) hS ?_
            simp only [List.map_cons, List.map_nil, List.getD_cons_zero, List.getD_cons_succ]
            refine wpPi_move _ rfl rfl ?_
            simp only [pl, pn, el, ec, sz, ss, gz, gs, if_true, if_false, Bool.false_eq_true, Bool.not_true, Bool.not_false, Nat.add_zero, Nat.zero_add, Nat.reduceAdd]
            refine wpPi_move _ rfl rfl ?_
            simp only [pl, pn, el, ec, sz, ss, gz, gs, if_true, if_false, Bool.false_eq_true, Bool.not_true, Bool.not_false, Nat.add_zero, Nat.zero_add, Nat.reduceAdd]
            refine wpPi_skip rfl ?_
            simp only [pl, pn, el, ec, sz, ss, gz, gs, if_true, if_false, Bool.false_eq_true, Bool.not_true, Bool.not_false, Nat.add_zero, Nat.zero_add, Nat.reduceAdd]
            refine wpPi_skip0 rfl ?_
            simp only [pl, pn, el, ec, sz, ss, gz, gs, if_true, if_false, Bool.false_eq_true, Bool.not_true, Bool.not_false, Nat.add_zero, Nat.zero_add, Nat.reduceAdd]
            refine wpPi_skip rfl ?_
            simp only [pl, pn, el, ec, sz, ss, gz, gs, if_true, if_false, Bool.false_eq_true, Bool.not_true, Bool.not_false, Nat.add_zero, Nat.zero_add, Nat.reduceAdd]
            refine wpPi_skip rfl ?_
            simp only [pl, pn, el, ec, sz, ss, gz, gs, if_true, if_false, Bool.false_eq_true, Bool.not_true, Bool.not_false, Nat.add_zero, Nat.zero_add, Nat.reduceAdd]
            refine wpPi_skip rfl ?_
            simp only [pl, pn, el, ec, sz, ss, gz, gs, if_true, if_false, Bool.false_eq_true, Bool.not_true, Bool.not_false, Nat.add_zero, Nat.zero_add, Nat.reduceAdd]
            refine wpPi_skip0 rfl ?_
            simp only [pl, pn, el, ec, sz, ss, gz, gs, if_true, if_false, Bool.false_eq_true, Bool.not_true, Bool.not_false, Nat.add_zero, Nat.zero_add, Nat.reduceAdd]
            refine wpPi_skip rfl ?_
            simp only [pl, pn, el, ec, sz, ss, gz, gs, if_true, if_false, Bool.false_eq_true, Bool.not_true, Bool.not_false, Nat.add_zero, Nat.zero_add, Nat.reduceAdd]
            refine wpPi_skip0 rfl ?_
            simp only [pl, pn, el, ec, sz, ss, gz, gs, if_true, if_false, Bool.false_eq_true, Bool.not_true, Bool.not_false, Nat.add_zero, Nat.zero_add, Nat.reduceAdd]
            refine wpPi_skip rfl ?_
            simp only [pl, pn, el, ec, sz, ss, gz, gs, if_true, if_false, Bool.false_eq_true, Bool.not_true, Bool.not_false, Nat.add_zero, Nat.zero_add, Nat.reduceAdd]
            refine wpPi_pick _ _ _ _ rfl rfl rfl ?_
            simp only [pl, pn, el, ec, sz, ss, gz, gs, if_true, if_false, Bool.false_eq_true, Bool.not_true, Bool.not_false, Nat.add_zero, Nat.zero_add, Nat.reduceAdd]
            refine wpPi_nil ?_
            have hMr := hM8.trans0 hS
            clear hM8 hS
            go_wp2
            go_roundw
            case rel => exact ⟨k + 1, by omega, by go_num, HST.out, hMr⟩
            case measure => simp [intOf]; omega
          | true =>
            obtain ⟨hql, hqw⟩ := hq1 rfl
            obtain ⟨_, _, hv, -, hat⟩ := Sl.at (HLB5.out.keep0 hM8)
            cases hv
            obtain ⟨br, offr, rfl, -, -, hc⟩ := hat q hql
            obtain ⟨_, -, ⟨rfl, hokr⟩, hc⟩ := hc q hql
            have hkr := leaf_key hc
            have hymem : lb[q] ∈ lb := List.getElem_mem hql
            obtain ⟨y, hyq⟩ : ∃ y, lb[q] = y := ⟨_, rfl⟩
            rw [hyq] at hqw hkr hymem
            have h1q := hM8.cell id h1
            clear hat hc hq1 hq2 hyq hokr
            rw [Nat.add_zero] at hkr
            by_cases hkey : y.key = x.key
            · have hstep : ∀ j (_ : j < k + 1) (h : j < la.length), ∀ y ∈ lb, y.way = la[j].way → y.key = la[j].key := fun j h1 h2 z hz e => by
                rcases Nat.lt_or_ge j k with h4 | h4
                · exact HALL.out j h4 h2 z hz e
                · obtain rfl : j = k := by omega
                  rw [HXK.out] at e ⊢
                  rw [HPB.out.lie.eq_of_way hz hymem (by rw [e, hqw])]
                  exact hkey
              have HST := Lib.hid hstep
              clear hstep
              go_upto_region 13 with (fail)
              have hS : Mod NoB w8 w8.drew := (Mod.refl _ _).drew
              refine wp_region_pi [(0, 3), (1, 3), (2, 3), (3, 0), (4, 3), (5, 3), (6, 3), (7, 0), (8, 3), (9, 0), (10, 0), (11, 3)] [] (fun w' => Mod NoB w8 w') (by kernel_rfl) (by kernel_rfl) (by kernel_rfl) (by kernel_rfl) (fun _ _ _ _ hd h => ⟨hd.trans h.1, h.2⟩) hS ?_
              simp only [List.map_cons, List.map_nil, List.getD_cons_zero, List.getD_cons_succ]
              refine wpPi_move _ rfl rfl ?_
              simp only [pl, pn, el, ec, sz, ss, gz, gs, if_true, if_false, Bool.false_eq_true, Bool.not_true, Bool.not_false, Nat.add_zero, Nat.zero_add, Nat.reduceAdd]
              refine wpPi_move _ rfl rfl ?_
              simp only [pl, pn, el, ec, sz, ss, gz, gs, if_true, if_false, Bool.false_eq_true, Bool.not_true, Bool.not_false, Nat.add_zero, Nat.zero_add, Nat.reduceAdd]
              refine wpPi_field _ _ _ _ _ _ rfl rfl rfl fo_61_1 ?_
              simp only [pl, pn, el, ec, sz, ss, gz, gs, if_true, if_false, Bool.false_eq_true, Bool.not_true, Bool.not_false, Nat.add_zero, Nat.zero_add, Nat.reduceAdd]
              refine wpPi_val rfl (fun w' hS => exec_load1 58 _ (by rfl) b10 1 (by rfl) _ (hS.cell id h1q) _ Try.underlying58 rfl) ?_
              simp only [pl, pn, el, ec, sz, ss, gz, gs, if_true, if_false, Bool.false_eq_true, Bool.not_true, Bool.not_false, Nat.add_zero, Nat.zero_add, Nat.reduceAdd]
              refine wpPi_move _ rfl rfl ?_
              simp only [pl, pn, el, ec, sz, ss, gz, gs, if_true, if_false, Bool.false_eq_true, Bool.not_true, Bool.not_false, Nat.add_zero, Nat.zero_add, Nat.reduceAdd]
              refine wpPi_index _ _ _ _ _ _ _ _ _ rfl rfl rfl rfl Try.underlying58 (n := 65) (by kernel_rfl) hql ?_
              simp only [pl, pn, el, ec, sz, ss, gz, gs, if_true, if_false, Bool.false_eq_true, Bool.not_true, Bool.not_false, Nat.add_zero, Nat.zero_add, Nat.reduceAdd]
              refine wpPi_field _ _ _ _ _ _ rfl rfl rfl fo_63_0 ?_
              simp only [pl, pn, el, ec, sz, ss, gz, gs, if_true, if_false, Bool.false_eq_true, Bool.not_true, Bool.not_false, Nat.add_zero, Nat.zero_add, Nat.reduceAdd]
              refine wpPi_val rfl (fun w' hS => exec_load1 9 _ (by rfl) br (offr + q * 65) (by rfl) (.string y.key) (hS.cell id hkr) _ Try.underlying9 rfl) ?_
              simp only [pl, pn, el, ec, sz, ss, gz, gs, if_true, if_false, Bool.false_eq_true, Bool.not_true, Bool.not_false, Nat.add_zero, Nat.zero_add, Nat.reduceAdd]
              refine wpPi_field _ _ _ _ _ _ rfl rfl rfl fo_63_0 ?_
              simp only [pl, pn, el, ec, sz, ss, gz, gs, if_true, if_false, Bool.false_eq_true, Bool.not_true, Bool.not_false, Nat.add_zero, Nat.zero_add, Nat.reduceAdd]
              refine wpPi_val rfl (fun w' hS => exec_load1 9 _ (by rfl) b12 0 (by rfl) (.string x.key) (hS.cell id hkx) _ Try.underlying9 rfl) ?_
              simp only [pl, pn, el, ec, sz, ss, gz, gs, if_true, if_false, Bool.false_eq_true, Bool.not_true, Bool.not_false, Nat.add_zero, Nat.zero_add, Nat.reduceAdd]
              refine wpPi_val rfl (fun w' hS => exec_neq_str _ _ _ _ rfl y.key x.key rfl rfl false (decide_eq_false (fun h => h hkey))) ?_
              simp only [pl, pn, el, ec, sz, ss, gz, gs, if_true, if_false, Bool.false_eq_true, Bool.not_true, Bool.not_false, Nat.add_zero, Nat.zero_add, Nat.reduceAdd]
              refine wpPi_pick _ _ _ _ rfl rfl rfl ?_
              simp only [pl, pn, el, ec, sz, ss, gz, gs, if_true, if_false, Bool.false_eq_true, Bool.not_true, Bool.not_false, Nat.add_zero, Nat.zero_add, Nat.reduceAdd]
              refine wpPi_nil ?_
              have hMr := hM8.trans0 hS
              clear hM8 hS
              go_wp2
              go_roundw
              case rel => exact ⟨k + 1, by omega, by go_num, HST.out, hMr⟩
              case measure => simp [intOf]; omega
            · have hcl : clash a b := ⟨x, HSRA.out.1.mem_iff.1 hxmem, y, HSRB.out.1.mem_iff.1 hymem, hqw.symm, fun e => hkey e.symm⟩
              have hee : errD a b = 9 := by unfold errD; rw [if_neg (by rw [HC1.out]; simp), if_neg (by rw [HC2.out]; simp), if_pos hcl]
              have hok : DifOk a b [] 0 := ⟨(fun h => by rw [hee] at h; cases h), fun _ => ⟨rfl, rfl⟩⟩
              have HO := Lib.hid hok
              have HE := Lib.hid hee
              clear hok hee hcl
              go_upto_region 13 with (fail)
              have hS : Mod NoB w8 w8.drew := (Mod.refl _ _).drew
              refine wp_region_pi [(0, 3), (1, 3), (2, 3), (3, 0), (4, 3), (5, 3), (6, 3), (7, 0), (8, 3), (9, 0), (10, 0), (11, 3)] [] (fun w' => Mod NoB w8 w') (by kernel_rfl) (by kernel_rfl) (by kernel_rfl) (by kernel_rfl) (fun _ _ _ _ hd h => ⟨hd.trans h.1, h.2⟩) hS ?_
              simp only [List.map_cons, List.map_nil, List.getD_cons_zero, List.getD_cons_succ]
              refine wpPi_move _ rfl rfl ?_
              simp only [pl, pn, el, ec, sz, ss, gz, gs, if_true, if_false, Bool.false_eq_true, Bool.not_true, Bool.not_false, Nat.add_zero, Nat.zero_add, Nat.reduceAdd]
              refine wpPi_move _ rfl rfl ?_
              simp only [pl, pn, el, ec, sz, ss, gz, gs, if_true, if_false, Bool.false_eq_true, Bool.not_true, Bool.not_false, Nat.add_zero, Nat.zero_add, Nat.reduceAdd]
              refine wpPi_field _ _ _ _ _ _ rfl rfl rfl fo_61_1 ?_
              simp only [pl, pn, el, ec, sz, ss, gz, gs, if_true, if_false, Bool.false_eq_true, Bool.not_true, Bool.not_false, Nat.add_zero, Nat.zero_add, Nat.reduceAdd]
              refine wpPi_val rfl (fun w' hS => exec_load1 58 _ (by rfl) b10 1 (by rfl) _ (hS.cell id h1q) _ Try.underlying58 rfl) ?_
              simp only [pl, pn, el, ec, sz, ss, gz, gs, if_true, if_false, Bool.false_eq_true, Bool.not_true, Bool.not_false, Nat.add_zero, Nat.zero_add, Nat.reduceAdd]
              refine wpPi_move _ rfl rfl ?_
              simp only [pl, pn, el, ec, sz, ss, gz, gs, if_true, if_false, Bool.false_eq_true, Bool.not_true, Bool.not_false, Nat.add_zero, Nat.zero_add, Nat.reduceAdd]
              refine wpPi_index _ _ _ _ _ _ _ _ _ rfl rfl rfl rfl Try.underlying58 (n := 65) (by kernel_rfl) hql ?_
              simp only [pl, pn, el, ec, sz, ss, gz, gs, if_true, if_false, Bool.false_eq_true, Bool.not_true, Bool.not_false, Nat.add_zero, Nat.zero_add, Nat.reduceAdd]
              refine wpPi_field _ _ _ _ _ _ rfl rfl rfl fo_63_0 ?_
              simp only [pl, pn, el, ec, sz, ss, gz, gs, if_true, if_false, Bool.false_eq_true, Bool.not_true, Bool.not_false, Nat.add_zero, Nat.zero_add, Nat.reduceAdd]
              refine wpPi_val rfl (fun w' hS => exec_load1 9 _ (by rfl) br (offr + q * 65) (by rfl) (.string y.key) (hS.cell id hkr) _ Try.underlying9 rfl) ?_
              simp only [pl, pn, el, ec, sz, ss, gz, gs, if_true, if_false, Bool.false_eq_true, Bool.not_true, Bool.not_false, Nat.add_zero, Nat.zero_add, Nat.reduceAdd]
              refine wpPi_field _ _ _ _ _ _ rfl rfl rfl fo_63_0 ?_
              simp only [pl, pn, el, ec, sz, ss, gz, gs, if_true, if_false, Bool.false_eq_true, Bool.not_true, Bool.not_false, Nat.add_zero, Nat.zero_add, Nat.reduceAdd]
              refine wpPi_val rfl (fun w' hS => exec_load1 9 _ (by rfl) b12 0 (by rfl) (.string x.key) (hS.cell id hkx) _ Try.underlying9 rfl) ?_
              simp only [pl, pn, el, ec, sz, ss, gz, gs, if_true, if_false, Bool.false_eq_true, Bool.not_true, Bool.not_false, Nat.add_zero, Nat.zero_add, Nat.reduceAdd]
              refine wpPi_val rfl (fun w' hS => exec_neq_str _ _ _ _ rfl y.key x.key rfl rfl true (decide_eq_true hkey)) ?_
              simp only [pl, pn, el, ec, sz, ss, gz, gs, if_true, if_false, Bool.false_eq_true, Bool.not_true, Bool.not_false, Nat.add_zero, Nat.zero_add, Nat.reduceAdd]
              refine wpPi_pick _ _ _ _ rfl rfl rfl ?_
              simp only [pl, pn, el, ec, sz, ss, gz, gs, if_true, if_false, Bool.false_eq_true, Bool.not_true, Bool.not_false, Nat.add_zero, Nat.zero_add, Nat.reduceAdd]
              refine wpPi_nil ?_
              have hMr := hMw.trans0 (hM8.trans0 hS)
              clear hM8 hS
              go_wp2
              go_ret3
              exact ⟨_, [], 0, by rw [HE.out]; rfl, Gat.nil _ _ _ _ _, HO.out, hMr⟩
        · have hz2 : ¬ (k : Int) < (la.length : Int) := by omega
          obtain rfl : k = la.length := by omega
          have hncl : ¬ clash a b := by
            rintro ⟨x, hx, y, hy, e1, e2⟩
            have hx := HSRA.out.1.mem_iff.2 hx
            have hy := HSRB.out.1.mem_iff.2 hy
            obtain ⟨j, hj, rfl⟩ := List.getElem_of_mem hx
            exact e2 (HALL.out j hj hj y hy e1.symm).symm
          have hee : errD a b = 0 := errD_zero.2 ⟨HC1.out, HC2.out, hncl⟩
          have HO := Lib.hid (difOk_of HSRA.out HSRB.out hee)
          have HE := Lib.hid hee
          have hkl := dif_keys 256 0 la lb
          clear hncl hee
          have hcr := hcw.keep hm id
          go_upto_region 16 with (fail)
          refine wp_region_seq [1, 1, 3, 3, 3, 3, 3] (fun _ => True) (by rfl) (by rfl) trivial ?_
          simp only [List.zip_cons_cons, List.zip_nil_right]
          refine wpPi_do rfl (fun K hK => ?_)
          refine wp_exec (exec_loadA 61 _ (by rfl) b10 0 (by rfl) _ hcr _ Try.underlying61 rfl 2 (by kernel_rfl) rfl) ?_
          refine hK _ _ trivial ?_
          clear hK K
          try simp only [pl, pn, el, ec, sz, ss, gz, gs, if_true, if_false, Bool.false_eq_true, Bool.not_true, Bool.not_false, Nat.add_zero, Nat.zero_add, Nat.reduceAdd]
          refine wpPi_do rfl (fun K hK => ?_)
          refine wp_enterQ (run_call 32 [.tmp 63, .const (.int .i64 0)] _ rfl _ Try.func32 rfl (by kernel_rfl) [.agg #[.slice xa la.length cxa, .slice xb lb.length cxb], .int .i64 ((0 : Nat) : Int)] rfl _) (differ_any 256 0 la lb _ _ _ rfl (HLA5.out.keep0 hm).all (HLB5.out.keep0 hm).all HPA.out HPB.out (by omega) (by omega)) ?_
          rintro e w6 ⟨v6, rfl, hg6, hm6⟩
          generalize dif 256 0 la lb = p at *
          have hM6 := hm.trans0 hm6
          have hs6 := hm.size
          replace hg6 := hg6.base (b' := w5.heap.size) hs6
          refine ⟨_, rfl, hK _ _ trivial ?_⟩
          clear hK K
          try simp only [pl, pn, el, ec, sz, ss, gz, gs, if_true, if_false, Bool.false_eq_true, Bool.not_true, Bool.not_false, Nat.add_zero, Nat.zero_add, Nat.reduceAdd]
          refine wpPi_move _ rfl rfl ?_
          simp only [pl, pn, el, ec, sz, ss, gz, gs, if_true, if_false, Bool.false_eq_true, Bool.not_true, Bool.not_false, Nat.add_zero, Nat.zero_add, Nat.reduceAdd]
          refine wpPi_any (v := ?_) rfl (fun w' => ?_) ?_; rotate_left; · (go_simp; try with_reducible rfl)
          simp only [pl, pn, el, ec, sz, ss, gz, gs, if_true, if_false, Bool.false_eq_true, Bool.not_true, Bool.not_false, Nat.add_zero, Nat.zero_add, Nat.reduceAdd]
          refine wpPi_any (v := ?_) rfl (fun w' => ?_) ?_; rotate_left; · (go_simp; try with_reducible rfl)
          simp only [pl, pn, el, ec, sz, ss, gz, gs, if_true, if_false, Bool.false_eq_true, Bool.not_true, Bool.not_false, Nat.add_zero, Nat.zero_add, Nat.reduceAdd]
          refine wpPi_assign _ rfl rfl ?_
          simp only [pl, pn, el, ec, sz, ss, gz, gs, if_true, if_false, Bool.false_eq_true, Bool.not_true, Bool.not_false, Nat.add_zero, Nat.zero_add, Nat.reduceAdd]
          refine wpPi_assign _ rfl rfl ?_
          simp only [pl, pn, el, ec, sz, ss, gz, gs, if_true, if_false, Bool.false_eq_true, Bool.not_true, Bool.not_false, Nat.add_zero, Nat.zero_add, Nat.reduceAdd]
          refine wpPi_nil ?_
          have hcl6 := hg6.lts
          clear hm6 hm hcr
          go_upto_region 17 with (fail)
          refine wp_region_seq [3, 1] (fun _ => True) (by rfl) (by rfl) trivial ?_
          simp only [List.zip_cons_cons, List.zip_nil_right]
          refine wpPi_move _ rfl rfl ?_
          simp only [pl, pn, el, ec, sz, ss, gz, gs, if_true, if_false, Bool.false_eq_true, Bool.not_true, Bool.not_false, Nat.add_zero, Nat.zero_add, Nat.reduceAdd]
          refine wpPi_do rfl (fun K hK => ?_)
          refine wp_enterQ (run_call 33 [.tmp 67] _ rfl _ Try.func33 rfl (by kernel_rfl) [v6] rfl _) (sortS_any hg6 (by omega)) ?_
          rintro e w7 ⟨rfl, hg7, hm7⟩
          have hM7 : Mod NoB w5 w7 := hM6.trans hm7 (fun k hk e => by have := (hcl6 _ e).1; omega)
          refine ⟨_, rfl, hK _ _ trivial ?_⟩
          clear hK K
          try simp only [pl, pn, el, ec, sz, ss, gz, gs, if_true, if_false, Bool.false_eq_true, Bool.not_true, Bool.not_false, Nat.add_zero, Nat.zero_add, Nat.reduceAdd]
          refine wpPi_nil ?_
          have hcl7 := hg7.lts
          clear hm7 hM6
          go_upto_region 18 with (fail)
          refine wp_region_seq [3, 1, 3, 3, 3, 3] (fun _ => True) (by rfl) (by rfl) trivial ?_
          simp only [List.zip_cons_cons, List.zip_nil_right]
          refine wpPi_move _ rfl rfl ?_
          simp only [pl, pn, el, ec, sz, ss, gz, gs, if_true, if_false, Bool.false_eq_true, Bool.not_true, Bool.not_false, Nat.add_zero, Nat.zero_add, Nat.reduceAdd]
          refine wpPi_do rfl (fun K hK => ?_)
          refine wp_enterQ (run_call 34 [.tmp 69] _ rfl _ Try.func34 rfl (by kernel_rfl) [v6] rfl _) (compactS_any hg7 (by rw [sortB_len]; omega)) ?_
          rintro e w8 ⟨v8, rfl, hv8, hg8, hm8⟩
          have hM8 : Mod NoB w5 w8 := hM7.trans hm8 (fun k hk e => by have := (hcl7 _ e).1; omega)
          refine ⟨_, rfl, hK _ _ trivial ?_⟩
          clear hK K
          try simp only [pl, pn, el, ec, sz, ss, gz, gs, if_true, if_false, Bool.false_eq_true, Bool.not_true, Bool.not_false, Nat.add_zero, Nat.zero_add, Nat.reduceAdd]
          refine wpPi_move _ rfl rfl ?_
          simp only [pl, pn, el, ec, sz, ss, gz, gs, if_true, if_false, Bool.false_eq_true, Bool.not_true, Bool.not_false, Nat.add_zero, Nat.zero_add, Nat.reduceAdd]
          refine wpPi_assign _ rfl rfl ?_
          simp only [pl, pn, el, ec, sz, ss, gz, gs, if_true, if_false, Bool.false_eq_true, Bool.not_true, Bool.not_false, Nat.add_zero, Nat.zero_add, Nat.reduceAdd]
          refine wpPi_assign _ rfl rfl ?_
          simp only [pl, pn, el, ec, sz, ss, gz, gs, if_true, if_false, Bool.false_eq_true, Bool.not_true, Bool.not_false, Nat.add_zero, Nat.zero_add, Nat.reduceAdd]
          refine wpPi_assign _ rfl rfl ?_
          simp only [pl, pn, el, ec, sz, ss, gz, gs, if_true, if_false, Bool.false_eq_true, Bool.not_true, Bool.not_false, Nat.add_zero, Nat.zero_add, Nat.reduceAdd]
          refine wpPi_nil ?_
          have hMr := hMw.trans0 hM8
          have hgr := hg8.base hsw
          clear hm8 hM7 hM8 hg7 hg8 hMw
          go_wp2
          go_ret3
          exact ⟨_, _, _, by rw [HE.out]; rfl, hgr, HO.out, hMr⟩
end Go.Proofs.Ytchkikmmcmjcgaa

/- A region that draws its order, by a plan: runs of pure operations, single effects, and groups of effects that come in any order that their waiting allows, each of them shown once. -/
namespace Go.Proofs.Ytchkikmmcmjcgaa
set_option linter.unusedSimpArgs false
set_option linter.unusedVariables false
set_option linter.unnecessarySimpa false
set_option linter.unusedSectionVars false
open Go.RowKit

section
variable {P : Program} {ops : Array Oper} {Q : Exit → Act → World → Prop} {S : World → Prop} {md : Region.Mode}
/-- A step: a run of pure operations; a single effect; a group of so many effects, where so many have come up. -/
abbrev Step := List (Nat × Nat) ⊕ (Nat ⊕ (Nat × Array Bool))
def treeAll (md : Region.Mode) (ops : Array Oper) (f : Array Bool → Bool) : Nat → Array Bool → Bool
  | 0, L => f L
  | k + 1, L => !(Region.ready md ops L).isEmpty && (Region.ready md ops L).all fun i => decide (i < ops.size) && treeAll md ops f k (L.setIfInBounds i true)
def planOk (md : Region.Mode) (ops : Array Oper) : List Step → Array Bool → Nat → Bool
  | [], L, n => n == 0 && (Region.ready md ops L).isEmpty
  | .inl l :: p, L, n => match piPre md ops [] l L with
    | some L' => decide (l.length ≤ n) && planOk md ops p L' (n - l.length)
    | none => false
  | .inr (.inl i) :: p, L, n => decide (i < ops.size) && (Region.ready md ops L == [i]) && decide (0 < n) && planOk md ops p (L.setIfInBounds i true) (n - 1)
  | .inr (.inr (k, L0)) :: p, L, n => decide (L = L0) && decide (k ≤ n) && treeAll md ops (fun L' => planOk md ops p L' (n - k)) k L
def wpTr (P : Program) (md : Region.Mode) (ops : Array Oper) (Q : Exit → Act → World → Prop) (S : World → Prop) (K : Act → World → Prop) : Nat → Array Bool → Act → World → Prop
  | 0, _, a, w => K a w
  | n + 1, L, a, w => ∀ i ∈ Region.ready md ops L, Region.wanted (ops.getD i default) (yielded ops a.tmps) = true ∧ (ops.getD i default).wp P a w (fun a' w' => S w' ∧ wpTr P md ops Q S K n (L.setIfInBounds i true) a' w') Q
def planQ (K : Act → World → Prop) : Exit → Act → World → Prop
  | .normal, a, w => K a w
  | _, _, _ => True
def wpPlan (P : Program) (md : Region.Mode) (ops : Array Oper) (Q : Exit → Act → World → Prop) (S : World → Prop) : List Step → Act → World → Prop
  | [], a, w => Q .normal a w
  | .inl l :: p, a, w => wpPi P ops (planQ (wpPlan P md ops Q S p)) S (l.map fun x => (ops.getD x.1 default, x.2)) a w
  | .inr (.inl i) :: p, a, w => if Region.wanted (ops.getD i default) (yielded ops a.tmps) then (ops.getD i default).wp P a w (fun a' w' => S w' ∧ wpPlan P md ops Q S p a' w') Q ∨ ((ops.getD i default).asks P a w ∧ LetsOut Q) else S w ∧ wpPlan P md ops Q S p (a.put (ops.getD i default).dst undef) w
  | .inr (.inr (k, L)) :: p, a, w => wpTr P md ops Q S (wpPlan P md ops Q S p) k L a w
theorem wpAnyG_of_tr {K : Act → World → Prop} {f : Array Bool → Bool} {m : Nat} (hk : ∀ L a w, f L = true → S w → K a w → wpAnyG P md ops Q S [] m L a w) :
    ∀ (k : Nat) (L : Array Bool) (a : Act) (w : World), treeAll md ops f k L = true → S w → wpTr P md ops Q S K k L a w → wpAnyG P md ops Q S [] (k + m) L a w
  | 0, L, a, w, hp, hS, h => by
    rw [Nat.zero_add]
    exact hk L a w hp hS h
  | k + 1, L, a, w, hp, hS, h => by
    simp only [treeAll, Bool.and_eq_true, Bool.not_eq_true', List.all_eq_true] at hp
    rw [Nat.succ_add]
    refine ⟨fun h0 => (by rw [h0] at hp; simp at hp), fun i hi => ?_⟩
    have h1 := hp.2 i hi
    simp only [decide_eq_true_eq] at h1
    obtain ⟨hsz, hp'⟩ := h1
    have hi' : ops[i]? = some (ops.getD i default) := by simp [Array.getD, hsz]
    obtain ⟨hwant, hw⟩ := h i hi
    unfold wpOp
    generalize ops.getD i default = oi at hi' hw hwant
    simp only [hi']
    rw [if_pos hwant]
    exact .inl (Oper.wp_mono (fun a' w' h' => ⟨fun _ => h'.1, wpAnyG_of_tr hk k _ a' w' hp' h'.1 h'.2⟩) hw)
theorem wpAnyG_of_plan (hs : Region.noSelect ops = true) (hQ : PanicSame Q) :
    ∀ (p : List Step) (L : Array Bool) (a : Act) (w : World) (n : Nat), planOk md ops p L n = true → S w → wpPlan P md ops Q S p a w → wpAnyG P md ops Q S [] n L a w
  | [], L, a, w, n, hp, hS, h => by
    simp only [planOk, Bool.and_eq_true, beq_iff_eq, List.isEmpty_iff] at hp
    obtain ⟨rfl, hr⟩ := hp
    exact ⟨hr, h⟩
  | .inl l :: p, L, a, w, n, hp, hS, h => by
    simp only [planOk] at hp
    split at hp
    · rename_i L' hL
      simp only [Bool.and_eq_true, decide_eq_true_eq] at hp
      obtain ⟨hn, hp⟩ := hp
      have := wpAnyG_of_pre (S := S) (tl := []) hs hQ (Q1 := planQ (wpPlan P md ops Q S p)) (L := L') (fuel := n - l.length) (fun a w hS h => wpAnyG_of_plan hs hQ p L' a w (n - l.length) hp (hS rfl) h) l L a w hL (fun _ => hS) h
      rwa [show l.length + (n - l.length) = n by omega] at this
    · cases hp
  | .inr (.inl i) :: p, L, a, w, n, hp, hS, h => by
    simp only [planOk, Bool.and_eq_true, decide_eq_true_eq, beq_iff_eq] at hp
    obtain ⟨⟨⟨hi, hr⟩, hn⟩, hp⟩ := hp
    obtain ⟨m, rfl⟩ : ∃ m, n = m + 1 := ⟨n - 1, by omega⟩
    refine ⟨fun h0 => (by rw [hr] at h0; cases h0), fun j hj => ?_⟩
    have : j = i := by rw [hr] at hj; simpa using hj
    subst this
    have hi' : ops[j]? = some (ops.getD j default) := by simp [Array.getD, hi]
    unfold wpPlan at h
    refine wpOp_mono (K := fun a' w' => S w' ∧ wpPlan P md ops Q S p a' w') (fun a' w' h' => ⟨fun _ => h'.1, wpAnyG_of_plan hs hQ p _ a' w' m hp h'.1 h'.2⟩) ?_
    unfold wpOp
    generalize ops.getD j default = oj at hi' h
    simp only [hi']
    by_cases hg : Region.wanted oj (yielded ops a.tmps) = true
    · rw [if_pos hg] at h ⊢
      exact h
    · rw [if_neg hg] at h ⊢
      exact h
  | .inr (.inr (k, L0)) :: p, L, a, w, n, hp, hS, h => by
    simp only [planOk, Bool.and_eq_true, decide_eq_true_eq] at hp
    obtain ⟨⟨rfl, hk⟩, hp⟩ := hp
    have := wpAnyG_of_tr (S := S) (m := n - k) (f := fun L' => planOk md ops p L' (n - k)) (fun L' a w hf hS h => wpAnyG_of_plan hs hQ p L' a w (n - k) hf hS h) k L a w hp hS h
    rwa [show k + (n - k) = n by omega] at this
theorem wp_region_plan {id : Nat} {a : Act} {w : World} {l : List Oper} (p : List Step) (S : World → Prop) (hm : P.follows .mixedOrders = true) (hs : Region.noSelect l.toArray = true)
    (hp : planOk .any l.toArray p (Array.replicate l.toArray.size false) l.toArray.size = true) (hQ : PanicSame Q) (hS : S w.drew)
    (h : wpPlan P .any l.toArray Q S p a w.drew) : (Code.region id l.toArray true).wp P Q a w := by
  exact wp_region_any hm (wpAny_of_G _ _ _ _ (wpAnyG_of_plan hs hQ p _ a w.drew _ hp hS h))
theorem wpPlan_seg {l : List (Nat × Nat)} {p : List Step} {a : Act} {w : World} (h : wpPi P ops (planQ (wpPlan P md ops Q S p)) S (l.map fun x => (ops.getD x.1 default, x.2)) a w) : wpPlan P md ops Q S (.inl l :: p) a w := h
theorem wpPlan_one {i : Nat} {p : List Step} {a : Act} {w : World} (hw : Region.wanted (ops.getD i default) (yielded ops a.tmps) = true) (h : ∀ K : Act → World → Prop, (∀ a' w', S w' → wpPlan P md ops Q S p a' w' → K a' w') → (ops.getD i default).wp P a w K Q) : wpPlan P md ops Q S (.inr (.inl i) :: p) a w := by
  unfold wpPlan
  rw [if_pos hw]
  exact .inl (h _ fun a' w' h1 h2 => ⟨h1, h2⟩)
theorem wpPlan_skip {i : Nat} {p : List Step} {a : Act} {w : World} (hw : Region.wanted (ops.getD i default) (yielded ops a.tmps) = false) (hS : S w) (h : wpPlan P md ops Q S p (a.put (ops.getD i default).dst undef) w) : wpPlan P md ops Q S (.inr (.inl i) :: p) a w := by
  unfold wpPlan
  rw [if_neg (by rw [hw]; simp)]
  exact ⟨hS, h⟩
theorem planQ_normal {K : Act → World → Prop} {a : Act} {w : World} (h : K a w) : planQ K .normal a w := h
theorem wpPlan_fin {a : Act} {w : World} (h : Q .normal a w) : wpPlan P md ops Q S [] a w := h

/-! ### A group whose effects wait on each other -/
theorem puts_get {ps : List (Nat × Value)} {d : Nat} {v : Value} (h : (d, v) ∈ ps) (hn : (ps.map (·.1)).Nodup) {a : Act} (hd : d < a.tmps.size) : (puts ps a).eval (.tmp d) = v := by
  have hsz : ∀ ps : List (Nat × Value), (puts ps a).tmps.size = a.tmps.size := fun ps => by
    induction ps with
    | nil => rfl
    | cons p ps ih => simp only [puts, Act.put, Array.size_setIfInBounds]; exact ih
  induction ps with
  | nil => cases h
  | cons p ps ih =>
    rw [List.map_cons, List.nodup_cons] at hn
    rcases List.mem_cons.1 h with rfl | h
    · simp only [puts, Act.put, Act.eval, Array.getD_eq_getD_getElem?]
      rw [Array.getElem?_setIfInBounds_self]
      simp [hsz, hd]
    · have hne : p.1 ≠ d := fun e => hn.1 (e ▸ List.mem_map_of_mem (f := (·.1)) h)
      rw [← ih h hn.2]
      simp only [puts, Act.put, Act.eval, Array.getD_eq_getD_getElem?, Array.getElem?_setIfInBounds_ne hne]
theorem puts_slot {ps : List (Nat × Value)} {t : Nat} (h : ∀ p ∈ ps, p.1 ≠ t) (a : Act) : (puts ps a).tmps[t]? = a.tmps[t]? := by
  induction ps with
  | nil => rfl
  | cons p ps ih =>
    rw [← ih fun q hq => h q (List.mem_cons_of_mem _ hq)]
    have := h p List.mem_cons_self
    simp only [puts, Act.put, Array.getElem?_setIfInBounds_ne this]
/-- The slot that an operation's guard looks at is none of these. -/
def guardFar (ops : Array Oper) (ds : List Nat) (o : Oper) : Bool := match o.guard with
  | none => true
  | some (j, _) => match (ops[j]?).bind (·.dst) with
    | some t => ds.all (· != t)
    | none => true
theorem wanted_puts {ps : List (Nat × Value)} {ds : List Nat} (hps : ∀ p ∈ ps, p.1 ∈ ds) {o : Oper} (hg : guardFar ops ds o = true) (a : Act) : Region.wanted o (yielded ops (puts ps a).tmps) = Region.wanted o (yielded ops a.tmps) := by
  unfold Region.wanted
  cases hq : o.guard with
  | none => rfl
  | some x =>
    obtain ⟨j, b⟩ := x
    unfold guardFar at hg
    simp only [hq] at hg
    unfold yielded
    cases hd : (ops[j]?).bind (·.dst) with
    | none => simp [hd]
    | some t =>
      simp only [hd, List.all_eq_true, bne_iff_ne] at hg
      simp only [hd, Option.bind_some]
      rw [puts_slot (fun p hp => hg _ (hps p hp))]
/-- What comes up is of the group that is left, and what it waits on has come up. -/
def depOk (md : Region.Mode) (ops : Array Oper) : Nat → List (Nat × Nat × List Nat) → Array Bool → Bool
  | 0, g, _ => g.isEmpty
  | n + 1, g, L => (Region.ready md ops L).all fun i => g.any fun q => q.1 == i && (q.2.2.all fun d => !(g.any fun r => r.2.1 == d)) && depOk md ops n (g.erase q) (L.setIfInBounds i true)
theorem wpTr_dep {a : Act} {w0 : World} {K : Act → World → Prop} (F : Nat → Value → World → Prop) (g0 : List (Nat × Nat × List Nat)) (hF : ∀ d v w w', F d v w → Mod NoB w w' → F d v w') (hS : ∀ w, Mod NoB w0 w → S w) (hn : (g0.map (·.2.1)).Nodup) (hds : (g0.all fun q => q.2.2.all fun d => (g0.map (·.2.1)).contains d) = true)
    (hgf : (g0.all fun q => guardFar ops (g0.map (·.2.1)) (ops.getD q.1 default)) = true) (hw : ∀ q ∈ g0, Region.wanted (ops.getD q.1 default) (yielded ops a.tmps) = true)
    (hend : ∀ (vals : List Value) (w : World), vals.length = g0.length → Mod NoB w0 w → (∀ p ∈ (g0.map (·.2.1)).zip vals, F p.1 p.2 w) → K (puts ((g0.map (·.2.1)).zip vals) a) w)
    (hop : ∀ q ∈ g0, ∀ (ps : List (Nat × Value)) (w : World), Mod NoB w0 w → (∀ p ∈ ps, F p.1 p.2 w) → (∀ d ∈ q.2.2, ∃ v, (d, v) ∈ ps) → (ps.map (·.1)).Nodup → (∀ p ∈ ps, p.1 ≠ q.2.1 ∧ p.1 ∈ g0.map (·.2.1)) →
      ∀ K', (∀ v w', Mod NoB w w' → F q.2.1 v w' → K' ((puts ps a).put (some q.2.1) v) w') → (ops.getD q.1 default).wp P (puts ps a) w K' Q) :
    ∀ (n : Nat) (g : List (Nat × Nat × List Nat)) (L : Array Bool) (ps : List (Nat × Value)) (w : World), depOk md ops n g L = true → (∀ q ∈ g, q ∈ g0) → (ps.map (·.1) ++ g.map (·.2.1)).Perm (g0.map (·.2.1)) → Mod NoB w0 w → (∀ p ∈ ps, F p.1 p.2 w) →
      wpTr P md ops Q S K n L (puts ps a) w
  | 0, g, L, ps, w, hg, hsub, hp, hm, hps => by
    simp only [depOk, List.isEmpty_iff] at hg
    subst hg
    have hp' : (ps.map (·.1)).Perm (g0.map (·.2.1)) := by simpa using hp
    obtain ⟨vals, hl, hv⟩ := perm_vals hp'
    show K (puts ps a) w
    rw [puts_perm hv a (hp'.symm.nodup_iff.1 hn)]
    exact hend vals w (by simpa using hl) hm (fun p hp => hps p (hv.symm.subset hp))
  | n + 1, g, L, ps, w, hg, hsub, hp, hm, hps => by
    intro i hi
    simp only [depOk, List.all_eq_true] at hg
    have h1 := hg i hi
    rw [List.any_eq_true] at h1
    obtain ⟨q, hq, h1⟩ := h1
    simp only [Bool.and_eq_true, beq_iff_eq] at h1
    obtain ⟨⟨rfl, hdep⟩, hg'⟩ := h1
    have hnd : (ps.map (·.1) ++ g.map (·.2.1)).Nodup := hp.symm.nodup_iff.1 hn
    have hin : ∀ p ∈ ps, p.1 ∈ g0.map (·.2.1) := fun p hpp => hp.subset (List.mem_append_left _ (List.mem_map_of_mem hpp))
    refine ⟨?_, ?_⟩
    · rw [wanted_puts hin (by simpa using List.all_eq_true.1 hgf q (hsub q hq))]
      exact hw q (hsub q hq)
    · refine hop q (hsub q hq) ps w hm hps (fun d hd => ?_) (List.nodup_append.1 hnd).1 (fun p hpp => ⟨?_, hin p hpp⟩) _ fun v w' hm' hv => ⟨hS _ (hm.trans0 hm'), ?_⟩
      · have h2 : d ∈ g0.map (·.2.1) := by
          have := List.all_eq_true.1 (List.all_eq_true.1 hds q (hsub q hq)) d hd
          simpa using this
        rcases List.mem_append.1 (hp.symm.subset h2) with h3 | h3
        · obtain ⟨p, hp1, rfl⟩ := List.mem_map.1 h3
          exact ⟨p.2, hp1⟩
        · exfalso
          have := List.all_eq_true.1 hdep d hd
          obtain ⟨r, hr, rfl⟩ := List.mem_map.1 h3
          simp only [Bool.not_eq_true', List.any_eq_false] at this
          exact this r hr (by simp)
      · rw [List.nodup_append] at hnd
        exact hnd.2.2 _ (List.mem_map_of_mem hpp) _ (List.mem_map_of_mem (f := (·.2.1)) hq)
      · refine wpTr_dep F g0 hF hS hn hds hgf hw hend hop n (g.erase q) _ ((q.2.1, v) :: ps) w' hg' (fun r hr => hsub r (List.mem_of_mem_erase hr)) ?_ (hm.trans0 hm') (fun p hpp => ?_)
        · refine List.Perm.trans ?_ hp
          simp only [List.map_cons, List.cons_append]
          refine (List.perm_middle (l₁ := ps.map (·.1)) (a := q.2.1) (l₂ := (g.erase q).map (·.2.1))).symm.trans ?_
          exact List.Perm.append_left _ (by simpa using ((List.perm_cons_erase hq).map (·.2.1)).symm)
        · rcases List.mem_cons.1 hpp with rfl | hpp
          · exact hv
          · exact hF _ _ _ _ (hps p hpp) hm'
/-- Facts by slots. -/
def depF : List (Nat × (Value → World → Prop)) → Nat → Value → World → Prop
  | [], _, _, _ => True
  | (d, f) :: r, e, v, w => if d = e then f v w else depF r e v w
theorem depF_keep {fs : List (Nat × (Value → World → Prop))} (h : ∀ x ∈ fs, ∀ v w w', x.2 v w → Mod NoB w w' → x.2 v w') : ∀ d v w w', depF fs d v w → Mod NoB w w' → depF fs d v w' := by
  induction fs with
  | nil => intros; trivial
  | cons x fs ih =>
    obtain ⟨d0, f⟩ := x
    intro d v w w' hf hm
    unfold depF at hf ⊢
    by_cases hd : d0 = d
    · rw [if_pos hd] at hf ⊢
      exact h (d0, f) (by simp) v w w' hf hm
    · rw [if_neg hd] at hf ⊢
      exact ih (fun x hx => h x (by simp [hx])) d v w w' hf hm
theorem wpPlan_dep {p : List Step} {a : Act} {w0 : World} {n : Nat} {L : Array Bool} (fs : List (Nat × (Value → World → Prop))) (g0 : List (Nat × Nat × List Nat)) (hF : ∀ x ∈ fs, ∀ v w w', x.2 v w → Mod NoB w w' → x.2 v w') (hS : ∀ w, Mod NoB w0 w → S w) (hn : (g0.map (·.2.1)).Nodup) (hds : (g0.all fun q => q.2.2.all fun d => (g0.map (·.2.1)).contains d) = true)
    (hgf : (g0.all fun q => guardFar ops (g0.map (·.2.1)) (ops.getD q.1 default)) = true) (hok : depOk md ops n g0 L = true) (hw : ∀ q ∈ g0, Region.wanted (ops.getD q.1 default) (yielded ops a.tmps) = true)
    (hend : ∀ (vals : List Value) (w : World), vals.length = g0.length → Mod NoB w0 w → (∀ p ∈ (g0.map (·.2.1)).zip vals, depF fs p.1 p.2 w) → wpPlan P md ops Q S p (puts ((g0.map (·.2.1)).zip vals) a) w)
    (hop : ∀ q ∈ g0, ∀ (ps : List (Nat × Value)) (w : World), Mod NoB w0 w → (∀ p ∈ ps, depF fs p.1 p.2 w) → (∀ d ∈ q.2.2, ∃ v, (d, v) ∈ ps) → (ps.map (·.1)).Nodup → (∀ p ∈ ps, p.1 ≠ q.2.1 ∧ p.1 ∈ g0.map (·.2.1)) →
      ∀ K', (∀ v w', Mod NoB w w' → depF fs q.2.1 v w' → K' ((puts ps a).put (some q.2.1) v) w') → (ops.getD q.1 default).wp P (puts ps a) w K' Q) :
    wpPlan P md ops Q S (.inr (.inr (n, L)) :: p) a w0 :=
  wpTr_dep (depF fs) g0 (depF_keep hF) hS hn hds hgf hw hend hop n g0 L [] w0 hok (fun _ h => h) (by simp) (Mod.refl _ _) (fun p hp => (nomatch hp))
end
end Go.Proofs.Ytchkikmmcmjcgaa
