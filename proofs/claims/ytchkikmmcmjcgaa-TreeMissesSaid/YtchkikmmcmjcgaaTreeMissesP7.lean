/- What the statement TreeMisses needs, part 7. -/
import Derived.Test.YtchkikmmcmjcgaaTreeMissesP6
/- The walk of TreeTells. (Printed by TelB.gen.py.) -/
namespace Go.Proofs.Ytchkikmmcmjcgaa
set_option linter.unusedSimpArgs false
set_option linter.unusedVariables false
set_option linter.unnecessarySimpa false
set_option linter.unusedSectionVars false
open Go.RowKit Go.Shelf


theorem exec_neq_bool {w : World} {o : Oper} {a : Act} (x y : Operand) (yt : TypeId) (b : Bool) (ho : o.op = .binOp .neq 4 x y yt) (hx : a.eval x = .bool b) (hy : a.eval y = .bool b) :
    (execOp a.eval o).run Try.prog w = .ok (.value (.bool false)) w := by
  unfold execOp
  simp only [ho, hx, hy]
  cases b <;> go_simp
theorem exec_eql_bool {w : World} {o : Oper} {a : Act} (x y : Operand) (yt : TypeId) (b : Bool) (ho : o.op = .binOp .eql 4 x y yt) (hx : a.eval x = .bool b) (hy : a.eval y = .bool b) :
    (execOp a.eval o).run Try.prog w = .ok (.value (.bool true)) w := by
  unfold execOp
  simp only [ho, hx, hy]
  cases b <;> go_simp
def TelRel1 (a b : List Ent) (w0 : World) (x i : Value) (w : World) : Prop := ∃ (k : Nat) (bb : Bool), k ≤ a.length ∧ x = .bool bb ∧ i = .int .i64 k ∧ Mod NoB w0 w ∧ (bb = true → a.length = b.length ∧ ∀ j (h : j < a.length), j < k → a[j] ∈ b)
def TelRel2 (ks : List ByteArray) (w0 : World) (i : Value) (w : World) : Prop := ∃ k : Nat, k ≤ ks.length ∧ i = .int .i64 k ∧ Mod NoB w0 w
theorem cells_same {w w' : World} {b off : Nat} {cs : Array Value} (h : w'.heap = w.heap) (hc : CellsAt w b off cs) : CellsAt w' b off cs := by
  intro j hj
  have := hc j hj
  unfold World.cell? at this ⊢
  rw [h]; exact this
set_option maxRecDepth 10000 in
set_option maxHeartbeats 4000000 in
theorem treeTells_any {own own' : Bool} {G G' : Nat → Prop} (w : World) (va : Value) (a : List Ent) (vb : Value) (b : List Ent) (ha : Es own w G va a) (hb : Es own' w G' vb b) : Calls Try.prog 6 #[va, vb] w (RetM (.bool true) w) := by
  have HA := Lib.hid ha
  have HB := Lib.hid hb
  obtain ⟨aa, ca, rfl, hal, -⟩ := Sl.at ha
  obtain ⟨ab, cb, rfl, hbl, -⟩ := Sl.at hb
  clear ha hb
  go_enter Try.func6, Try.ntmps6
  go_upto_region 1 with (fail)
  refine wp_region_seq [1, 3] (fun _ => True) (by rfl) (by rfl) trivial ?_
  simp only [List.zip_cons_cons, List.zip_nil_right]
  refine wpPi_do rfl (fun K hK => ?_)
  refine wp_enterQ (run_call 4 [] _ rfl _ Try.func4 rfl (by kernel_rfl) [] rfl _) (treeKnown_any _) ?_
  rintro e w1 ⟨rfl, hm1⟩
  refine ⟨_, rfl, hK _ _ trivial ?_⟩
  clear hK K
  try simp only [pl, pn, el, ec, sz, ss, gz, gs, if_true, if_false, Bool.false_eq_true, Bool.not_true, Bool.not_false, Nat.add_zero, Nat.zero_add, Nat.reduceAdd]
  refine wpPi_assign _ rfl rfl ?_
  simp only [pl, pn, el, ec, sz, ss, gz, gs, if_true, if_false, Bool.false_eq_true, Bool.not_true, Bool.not_false, Nat.add_zero, Nat.zero_add, Nat.reduceAdd]
  refine wpPi_nil ?_
  replace HA := Lib.hid (HA.out.keep0 hm1)
  replace HB := Lib.hid (HB.out.keep0 hm1)
  go_upto_region 2 with (fail)
  by_cases hSA : SmallE a
  · have HLA := Lib.hid (longB_false hSA)
    by_cases hSB : SmallE b
    · have HLB := Lib.hid (longB_false hSB)
      have hsa := hSA.short
      have hsb := hSB.short
      have hla : a.length ≤ 4096 := by have := hSA.1; omega
      have hlb : b.length ≤ 4096 := by have := hSB.1; omega
      clear hSA hSB
      refine wp_region_seq [3, 1, 3, 3, 1, 3] (fun _ => True) (by rfl) (by rfl) trivial ?_
      simp only [List.zip_cons_cons, List.zip_nil_right]
      refine wpPi_move _ rfl rfl ?_
      simp only [pl, pn, el, ec, sz, ss, gz, gs, if_true, if_false, Bool.false_eq_true, Bool.not_true, Bool.not_false, Nat.add_zero, Nat.zero_add, Nat.reduceAdd]
      refine wpPi_do rfl (fun K hK => ?_)
      refine wp_enterQ (run_call 8 [.tmp 26] _ rfl _ Try.func8 rfl (by kernel_rfl) [.slice aa a.length ca] rfl _) (long_any HA.out) ?_
      rintro e w2 ⟨rfl, hm2⟩
      rw [HLA.out]
      refine ⟨_, rfl, hK _ _ trivial ?_⟩
      clear hK K
      try simp only [pl, pn, el, ec, sz, ss, gz, gs, if_true, if_false, Bool.false_eq_true, Bool.not_true, Bool.not_false, Nat.add_zero, Nat.zero_add, Nat.reduceAdd]
      refine wpPi_move _ rfl rfl ?_
      simp only [pl, pn, el, ec, sz, ss, gz, gs, if_true, if_false, Bool.false_eq_true, Bool.not_true, Bool.not_false, Nat.add_zero, Nat.zero_add, Nat.reduceAdd]
      refine wpPi_move _ rfl rfl ?_
      simp only [pl, pn, el, ec, sz, ss, gz, gs, if_true, if_false, Bool.false_eq_true, Bool.not_true, Bool.not_false, Nat.add_zero, Nat.zero_add, Nat.reduceAdd]
      refine wpPi_do rfl (fun K hK => ?_)
      refine wp_enterQ (run_call 8 [.tmp 29] _ rfl _ Try.func8 rfl (by kernel_rfl) [.slice ab b.length cb] rfl _) (long_any (HB.out.keep0 hm2)) ?_
      rintro e w3 ⟨rfl, hm3⟩
      rw [HLB.out]
      refine ⟨_, rfl, hK _ _ trivial ?_⟩
      clear hK K
      try simp only [pl, pn, el, ec, sz, ss, gz, gs, if_true, if_false, Bool.false_eq_true, Bool.not_true, Bool.not_false, Nat.add_zero, Nat.zero_add, Nat.reduceAdd]
      refine wpPi_pick _ _ _ _ rfl rfl rfl ?_
      simp only [pl, pn, el, ec, sz, ss, gz, gs, if_true, if_false, Bool.false_eq_true, Bool.not_true, Bool.not_false, Nat.add_zero, Nat.zero_add, Nat.reduceAdd]
      refine wpPi_nil ?_
      have hM3 := hm1.trans0 (hm2.trans0 hm3)
      replace HA := Lib.hid (HA.out.keep0 (hm2.trans0 hm3))
      replace HB := Lib.hid (HB.out.keep0 (hm2.trans0 hm3))
      clear hm1 hm2 hm3 HLA HLB
      go_upto_region 4 with (fail)
      refine wp_region_seq [3, 3, 1, 3, 3, 3, 3, 3, 3, 3] (fun _ => True) (by rfl) (by rfl) trivial ?_
      simp only [List.zip_cons_cons, List.zip_nil_right]
      refine wpPi_move _ rfl rfl ?_
      simp only [pl, pn, el, ec, sz, ss, gz, gs, if_true, if_false, Bool.false_eq_true, Bool.not_true, Bool.not_false, Nat.add_zero, Nat.zero_add, Nat.reduceAdd]
      refine wpPi_move _ rfl rfl ?_
      simp only [pl, pn, el, ec, sz, ss, gz, gs, if_true, if_false, Bool.false_eq_true, Bool.not_true, Bool.not_false, Nat.add_zero, Nat.zero_add, Nat.reduceAdd]
      refine wpPi_do rfl (fun K hK => ?_)
      refine wp_enterQ (run_call 11 [.tmp 34, .tmp 35] _ rfl _ Try.func11 rfl (by kernel_rfl) [.slice aa a.length ca, .slice ab b.length cb] rfl _) (treeDiffer_any HA.out HB.out hsa hsb hla hlb) ?_
      rintro e w4 ⟨v6, ks, n, rfl, hg6, hok6, hm4⟩
      refine ⟨_, rfl, hK _ _ trivial ?_⟩
      clear hK K
      try simp only [pl, pn, el, ec, sz, ss, gz, gs, if_true, if_false, Bool.false_eq_true, Bool.not_true, Bool.not_false, Nat.add_zero, Nat.zero_add, Nat.reduceAdd]
      refine wpPi_move _ rfl rfl ?_
      simp only [pl, pn, el, ec, sz, ss, gz, gs, if_true, if_false, Bool.false_eq_true, Bool.not_true, Bool.not_false, Nat.add_zero, Nat.zero_add, Nat.reduceAdd]
      refine wpPi_any (v := ?_) rfl (fun w' => ?_) ?_; rotate_left; · (go_simp; try with_reducible rfl)
      simp only [pl, pn, el, ec, sz, ss, gz, gs, if_true, if_false, Bool.false_eq_true, Bool.not_true, Bool.not_false, Nat.add_zero, Nat.zero_add, Nat.reduceAdd]
      refine wpPi_any (v := ?_) rfl (fun w' => ?_) ?_; rotate_left; · (go_simp; try with_reducible rfl)
      simp only [pl, pn, el, ec, sz, ss, gz, gs, if_true, if_false, Bool.false_eq_true, Bool.not_true, Bool.not_false, Nat.add_zero, Nat.zero_add, Nat.reduceAdd]
      refine wpPi_any (v := ?_) rfl (fun w' => ?_) ?_; rotate_left; · (go_simp; try with_reducible rfl)
      simp only [pl, pn, el, ec, sz, ss, gz, gs, if_true, if_false, Bool.false_eq_true, Bool.not_true, Bool.not_false, Nat.add_zero, Nat.zero_add, Nat.reduceAdd]
      refine wpPi_assign _ rfl rfl ?_
      simp only [pl, pn, el, ec, sz, ss, gz, gs, if_true, if_false, Bool.false_eq_true, Bool.not_true, Bool.not_false, Nat.add_zero, Nat.zero_add, Nat.reduceAdd]
      refine wpPi_assign _ rfl rfl ?_
      simp only [pl, pn, el, ec, sz, ss, gz, gs, if_true, if_false, Bool.false_eq_true, Bool.not_true, Bool.not_false, Nat.add_zero, Nat.zero_add, Nat.reduceAdd]
      refine wpPi_assign _ rfl rfl ?_
      simp only [pl, pn, el, ec, sz, ss, gz, gs, if_true, if_false, Bool.false_eq_true, Bool.not_true, Bool.not_false, Nat.add_zero, Nat.zero_add, Nat.reduceAdd]
      refine wpPi_nil ?_
      have HK6 := Lib.hid hg6.txt
      have hkl : ks.length ≤ 9223372036854775807 := by
        obtain ⟨_, _, -, hkl, -⟩ := Sl.at HK6.out
        exact hkl
      obtain ⟨ad6, cap6, rfl⟩ := hg6.slice
      replace HA := Lib.hid (HA.out.keep0 hm4)
      replace HB := Lib.hid (HB.out.keep0 hm4)
      have hM4 := hM3.trans0 hm4
      clear hg6 hm4 hM3
      go_upto_region 5 with (fail)
      refine wp_region_seq [3, 3, 1, 3, 3, 3, 3, 3, 3, 3] (fun _ => True) (by rfl) (by rfl) trivial ?_
      simp only [List.zip_cons_cons, List.zip_nil_right]
      refine wpPi_move _ rfl rfl ?_
      simp only [pl, pn, el, ec, sz, ss, gz, gs, if_true, if_false, Bool.false_eq_true, Bool.not_true, Bool.not_false, Nat.add_zero, Nat.zero_add, Nat.reduceAdd]
      refine wpPi_move _ rfl rfl ?_
      simp only [pl, pn, el, ec, sz, ss, gz, gs, if_true, if_false, Bool.false_eq_true, Bool.not_true, Bool.not_false, Nat.add_zero, Nat.zero_add, Nat.reduceAdd]
      refine wpPi_do rfl (fun K hK => ?_)
      refine wp_enterQ (run_call 11 [.tmp 41, .tmp 42] _ rfl _ Try.func11 rfl (by kernel_rfl) [.slice ab b.length cb, .slice aa a.length ca] rfl _) (treeDiffer_any HB.out HA.out hsb hsa hlb hla) ?_
      rintro e w5 ⟨v9, ms, m, rfl, hg9, hok9, hm5⟩
      refine ⟨_, rfl, hK _ _ trivial ?_⟩
      clear hK K
      try simp only [pl, pn, el, ec, sz, ss, gz, gs, if_true, if_false, Bool.false_eq_true, Bool.not_true, Bool.not_false, Nat.add_zero, Nat.zero_add, Nat.reduceAdd]
      refine wpPi_move _ rfl rfl ?_
      simp only [pl, pn, el, ec, sz, ss, gz, gs, if_true, if_false, Bool.false_eq_true, Bool.not_true, Bool.not_false, Nat.add_zero, Nat.zero_add, Nat.reduceAdd]
      refine wpPi_any (v := ?_) rfl (fun w' => ?_) ?_; rotate_left; · (go_simp; try with_reducible rfl)
      simp only [pl, pn, el, ec, sz, ss, gz, gs, if_true, if_false, Bool.false_eq_true, Bool.not_true, Bool.not_false, Nat.add_zero, Nat.zero_add, Nat.reduceAdd]
      refine wpPi_any (v := ?_) rfl (fun w' => ?_) ?_; rotate_left; · (go_simp; try with_reducible rfl)
      simp only [pl, pn, el, ec, sz, ss, gz, gs, if_true, if_false, Bool.false_eq_true, Bool.not_true, Bool.not_false, Nat.add_zero, Nat.zero_add, Nat.reduceAdd]
      refine wpPi_any (v := ?_) rfl (fun w' => ?_) ?_; rotate_left; · (go_simp; try with_reducible rfl)
      simp only [pl, pn, el, ec, sz, ss, gz, gs, if_true, if_false, Bool.false_eq_true, Bool.not_true, Bool.not_false, Nat.add_zero, Nat.zero_add, Nat.reduceAdd]
      refine wpPi_assign _ rfl rfl ?_
      simp only [pl, pn, el, ec, sz, ss, gz, gs, if_true, if_false, Bool.false_eq_true, Bool.not_true, Bool.not_false, Nat.add_zero, Nat.zero_add, Nat.reduceAdd]
      refine wpPi_assign _ rfl rfl ?_
      simp only [pl, pn, el, ec, sz, ss, gz, gs, if_true, if_false, Bool.false_eq_true, Bool.not_true, Bool.not_false, Nat.add_zero, Nat.zero_add, Nat.reduceAdd]
      refine wpPi_assign _ rfl rfl ?_
      simp only [pl, pn, el, ec, sz, ss, gz, gs, if_true, if_false, Bool.false_eq_true, Bool.not_true, Bool.not_false, Nat.add_zero, Nat.zero_add, Nat.reduceAdd]
      refine wpPi_nil ?_
      have HK9 := Lib.hid hg9.txt
      replace HK6 := Lib.hid (HK6.out.keep0 hm5)
      obtain ⟨ad9, cap9, rfl⟩ := hg9.slice
      replace HA := Lib.hid (HA.out.keep0 hm5)
      replace HB := Lib.hid (HB.out.keep0 hm5)
      have hM5 := hM4.trans0 hm5
      clear hg9 hm5 hM4
      by_cases he : errD a b = 0
      · have he' : errD b a = 0 := errD_symm.1 he
        obtain ⟨hr6, hn6⟩ := hok6.1 he
        obtain ⟨hr9, hn9⟩ := hok9.1 he'
        have hkm : ks = ms := dif_both hr6 hr9
        have hnm : n = m := by rw [hn6, hn9]; exact dif_places
        subst hkm hnm
        have hca := (errD_zero.1 he).1
        have hcb := (errD_zero.1 he).2.1
        have HCA := Lib.hid hca
        have HROOT := Lib.hid (show ks = [] ↔ rootE a = rootE b by rw [hr6.nil]; exact root_dif he)
        have HN := Lib.hid (show rootE a = rootE b → n = 1 from fun h => by rw [hn6]; exact root_place h)
        have HTOLD := Lib.hid (show ∀ k ∈ ks, (valE a k = none → valE b k ≠ none) ∧ (∀ v, valE a k = some v → valE b k ≠ some v) from fun k hk => told_differs hca hcb ((hr6.2 k).1 hk))
        have HDS := Lib.hid (difB_self hca)
        have hra := rootOut_zero hca
        have hrb := rootOut_zero hcb
        have hRal := Lib.hid (show (rootE a).length = 32 from dig_len rfl (lie_of_chk hca))
        have hRbl := Lib.hid (show (rootE b).length = 32 from dig_len rfl (lie_of_chk hcb))
        have hRa : (idCells (rootE a)).size = 32 := by rw [idCells_size, hRal.out]
        have hRb : (idCells (rootE b)).size = 32 := by rw [idCells_size, hRbl.out]
        rw [he, he']
        clear hok6 hok9 hr6 hr9 hn6 hn9 he he'
        go_upto_region 8 with (fail)
        refine wp_region_seq [3, 1, 3, 3, 3, 1, 1, 3] (fun _ => True) (by rfl) (by rfl) trivial ?_
        simp only [List.zip_cons_cons, List.zip_nil_right]
        refine wpPi_move _ rfl rfl ?_
        simp only [pl, pn, el, ec, sz, ss, gz, gs, if_true, if_false, Bool.false_eq_true, Bool.not_true, Bool.not_false, Nat.add_zero, Nat.zero_add, Nat.reduceAdd]
        refine wpPi_do rfl (fun K hK => ?_)
        refine wp_enterQ (run_call 17 [.tmp 74] _ rfl _ Try.func17 rfl (by kernel_rfl) [.slice aa a.length ca] rfl _) (root_any HA.out hsa hla) ?_
        rintro e w6 ⟨rfl, hm6⟩
        rw [hca, hra]
        refine ⟨_, rfl, hK _ _ trivial ?_⟩
        clear hK K
        try simp only [pl, pn, el, ec, sz, ss, gz, gs, if_true, if_false, Bool.false_eq_true, Bool.not_true, Bool.not_false, Nat.add_zero, Nat.zero_add, Nat.reduceAdd]
        refine wpPi_move _ rfl rfl ?_
        simp only [pl, pn, el, ec, sz, ss, gz, gs, if_true, if_false, Bool.false_eq_true, Bool.not_true, Bool.not_false, Nat.add_zero, Nat.zero_add, Nat.reduceAdd]
        refine wpPi_any (v := ?_) rfl (fun w' => ?_) ?_; rotate_left; · (go_simp; try with_reducible rfl)
        simp only [pl, pn, el, ec, sz, ss, gz, gs, if_true, if_false, Bool.false_eq_true, Bool.not_true, Bool.not_false, Nat.add_zero, Nat.zero_add, Nat.reduceAdd]
        refine wpPi_any (v := ?_) rfl (fun w' => ?_) ?_; rotate_left; · (go_simp; try with_reducible rfl)
        simp only [pl, pn, el, ec, sz, ss, gz, gs, if_true, if_false, Bool.false_eq_true, Bool.not_true, Bool.not_false, Nat.add_zero, Nat.zero_add, Nat.reduceAdd]
        refine wpPi_do rfl (fun K hK => ?_)
        refine wp_alloc 38 _ (by rfl) idZ (fun w7 hB7 hm7 hs7 => ?_)
        replace hB7 : w7.heap[w6.heap.size]? = some (.cells (idCells (List.replicate 32 0)) 38 (0, 0)) := hB7
        refine hK _ _ trivial ?_
        clear hK K
        try simp only [pl, pn, el, ec, sz, ss, gz, gs, if_true, if_false, Bool.false_eq_true, Bool.not_true, Bool.not_false, Nat.add_zero, Nat.zero_add, Nat.reduceAdd]
        refine wpPi_do rfl (fun K hK => ?_)
        refine wp_storeA 38 _ _ w6.heap.size 0 (idCells (rootE a)) (by rfl) (by rfl) (by rfl) (idCells_one _) 32 (by kernel_rfl) hRa _ _ hB7 (by rw [hRa, idCells_size]; simp) (fun w8 hB12 hm8 => ?_)
        rw [putRow_whole (by rw [hRa, idCells_size]; rfl)] at hB12
        refine hK _ _ trivial ?_
        clear hK K
        try simp only [pl, pn, el, ec, sz, ss, gz, gs, if_true, if_false, Bool.false_eq_true, Bool.not_true, Bool.not_false, Nat.add_zero, Nat.zero_add, Nat.reduceAdd]
        refine wpPi_assign _ rfl rfl ?_
        simp only [pl, pn, el, ec, sz, ss, gz, gs, if_true, if_false, Bool.false_eq_true, Bool.not_true, Bool.not_false, Nat.add_zero, Nat.zero_add, Nat.reduceAdd]
        refine wpPi_nil ?_
        have hM8 : Mod NoB w5 w8 := (hm6.trans0 hm7).transB hm8 hm6.size
        have hMw8 := hM5.trans0 hM8
        replace HA := Lib.hid (HA.out.keep0 hM8)
        replace HB := Lib.hid (HB.out.keep0 hM8)
        replace HK6 := Lib.hid (HK6.out.keep0 hM8)
        replace HK9 := Lib.hid (HK9.out.keep0 hM8)
        generalize w6.heap.size = b12 at *
        clear hm6 hm7 hm8 hB7 hM8 hM5 hra hca
        go_upto_region 9 with (fail)
        refine wp_region_seq [3, 1, 3, 3, 3, 1, 1, 3] (fun _ => True) (by rfl) (by rfl) trivial ?_
        simp only [List.zip_cons_cons, List.zip_nil_right]
        refine wpPi_move _ rfl rfl ?_
        simp only [pl, pn, el, ec, sz, ss, gz, gs, if_true, if_false, Bool.false_eq_true, Bool.not_true, Bool.not_false, Nat.add_zero, Nat.zero_add, Nat.reduceAdd]
        refine wpPi_do rfl (fun K hK => ?_)
        refine wp_enterQ (run_call 17 [.tmp 79] _ rfl _ Try.func17 rfl (by kernel_rfl) [.slice ab b.length cb] rfl _) (root_any HB.out hsb hlb) ?_
        rintro e w6 ⟨rfl, hm6⟩
        rw [hcb, hrb]
        refine ⟨_, rfl, hK _ _ trivial ?_⟩
        clear hK K
        try simp only [pl, pn, el, ec, sz, ss, gz, gs, if_true, if_false, Bool.false_eq_true, Bool.not_true, Bool.not_false, Nat.add_zero, Nat.zero_add, Nat.reduceAdd]
        refine wpPi_move _ rfl rfl ?_
        simp only [pl, pn, el, ec, sz, ss, gz, gs, if_true, if_false, Bool.false_eq_true, Bool.not_true, Bool.not_false, Nat.add_zero, Nat.zero_add, Nat.reduceAdd]
        refine wpPi_any (v := ?_) rfl (fun w' => ?_) ?_; rotate_left; · (go_simp; try with_reducible rfl)
        simp only [pl, pn, el, ec, sz, ss, gz, gs, if_true, if_false, Bool.false_eq_true, Bool.not_true, Bool.not_false, Nat.add_zero, Nat.zero_add, Nat.reduceAdd]
        refine wpPi_any (v := ?_) rfl (fun w' => ?_) ?_; rotate_left; · (go_simp; try with_reducible rfl)
        simp only [pl, pn, el, ec, sz, ss, gz, gs, if_true, if_false, Bool.false_eq_true, Bool.not_true, Bool.not_false, Nat.add_zero, Nat.zero_add, Nat.reduceAdd]
        refine wpPi_do rfl (fun K hK => ?_)
        refine wp_alloc 38 _ (by rfl) idZ (fun w7 hB7 hm7 hs7 => ?_)
        replace hB7 : w7.heap[w6.heap.size]? = some (.cells (idCells (List.replicate 32 0)) 38 (0, 0)) := hB7
        refine hK _ _ trivial ?_
        clear hK K
        try simp only [pl, pn, el, ec, sz, ss, gz, gs, if_true, if_false, Bool.false_eq_true, Bool.not_true, Bool.not_false, Nat.add_zero, Nat.zero_add, Nat.reduceAdd]
        refine wpPi_do rfl (fun K hK => ?_)
        refine wp_storeA 38 _ _ w6.heap.size 0 (idCells (rootE b)) (by rfl) (by rfl) (by rfl) (idCells_one _) 32 (by kernel_rfl) hRb _ _ hB7 (by rw [hRb, idCells_size]; simp) (fun w10 hB14 hm8 => ?_)
        rw [putRow_whole (by rw [hRb, idCells_size]; rfl)] at hB14
        refine hK _ _ trivial ?_
        clear hK K
        try simp only [pl, pn, el, ec, sz, ss, gz, gs, if_true, if_false, Bool.false_eq_true, Bool.not_true, Bool.not_false, Nat.add_zero, Nat.zero_add, Nat.reduceAdd]
        refine wpPi_assign _ rfl rfl ?_
        simp only [pl, pn, el, ec, sz, ss, gz, gs, if_true, if_false, Bool.false_eq_true, Bool.not_true, Bool.not_false, Nat.add_zero, Nat.zero_add, Nat.reduceAdd]
        refine wpPi_nil ?_
        have hM10' : Mod NoB w8 w10 := (hm6.trans0 hm7).transB hm8 hm6.size
        have hM10 := hMw8.trans0 hM10'
        replace hB12 := hM10'.obj id hB12
        replace HA := Lib.hid (HA.out.keep0 hM10')
        replace HB := Lib.hid (HB.out.keep0 hM10')
        replace HK6 := Lib.hid (HK6.out.keep0 hM10')
        replace HK9 := Lib.hid (HK9.out.keep0 hM10')
        generalize w6.heap.size = b14 at *
        clear hm6 hm7 hm8 hB7 hM10' hMw8 hrb hcb
        go_upto_region 10 with (fail)
        have hS10 : Mod NoB w10 w10 := Mod.refl _ _
        by_cases hrb : rootE a = rootE b
        · have HRB := Lib.hid (decide_eq_true hrb)
          have hk0 := HROOT.out.2 hrb
          have HLB := Lib.hid (show decide (((ks.length : Nat) : Int) = 0) = true by rw [hk0]; rfl)
          have HN1 := Lib.hid (show decide (¬ ((n : Nat) : Int) = 1) = false by rw [HN.out hrb]; rfl)
          clear hk0 hrb
          refine wp_region_seq [3, 3, 3, 3, 3, 3, 3, 3, 3, 1, 3, 3, 3, 3, 3, 3, 3, 3, 0, 0, 0, 3, 3, 3, 3, 3, 3, 0, 0, 0, 3, 3, 3, 3, 3, 3, 3, 3, 1, 3, 3] (fun w' => Mod NoB w10 w') (by rfl) (by rfl) hS10 ?_
          simp only [List.zip_cons_cons, List.zip_nil_right]
          refine wpPi_move _ rfl rfl ?_
          simp only [pl, pn, el, ec, sz, ss, gz, gs, if_true, if_false, Bool.false_eq_true, Bool.not_true, Bool.not_false, Nat.add_zero, Nat.zero_add, Nat.reduceAdd]
          refine wpPi_cmp _ _ _ _ _ _ _ _ rfl rfl rfl rfl rfl false rfl ?_
          simp only [pl, pn, el, ec, sz, ss, gz, gs, if_true, if_false, Bool.false_eq_true, Bool.not_true, Bool.not_false, Nat.add_zero, Nat.zero_add, Nat.reduceAdd]
          refine wpPi_move _ rfl rfl ?_
          simp only [pl, pn, el, ec, sz, ss, gz, gs, if_true, if_false, Bool.false_eq_true, Bool.not_true, Bool.not_false, Nat.add_zero, Nat.zero_add, Nat.reduceAdd]
          refine wpPi_move _ rfl rfl ?_
          simp only [pl, pn, el, ec, sz, ss, gz, gs, if_true, if_false, Bool.false_eq_true, Bool.not_true, Bool.not_false, Nat.add_zero, Nat.zero_add, Nat.reduceAdd]
          refine wpPi_cmp _ _ _ _ _ _ _ _ rfl rfl rfl rfl rfl false rfl ?_
          simp only [pl, pn, el, ec, sz, ss, gz, gs, if_true, if_false, Bool.false_eq_true, Bool.not_true, Bool.not_false, Nat.add_zero, Nat.zero_add, Nat.reduceAdd]
          refine wpPi_pick _ _ _ _ rfl rfl rfl ?_
          simp only [pl, pn, el, ec, sz, ss, gz, gs, if_true, if_false, Bool.false_eq_true, Bool.not_true, Bool.not_false, Nat.add_zero, Nat.zero_add, Nat.reduceAdd]
          refine wpPi_move _ rfl rfl ?_
          simp only [pl, pn, el, ec, sz, ss, gz, gs, if_true, if_false, Bool.false_eq_true, Bool.not_true, Bool.not_false, Nat.add_zero, Nat.zero_add, Nat.reduceAdd]
          refine wpPi_move _ rfl rfl ?_
          simp only [pl, pn, el, ec, sz, ss, gz, gs, if_true, if_false, Bool.false_eq_true, Bool.not_true, Bool.not_false, Nat.add_zero, Nat.zero_add, Nat.reduceAdd]
          refine wpPi_move _ rfl rfl ?_
          simp only [pl, pn, el, ec, sz, ss, gz, gs, if_true, if_false, Bool.false_eq_true, Bool.not_true, Bool.not_false, Nat.add_zero, Nat.zero_add, Nat.reduceAdd]
          refine wpPi_do rfl (fun K hK => ?_)
          refine wp_enterQ (run_call 13 [.tmp 90, .tmp 91] _ rfl _ Try.func13 rfl (by kernel_rfl) [.slice ad6 ks.length cap6, .slice ad9 ks.length cap9] rfl _) (sameTexts_any (HK6.out.keep0 hS10) (HK9.out.keep0 hS10)) ?_
          rintro e wa ⟨rfl, hma⟩
          rw [decide_eq_true (show ks = ks from rfl)]
          have hSa := hS10.trans0 hma
          refine ⟨_, rfl, hK _ _ hSa ?_⟩
          clear hK K
          try simp only [pl, pn, el, ec, sz, ss, gz, gs, if_true, if_false, Bool.false_eq_true, Bool.not_true, Bool.not_false, Nat.add_zero, Nat.zero_add, Nat.reduceAdd]
          refine wpPi_not _ _ _ rfl rfl rfl ?_
          simp only [pl, pn, el, ec, sz, ss, gz, gs, if_true, if_false, Bool.false_eq_true, Bool.not_true, Bool.not_false, Nat.add_zero, Nat.zero_add, Nat.reduceAdd]
          refine wpPi_pick _ _ _ _ rfl rfl rfl ?_
          simp only [pl, pn, el, ec, sz, ss, gz, gs, if_true, if_false, Bool.false_eq_true, Bool.not_true, Bool.not_false, Nat.add_zero, Nat.zero_add, Nat.reduceAdd]
          refine wpPi_move _ rfl rfl ?_
          simp only [pl, pn, el, ec, sz, ss, gz, gs, if_true, if_false, Bool.false_eq_true, Bool.not_true, Bool.not_false, Nat.add_zero, Nat.zero_add, Nat.reduceAdd]
          refine wpPi_move _ rfl rfl ?_
          simp only [pl, pn, el, ec, sz, ss, gz, gs, if_true, if_false, Bool.false_eq_true, Bool.not_true, Bool.not_false, Nat.add_zero, Nat.zero_add, Nat.reduceAdd]
          refine wpPi_move _ rfl rfl ?_
          simp only [pl, pn, el, ec, sz, ss, gz, gs, if_true, if_false, Bool.false_eq_true, Bool.not_true, Bool.not_false, Nat.add_zero, Nat.zero_add, Nat.reduceAdd]
          refine wpPi_cmp _ _ _ _ _ _ _ _ rfl rfl rfl rfl rfl false (decide_eq_false (fun h => h rfl)) ?_
          simp only [pl, pn, el, ec, sz, ss, gz, gs, if_true, if_false, Bool.false_eq_true, Bool.not_true, Bool.not_false, Nat.add_zero, Nat.zero_add, Nat.reduceAdd]
          refine wpPi_pick _ _ _ _ rfl rfl rfl ?_
          simp only [pl, pn, el, ec, sz, ss, gz, gs, if_true, if_false, Bool.false_eq_true, Bool.not_true, Bool.not_false, Nat.add_zero, Nat.zero_add, Nat.reduceAdd]
          refine wpPi_move _ rfl rfl ?_
          simp only [pl, pn, el, ec, sz, ss, gz, gs, if_true, if_false, Bool.false_eq_true, Bool.not_true, Bool.not_false, Nat.add_zero, Nat.zero_add, Nat.reduceAdd]
          refine wpPi_val rfl (fun w' hS => exec_loadA 38 _ (by rfl) b12 0 (by rfl) (idCells (rootE a)) ((CellsAt.whole hB12).keep hS id) _ Try.underlying38 rfl 32 (by kernel_rfl) hRa) ?_
          simp only [pl, pn, el, ec, sz, ss, gz, gs, if_true, if_false, Bool.false_eq_true, Bool.not_true, Bool.not_false, Nat.add_zero, Nat.zero_add, Nat.reduceAdd]
          refine wpPi_val rfl (fun w' hS => exec_loadA 38 _ (by rfl) b14 0 (by rfl) (idCells (rootE b)) ((CellsAt.whole hB14).keep hS id) _ Try.underlying38 rfl 32 (by kernel_rfl) hRb) ?_
          simp only [pl, pn, el, ec, sz, ss, gz, gs, if_true, if_false, Bool.false_eq_true, Bool.not_true, Bool.not_false, Nat.add_zero, Nat.zero_add, Nat.reduceAdd]
          refine wpPi_val rfl (fun w' hS => exec_eql_id _ _ _ _ rfl _ _ rfl rfl 32 5 Try.underlying38 Try.underlying5 (by kernel_rfl) (by kernel_rfl) hRal.out hRbl.out true HRB.out) ?_
          simp only [pl, pn, el, ec, sz, ss, gz, gs, if_true, if_false, Bool.false_eq_true, Bool.not_true, Bool.not_false, Nat.add_zero, Nat.zero_add, Nat.reduceAdd]
          refine wpPi_move _ rfl rfl ?_
          simp only [pl, pn, el, ec, sz, ss, gz, gs, if_true, if_false, Bool.false_eq_true, Bool.not_true, Bool.not_false, Nat.add_zero, Nat.zero_add, Nat.reduceAdd]
          refine wpPi_len _ _ _ _ _ rfl rfl rfl (by kernel_rfl) ?_
          simp only [pl, pn, el, ec, sz, ss, gz, gs, if_true, if_false, Bool.false_eq_true, Bool.not_true, Bool.not_false, Nat.add_zero, Nat.zero_add, Nat.reduceAdd]
          refine wpPi_cmp _ _ _ _ _ _ _ _ rfl rfl rfl rfl rfl true HLB.out ?_
          simp only [pl, pn, el, ec, sz, ss, gz, gs, if_true, if_false, Bool.false_eq_true, Bool.not_true, Bool.not_false, Nat.add_zero, Nat.zero_add, Nat.reduceAdd]
          refine wpPi_any rfl (fun w' => exec_neq_bool _ _ _ true rfl rfl rfl) ?_
          simp only [pl, pn, el, ec, sz, ss, gz, gs, if_true, if_false, Bool.false_eq_true, Bool.not_true, Bool.not_false, Nat.add_zero, Nat.zero_add, Nat.reduceAdd]
          refine wpPi_pick _ _ _ _ rfl rfl rfl ?_
          simp only [pl, pn, el, ec, sz, ss, gz, gs, if_true, if_false, Bool.false_eq_true, Bool.not_true, Bool.not_false, Nat.add_zero, Nat.zero_add, Nat.reduceAdd]
          refine wpPi_move _ rfl rfl ?_
          simp only [pl, pn, el, ec, sz, ss, gz, gs, if_true, if_false, Bool.false_eq_true, Bool.not_true, Bool.not_false, Nat.add_zero, Nat.zero_add, Nat.reduceAdd]
          refine wpPi_val rfl (fun w' hS => exec_loadA 38 _ (by rfl) b12 0 (by rfl) (idCells (rootE a)) ((CellsAt.whole hB12).keep hS id) _ Try.underlying38 rfl 32 (by kernel_rfl) hRa) ?_
          simp only [pl, pn, el, ec, sz, ss, gz, gs, if_true, if_false, Bool.false_eq_true, Bool.not_true, Bool.not_false, Nat.add_zero, Nat.zero_add, Nat.reduceAdd]
          refine wpPi_val rfl (fun w' hS => exec_loadA 38 _ (by rfl) b14 0 (by rfl) (idCells (rootE b)) ((CellsAt.whole hB14).keep hS id) _ Try.underlying38 rfl 32 (by kernel_rfl) hRb) ?_
          simp only [pl, pn, el, ec, sz, ss, gz, gs, if_true, if_false, Bool.false_eq_true, Bool.not_true, Bool.not_false, Nat.add_zero, Nat.zero_add, Nat.reduceAdd]
          refine wpPi_val rfl (fun w' hS => exec_eql_id _ _ _ _ rfl _ _ rfl rfl 32 5 Try.underlying38 Try.underlying5 (by kernel_rfl) (by kernel_rfl) hRal.out hRbl.out true HRB.out) ?_
          simp only [pl, pn, el, ec, sz, ss, gz, gs, if_true, if_false, Bool.false_eq_true, Bool.not_true, Bool.not_false, Nat.add_zero, Nat.zero_add, Nat.reduceAdd]
          refine wpPi_move _ rfl rfl ?_
          simp only [pl, pn, el, ec, sz, ss, gz, gs, if_true, if_false, Bool.false_eq_true, Bool.not_true, Bool.not_false, Nat.add_zero, Nat.zero_add, Nat.reduceAdd]
          refine wpPi_move _ rfl rfl ?_
          simp only [pl, pn, el, ec, sz, ss, gz, gs, if_true, if_false, Bool.false_eq_true, Bool.not_true, Bool.not_false, Nat.add_zero, Nat.zero_add, Nat.reduceAdd]
          refine wpPi_cmp _ _ _ _ _ _ _ _ rfl rfl rfl rfl rfl false HN1.out ?_
          simp only [pl, pn, el, ec, sz, ss, gz, gs, if_true, if_false, Bool.false_eq_true, Bool.not_true, Bool.not_false, Nat.add_zero, Nat.zero_add, Nat.reduceAdd]
          refine wpPi_pick _ _ _ _ rfl rfl rfl ?_
          simp only [pl, pn, el, ec, sz, ss, gz, gs, if_true, if_false, Bool.false_eq_true, Bool.not_true, Bool.not_false, Nat.add_zero, Nat.zero_add, Nat.reduceAdd]
          refine wpPi_pick _ _ _ _ rfl rfl rfl ?_
          simp only [pl, pn, el, ec, sz, ss, gz, gs, if_true, if_false, Bool.false_eq_true, Bool.not_true, Bool.not_false, Nat.add_zero, Nat.zero_add, Nat.reduceAdd]
          refine wpPi_move _ rfl rfl ?_
          simp only [pl, pn, el, ec, sz, ss, gz, gs, if_true, if_false, Bool.false_eq_true, Bool.not_true, Bool.not_false, Nat.add_zero, Nat.zero_add, Nat.reduceAdd]
          refine wpPi_move _ rfl rfl ?_
          simp only [pl, pn, el, ec, sz, ss, gz, gs, if_true, if_false, Bool.false_eq_true, Bool.not_true, Bool.not_false, Nat.add_zero, Nat.zero_add, Nat.reduceAdd]
          refine wpPi_move _ rfl rfl ?_
          simp only [pl, pn, el, ec, sz, ss, gz, gs, if_true, if_false, Bool.false_eq_true, Bool.not_true, Bool.not_false, Nat.add_zero, Nat.zero_add, Nat.reduceAdd]
          refine wpPi_do rfl (fun K hK => ?_)
          refine wp_enterQ (run_call 19 [.tmp 119, .tmp 120, .const (.int .i64 1), .const (.slice none 0 0)] _ rfl _ Try.func19 rfl (by kernel_rfl) [.slice aa a.length ca, .slice aa a.length ca, .int .i64 1, .slice none 0 0] rfl _) (differs_any (o2 := false) (G2 := Ever) (want := []) (HA.out.keep0 hSa) (HA.out.keep0 hSa) (Sl.nil _ _ _ _ _) hsa hsa hla hla 1) ?_
          rintro e w11 ⟨rfl, hm11⟩
          rw [HDS.out]
          have hS11 := hSa.trans0 hm11
          refine ⟨_, rfl, hK _ _ hS11 ?_⟩
          clear hK K
          try simp only [pl, pn, el, ec, sz, ss, gz, gs, if_true, if_false, Bool.false_eq_true, Bool.not_true, Bool.not_false, Nat.add_zero, Nat.zero_add, Nat.reduceAdd]
          refine wpPi_not _ _ _ rfl rfl rfl ?_
          simp only [pl, pn, el, ec, sz, ss, gz, gs, if_true, if_false, Bool.false_eq_true, Bool.not_true, Bool.not_false, Nat.add_zero, Nat.zero_add, Nat.reduceAdd]
          refine wpPi_pick _ _ _ _ rfl rfl rfl ?_
          simp only [pl, pn, el, ec, sz, ss, gz, gs, if_true, if_false, Bool.false_eq_true, Bool.not_true, Bool.not_false, Nat.add_zero, Nat.zero_add, Nat.reduceAdd]
          refine wpPi_nil ?_
          have hMW := hM10.trans0 hS11
          replace hB12 := hS11.obj id hB12
          replace hB14 := hS11.obj id hB14
          replace HA := Lib.hid (HA.out.keep0 hS11)
          replace HB := Lib.hid (HB.out.keep0 hS11)
          replace HK6 := Lib.hid (HK6.out.keep0 hS11)
          clear hS10 hSa hS11 hma hm11 hM10 HK9
          go_upto_region 12 with (fail)
          go_wp2
          go_loopw [16, 17] (TelRel1 a b w11) (fun _ i _ => a.length - (intOf i).toNat)
          case atStart =>
            exact ⟨0, decide (a.length = b.length), by omega, by rw [Bool.eq_iff_iff.2 (show ((a.length : Int) == (b.length : Int)) = true ↔ decide (a.length = b.length) = true by simp; omega)], rfl, Mod.refl _ _, fun h => ⟨of_decide_eq_true h, fun j _ h2 => by omega⟩⟩
          case round =>
            rename World => wr
            obtain ⟨k, bb, hk, rfl, rfl, hm, hall⟩ := hrel
            have HALL := Lib.hid hall
            clear hall
            by_cases hlt : k < a.length
            · have hz : (k : Int) < (a.length : Int) := by omega
              obtain ⟨_, _, hv, -, hat⟩ := Sl.at (HA.out.keep0 hm)
              cases hv
              obtain ⟨ba, offa, rfl, -, -, hc⟩ := hat k hlt
              obtain ⟨cs, hcs2, ⟨vv, rfl, hsl⟩, hc⟩ := hc k hlt
              have hc0 := hc.cell (j := 0) (v := .string a[k].1) rfl
              have hc1 := hc.cell (j := 1) (v := vv) rfl
              rw [Nat.add_zero] at hc0
              have HSL := Lib.hid hsl
              clear hat hc hsl
              have HX := Lib.hid (show a[k] = (a[k].1, a[k].2) from rfl)
              obtain ⟨ak, hak⟩ : ∃ x, a[k] = x := ⟨_, rfl⟩
              rw [hak] at hc0 HSL HX
              have HAK := Lib.hid hak
              clear hak
              go_upto_region 16 with (fail)
              refine wp_region_seq [3, 3, 3, 3, 3, 1, 1, 3, 3, 3, 3, 3] (fun _ => True) (by rfl) (by rfl) trivial ?_
              simp only [List.zip_cons_cons, List.zip_nil_right]
              refine wpPi_move _ rfl rfl ?_
              simp only [pl, pn, el, ec, sz, ss, gz, gs, if_true, if_false, Bool.false_eq_true, Bool.not_true, Bool.not_false, Nat.add_zero, Nat.zero_add, Nat.reduceAdd]
              refine wpPi_move _ rfl rfl ?_
              simp only [pl, pn, el, ec, sz, ss, gz, gs, if_true, if_false, Bool.false_eq_true, Bool.not_true, Bool.not_false, Nat.add_zero, Nat.zero_add, Nat.reduceAdd]
              refine wpPi_move _ rfl rfl ?_
              simp only [pl, pn, el, ec, sz, ss, gz, gs, if_true, if_false, Bool.false_eq_true, Bool.not_true, Bool.not_false, Nat.add_zero, Nat.zero_add, Nat.reduceAdd]
              refine wpPi_index _ _ _ _ _ _ _ _ _ rfl rfl rfl rfl Try.underlying22 (n := 2) (by kernel_rfl) hlt ?_
              simp only [pl, pn, el, ec, sz, ss, gz, gs, if_true, if_false, Bool.false_eq_true, Bool.not_true, Bool.not_false, Nat.add_zero, Nat.zero_add, Nat.reduceAdd]
              refine wpPi_field _ _ _ _ _ _ rfl rfl rfl fo_35_0 ?_
              simp only [pl, pn, el, ec, sz, ss, gz, gs, if_true, if_false, Bool.false_eq_true, Bool.not_true, Bool.not_false, Nat.add_zero, Nat.zero_add, Nat.reduceAdd]
              refine wpPi_do rfl (fun K hK => ?_)
              refine wp_exec (exec_load1 9 _ (by rfl) ba (offa + k * 2) (by rfl) _ hc0 _ Try.underlying9 rfl) ?_
              refine hK _ _ trivial ?_
              clear hK K
              try simp only [pl, pn, el, ec, sz, ss, gz, gs, if_true, if_false, Bool.false_eq_true, Bool.not_true, Bool.not_false, Nat.add_zero, Nat.zero_add, Nat.reduceAdd]
              refine wpPi_do rfl (fun K hK => ?_)
              refine wp_enterQ (run_call 25 [.tmp 136, .tmp 141] _ rfl _ Try.func25 rfl (by kernel_rfl) [.slice ab b.length cb, .string ak.1] rfl _) (lawValue_any (HB.out.keep0 hm) ak.1) ?_
              rintro e w12 ⟨v12, vs12, is12, rfl, hs12, hv12, hm12⟩
              refine ⟨_, rfl, hK _ _ trivial ?_⟩
              clear hK K
              try simp only [pl, pn, el, ec, sz, ss, gz, gs, if_true, if_false, Bool.false_eq_true, Bool.not_true, Bool.not_false, Nat.add_zero, Nat.zero_add, Nat.reduceAdd]
              refine wpPi_move _ rfl rfl ?_
              simp only [pl, pn, el, ec, sz, ss, gz, gs, if_true, if_false, Bool.false_eq_true, Bool.not_true, Bool.not_false, Nat.add_zero, Nat.zero_add, Nat.reduceAdd]
              refine wpPi_any (v := ?_) rfl (fun w' => ?_) ?_; rotate_left; · (go_simp; try with_reducible rfl)
              simp only [pl, pn, el, ec, sz, ss, gz, gs, if_true, if_false, Bool.false_eq_true, Bool.not_true, Bool.not_false, Nat.add_zero, Nat.zero_add, Nat.reduceAdd]
              refine wpPi_any (v := ?_) rfl (fun w' => ?_) ?_; rotate_left; · (go_simp; try with_reducible rfl)
              simp only [pl, pn, el, ec, sz, ss, gz, gs, if_true, if_false, Bool.false_eq_true, Bool.not_true, Bool.not_false, Nat.add_zero, Nat.zero_add, Nat.reduceAdd]
              refine wpPi_assign _ rfl rfl ?_
              simp only [pl, pn, el, ec, sz, ss, gz, gs, if_true, if_false, Bool.false_eq_true, Bool.not_true, Bool.not_false, Nat.add_zero, Nat.zero_add, Nat.reduceAdd]
              refine wpPi_assign _ rfl rfl ?_
              simp only [pl, pn, el, ec, sz, ss, gz, gs, if_true, if_false, Bool.false_eq_true, Bool.not_true, Bool.not_false, Nat.add_zero, Nat.zero_add, Nat.reduceAdd]
              refine wpPi_nil ?_
              have hM12 := hm.trans0 hm12
              have hc1' := CellsAt.one.1 ((CellsAt.one.2 hc1).keep hm12 id)
              have HSL' := Lib.hid (HSL.out.keep0 hm12)
              have HVV := Lib.hid hv12
              have HS12 := Lib.hid hs12
              obtain ⟨av12, cv12, rfl, -, -⟩ := Sl.at hs12
              obtain ⟨avv, cvv, rfl, -, -⟩ := Sl.at HSL.out
              clear hc0 hc1 HSL hv12 hs12 hm12
              go_upto_region 17 with (fail)
              by_cases hbb : bb = true
              · subst hbb
                cases is12
                · skip
                  refine wp_region_seq [3, 3, 3, 3, 3, 3, 3, 3, 3, 3, 0, 1, 3, 3] (fun _ => True) (by rfl) (by rfl) trivial ?_
                  simp only [List.zip_cons_cons, List.zip_nil_right]
                  refine wpPi_move _ rfl rfl ?_
                  simp only [pl, pn, el, ec, sz, ss, gz, gs, if_true, if_false, Bool.false_eq_true, Bool.not_true, Bool.not_false, Nat.add_zero, Nat.zero_add, Nat.reduceAdd]
                  refine wpPi_move _ rfl rfl ?_
                  simp only [pl, pn, el, ec, sz, ss, gz, gs, if_true, if_false, Bool.false_eq_true, Bool.not_true, Bool.not_false, Nat.add_zero, Nat.zero_add, Nat.reduceAdd]
                  refine wpPi_move _ rfl rfl ?_
                  simp only [pl, pn, el, ec, sz, ss, gz, gs, if_true, if_false, Bool.false_eq_true, Bool.not_true, Bool.not_false, Nat.add_zero, Nat.zero_add, Nat.reduceAdd]
                  refine wpPi_pick _ _ _ _ rfl rfl rfl ?_
                  simp only [pl, pn, el, ec, sz, ss, gz, gs, if_true, if_false, Bool.false_eq_true, Bool.not_true, Bool.not_false, Nat.add_zero, Nat.zero_add, Nat.reduceAdd]
                  refine wpPi_move _ rfl rfl ?_
                  simp only [pl, pn, el, ec, sz, ss, gz, gs, if_true, if_false, Bool.false_eq_true, Bool.not_true, Bool.not_false, Nat.add_zero, Nat.zero_add, Nat.reduceAdd]
                  refine wpPi_skip rfl ?_
                  simp only [pl, pn, el, ec, sz, ss, gz, gs, if_true, if_false, Bool.false_eq_true, Bool.not_true, Bool.not_false, Nat.add_zero, Nat.zero_add, Nat.reduceAdd]
                  refine wpPi_skip rfl ?_
                  simp only [pl, pn, el, ec, sz, ss, gz, gs, if_true, if_false, Bool.false_eq_true, Bool.not_true, Bool.not_false, Nat.add_zero, Nat.zero_add, Nat.reduceAdd]
                  refine wpPi_skip rfl ?_
                  simp only [pl, pn, el, ec, sz, ss, gz, gs, if_true, if_false, Bool.false_eq_true, Bool.not_true, Bool.not_false, Nat.add_zero, Nat.zero_add, Nat.reduceAdd]
                  refine wpPi_skip rfl ?_
                  simp only [pl, pn, el, ec, sz, ss, gz, gs, if_true, if_false, Bool.false_eq_true, Bool.not_true, Bool.not_false, Nat.add_zero, Nat.zero_add, Nat.reduceAdd]
                  refine wpPi_skip rfl ?_
                  simp only [pl, pn, el, ec, sz, ss, gz, gs, if_true, if_false, Bool.false_eq_true, Bool.not_true, Bool.not_false, Nat.add_zero, Nat.zero_add, Nat.reduceAdd]
                  refine wpPi_skip0 rfl ?_
                  simp only [pl, pn, el, ec, sz, ss, gz, gs, if_true, if_false, Bool.false_eq_true, Bool.not_true, Bool.not_false, Nat.add_zero, Nat.zero_add, Nat.reduceAdd]
                  refine wpPi_do_skip rfl trivial ?_
                  simp only [pl, pn, el, ec, sz, ss, gz, gs, if_true, if_false, Bool.false_eq_true, Bool.not_true, Bool.not_false, Nat.add_zero, Nat.zero_add, Nat.reduceAdd]
                  refine wpPi_pick _ _ _ _ rfl rfl rfl ?_
                  simp only [pl, pn, el, ec, sz, ss, gz, gs, if_true, if_false, Bool.false_eq_true, Bool.not_true, Bool.not_false, Nat.add_zero, Nat.zero_add, Nat.reduceAdd]
                  refine wpPi_assign _ rfl rfl ?_
                  simp only [pl, pn, el, ec, sz, ss, gz, gs, if_true, if_false, Bool.false_eq_true, Bool.not_true, Bool.not_false, Nat.add_zero, Nat.zero_add, Nat.reduceAdd]
                  refine wpPi_nil ?_
                  go_wp2
                  go_roundw
                  case rel => exact ⟨k + 1, false, by omega, rfl, by go_num, hM12, fun h => by cases h⟩
                  case measure => simp [intOf]; omega
                · skip
                  refine wp_region_seq [3, 3, 3, 3, 3, 3, 3, 3, 3, 3, 1, 1, 3, 3] (fun _ => True) (by rfl) (by rfl) trivial ?_
                  simp only [List.zip_cons_cons, List.zip_nil_right]
                  refine wpPi_move _ rfl rfl ?_
                  simp only [pl, pn, el, ec, sz, ss, gz, gs, if_true, if_false, Bool.false_eq_true, Bool.not_true, Bool.not_false, Nat.add_zero, Nat.zero_add, Nat.reduceAdd]
                  refine wpPi_move _ rfl rfl ?_
                  simp only [pl, pn, el, ec, sz, ss, gz, gs, if_true, if_false, Bool.false_eq_true, Bool.not_true, Bool.not_false, Nat.add_zero, Nat.zero_add, Nat.reduceAdd]
                  refine wpPi_move _ rfl rfl ?_
                  simp only [pl, pn, el, ec, sz, ss, gz, gs, if_true, if_false, Bool.false_eq_true, Bool.not_true, Bool.not_false, Nat.add_zero, Nat.zero_add, Nat.reduceAdd]
                  refine wpPi_pick _ _ _ _ rfl rfl rfl ?_
                  simp only [pl, pn, el, ec, sz, ss, gz, gs, if_true, if_false, Bool.false_eq_true, Bool.not_true, Bool.not_false, Nat.add_zero, Nat.zero_add, Nat.reduceAdd]
                  refine wpPi_move _ rfl rfl ?_
                  simp only [pl, pn, el, ec, sz, ss, gz, gs, if_true, if_false, Bool.false_eq_true, Bool.not_true, Bool.not_false, Nat.add_zero, Nat.zero_add, Nat.reduceAdd]
                  refine wpPi_move _ rfl rfl ?_
                  simp only [pl, pn, el, ec, sz, ss, gz, gs, if_true, if_false, Bool.false_eq_true, Bool.not_true, Bool.not_false, Nat.add_zero, Nat.zero_add, Nat.reduceAdd]
                  refine wpPi_move _ rfl rfl ?_
                  simp only [pl, pn, el, ec, sz, ss, gz, gs, if_true, if_false, Bool.false_eq_true, Bool.not_true, Bool.not_false, Nat.add_zero, Nat.zero_add, Nat.reduceAdd]
                  refine wpPi_move _ rfl rfl ?_
                  simp only [pl, pn, el, ec, sz, ss, gz, gs, if_true, if_false, Bool.false_eq_true, Bool.not_true, Bool.not_false, Nat.add_zero, Nat.zero_add, Nat.reduceAdd]
                  refine wpPi_index _ _ _ _ _ _ _ _ _ rfl rfl rfl rfl Try.underlying22 (n := 2) (by kernel_rfl) hlt ?_
                  simp only [pl, pn, el, ec, sz, ss, gz, gs, if_true, if_false, Bool.false_eq_true, Bool.not_true, Bool.not_false, Nat.add_zero, Nat.zero_add, Nat.reduceAdd]
                  refine wpPi_field _ _ _ _ _ _ rfl rfl rfl fo_35_1 ?_
                  simp only [pl, pn, el, ec, sz, ss, gz, gs, if_true, if_false, Bool.false_eq_true, Bool.not_true, Bool.not_false, Nat.add_zero, Nat.zero_add, Nat.reduceAdd]
                  refine wpPi_do rfl (fun K hK => ?_)
                  refine wp_exec (exec_load1 33 _ (by rfl) ba (offa + k * 2 + 1) (by rfl) _ hc1' _ Try.underlying33 rfl) ?_
                  refine hK _ _ trivial ?_
                  clear hK K
                  try simp only [pl, pn, el, ec, sz, ss, gz, gs, if_true, if_false, Bool.false_eq_true, Bool.not_true, Bool.not_false, Nat.add_zero, Nat.zero_add, Nat.reduceAdd]
                  refine wpPi_do rfl (fun K hK => ?_)
                  refine wp_enterQ (run_call 26 [.tmp 150, .tmp 155] _ rfl _ Try.func26 rfl (by kernel_rfl) [.slice av12 vs12.length cv12, .slice avv ak.2.length cvv] rfl _) (sameBytes_any HS12.out HSL'.out) ?_
                  rintro e w13 ⟨rfl, hm13⟩
                  refine ⟨_, rfl, hK _ _ trivial ?_⟩
                  clear hK K
                  try simp only [pl, pn, el, ec, sz, ss, gz, gs, if_true, if_false, Bool.false_eq_true, Bool.not_true, Bool.not_false, Nat.add_zero, Nat.zero_add, Nat.reduceAdd]
                  refine wpPi_pick _ _ _ _ rfl rfl rfl ?_
                  simp only [pl, pn, el, ec, sz, ss, gz, gs, if_true, if_false, Bool.false_eq_true, Bool.not_true, Bool.not_false, Nat.add_zero, Nat.zero_add, Nat.reduceAdd]
                  refine wpPi_assign _ rfl rfl ?_
                  simp only [pl, pn, el, ec, sz, ss, gz, gs, if_true, if_false, Bool.false_eq_true, Bool.not_true, Bool.not_false, Nat.add_zero, Nat.zero_add, Nat.reduceAdd]
                  refine wpPi_nil ?_
                  go_wp2
                  go_roundw
                  case rel =>
                    exact ⟨k + 1, decide (vs12 = ak.2), by omega, rfl, by go_num, hM12.trans0 hm13, fun h => ⟨(HALL.out rfl).1, fun j hj h2 => by
                      rcases Nat.lt_or_ge j k with h5 | h5
                      · exact (HALL.out rfl).2 j hj h5
                      · obtain rfl : j = k := by omega
                        have h6 : vs12 = ak.2 := of_decide_eq_true h
                        have h7 := valE_mem (show valE b ak.1 = some vs12 from HVV.out)
                        rw [HAK.out, HX.out, ← h6]; exact h7⟩⟩
                  case measure => simp [intOf]; omega
              · obtain rfl : bb = false := by simpa using hbb
                clear hbb
                refine wp_region_seq [3, 3, 3, 3, 3, 3, 3, 3, 3, 3, 0, 1, 3, 3] (fun _ => True) (by rfl) (by rfl) trivial ?_
                simp only [List.zip_cons_cons, List.zip_nil_right]
                refine wpPi_move _ rfl rfl ?_
                simp only [pl, pn, el, ec, sz, ss, gz, gs, if_true, if_false, Bool.false_eq_true, Bool.not_true, Bool.not_false, Nat.add_zero, Nat.zero_add, Nat.reduceAdd]
                refine wpPi_move _ rfl rfl ?_
                simp only [pl, pn, el, ec, sz, ss, gz, gs, if_true, if_false, Bool.false_eq_true, Bool.not_true, Bool.not_false, Nat.add_zero, Nat.zero_add, Nat.reduceAdd]
                refine wpPi_skip rfl ?_
                simp only [pl, pn, el, ec, sz, ss, gz, gs, if_true, if_false, Bool.false_eq_true, Bool.not_true, Bool.not_false, Nat.add_zero, Nat.zero_add, Nat.reduceAdd]
                refine wpPi_pick _ _ _ _ rfl rfl rfl ?_
                simp only [pl, pn, el, ec, sz, ss, gz, gs, if_true, if_false, Bool.false_eq_true, Bool.not_true, Bool.not_false, Nat.add_zero, Nat.zero_add, Nat.reduceAdd]
                refine wpPi_move _ rfl rfl ?_
                simp only [pl, pn, el, ec, sz, ss, gz, gs, if_true, if_false, Bool.false_eq_true, Bool.not_true, Bool.not_false, Nat.add_zero, Nat.zero_add, Nat.reduceAdd]
                refine wpPi_skip rfl ?_
                simp only [pl, pn, el, ec, sz, ss, gz, gs, if_true, if_false, Bool.false_eq_true, Bool.not_true, Bool.not_false, Nat.add_zero, Nat.zero_add, Nat.reduceAdd]
                refine wpPi_skip rfl ?_
                simp only [pl, pn, el, ec, sz, ss, gz, gs, if_true, if_false, Bool.false_eq_true, Bool.not_true, Bool.not_false, Nat.add_zero, Nat.zero_add, Nat.reduceAdd]
                refine wpPi_skip rfl ?_
                simp only [pl, pn, el, ec, sz, ss, gz, gs, if_true, if_false, Bool.false_eq_true, Bool.not_true, Bool.not_false, Nat.add_zero, Nat.zero_add, Nat.reduceAdd]
                refine wpPi_skip rfl ?_
                simp only [pl, pn, el, ec, sz, ss, gz, gs, if_true, if_false, Bool.false_eq_true, Bool.not_true, Bool.not_false, Nat.add_zero, Nat.zero_add, Nat.reduceAdd]
                refine wpPi_skip rfl ?_
                simp only [pl, pn, el, ec, sz, ss, gz, gs, if_true, if_false, Bool.false_eq_true, Bool.not_true, Bool.not_false, Nat.add_zero, Nat.zero_add, Nat.reduceAdd]
                refine wpPi_skip0 rfl ?_
                simp only [pl, pn, el, ec, sz, ss, gz, gs, if_true, if_false, Bool.false_eq_true, Bool.not_true, Bool.not_false, Nat.add_zero, Nat.zero_add, Nat.reduceAdd]
                refine wpPi_do_skip rfl trivial ?_
                simp only [pl, pn, el, ec, sz, ss, gz, gs, if_true, if_false, Bool.false_eq_true, Bool.not_true, Bool.not_false, Nat.add_zero, Nat.zero_add, Nat.reduceAdd]
                refine wpPi_pick _ _ _ _ rfl rfl rfl ?_
                simp only [pl, pn, el, ec, sz, ss, gz, gs, if_true, if_false, Bool.false_eq_true, Bool.not_true, Bool.not_false, Nat.add_zero, Nat.zero_add, Nat.reduceAdd]
                refine wpPi_assign _ rfl rfl ?_
                simp only [pl, pn, el, ec, sz, ss, gz, gs, if_true, if_false, Bool.false_eq_true, Bool.not_true, Bool.not_false, Nat.add_zero, Nat.zero_add, Nat.reduceAdd]
                refine wpPi_nil ?_
                go_wp2
                go_roundw
                case rel => exact ⟨k + 1, false, by omega, rfl, by go_num, hM12, fun h => by cases h⟩
                case measure => simp [intOf]; omega
            · have hz : ¬ (k : Int) < (a.length : Int) := by omega
              obtain rfl : k = a.length := by omega
              have HAL := Lib.hid (show bb = true → a.length = b.length ∧ ∀ x ∈ a, x ∈ b from fun h => ⟨(HALL.out h).1, fun x hx => by
                obtain ⟨j, hj, rfl⟩ := List.getElem_of_mem hx
                exact (HALL.out h).2 j hj hj⟩)
              clear HALL hlt hk
              go_wp2
              go_loopw [20] (TelRel2 ks wr) (fun i _ => ks.length - (intOf i).toNat)
              case atStart => exact ⟨0, by omega, rfl, Mod.refl _ _⟩
              case round =>
                rename World => wq
                obtain ⟨k, hk, rfl, hm'⟩ := hrel
                have hM := hm.trans0 hm'
                by_cases hlt : k < ks.length
                · have hz2 : (k : Int) < (ks.length : Int) := by omega
                  obtain ⟨_, _, hv, -, hat⟩ := Sl.at (Sl.keep0 HK6.out hM)
                  cases hv
                  obtain ⟨bk, offk, rfl, -, -, hc⟩ := hat k hlt
                  obtain ⟨_, -, rfl, hc⟩ := hc k hlt
                  have hc0 := CellsAt.one.1 hc
                  have HT := Lib.hid (HTOLD.out ks[k] (List.getElem_mem hlt))
                  obtain ⟨key, hkey⟩ : ∃ x, ks[k] = x := ⟨_, rfl⟩
                  rw [hkey] at hc0 HT
                  clear hat hc hkey
                  go_upto_region 21 with (fail)
                  refine wp_region_seq [3, 3, 3, 3, 1, 1, 3, 3, 3, 3, 3] (fun _ => True) (by rfl) (by rfl) trivial ?_
                  simp only [List.zip_cons_cons, List.zip_nil_right]
                  refine wpPi_move _ rfl rfl ?_
                  simp only [pl, pn, el, ec, sz, ss, gz, gs, if_true, if_false, Bool.false_eq_true, Bool.not_true, Bool.not_false, Nat.add_zero, Nat.zero_add, Nat.reduceAdd]
                  refine wpPi_move _ rfl rfl ?_
                  simp only [pl, pn, el, ec, sz, ss, gz, gs, if_true, if_false, Bool.false_eq_true, Bool.not_true, Bool.not_false, Nat.add_zero, Nat.zero_add, Nat.reduceAdd]
                  refine wpPi_move _ rfl rfl ?_
                  simp only [pl, pn, el, ec, sz, ss, gz, gs, if_true, if_false, Bool.false_eq_true, Bool.not_true, Bool.not_false, Nat.add_zero, Nat.zero_add, Nat.reduceAdd]
                  refine wpPi_index _ _ _ _ _ _ _ _ _ rfl rfl rfl rfl Try.underlying26 (n := 1) (by kernel_rfl) hlt ?_
                  simp only [pl, pn, el, ec, sz, ss, gz, gs, if_true, if_false, Bool.false_eq_true, Bool.not_true, Bool.not_false, Nat.add_zero, Nat.zero_add, Nat.reduceAdd]
                  refine wpPi_do rfl (fun K hK => ?_)
                  refine wp_exec (exec_load1 9 _ (by rfl) bk (offk + k * 1) (by rfl) _ hc0 _ Try.underlying9 rfl) ?_
                  refine hK _ _ trivial ?_
                  clear hK K
                  try simp only [pl, pn, el, ec, sz, ss, gz, gs, if_true, if_false, Bool.false_eq_true, Bool.not_true, Bool.not_false, Nat.add_zero, Nat.zero_add, Nat.reduceAdd]
                  refine wpPi_do rfl (fun K hK => ?_)
                  refine wp_enterQ (run_call 25 [.tmp 165, .tmp 169] _ rfl _ Try.func25 rfl (by kernel_rfl) [.slice aa a.length ca, .string key] rfl _) (lawValue_any (HA.out.keep0 hM) key) ?_
                  rintro e w12 ⟨v12, vs12, is12, rfl, hs12, hv12, hm12⟩
                  refine ⟨_, rfl, hK _ _ trivial ?_⟩
                  clear hK K
                  try simp only [pl, pn, el, ec, sz, ss, gz, gs, if_true, if_false, Bool.false_eq_true, Bool.not_true, Bool.not_false, Nat.add_zero, Nat.zero_add, Nat.reduceAdd]
                  refine wpPi_move _ rfl rfl ?_
                  simp only [pl, pn, el, ec, sz, ss, gz, gs, if_true, if_false, Bool.false_eq_true, Bool.not_true, Bool.not_false, Nat.add_zero, Nat.zero_add, Nat.reduceAdd]
                  refine wpPi_any (v := ?_) rfl (fun w' => ?_) ?_; rotate_left; · (go_simp; try with_reducible rfl)
                  simp only [pl, pn, el, ec, sz, ss, gz, gs, if_true, if_false, Bool.false_eq_true, Bool.not_true, Bool.not_false, Nat.add_zero, Nat.zero_add, Nat.reduceAdd]
                  refine wpPi_any (v := ?_) rfl (fun w' => ?_) ?_; rotate_left; · (go_simp; try with_reducible rfl)
                  simp only [pl, pn, el, ec, sz, ss, gz, gs, if_true, if_false, Bool.false_eq_true, Bool.not_true, Bool.not_false, Nat.add_zero, Nat.zero_add, Nat.reduceAdd]
                  refine wpPi_assign _ rfl rfl ?_
                  simp only [pl, pn, el, ec, sz, ss, gz, gs, if_true, if_false, Bool.false_eq_true, Bool.not_true, Bool.not_false, Nat.add_zero, Nat.zero_add, Nat.reduceAdd]
                  refine wpPi_assign _ rfl rfl ?_
                  simp only [pl, pn, el, ec, sz, ss, gz, gs, if_true, if_false, Bool.false_eq_true, Bool.not_true, Bool.not_false, Nat.add_zero, Nat.zero_add, Nat.reduceAdd]
                  refine wpPi_nil ?_
                  have hM12 := hM.trans0 hm12
                  have hm2' := hm'.trans0 hm12
                  replace hc0 := CellsAt.one.1 ((CellsAt.one.2 hc0).keep hm12 id)
                  have HV12 := Lib.hid hv12
                  have HS12 := Lib.hid hs12
                  obtain ⟨av12, cv12, rfl, -, -⟩ := Sl.at hs12
                  clear hv12 hs12 hm12 hm' hM
                  go_upto_region 22 with (fail)
                  refine wp_region_seq [3, 3, 3, 3, 1, 1, 3, 3, 3, 3, 3] (fun _ => True) (by rfl) (by rfl) trivial ?_
                  simp only [List.zip_cons_cons, List.zip_nil_right]
                  refine wpPi_move _ rfl rfl ?_
                  simp only [pl, pn, el, ec, sz, ss, gz, gs, if_true, if_false, Bool.false_eq_true, Bool.not_true, Bool.not_false, Nat.add_zero, Nat.zero_add, Nat.reduceAdd]
                  refine wpPi_move _ rfl rfl ?_
                  simp only [pl, pn, el, ec, sz, ss, gz, gs, if_true, if_false, Bool.false_eq_true, Bool.not_true, Bool.not_false, Nat.add_zero, Nat.zero_add, Nat.reduceAdd]
                  refine wpPi_move _ rfl rfl ?_
                  simp only [pl, pn, el, ec, sz, ss, gz, gs, if_true, if_false, Bool.false_eq_true, Bool.not_true, Bool.not_false, Nat.add_zero, Nat.zero_add, Nat.reduceAdd]
                  refine wpPi_index _ _ _ _ _ _ _ _ _ rfl rfl rfl rfl Try.underlying26 (n := 1) (by kernel_rfl) hlt ?_
                  simp only [pl, pn, el, ec, sz, ss, gz, gs, if_true, if_false, Bool.false_eq_true, Bool.not_true, Bool.not_false, Nat.add_zero, Nat.zero_add, Nat.reduceAdd]
                  refine wpPi_do rfl (fun K hK => ?_)
                  refine wp_exec (exec_load1 9 _ (by rfl) bk (offk + k * 1) (by rfl) _ hc0 _ Try.underlying9 rfl) ?_
                  refine hK _ _ trivial ?_
                  clear hK K
                  try simp only [pl, pn, el, ec, sz, ss, gz, gs, if_true, if_false, Bool.false_eq_true, Bool.not_true, Bool.not_false, Nat.add_zero, Nat.zero_add, Nat.reduceAdd]
                  refine wpPi_do rfl (fun K hK => ?_)
                  refine wp_enterQ (run_call 25 [.tmp 174, .tmp 178] _ rfl _ Try.func25 rfl (by kernel_rfl) [.slice ab b.length cb, .string key] rfl _) (lawValue_any (HB.out.keep0 hM12) key) ?_
                  rintro e w14 ⟨v14, vs14, is14, rfl, hs14, hv14, hm14⟩
                  refine ⟨_, rfl, hK _ _ trivial ?_⟩
                  clear hK K
                  try simp only [pl, pn, el, ec, sz, ss, gz, gs, if_true, if_false, Bool.false_eq_true, Bool.not_true, Bool.not_false, Nat.add_zero, Nat.zero_add, Nat.reduceAdd]
                  refine wpPi_move _ rfl rfl ?_
                  simp only [pl, pn, el, ec, sz, ss, gz, gs, if_true, if_false, Bool.false_eq_true, Bool.not_true, Bool.not_false, Nat.add_zero, Nat.zero_add, Nat.reduceAdd]
                  refine wpPi_any (v := ?_) rfl (fun w' => ?_) ?_; rotate_left; · (go_simp; try with_reducible rfl)
                  simp only [pl, pn, el, ec, sz, ss, gz, gs, if_true, if_false, Bool.false_eq_true, Bool.not_true, Bool.not_false, Nat.add_zero, Nat.zero_add, Nat.reduceAdd]
                  refine wpPi_any (v := ?_) rfl (fun w' => ?_) ?_; rotate_left; · (go_simp; try with_reducible rfl)
                  simp only [pl, pn, el, ec, sz, ss, gz, gs, if_true, if_false, Bool.false_eq_true, Bool.not_true, Bool.not_false, Nat.add_zero, Nat.zero_add, Nat.reduceAdd]
                  refine wpPi_assign _ rfl rfl ?_
                  simp only [pl, pn, el, ec, sz, ss, gz, gs, if_true, if_false, Bool.false_eq_true, Bool.not_true, Bool.not_false, Nat.add_zero, Nat.zero_add, Nat.reduceAdd]
                  refine wpPi_assign _ rfl rfl ?_
                  simp only [pl, pn, el, ec, sz, ss, gz, gs, if_true, if_false, Bool.false_eq_true, Bool.not_true, Bool.not_false, Nat.add_zero, Nat.zero_add, Nat.reduceAdd]
                  refine wpPi_nil ?_
                  have hM14 := hM12.trans0 hm14
                  have hm4' := hm2'.trans0 hm14
                  have HS12' := Lib.hid (HS12.out.keep0 hm14)
                  have HV14 := Lib.hid hv14
                  have HS14 := Lib.hid hs14
                  obtain ⟨av14, cv14, rfl, -, -⟩ := Sl.at hs14
                  clear hv14 hs14 hm14 HS12 hM12 hc0
                  go_upto_region 23 with (fail)
                  cases is12
                  · cases is14
                    · exact absurd HV14.out (HT.out.1 HV12.out)
                    · skip
                      refine wp_region_seq [3, 3, 3, 3, 3, 3, 3, 3, 3, 3, 3, 3, 3, 3, 1, 3, 3] (fun _ => True) (by rfl) (by rfl) trivial ?_
                      simp only [List.zip_cons_cons, List.zip_nil_right]
                      refine wpPi_move _ rfl rfl ?_
                      simp only [pl, pn, el, ec, sz, ss, gz, gs, if_true, if_false, Bool.false_eq_true, Bool.not_true, Bool.not_false, Nat.add_zero, Nat.zero_add, Nat.reduceAdd]
                      refine wpPi_not _ _ _ rfl rfl rfl ?_
                      simp only [pl, pn, el, ec, sz, ss, gz, gs, if_true, if_false, Bool.false_eq_true, Bool.not_true, Bool.not_false, Nat.add_zero, Nat.zero_add, Nat.reduceAdd]
                      refine wpPi_move _ rfl rfl ?_
                      simp only [pl, pn, el, ec, sz, ss, gz, gs, if_true, if_false, Bool.false_eq_true, Bool.not_true, Bool.not_false, Nat.add_zero, Nat.zero_add, Nat.reduceAdd]
                      refine wpPi_move _ rfl rfl ?_
                      simp only [pl, pn, el, ec, sz, ss, gz, gs, if_true, if_false, Bool.false_eq_true, Bool.not_true, Bool.not_false, Nat.add_zero, Nat.zero_add, Nat.reduceAdd]
                      refine wpPi_not _ _ _ rfl rfl rfl ?_
                      simp only [pl, pn, el, ec, sz, ss, gz, gs, if_true, if_false, Bool.false_eq_true, Bool.not_true, Bool.not_false, Nat.add_zero, Nat.zero_add, Nat.reduceAdd]
                      refine wpPi_pick _ _ _ _ rfl rfl rfl ?_
                      simp only [pl, pn, el, ec, sz, ss, gz, gs, if_true, if_false, Bool.false_eq_true, Bool.not_true, Bool.not_false, Nat.add_zero, Nat.zero_add, Nat.reduceAdd]
                      refine wpPi_move _ rfl rfl ?_
                      simp only [pl, pn, el, ec, sz, ss, gz, gs, if_true, if_false, Bool.false_eq_true, Bool.not_true, Bool.not_false, Nat.add_zero, Nat.zero_add, Nat.reduceAdd]
                      refine wpPi_move _ rfl rfl ?_
                      simp only [pl, pn, el, ec, sz, ss, gz, gs, if_true, if_false, Bool.false_eq_true, Bool.not_true, Bool.not_false, Nat.add_zero, Nat.zero_add, Nat.reduceAdd]
                      refine wpPi_move _ rfl rfl ?_
                      simp only [pl, pn, el, ec, sz, ss, gz, gs, if_true, if_false, Bool.false_eq_true, Bool.not_true, Bool.not_false, Nat.add_zero, Nat.zero_add, Nat.reduceAdd]
                      refine wpPi_skip rfl ?_
                      simp only [pl, pn, el, ec, sz, ss, gz, gs, if_true, if_false, Bool.false_eq_true, Bool.not_true, Bool.not_false, Nat.add_zero, Nat.zero_add, Nat.reduceAdd]
                      refine wpPi_pick _ _ _ _ rfl rfl rfl ?_
                      simp only [pl, pn, el, ec, sz, ss, gz, gs, if_true, if_false, Bool.false_eq_true, Bool.not_true, Bool.not_false, Nat.add_zero, Nat.zero_add, Nat.reduceAdd]
                      refine wpPi_move _ rfl rfl ?_
                      simp only [pl, pn, el, ec, sz, ss, gz, gs, if_true, if_false, Bool.false_eq_true, Bool.not_true, Bool.not_false, Nat.add_zero, Nat.zero_add, Nat.reduceAdd]
                      refine wpPi_skip rfl ?_
                      simp only [pl, pn, el, ec, sz, ss, gz, gs, if_true, if_false, Bool.false_eq_true, Bool.not_true, Bool.not_false, Nat.add_zero, Nat.zero_add, Nat.reduceAdd]
                      refine wpPi_skip rfl ?_
                      simp only [pl, pn, el, ec, sz, ss, gz, gs, if_true, if_false, Bool.false_eq_true, Bool.not_true, Bool.not_false, Nat.add_zero, Nat.zero_add, Nat.reduceAdd]
                      refine wpPi_do_skip rfl trivial ?_
                      simp only [pl, pn, el, ec, sz, ss, gz, gs, if_true, if_false, Bool.false_eq_true, Bool.not_true, Bool.not_false, Nat.add_zero, Nat.zero_add, Nat.reduceAdd]
                      refine wpPi_pick _ _ _ _ rfl rfl rfl ?_
                      simp only [pl, pn, el, ec, sz, ss, gz, gs, if_true, if_false, Bool.false_eq_true, Bool.not_true, Bool.not_false, Nat.add_zero, Nat.zero_add, Nat.reduceAdd]
                      refine wpPi_pick _ _ _ _ rfl rfl rfl ?_
                      simp only [pl, pn, el, ec, sz, ss, gz, gs, if_true, if_false, Bool.false_eq_true, Bool.not_true, Bool.not_false, Nat.add_zero, Nat.zero_add, Nat.reduceAdd]
                      refine wpPi_nil ?_
                      go_wp2
                      go_roundw
                      case rel => exact ⟨k + 1, by omega, by go_num, hm4'⟩
                      case measure => simp [intOf]; omega
                  · cases is14
                    · skip
                      refine wp_region_seq [3, 3, 3, 3, 3, 3, 3, 3, 3, 3, 3, 3, 3, 3, 1, 3, 3] (fun _ => True) (by rfl) (by rfl) trivial ?_
                      simp only [List.zip_cons_cons, List.zip_nil_right]
                      refine wpPi_move _ rfl rfl ?_
                      simp only [pl, pn, el, ec, sz, ss, gz, gs, if_true, if_false, Bool.false_eq_true, Bool.not_true, Bool.not_false, Nat.add_zero, Nat.zero_add, Nat.reduceAdd]
                      refine wpPi_not _ _ _ rfl rfl rfl ?_
                      simp only [pl, pn, el, ec, sz, ss, gz, gs, if_true, if_false, Bool.false_eq_true, Bool.not_true, Bool.not_false, Nat.add_zero, Nat.zero_add, Nat.reduceAdd]
                      refine wpPi_move _ rfl rfl ?_
                      simp only [pl, pn, el, ec, sz, ss, gz, gs, if_true, if_false, Bool.false_eq_true, Bool.not_true, Bool.not_false, Nat.add_zero, Nat.zero_add, Nat.reduceAdd]
                      refine wpPi_skip rfl ?_
                      simp only [pl, pn, el, ec, sz, ss, gz, gs, if_true, if_false, Bool.false_eq_true, Bool.not_true, Bool.not_false, Nat.add_zero, Nat.zero_add, Nat.reduceAdd]
                      refine wpPi_skip rfl ?_
                      simp only [pl, pn, el, ec, sz, ss, gz, gs, if_true, if_false, Bool.false_eq_true, Bool.not_true, Bool.not_false, Nat.add_zero, Nat.zero_add, Nat.reduceAdd]
                      refine wpPi_pick _ _ _ _ rfl rfl rfl ?_
                      simp only [pl, pn, el, ec, sz, ss, gz, gs, if_true, if_false, Bool.false_eq_true, Bool.not_true, Bool.not_false, Nat.add_zero, Nat.zero_add, Nat.reduceAdd]
                      refine wpPi_move _ rfl rfl ?_
                      simp only [pl, pn, el, ec, sz, ss, gz, gs, if_true, if_false, Bool.false_eq_true, Bool.not_true, Bool.not_false, Nat.add_zero, Nat.zero_add, Nat.reduceAdd]
                      refine wpPi_move _ rfl rfl ?_
                      simp only [pl, pn, el, ec, sz, ss, gz, gs, if_true, if_false, Bool.false_eq_true, Bool.not_true, Bool.not_false, Nat.add_zero, Nat.zero_add, Nat.reduceAdd]
                      refine wpPi_move _ rfl rfl ?_
                      simp only [pl, pn, el, ec, sz, ss, gz, gs, if_true, if_false, Bool.false_eq_true, Bool.not_true, Bool.not_false, Nat.add_zero, Nat.zero_add, Nat.reduceAdd]
                      refine wpPi_move _ rfl rfl ?_
                      simp only [pl, pn, el, ec, sz, ss, gz, gs, if_true, if_false, Bool.false_eq_true, Bool.not_true, Bool.not_false, Nat.add_zero, Nat.zero_add, Nat.reduceAdd]
                      refine wpPi_pick _ _ _ _ rfl rfl rfl ?_
                      simp only [pl, pn, el, ec, sz, ss, gz, gs, if_true, if_false, Bool.false_eq_true, Bool.not_true, Bool.not_false, Nat.add_zero, Nat.zero_add, Nat.reduceAdd]
                      refine wpPi_move _ rfl rfl ?_
                      simp only [pl, pn, el, ec, sz, ss, gz, gs, if_true, if_false, Bool.false_eq_true, Bool.not_true, Bool.not_false, Nat.add_zero, Nat.zero_add, Nat.reduceAdd]
                      refine wpPi_skip rfl ?_
                      simp only [pl, pn, el, ec, sz, ss, gz, gs, if_true, if_false, Bool.false_eq_true, Bool.not_true, Bool.not_false, Nat.add_zero, Nat.zero_add, Nat.reduceAdd]
                      refine wpPi_skip rfl ?_
                      simp only [pl, pn, el, ec, sz, ss, gz, gs, if_true, if_false, Bool.false_eq_true, Bool.not_true, Bool.not_false, Nat.add_zero, Nat.zero_add, Nat.reduceAdd]
                      refine wpPi_do_skip rfl trivial ?_
                      simp only [pl, pn, el, ec, sz, ss, gz, gs, if_true, if_false, Bool.false_eq_true, Bool.not_true, Bool.not_false, Nat.add_zero, Nat.zero_add, Nat.reduceAdd]
                      refine wpPi_pick _ _ _ _ rfl rfl rfl ?_
                      simp only [pl, pn, el, ec, sz, ss, gz, gs, if_true, if_false, Bool.false_eq_true, Bool.not_true, Bool.not_false, Nat.add_zero, Nat.zero_add, Nat.reduceAdd]
                      refine wpPi_pick _ _ _ _ rfl rfl rfl ?_
                      simp only [pl, pn, el, ec, sz, ss, gz, gs, if_true, if_false, Bool.false_eq_true, Bool.not_true, Bool.not_false, Nat.add_zero, Nat.zero_add, Nat.reduceAdd]
                      refine wpPi_nil ?_
                      go_wp2
                      go_roundw
                      case rel => exact ⟨k + 1, by omega, by go_num, hm4'⟩
                      case measure => simp [intOf]; omega
                    · have HNE := Lib.hid (decide_eq_false (show ¬ vs12 = vs14 from fun h => HT.out.2 vs12 HV12.out (by rw [h]; exact HV14.out)))
                      refine wp_region_seq [3, 3, 3, 3, 3, 3, 3, 3, 3, 3, 3, 3, 3, 3, 1, 3, 3] (fun _ => True) (by rfl) (by rfl) trivial ?_
                      simp only [List.zip_cons_cons, List.zip_nil_right]
                      refine wpPi_move _ rfl rfl ?_
                      simp only [pl, pn, el, ec, sz, ss, gz, gs, if_true, if_false, Bool.false_eq_true, Bool.not_true, Bool.not_false, Nat.add_zero, Nat.zero_add, Nat.reduceAdd]
                      refine wpPi_not _ _ _ rfl rfl rfl ?_
                      simp only [pl, pn, el, ec, sz, ss, gz, gs, if_true, if_false, Bool.false_eq_true, Bool.not_true, Bool.not_false, Nat.add_zero, Nat.zero_add, Nat.reduceAdd]
                      refine wpPi_move _ rfl rfl ?_
                      simp only [pl, pn, el, ec, sz, ss, gz, gs, if_true, if_false, Bool.false_eq_true, Bool.not_true, Bool.not_false, Nat.add_zero, Nat.zero_add, Nat.reduceAdd]
                      refine wpPi_skip rfl ?_
                      simp only [pl, pn, el, ec, sz, ss, gz, gs, if_true, if_false, Bool.false_eq_true, Bool.not_true, Bool.not_false, Nat.add_zero, Nat.zero_add, Nat.reduceAdd]
                      refine wpPi_skip rfl ?_
                      simp only [pl, pn, el, ec, sz, ss, gz, gs, if_true, if_false, Bool.false_eq_true, Bool.not_true, Bool.not_false, Nat.add_zero, Nat.zero_add, Nat.reduceAdd]
                      refine wpPi_pick _ _ _ _ rfl rfl rfl ?_
                      simp only [pl, pn, el, ec, sz, ss, gz, gs, if_true, if_false, Bool.false_eq_true, Bool.not_true, Bool.not_false, Nat.add_zero, Nat.zero_add, Nat.reduceAdd]
                      refine wpPi_move _ rfl rfl ?_
                      simp only [pl, pn, el, ec, sz, ss, gz, gs, if_true, if_false, Bool.false_eq_true, Bool.not_true, Bool.not_false, Nat.add_zero, Nat.zero_add, Nat.reduceAdd]
                      refine wpPi_move _ rfl rfl ?_
                      simp only [pl, pn, el, ec, sz, ss, gz, gs, if_true, if_false, Bool.false_eq_true, Bool.not_true, Bool.not_false, Nat.add_zero, Nat.zero_add, Nat.reduceAdd]
                      refine wpPi_move _ rfl rfl ?_
                      simp only [pl, pn, el, ec, sz, ss, gz, gs, if_true, if_false, Bool.false_eq_true, Bool.not_true, Bool.not_false, Nat.add_zero, Nat.zero_add, Nat.reduceAdd]
                      refine wpPi_move _ rfl rfl ?_
                      simp only [pl, pn, el, ec, sz, ss, gz, gs, if_true, if_false, Bool.false_eq_true, Bool.not_true, Bool.not_false, Nat.add_zero, Nat.zero_add, Nat.reduceAdd]
                      refine wpPi_pick _ _ _ _ rfl rfl rfl ?_
                      simp only [pl, pn, el, ec, sz, ss, gz, gs, if_true, if_false, Bool.false_eq_true, Bool.not_true, Bool.not_false, Nat.add_zero, Nat.zero_add, Nat.reduceAdd]
                      refine wpPi_move _ rfl rfl ?_
                      simp only [pl, pn, el, ec, sz, ss, gz, gs, if_true, if_false, Bool.false_eq_true, Bool.not_true, Bool.not_false, Nat.add_zero, Nat.zero_add, Nat.reduceAdd]
                      refine wpPi_move _ rfl rfl ?_
                      simp only [pl, pn, el, ec, sz, ss, gz, gs, if_true, if_false, Bool.false_eq_true, Bool.not_true, Bool.not_false, Nat.add_zero, Nat.zero_add, Nat.reduceAdd]
                      refine wpPi_move _ rfl rfl ?_
                      simp only [pl, pn, el, ec, sz, ss, gz, gs, if_true, if_false, Bool.false_eq_true, Bool.not_true, Bool.not_false, Nat.add_zero, Nat.zero_add, Nat.reduceAdd]
                      refine wpPi_do rfl (fun K hK => ?_)
                      refine wp_enterQ (run_call 26 [.tmp 194, .tmp 195] _ rfl _ Try.func26 rfl (by kernel_rfl) [.slice av12 vs12.length cv12, .slice av14 vs14.length cv14] rfl _) (sameBytes_any HS12'.out HS14.out) ?_
                      rintro e w15 ⟨rfl, hm15⟩
                      rw [HNE.out]
                      refine ⟨_, rfl, hK _ _ trivial ?_⟩
                      clear hK K
                      try simp only [pl, pn, el, ec, sz, ss, gz, gs, if_true, if_false, Bool.false_eq_true, Bool.not_true, Bool.not_false, Nat.add_zero, Nat.zero_add, Nat.reduceAdd]
                      refine wpPi_pick _ _ _ _ rfl rfl rfl ?_
                      simp only [pl, pn, el, ec, sz, ss, gz, gs, if_true, if_false, Bool.false_eq_true, Bool.not_true, Bool.not_false, Nat.add_zero, Nat.zero_add, Nat.reduceAdd]
                      refine wpPi_pick _ _ _ _ rfl rfl rfl ?_
                      simp only [pl, pn, el, ec, sz, ss, gz, gs, if_true, if_false, Bool.false_eq_true, Bool.not_true, Bool.not_false, Nat.add_zero, Nat.zero_add, Nat.reduceAdd]
                      refine wpPi_nil ?_
                      go_wp2
                      go_roundw
                      case rel => exact ⟨k + 1, by omega, by go_num, hm4'.trans0 hm15⟩
                      case measure => simp [intOf]; omega
                · have hz2 : ¬ (k : Int) < (ks.length : Int) := by omega
                  have hMw := hMW.trans0 hM
                  have hcA := hM.obj id hB12
                  have hcB := hM.obj id hB14
                  have hcA' := CellsAt.whole hcA
                  have hcB' := CellsAt.whole hcB
                  clear hcA hcB hB12 hB14
                  go_upto_region 25 with (fail)
                  cases bb
                  · skip
                    refine wp_region_seq [3, 3, 3, 3, 3, 0, 0, 3, 3, 3, 3, 3, 3, 3, 3, 3] (fun _ => True) (by rfl) (by rfl) trivial ?_
                    simp only [List.zip_cons_cons, List.zip_nil_right]
                    refine wpPi_move _ rfl rfl ?_
                    simp only [pl, pn, el, ec, sz, ss, gz, gs, if_true, if_false, Bool.false_eq_true, Bool.not_true, Bool.not_false, Nat.add_zero, Nat.zero_add, Nat.reduceAdd]
                    refine wpPi_move _ rfl rfl ?_
                    simp only [pl, pn, el, ec, sz, ss, gz, gs, if_true, if_false, Bool.false_eq_true, Bool.not_true, Bool.not_false, Nat.add_zero, Nat.zero_add, Nat.reduceAdd]
                    refine wpPi_move _ rfl rfl ?_
                    simp only [pl, pn, el, ec, sz, ss, gz, gs, if_true, if_false, Bool.false_eq_true, Bool.not_true, Bool.not_false, Nat.add_zero, Nat.zero_add, Nat.reduceAdd]
                    refine wpPi_not _ _ _ rfl rfl rfl ?_
                    simp only [pl, pn, el, ec, sz, ss, gz, gs, if_true, if_false, Bool.false_eq_true, Bool.not_true, Bool.not_false, Nat.add_zero, Nat.zero_add, Nat.reduceAdd]
                    refine wpPi_move _ rfl rfl ?_
                    simp only [pl, pn, el, ec, sz, ss, gz, gs, if_true, if_false, Bool.false_eq_true, Bool.not_true, Bool.not_false, Nat.add_zero, Nat.zero_add, Nat.reduceAdd]
                    refine wpPi_skip0 rfl ?_
                    simp only [pl, pn, el, ec, sz, ss, gz, gs, if_true, if_false, Bool.false_eq_true, Bool.not_true, Bool.not_false, Nat.add_zero, Nat.zero_add, Nat.reduceAdd]
                    refine wpPi_skip0 rfl ?_
                    simp only [pl, pn, el, ec, sz, ss, gz, gs, if_true, if_false, Bool.false_eq_true, Bool.not_true, Bool.not_false, Nat.add_zero, Nat.zero_add, Nat.reduceAdd]
                    refine wpPi_skip rfl ?_
                    simp only [pl, pn, el, ec, sz, ss, gz, gs, if_true, if_false, Bool.false_eq_true, Bool.not_true, Bool.not_false, Nat.add_zero, Nat.zero_add, Nat.reduceAdd]
                    refine wpPi_skip rfl ?_
                    simp only [pl, pn, el, ec, sz, ss, gz, gs, if_true, if_false, Bool.false_eq_true, Bool.not_true, Bool.not_false, Nat.add_zero, Nat.zero_add, Nat.reduceAdd]
                    refine wpPi_skip rfl ?_
                    simp only [pl, pn, el, ec, sz, ss, gz, gs, if_true, if_false, Bool.false_eq_true, Bool.not_true, Bool.not_false, Nat.add_zero, Nat.zero_add, Nat.reduceAdd]
                    refine wpPi_skip rfl ?_
                    simp only [pl, pn, el, ec, sz, ss, gz, gs, if_true, if_false, Bool.false_eq_true, Bool.not_true, Bool.not_false, Nat.add_zero, Nat.zero_add, Nat.reduceAdd]
                    refine wpPi_skip rfl ?_
                    simp only [pl, pn, el, ec, sz, ss, gz, gs, if_true, if_false, Bool.false_eq_true, Bool.not_true, Bool.not_false, Nat.add_zero, Nat.zero_add, Nat.reduceAdd]
                    refine wpPi_skip rfl ?_
                    simp only [pl, pn, el, ec, sz, ss, gz, gs, if_true, if_false, Bool.false_eq_true, Bool.not_true, Bool.not_false, Nat.add_zero, Nat.zero_add, Nat.reduceAdd]
                    refine wpPi_pick _ _ _ _ rfl rfl rfl ?_
                    simp only [pl, pn, el, ec, sz, ss, gz, gs, if_true, if_false, Bool.false_eq_true, Bool.not_true, Bool.not_false, Nat.add_zero, Nat.zero_add, Nat.reduceAdd]
                    refine wpPi_pick _ _ _ _ rfl rfl rfl ?_
                    simp only [pl, pn, el, ec, sz, ss, gz, gs, if_true, if_false, Bool.false_eq_true, Bool.not_true, Bool.not_false, Nat.add_zero, Nat.zero_add, Nat.reduceAdd]
                    refine wpPi_assign _ rfl rfl ?_
                    simp only [pl, pn, el, ec, sz, ss, gz, gs, if_true, if_false, Bool.false_eq_true, Bool.not_true, Bool.not_false, Nat.add_zero, Nat.zero_add, Nat.reduceAdd]
                    refine wpPi_nil ?_
                    go_wp2
                    go_ret
                    exact ⟨rfl, hMw⟩
                  · have hal := HAL.out rfl
                    have hrr := alike_root HCA.out hal.1 hal.2
                    have HRR := Lib.hid hrr
                    have hk0 := HROOT.out.2 hrr
                    subst hk0
                    clear hal hrr
                    have hS : wq.drew.heap = wq.heap := rfl
                    refine wp_region_seq [3, 3, 3, 3, 3, 0, 0, 0, 3, 3, 3, 3, 3, 3, 3, 3] (fun w' => w'.heap = wq.heap) (by rfl) (by rfl) hS ?_
                    simp only [List.zip_cons_cons, List.zip_nil_right]
                    refine wpPi_move _ rfl rfl ?_
                    simp only [pl, pn, el, ec, sz, ss, gz, gs, if_true, if_false, Bool.false_eq_true, Bool.not_true, Bool.not_false, Nat.add_zero, Nat.zero_add, Nat.reduceAdd]
                    refine wpPi_move _ rfl rfl ?_
                    simp only [pl, pn, el, ec, sz, ss, gz, gs, if_true, if_false, Bool.false_eq_true, Bool.not_true, Bool.not_false, Nat.add_zero, Nat.zero_add, Nat.reduceAdd]
                    refine wpPi_move _ rfl rfl ?_
                    simp only [pl, pn, el, ec, sz, ss, gz, gs, if_true, if_false, Bool.false_eq_true, Bool.not_true, Bool.not_false, Nat.add_zero, Nat.zero_add, Nat.reduceAdd]
                    refine wpPi_not _ _ _ rfl rfl rfl ?_
                    simp only [pl, pn, el, ec, sz, ss, gz, gs, if_true, if_false, Bool.false_eq_true, Bool.not_true, Bool.not_false, Nat.add_zero, Nat.zero_add, Nat.reduceAdd]
                    refine wpPi_move _ rfl rfl ?_
                    simp only [pl, pn, el, ec, sz, ss, gz, gs, if_true, if_false, Bool.false_eq_true, Bool.not_true, Bool.not_false, Nat.add_zero, Nat.zero_add, Nat.reduceAdd]
                    refine wpPi_val rfl (fun w' hS => exec_loadA 38 _ (by rfl) b12 0 (by rfl) (idCells (rootE a)) (cells_same hS hcA') _ Try.underlying38 rfl 32 (by kernel_rfl) hRa) ?_
                    simp only [pl, pn, el, ec, sz, ss, gz, gs, if_true, if_false, Bool.false_eq_true, Bool.not_true, Bool.not_false, Nat.add_zero, Nat.zero_add, Nat.reduceAdd]
                    refine wpPi_val rfl (fun w' hS => exec_loadA 38 _ (by rfl) b14 0 (by rfl) (idCells (rootE b)) (cells_same hS hcB') _ Try.underlying38 rfl 32 (by kernel_rfl) hRb) ?_
                    simp only [pl, pn, el, ec, sz, ss, gz, gs, if_true, if_false, Bool.false_eq_true, Bool.not_true, Bool.not_false, Nat.add_zero, Nat.zero_add, Nat.reduceAdd]
                    refine wpPi_val rfl (fun w' hS => exec_eql_id _ _ _ _ rfl _ _ rfl rfl 32 5 Try.underlying38 Try.underlying5 (by kernel_rfl) (by kernel_rfl) (hRal.out) (hRbl.out) true (decide_eq_true HRR.out)) ?_
                    simp only [pl, pn, el, ec, sz, ss, gz, gs, if_true, if_false, Bool.false_eq_true, Bool.not_true, Bool.not_false, Nat.add_zero, Nat.zero_add, Nat.reduceAdd]
                    refine wpPi_move _ rfl rfl ?_
                    simp only [pl, pn, el, ec, sz, ss, gz, gs, if_true, if_false, Bool.false_eq_true, Bool.not_true, Bool.not_false, Nat.add_zero, Nat.zero_add, Nat.reduceAdd]
                    refine wpPi_move _ rfl rfl ?_
                    simp only [pl, pn, el, ec, sz, ss, gz, gs, if_true, if_false, Bool.false_eq_true, Bool.not_true, Bool.not_false, Nat.add_zero, Nat.zero_add, Nat.reduceAdd]
                    refine wpPi_len _ _ _ _ _ rfl rfl rfl (by kernel_rfl) ?_
                    simp only [pl, pn, el, ec, sz, ss, gz, gs, if_true, if_false, Bool.false_eq_true, Bool.not_true, Bool.not_false, Nat.add_zero, Nat.zero_add, Nat.reduceAdd]
                    refine wpPi_any (v := ?_) rfl (fun w' => ?_) ?_; rotate_left; · (go_simp; try with_reducible rfl)
                    simp only [pl, pn, el, ec, sz, ss, gz, gs, if_true, if_false, Bool.false_eq_true, Bool.not_true, Bool.not_false, Nat.add_zero, Nat.zero_add, Nat.reduceAdd]
                    refine wpPi_pick _ _ _ _ rfl rfl rfl ?_
                    simp only [pl, pn, el, ec, sz, ss, gz, gs, if_true, if_false, Bool.false_eq_true, Bool.not_true, Bool.not_false, Nat.add_zero, Nat.zero_add, Nat.reduceAdd]
                    refine wpPi_pick _ _ _ _ rfl rfl rfl ?_
                    simp only [pl, pn, el, ec, sz, ss, gz, gs, if_true, if_false, Bool.false_eq_true, Bool.not_true, Bool.not_false, Nat.add_zero, Nat.zero_add, Nat.reduceAdd]
                    refine wpPi_pick _ _ _ _ rfl rfl rfl ?_
                    simp only [pl, pn, el, ec, sz, ss, gz, gs, if_true, if_false, Bool.false_eq_true, Bool.not_true, Bool.not_false, Nat.add_zero, Nat.zero_add, Nat.reduceAdd]
                    refine wpPi_assign _ rfl rfl ?_
                    simp only [pl, pn, el, ec, sz, ss, gz, gs, if_true, if_false, Bool.false_eq_true, Bool.not_true, Bool.not_false, Nat.add_zero, Nat.zero_add, Nat.reduceAdd]
                    refine wpPi_nil ?_
                    go_wp2
                    go_ret
                    exact ⟨rfl, hMw⟩
        · have HRB := Lib.hid (decide_eq_false hrb)
          have hk0 : ks ≠ [] := fun h => hrb (HROOT.out.1 h)
          have HLB := Lib.hid (show decide (((ks.length : Nat) : Int) = 0) = false from decide_eq_false (fun h => hk0 (List.length_eq_zero_iff.1 (by omega))))
          clear hk0 hrb
          refine wp_region_seq [3, 3, 3, 3, 3, 3, 3, 3, 3, 1, 3, 3, 3, 3, 3, 3, 3, 3, 0, 0, 0, 3, 3, 3, 3, 3, 3, 0, 0, 0, 3, 3, 3, 3, 3, 3, 3, 3, 1, 3, 3] (fun w' => Mod NoB w10 w') (by rfl) (by rfl) hS10 ?_
          simp only [List.zip_cons_cons, List.zip_nil_right]
          refine wpPi_move _ rfl rfl ?_
          simp only [pl, pn, el, ec, sz, ss, gz, gs, if_true, if_false, Bool.false_eq_true, Bool.not_true, Bool.not_false, Nat.add_zero, Nat.zero_add, Nat.reduceAdd]
          refine wpPi_cmp _ _ _ _ _ _ _ _ rfl rfl rfl rfl rfl false rfl ?_
          simp only [pl, pn, el, ec, sz, ss, gz, gs, if_true, if_false, Bool.false_eq_true, Bool.not_true, Bool.not_false, Nat.add_zero, Nat.zero_add, Nat.reduceAdd]
          refine wpPi_move _ rfl rfl ?_
          simp only [pl, pn, el, ec, sz, ss, gz, gs, if_true, if_false, Bool.false_eq_true, Bool.not_true, Bool.not_false, Nat.add_zero, Nat.zero_add, Nat.reduceAdd]
          refine wpPi_move _ rfl rfl ?_
          simp only [pl, pn, el, ec, sz, ss, gz, gs, if_true, if_false, Bool.false_eq_true, Bool.not_true, Bool.not_false, Nat.add_zero, Nat.zero_add, Nat.reduceAdd]
          refine wpPi_cmp _ _ _ _ _ _ _ _ rfl rfl rfl rfl rfl false rfl ?_
          simp only [pl, pn, el, ec, sz, ss, gz, gs, if_true, if_false, Bool.false_eq_true, Bool.not_true, Bool.not_false, Nat.add_zero, Nat.zero_add, Nat.reduceAdd]
          refine wpPi_pick _ _ _ _ rfl rfl rfl ?_
          simp only [pl, pn, el, ec, sz, ss, gz, gs, if_true, if_false, Bool.false_eq_true, Bool.not_true, Bool.not_false, Nat.add_zero, Nat.zero_add, Nat.reduceAdd]
          refine wpPi_move _ rfl rfl ?_
          simp only [pl, pn, el, ec, sz, ss, gz, gs, if_true, if_false, Bool.false_eq_true, Bool.not_true, Bool.not_false, Nat.add_zero, Nat.zero_add, Nat.reduceAdd]
          refine wpPi_move _ rfl rfl ?_
          simp only [pl, pn, el, ec, sz, ss, gz, gs, if_true, if_false, Bool.false_eq_true, Bool.not_true, Bool.not_false, Nat.add_zero, Nat.zero_add, Nat.reduceAdd]
          refine wpPi_move _ rfl rfl ?_
          simp only [pl, pn, el, ec, sz, ss, gz, gs, if_true, if_false, Bool.false_eq_true, Bool.not_true, Bool.not_false, Nat.add_zero, Nat.zero_add, Nat.reduceAdd]
          refine wpPi_do rfl (fun K hK => ?_)
          refine wp_enterQ (run_call 13 [.tmp 90, .tmp 91] _ rfl _ Try.func13 rfl (by kernel_rfl) [.slice ad6 ks.length cap6, .slice ad9 ks.length cap9] rfl _) (sameTexts_any (HK6.out.keep0 hS10) (HK9.out.keep0 hS10)) ?_
          rintro e wa ⟨rfl, hma⟩
          rw [decide_eq_true (show ks = ks from rfl)]
          have hSa := hS10.trans0 hma
          refine ⟨_, rfl, hK _ _ hSa ?_⟩
          clear hK K
          try simp only [pl, pn, el, ec, sz, ss, gz, gs, if_true, if_false, Bool.false_eq_true, Bool.not_true, Bool.not_false, Nat.add_zero, Nat.zero_add, Nat.reduceAdd]
          refine wpPi_not _ _ _ rfl rfl rfl ?_
          simp only [pl, pn, el, ec, sz, ss, gz, gs, if_true, if_false, Bool.false_eq_true, Bool.not_true, Bool.not_false, Nat.add_zero, Nat.zero_add, Nat.reduceAdd]
          refine wpPi_pick _ _ _ _ rfl rfl rfl ?_
          simp only [pl, pn, el, ec, sz, ss, gz, gs, if_true, if_false, Bool.false_eq_true, Bool.not_true, Bool.not_false, Nat.add_zero, Nat.zero_add, Nat.reduceAdd]
          refine wpPi_move _ rfl rfl ?_
          simp only [pl, pn, el, ec, sz, ss, gz, gs, if_true, if_false, Bool.false_eq_true, Bool.not_true, Bool.not_false, Nat.add_zero, Nat.zero_add, Nat.reduceAdd]
          refine wpPi_move _ rfl rfl ?_
          simp only [pl, pn, el, ec, sz, ss, gz, gs, if_true, if_false, Bool.false_eq_true, Bool.not_true, Bool.not_false, Nat.add_zero, Nat.zero_add, Nat.reduceAdd]
          refine wpPi_move _ rfl rfl ?_
          simp only [pl, pn, el, ec, sz, ss, gz, gs, if_true, if_false, Bool.false_eq_true, Bool.not_true, Bool.not_false, Nat.add_zero, Nat.zero_add, Nat.reduceAdd]
          refine wpPi_cmp _ _ _ _ _ _ _ _ rfl rfl rfl rfl rfl false (decide_eq_false (fun h => h rfl)) ?_
          simp only [pl, pn, el, ec, sz, ss, gz, gs, if_true, if_false, Bool.false_eq_true, Bool.not_true, Bool.not_false, Nat.add_zero, Nat.zero_add, Nat.reduceAdd]
          refine wpPi_pick _ _ _ _ rfl rfl rfl ?_
          simp only [pl, pn, el, ec, sz, ss, gz, gs, if_true, if_false, Bool.false_eq_true, Bool.not_true, Bool.not_false, Nat.add_zero, Nat.zero_add, Nat.reduceAdd]
          refine wpPi_move _ rfl rfl ?_
          simp only [pl, pn, el, ec, sz, ss, gz, gs, if_true, if_false, Bool.false_eq_true, Bool.not_true, Bool.not_false, Nat.add_zero, Nat.zero_add, Nat.reduceAdd]
          refine wpPi_val rfl (fun w' hS => exec_loadA 38 _ (by rfl) b12 0 (by rfl) (idCells (rootE a)) ((CellsAt.whole hB12).keep hS id) _ Try.underlying38 rfl 32 (by kernel_rfl) hRa) ?_
          simp only [pl, pn, el, ec, sz, ss, gz, gs, if_true, if_false, Bool.false_eq_true, Bool.not_true, Bool.not_false, Nat.add_zero, Nat.zero_add, Nat.reduceAdd]
          refine wpPi_val rfl (fun w' hS => exec_loadA 38 _ (by rfl) b14 0 (by rfl) (idCells (rootE b)) ((CellsAt.whole hB14).keep hS id) _ Try.underlying38 rfl 32 (by kernel_rfl) hRb) ?_
          simp only [pl, pn, el, ec, sz, ss, gz, gs, if_true, if_false, Bool.false_eq_true, Bool.not_true, Bool.not_false, Nat.add_zero, Nat.zero_add, Nat.reduceAdd]
          refine wpPi_val rfl (fun w' hS => exec_eql_id _ _ _ _ rfl _ _ rfl rfl 32 5 Try.underlying38 Try.underlying5 (by kernel_rfl) (by kernel_rfl) hRal.out hRbl.out false HRB.out) ?_
          simp only [pl, pn, el, ec, sz, ss, gz, gs, if_true, if_false, Bool.false_eq_true, Bool.not_true, Bool.not_false, Nat.add_zero, Nat.zero_add, Nat.reduceAdd]
          refine wpPi_move _ rfl rfl ?_
          simp only [pl, pn, el, ec, sz, ss, gz, gs, if_true, if_false, Bool.false_eq_true, Bool.not_true, Bool.not_false, Nat.add_zero, Nat.zero_add, Nat.reduceAdd]
          refine wpPi_len _ _ _ _ _ rfl rfl rfl (by kernel_rfl) ?_
          simp only [pl, pn, el, ec, sz, ss, gz, gs, if_true, if_false, Bool.false_eq_true, Bool.not_true, Bool.not_false, Nat.add_zero, Nat.zero_add, Nat.reduceAdd]
          refine wpPi_cmp _ _ _ _ _ _ _ _ rfl rfl rfl rfl rfl false HLB.out ?_
          simp only [pl, pn, el, ec, sz, ss, gz, gs, if_true, if_false, Bool.false_eq_true, Bool.not_true, Bool.not_false, Nat.add_zero, Nat.zero_add, Nat.reduceAdd]
          refine wpPi_any rfl (fun w' => exec_neq_bool _ _ _ false rfl rfl rfl) ?_
          simp only [pl, pn, el, ec, sz, ss, gz, gs, if_true, if_false, Bool.false_eq_true, Bool.not_true, Bool.not_false, Nat.add_zero, Nat.zero_add, Nat.reduceAdd]
          refine wpPi_pick _ _ _ _ rfl rfl rfl ?_
          simp only [pl, pn, el, ec, sz, ss, gz, gs, if_true, if_false, Bool.false_eq_true, Bool.not_true, Bool.not_false, Nat.add_zero, Nat.zero_add, Nat.reduceAdd]
          refine wpPi_move _ rfl rfl ?_
          simp only [pl, pn, el, ec, sz, ss, gz, gs, if_true, if_false, Bool.false_eq_true, Bool.not_true, Bool.not_false, Nat.add_zero, Nat.zero_add, Nat.reduceAdd]
          refine wpPi_val rfl (fun w' hS => exec_loadA 38 _ (by rfl) b12 0 (by rfl) (idCells (rootE a)) ((CellsAt.whole hB12).keep hS id) _ Try.underlying38 rfl 32 (by kernel_rfl) hRa) ?_
          simp only [pl, pn, el, ec, sz, ss, gz, gs, if_true, if_false, Bool.false_eq_true, Bool.not_true, Bool.not_false, Nat.add_zero, Nat.zero_add, Nat.reduceAdd]
          refine wpPi_val rfl (fun w' hS => exec_loadA 38 _ (by rfl) b14 0 (by rfl) (idCells (rootE b)) ((CellsAt.whole hB14).keep hS id) _ Try.underlying38 rfl 32 (by kernel_rfl) hRb) ?_
          simp only [pl, pn, el, ec, sz, ss, gz, gs, if_true, if_false, Bool.false_eq_true, Bool.not_true, Bool.not_false, Nat.add_zero, Nat.zero_add, Nat.reduceAdd]
          refine wpPi_val rfl (fun w' hS => exec_eql_id _ _ _ _ rfl _ _ rfl rfl 32 5 Try.underlying38 Try.underlying5 (by kernel_rfl) (by kernel_rfl) hRal.out hRbl.out false HRB.out) ?_
          simp only [pl, pn, el, ec, sz, ss, gz, gs, if_true, if_false, Bool.false_eq_true, Bool.not_true, Bool.not_false, Nat.add_zero, Nat.zero_add, Nat.reduceAdd]
          refine wpPi_move _ rfl rfl ?_
          simp only [pl, pn, el, ec, sz, ss, gz, gs, if_true, if_false, Bool.false_eq_true, Bool.not_true, Bool.not_false, Nat.add_zero, Nat.zero_add, Nat.reduceAdd]
          refine wpPi_skip rfl ?_
          simp only [pl, pn, el, ec, sz, ss, gz, gs, if_true, if_false, Bool.false_eq_true, Bool.not_true, Bool.not_false, Nat.add_zero, Nat.zero_add, Nat.reduceAdd]
          refine wpPi_skip rfl ?_
          simp only [pl, pn, el, ec, sz, ss, gz, gs, if_true, if_false, Bool.false_eq_true, Bool.not_true, Bool.not_false, Nat.add_zero, Nat.zero_add, Nat.reduceAdd]
          refine wpPi_pick _ _ _ _ rfl rfl rfl ?_
          simp only [pl, pn, el, ec, sz, ss, gz, gs, if_true, if_false, Bool.false_eq_true, Bool.not_true, Bool.not_false, Nat.add_zero, Nat.zero_add, Nat.reduceAdd]
          refine wpPi_pick _ _ _ _ rfl rfl rfl ?_
          simp only [pl, pn, el, ec, sz, ss, gz, gs, if_true, if_false, Bool.false_eq_true, Bool.not_true, Bool.not_false, Nat.add_zero, Nat.zero_add, Nat.reduceAdd]
          refine wpPi_move _ rfl rfl ?_
          simp only [pl, pn, el, ec, sz, ss, gz, gs, if_true, if_false, Bool.false_eq_true, Bool.not_true, Bool.not_false, Nat.add_zero, Nat.zero_add, Nat.reduceAdd]
          refine wpPi_move _ rfl rfl ?_
          simp only [pl, pn, el, ec, sz, ss, gz, gs, if_true, if_false, Bool.false_eq_true, Bool.not_true, Bool.not_false, Nat.add_zero, Nat.zero_add, Nat.reduceAdd]
          refine wpPi_move _ rfl rfl ?_
          simp only [pl, pn, el, ec, sz, ss, gz, gs, if_true, if_false, Bool.false_eq_true, Bool.not_true, Bool.not_false, Nat.add_zero, Nat.zero_add, Nat.reduceAdd]
          refine wpPi_do rfl (fun K hK => ?_)
          refine wp_enterQ (run_call 19 [.tmp 119, .tmp 120, .const (.int .i64 1), .const (.slice none 0 0)] _ rfl _ Try.func19 rfl (by kernel_rfl) [.slice aa a.length ca, .slice aa a.length ca, .int .i64 1, .slice none 0 0] rfl _) (differs_any (o2 := false) (G2 := Ever) (want := []) (HA.out.keep0 hSa) (HA.out.keep0 hSa) (Sl.nil _ _ _ _ _) hsa hsa hla hla 1) ?_
          rintro e w11 ⟨rfl, hm11⟩
          rw [HDS.out]
          have hS11 := hSa.trans0 hm11
          refine ⟨_, rfl, hK _ _ hS11 ?_⟩
          clear hK K
          try simp only [pl, pn, el, ec, sz, ss, gz, gs, if_true, if_false, Bool.false_eq_true, Bool.not_true, Bool.not_false, Nat.add_zero, Nat.zero_add, Nat.reduceAdd]
          refine wpPi_not _ _ _ rfl rfl rfl ?_
          simp only [pl, pn, el, ec, sz, ss, gz, gs, if_true, if_false, Bool.false_eq_true, Bool.not_true, Bool.not_false, Nat.add_zero, Nat.zero_add, Nat.reduceAdd]
          refine wpPi_pick _ _ _ _ rfl rfl rfl ?_
          simp only [pl, pn, el, ec, sz, ss, gz, gs, if_true, if_false, Bool.false_eq_true, Bool.not_true, Bool.not_false, Nat.add_zero, Nat.zero_add, Nat.reduceAdd]
          refine wpPi_nil ?_
          have hMW := hM10.trans0 hS11
          replace hB12 := hS11.obj id hB12
          replace hB14 := hS11.obj id hB14
          replace HA := Lib.hid (HA.out.keep0 hS11)
          replace HB := Lib.hid (HB.out.keep0 hS11)
          replace HK6 := Lib.hid (HK6.out.keep0 hS11)
          clear hS10 hSa hS11 hma hm11 hM10 HK9
          go_upto_region 12 with (fail)
          go_wp2
          go_loopw [16, 17] (TelRel1 a b w11) (fun _ i _ => a.length - (intOf i).toNat)
          case atStart =>
            exact ⟨0, decide (a.length = b.length), by omega, by rw [Bool.eq_iff_iff.2 (show ((a.length : Int) == (b.length : Int)) = true ↔ decide (a.length = b.length) = true by simp; omega)], rfl, Mod.refl _ _, fun h => ⟨of_decide_eq_true h, fun j _ h2 => by omega⟩⟩
          case round =>
            rename World => wr
            obtain ⟨k, bb, hk, rfl, rfl, hm, hall⟩ := hrel
            have HALL := Lib.hid hall
            clear hall
            by_cases hlt : k < a.length
            · have hz : (k : Int) < (a.length : Int) := by omega
              obtain ⟨_, _, hv, -, hat⟩ := Sl.at (HA.out.keep0 hm)
              cases hv
              obtain ⟨ba, offa, rfl, -, -, hc⟩ := hat k hlt
              obtain ⟨cs, hcs2, ⟨vv, rfl, hsl⟩, hc⟩ := hc k hlt
              have hc0 := hc.cell (j := 0) (v := .string a[k].1) rfl
              have hc1 := hc.cell (j := 1) (v := vv) rfl
              rw [Nat.add_zero] at hc0
              have HSL := Lib.hid hsl
              clear hat hc hsl
              have HX := Lib.hid (show a[k] = (a[k].1, a[k].2) from rfl)
              obtain ⟨ak, hak⟩ : ∃ x, a[k] = x := ⟨_, rfl⟩
              rw [hak] at hc0 HSL HX
              have HAK := Lib.hid hak
              clear hak
              go_upto_region 16 with (fail)
              refine wp_region_seq [3, 3, 3, 3, 3, 1, 1, 3, 3, 3, 3, 3] (fun _ => True) (by rfl) (by rfl) trivial ?_
              simp only [List.zip_cons_cons, List.zip_nil_right]
              refine wpPi_move _ rfl rfl ?_
              simp only [pl, pn, el, ec, sz, ss, gz, gs, if_true, if_false, Bool.false_eq_true, Bool.not_true, Bool.not_false, Nat.add_zero, Nat.zero_add, Nat.reduceAdd]
              refine wpPi_move _ rfl rfl ?_
              simp only [pl, pn, el, ec, sz, ss, gz, gs, if_true, if_false, Bool.false_eq_true, Bool.not_true, Bool.not_false, Nat.add_zero, Nat.zero_add, Nat.reduceAdd]
              refine wpPi_move _ rfl rfl ?_
              simp only [pl, pn, el, ec, sz, ss, gz, gs, if_true, if_false, Bool.false_eq_true, Bool.not_true, Bool.not_false, Nat.add_zero, Nat.zero_add, Nat.reduceAdd]
              refine wpPi_index _ _ _ _ _ _ _ _ _ rfl rfl rfl rfl Try.underlying22 (n := 2) (by kernel_rfl) hlt ?_
              simp only [pl, pn, el, ec, sz, ss, gz, gs, if_true, if_false, Bool.false_eq_true, Bool.not_true, Bool.not_false, Nat.add_zero, Nat.zero_add, Nat.reduceAdd]
              refine wpPi_field _ _ _ _ _ _ rfl rfl rfl fo_35_0 ?_
              simp only [pl, pn, el, ec, sz, ss, gz, gs, if_true, if_false, Bool.false_eq_true, Bool.not_true, Bool.not_false, Nat.add_zero, Nat.zero_add, Nat.reduceAdd]
              refine wpPi_do rfl (fun K hK => ?_)
              refine wp_exec (exec_load1 9 _ (by rfl) ba (offa + k * 2) (by rfl) _ hc0 _ Try.underlying9 rfl) ?_
              refine hK _ _ trivial ?_
              clear hK K
              try simp only [pl, pn, el, ec, sz, ss, gz, gs, if_true, if_false, Bool.false_eq_true, Bool.not_true, Bool.not_false, Nat.add_zero, Nat.zero_add, Nat.reduceAdd]
              refine wpPi_do rfl (fun K hK => ?_)
              refine wp_enterQ (run_call 25 [.tmp 136, .tmp 141] _ rfl _ Try.func25 rfl (by kernel_rfl) [.slice ab b.length cb, .string ak.1] rfl _) (lawValue_any (HB.out.keep0 hm) ak.1) ?_
              rintro e w12 ⟨v12, vs12, is12, rfl, hs12, hv12, hm12⟩
              refine ⟨_, rfl, hK _ _ trivial ?_⟩
              clear hK K
              try simp only [pl, pn, el, ec, sz, ss, gz, gs, if_true, if_false, Bool.false_eq_true, Bool.not_true, Bool.not_false, Nat.add_zero, Nat.zero_add, Nat.reduceAdd]
              refine wpPi_move _ rfl rfl ?_
              simp only [pl, pn, el, ec, sz, ss, gz, gs, if_true, if_false, Bool.false_eq_true, Bool.not_true, Bool.not_false, Nat.add_zero, Nat.zero_add, Nat.reduceAdd]
              refine wpPi_any (v := ?_) rfl (fun w' => ?_) ?_; rotate_left; · (go_simp; try with_reducible rfl)
              simp only [pl, pn, el, ec, sz, ss, gz, gs, if_true, if_false, Bool.false_eq_true, Bool.not_true, Bool.not_false, Nat.add_zero, Nat.zero_add, Nat.reduceAdd]
              refine wpPi_any (v := ?_) rfl (fun w' => ?_) ?_; rotate_left; · (go_simp; try with_reducible rfl)
              simp only [pl, pn, el, ec, sz, ss, gz, gs, if_true, if_false, Bool.false_eq_true, Bool.not_true, Bool.not_false, Nat.add_zero, Nat.zero_add, Nat.reduceAdd]
              refine wpPi_assign _ rfl rfl ?_
              simp only [pl, pn, el, ec, sz, ss, gz, gs, if_true, if_false, Bool.false_eq_true, Bool.not_true, Bool.not_false, Nat.add_zero, Nat.zero_add, Nat.reduceAdd]
              refine wpPi_assign _ rfl rfl ?_
              simp only [pl, pn, el, ec, sz, ss, gz, gs, if_true, if_false, Bool.false_eq_true, Bool.not_true, Bool.not_false, Nat.add_zero, Nat.zero_add, Nat.reduceAdd]
              refine wpPi_nil ?_
              have hM12 := hm.trans0 hm12
              have hc1' := CellsAt.one.1 ((CellsAt.one.2 hc1).keep hm12 id)
              have HSL' := Lib.hid (HSL.out.keep0 hm12)
              have HVV := Lib.hid hv12
              have HS12 := Lib.hid hs12
              obtain ⟨av12, cv12, rfl, -, -⟩ := Sl.at hs12
              obtain ⟨avv, cvv, rfl, -, -⟩ := Sl.at HSL.out
              clear hc0 hc1 HSL hv12 hs12 hm12
              go_upto_region 17 with (fail)
              by_cases hbb : bb = true
              · subst hbb
                cases is12
                · skip
                  refine wp_region_seq [3, 3, 3, 3, 3, 3, 3, 3, 3, 3, 0, 1, 3, 3] (fun _ => True) (by rfl) (by rfl) trivial ?_
                  simp only [List.zip_cons_cons, List.zip_nil_right]
                  refine wpPi_move _ rfl rfl ?_
                  simp only [pl, pn, el, ec, sz, ss, gz, gs, if_true, if_false, Bool.false_eq_true, Bool.not_true, Bool.not_false, Nat.add_zero, Nat.zero_add, Nat.reduceAdd]
                  refine wpPi_move _ rfl rfl ?_
                  simp only [pl, pn, el, ec, sz, ss, gz, gs, if_true, if_false, Bool.false_eq_true, Bool.not_true, Bool.not_false, Nat.add_zero, Nat.zero_add, Nat.reduceAdd]
                  refine wpPi_move _ rfl rfl ?_
                  simp only [pl, pn, el, ec, sz, ss, gz, gs, if_true, if_false, Bool.false_eq_true, Bool.not_true, Bool.not_false, Nat.add_zero, Nat.zero_add, Nat.reduceAdd]
                  refine wpPi_pick _ _ _ _ rfl rfl rfl ?_
                  simp only [pl, pn, el, ec, sz, ss, gz, gs, if_true, if_false, Bool.false_eq_true, Bool.not_true, Bool.not_false, Nat.add_zero, Nat.zero_add, Nat.reduceAdd]
                  refine wpPi_move _ rfl rfl ?_
                  simp only [pl, pn, el, ec, sz, ss, gz, gs, if_true, if_false, Bool.false_eq_true, Bool.not_true, Bool.not_false, Nat.add_zero, Nat.zero_add, Nat.reduceAdd]
                  refine wpPi_skip rfl ?_
                  simp only [pl, pn, el, ec, sz, ss, gz, gs, if_true, if_false, Bool.false_eq_true, Bool.not_true, Bool.not_false, Nat.add_zero, Nat.zero_add, Nat.reduceAdd]
                  refine wpPi_skip rfl ?_
                  simp only [pl, pn, el, ec, sz, ss, gz, gs, if_true, if_false, Bool.false_eq_true, Bool.not_true, Bool.not_false, Nat.add_zero, Nat.zero_add, Nat.reduceAdd]
                  refine wpPi_skip rfl ?_
                  simp only [pl, pn, el, ec, sz, ss, gz, gs, if_true, if_false, Bool.false_eq_true, Bool.not_true, Bool.not_false, Nat.add_zero, Nat.zero_add, Nat.reduceAdd]
                  refine wpPi_skip rfl ?_
                  simp only [pl, pn, el, ec, sz, ss, gz, gs, if_true, if_false, Bool.false_eq_true, Bool.not_true, Bool.not_false, Nat.add_zero, Nat.zero_add, Nat.reduceAdd]
                  refine wpPi_skip rfl ?_
                  simp only [pl, pn, el, ec, sz, ss, gz, gs, if_true, if_false, Bool.false_eq_true, Bool.not_true, Bool.not_false, Nat.add_zero, Nat.zero_add, Nat.reduceAdd]
                  refine wpPi_skip0 rfl ?_
                  simp only [pl, pn, el, ec, sz, ss, gz, gs, if_true, if_false, Bool.false_eq_true, Bool.not_true, Bool.not_false, Nat.add_zero, Nat.zero_add, Nat.reduceAdd]
                  refine wpPi_do_skip rfl trivial ?_
                  simp only [pl, pn, el, ec, sz, ss, gz, gs, if_true, if_false, Bool.false_eq_true, Bool.not_true, Bool.not_false, Nat.add_zero, Nat.zero_add, Nat.reduceAdd]
                  refine wpPi_pick _ _ _ _ rfl rfl rfl ?_
                  simp only [pl, pn, el, ec, sz, ss, gz, gs, if_true, if_false, Bool.false_eq_true, Bool.not_true, Bool.not_false, Nat.add_zero, Nat.zero_add, Nat.reduceAdd]
                  refine wpPi_assign _ rfl rfl ?_
                  simp only [pl, pn, el, ec, sz, ss, gz, gs, if_true, if_false, Bool.false_eq_true, Bool.not_true, Bool.not_false, Nat.add_zero, Nat.zero_add, Nat.reduceAdd]
                  refine wpPi_nil ?_
                  go_wp2
                  go_roundw
                  case rel => exact ⟨k + 1, false, by omega, rfl, by go_num, hM12, fun h => by cases h⟩
                  case measure => simp [intOf]; omega
                · skip
                  refine wp_region_seq [3, 3, 3, 3, 3, 3, 3, 3, 3, 3, 1, 1, 3, 3] (fun _ => True) (by rfl) (by rfl) trivial ?_
                  simp only [List.zip_cons_cons, List.zip_nil_right]
                  refine wpPi_move _ rfl rfl ?_
                  simp only [pl, pn, el, ec, sz, ss, gz, gs, if_true, if_false, Bool.false_eq_true, Bool.not_true, Bool.not_false, Nat.add_zero, Nat.zero_add, Nat.reduceAdd]
                  refine wpPi_move _ rfl rfl ?_
                  simp only [pl, pn, el, ec, sz, ss, gz, gs, if_true, if_false, Bool.false_eq_true, Bool.not_true, Bool.not_false, Nat.add_zero, Nat.zero_add, Nat.reduceAdd]
                  refine wpPi_move _ rfl rfl ?_
                  simp only [pl, pn, el, ec, sz, ss, gz, gs, if_true, if_false, Bool.false_eq_true, Bool.not_true, Bool.not_false, Nat.add_zero, Nat.zero_add, Nat.reduceAdd]
                  refine wpPi_pick _ _ _ _ rfl rfl rfl ?_
                  simp only [pl, pn, el, ec, sz, ss, gz, gs, if_true, if_false, Bool.false_eq_true, Bool.not_true, Bool.not_false, Nat.add_zero, Nat.zero_add, Nat.reduceAdd]
                  refine wpPi_move _ rfl rfl ?_
                  simp only [pl, pn, el, ec, sz, ss, gz, gs, if_true, if_false, Bool.false_eq_true, Bool.not_true, Bool.not_false, Nat.add_zero, Nat.zero_add, Nat.reduceAdd]
                  refine wpPi_move _ rfl rfl ?_
                  simp only [pl, pn, el, ec, sz, ss, gz, gs, if_true, if_false, Bool.false_eq_true, Bool.not_true, Bool.not_false, Nat.add_zero, Nat.zero_add, Nat.reduceAdd]
                  refine wpPi_move _ rfl rfl ?_
                  simp only [pl, pn, el, ec, sz, ss, gz, gs, if_true, if_false, Bool.false_eq_true, Bool.not_true, Bool.not_false, Nat.add_zero, Nat.zero_add, Nat.reduceAdd]
                  refine wpPi_move _ rfl rfl ?_
                  simp only [pl, pn, el, ec, sz, ss, gz, gs, if_true, if_false, Bool.false_eq_true, Bool.not_true, Bool.not_false, Nat.add_zero, Nat.zero_add, Nat.reduceAdd]
                  refine wpPi_index _ _ _ _ _ _ _ _ _ rfl rfl rfl rfl Try.underlying22 (n := 2) (by kernel_rfl) hlt ?_
                  simp only [pl, pn, el, ec, sz, ss, gz, gs, if_true, if_false, Bool.false_eq_true, Bool.not_true, Bool.not_false, Nat.add_zero, Nat.zero_add, Nat.reduceAdd]
                  refine wpPi_field _ _ _ _ _ _ rfl rfl rfl fo_35_1 ?_
                  simp only [pl, pn, el, ec, sz, ss, gz, gs, if_true, if_false, Bool.false_eq_true, Bool.not_true, Bool.not_false, Nat.add_zero, Nat.zero_add, Nat.reduceAdd]
                  refine wpPi_do rfl (fun K hK => ?_)
                  refine wp_exec (exec_load1 33 _ (by rfl) ba (offa + k * 2 + 1) (by rfl) _ hc1' _ Try.underlying33 rfl) ?_
                  refine hK _ _ trivial ?_
                  clear hK K
                  try simp only [pl, pn, el, ec, sz, ss, gz, gs, if_true, if_false, Bool.false_eq_true, Bool.not_true, Bool.not_false, Nat.add_zero, Nat.zero_add, Nat.reduceAdd]
                  refine wpPi_do rfl (fun K hK => ?_)
                  refine wp_enterQ (run_call 26 [.tmp 150, .tmp 155] _ rfl _ Try.func26 rfl (by kernel_rfl) [.slice av12 vs12.length cv12, .slice avv ak.2.length cvv] rfl _) (sameBytes_any HS12.out HSL'.out) ?_
                  rintro e w13 ⟨rfl, hm13⟩
                  refine ⟨_, rfl, hK _ _ trivial ?_⟩
                  clear hK K
                  try simp only [pl, pn, el, ec, sz, ss, gz, gs, if_true, if_false, Bool.false_eq_true, Bool.not_true, Bool.not_false, Nat.add_zero, Nat.zero_add, Nat.reduceAdd]
                  refine wpPi_pick _ _ _ _ rfl rfl rfl ?_
                  simp only [pl, pn, el, ec, sz, ss, gz, gs, if_true, if_false, Bool.false_eq_true, Bool.not_true, Bool.not_false, Nat.add_zero, Nat.zero_add, Nat.reduceAdd]
                  refine wpPi_assign _ rfl rfl ?_
                  simp only [pl, pn, el, ec, sz, ss, gz, gs, if_true, if_false, Bool.false_eq_true, Bool.not_true, Bool.not_false, Nat.add_zero, Nat.zero_add, Nat.reduceAdd]
                  refine wpPi_nil ?_
                  go_wp2
                  go_roundw
                  case rel =>
                    exact ⟨k + 1, decide (vs12 = ak.2), by omega, rfl, by go_num, hM12.trans0 hm13, fun h => ⟨(HALL.out rfl).1, fun j hj h2 => by
                      rcases Nat.lt_or_ge j k with h5 | h5
                      · exact (HALL.out rfl).2 j hj h5
                      · obtain rfl : j = k := by omega
                        have h6 : vs12 = ak.2 := of_decide_eq_true h
                        have h7 := valE_mem (show valE b ak.1 = some vs12 from HVV.out)
                        rw [HAK.out, HX.out, ← h6]; exact h7⟩⟩
                  case measure => simp [intOf]; omega
              · obtain rfl : bb = false := by simpa using hbb
                clear hbb
                refine wp_region_seq [3, 3, 3, 3, 3, 3, 3, 3, 3, 3, 0, 1, 3, 3] (fun _ => True) (by rfl) (by rfl) trivial ?_
                simp only [List.zip_cons_cons, List.zip_nil_right]
                refine wpPi_move _ rfl rfl ?_
                simp only [pl, pn, el, ec, sz, ss, gz, gs, if_true, if_false, Bool.false_eq_true, Bool.not_true, Bool.not_false, Nat.add_zero, Nat.zero_add, Nat.reduceAdd]
                refine wpPi_move _ rfl rfl ?_
                simp only [pl, pn, el, ec, sz, ss, gz, gs, if_true, if_false, Bool.false_eq_true, Bool.not_true, Bool.not_false, Nat.add_zero, Nat.zero_add, Nat.reduceAdd]
                refine wpPi_skip rfl ?_
                simp only [pl, pn, el, ec, sz, ss, gz, gs, if_true, if_false, Bool.false_eq_true, Bool.not_true, Bool.not_false, Nat.add_zero, Nat.zero_add, Nat.reduceAdd]
                refine wpPi_pick _ _ _ _ rfl rfl rfl ?_
                simp only [pl, pn, el, ec, sz, ss, gz, gs, if_true, if_false, Bool.false_eq_true, Bool.not_true, Bool.not_false, Nat.add_zero, Nat.zero_add, Nat.reduceAdd]
                refine wpPi_move _ rfl rfl ?_
                simp only [pl, pn, el, ec, sz, ss, gz, gs, if_true, if_false, Bool.false_eq_true, Bool.not_true, Bool.not_false, Nat.add_zero, Nat.zero_add, Nat.reduceAdd]
                refine wpPi_skip rfl ?_
                simp only [pl, pn, el, ec, sz, ss, gz, gs, if_true, if_false, Bool.false_eq_true, Bool.not_true, Bool.not_false, Nat.add_zero, Nat.zero_add, Nat.reduceAdd]
                refine wpPi_skip rfl ?_
                simp only [pl, pn, el, ec, sz, ss, gz, gs, if_true, if_false, Bool.false_eq_true, Bool.not_true, Bool.not_false, Nat.add_zero, Nat.zero_add, Nat.reduceAdd]
                refine wpPi_skip rfl ?_
                simp only [pl, pn, el, ec, sz, ss, gz, gs, if_true, if_false, Bool.false_eq_true, Bool.not_true, Bool.not_false, Nat.add_zero, Nat.zero_add, Nat.reduceAdd]
                refine wpPi_skip rfl ?_
                simp only [pl, pn, el, ec, sz, ss, gz, gs, if_true, if_false, Bool.false_eq_true, Bool.not_true, Bool.not_false, Nat.add_zero, Nat.zero_add, Nat.reduceAdd]
                refine wpPi_skip rfl ?_
                simp only [pl, pn, el, ec, sz, ss, gz, gs, if_true, if_false, Bool.false_eq_true, Bool.not_true, Bool.not_false, Nat.add_zero, Nat.zero_add, Nat.reduceAdd]
                refine wpPi_skip0 rfl ?_
                simp only [pl, pn, el, ec, sz, ss, gz, gs, if_true, if_false, Bool.false_eq_true, Bool.not_true, Bool.not_false, Nat.add_zero, Nat.zero_add, Nat.reduceAdd]
                refine wpPi_do_skip rfl trivial ?_
                simp only [pl, pn, el, ec, sz, ss, gz, gs, if_true, if_false, Bool.false_eq_true, Bool.not_true, Bool.not_false, Nat.add_zero, Nat.zero_add, Nat.reduceAdd]
                refine wpPi_pick _ _ _ _ rfl rfl rfl ?_
                simp only [pl, pn, el, ec, sz, ss, gz, gs, if_true, if_false, Bool.false_eq_true, Bool.not_true, Bool.not_false, Nat.add_zero, Nat.zero_add, Nat.reduceAdd]
                refine wpPi_assign _ rfl rfl ?_
                simp only [pl, pn, el, ec, sz, ss, gz, gs, if_true, if_false, Bool.false_eq_true, Bool.not_true, Bool.not_false, Nat.add_zero, Nat.zero_add, Nat.reduceAdd]
                refine wpPi_nil ?_
                go_wp2
                go_roundw
                case rel => exact ⟨k + 1, false, by omega, rfl, by go_num, hM12, fun h => by cases h⟩
                case measure => simp [intOf]; omega
            · have hz : ¬ (k : Int) < (a.length : Int) := by omega
              obtain rfl : k = a.length := by omega
              have HAL := Lib.hid (show bb = true → a.length = b.length ∧ ∀ x ∈ a, x ∈ b from fun h => ⟨(HALL.out h).1, fun x hx => by
                obtain ⟨j, hj, rfl⟩ := List.getElem_of_mem hx
                exact (HALL.out h).2 j hj hj⟩)
              clear HALL hlt hk
              go_wp2
              go_loopw [20] (TelRel2 ks wr) (fun i _ => ks.length - (intOf i).toNat)
              case atStart => exact ⟨0, by omega, rfl, Mod.refl _ _⟩
              case round =>
                rename World => wq
                obtain ⟨k, hk, rfl, hm'⟩ := hrel
                have hM := hm.trans0 hm'
                by_cases hlt : k < ks.length
                · have hz2 : (k : Int) < (ks.length : Int) := by omega
                  obtain ⟨_, _, hv, -, hat⟩ := Sl.at (Sl.keep0 HK6.out hM)
                  cases hv
                  obtain ⟨bk, offk, rfl, -, -, hc⟩ := hat k hlt
                  obtain ⟨_, -, rfl, hc⟩ := hc k hlt
                  have hc0 := CellsAt.one.1 hc
                  have HT := Lib.hid (HTOLD.out ks[k] (List.getElem_mem hlt))
                  obtain ⟨key, hkey⟩ : ∃ x, ks[k] = x := ⟨_, rfl⟩
                  rw [hkey] at hc0 HT
                  clear hat hc hkey
                  go_upto_region 21 with (fail)
                  refine wp_region_seq [3, 3, 3, 3, 1, 1, 3, 3, 3, 3, 3] (fun _ => True) (by rfl) (by rfl) trivial ?_
                  simp only [List.zip_cons_cons, List.zip_nil_right]
                  refine wpPi_move _ rfl rfl ?_
                  simp only [pl, pn, el, ec, sz, ss, gz, gs, if_true, if_false, Bool.false_eq_true, Bool.not_true, Bool.not_false, Nat.add_zero, Nat.zero_add, Nat.reduceAdd]
                  refine wpPi_move _ rfl rfl ?_
                  simp only [pl, pn, el, ec, sz, ss, gz, gs, if_true, if_false, Bool.false_eq_true, Bool.not_true, Bool.not_false, Nat.add_zero, Nat.zero_add, Nat.reduceAdd]
                  refine wpPi_move _ rfl rfl ?_
                  simp only [pl, pn, el, ec, sz, ss, gz, gs, if_true, if_false, Bool.false_eq_true, Bool.not_true, Bool.not_false, Nat.add_zero, Nat.zero_add, Nat.reduceAdd]
                  refine wpPi_index _ _ _ _ _ _ _ _ _ rfl rfl rfl rfl Try.underlying26 (n := 1) (by kernel_rfl) hlt ?_
                  simp only [pl, pn, el, ec, sz, ss, gz, gs, if_true, if_false, Bool.false_eq_true, Bool.not_true, Bool.not_false, Nat.add_zero, Nat.zero_add, Nat.reduceAdd]
                  refine wpPi_do rfl (fun K hK => ?_)
                  refine wp_exec (exec_load1 9 _ (by rfl) bk (offk + k * 1) (by rfl) _ hc0 _ Try.underlying9 rfl) ?_
                  refine hK _ _ trivial ?_
                  clear hK K
                  try simp only [pl, pn, el, ec, sz, ss, gz, gs, if_true, if_false, Bool.false_eq_true, Bool.not_true, Bool.not_false, Nat.add_zero, Nat.zero_add, Nat.reduceAdd]
                  refine wpPi_do rfl (fun K hK => ?_)
                  refine wp_enterQ (run_call 25 [.tmp 165, .tmp 169] _ rfl _ Try.func25 rfl (by kernel_rfl) [.slice aa a.length ca, .string key] rfl _) (lawValue_any (HA.out.keep0 hM) key) ?_
                  rintro e w12 ⟨v12, vs12, is12, rfl, hs12, hv12, hm12⟩
                  refine ⟨_, rfl, hK _ _ trivial ?_⟩
                  clear hK K
                  try simp only [pl, pn, el, ec, sz, ss, gz, gs, if_true, if_false, Bool.false_eq_true, Bool.not_true, Bool.not_false, Nat.add_zero, Nat.zero_add, Nat.reduceAdd]
                  refine wpPi_move _ rfl rfl ?_
                  simp only [pl, pn, el, ec, sz, ss, gz, gs, if_true, if_false, Bool.false_eq_true, Bool.not_true, Bool.not_false, Nat.add_zero, Nat.zero_add, Nat.reduceAdd]
                  refine wpPi_any (v := ?_) rfl (fun w' => ?_) ?_; rotate_left; · (go_simp; try with_reducible rfl)
                  simp only [pl, pn, el, ec, sz, ss, gz, gs, if_true, if_false, Bool.false_eq_true, Bool.not_true, Bool.not_false, Nat.add_zero, Nat.zero_add, Nat.reduceAdd]
                  refine wpPi_any (v := ?_) rfl (fun w' => ?_) ?_; rotate_left; · (go_simp; try with_reducible rfl)
                  simp only [pl, pn, el, ec, sz, ss, gz, gs, if_true, if_false, Bool.false_eq_true, Bool.not_true, Bool.not_false, Nat.add_zero, Nat.zero_add, Nat.reduceAdd]
                  refine wpPi_assign _ rfl rfl ?_
                  simp only [pl, pn, el, ec, sz, ss, gz, gs, if_true, if_false, Bool.false_eq_true, Bool.not_true, Bool.not_false, Nat.add_zero, Nat.zero_add, Nat.reduceAdd]
                  refine wpPi_assign _ rfl rfl ?_
                  simp only [pl, pn, el, ec, sz, ss, gz, gs, if_true, if_false, Bool.false_eq_true, Bool.not_true, Bool.not_false, Nat.add_zero, Nat.zero_add, Nat.reduceAdd]
                  refine wpPi_nil ?_
                  have hM12 := hM.trans0 hm12
                  have hm2' := hm'.trans0 hm12
                  replace hc0 := CellsAt.one.1 ((CellsAt.one.2 hc0).keep hm12 id)
                  have HV12 := Lib.hid hv12
                  have HS12 := Lib.hid hs12
                  obtain ⟨av12, cv12, rfl, -, -⟩ := Sl.at hs12
                  clear hv12 hs12 hm12 hm' hM
                  go_upto_region 22 with (fail)
                  refine wp_region_seq [3, 3, 3, 3, 1, 1, 3, 3, 3, 3, 3] (fun _ => True) (by rfl) (by rfl) trivial ?_
                  simp only [List.zip_cons_cons, List.zip_nil_right]
                  refine wpPi_move _ rfl rfl ?_
                  simp only [pl, pn, el, ec, sz, ss, gz, gs, if_true, if_false, Bool.false_eq_true, Bool.not_true, Bool.not_false, Nat.add_zero, Nat.zero_add, Nat.reduceAdd]
                  refine wpPi_move _ rfl rfl ?_
                  simp only [pl, pn, el, ec, sz, ss, gz, gs, if_true, if_false, Bool.false_eq_true, Bool.not_true, Bool.not_false, Nat.add_zero, Nat.zero_add, Nat.reduceAdd]
                  refine wpPi_move _ rfl rfl ?_
                  simp only [pl, pn, el, ec, sz, ss, gz, gs, if_true, if_false, Bool.false_eq_true, Bool.not_true, Bool.not_false, Nat.add_zero, Nat.zero_add, Nat.reduceAdd]
                  refine wpPi_index _ _ _ _ _ _ _ _ _ rfl rfl rfl rfl Try.underlying26 (n := 1) (by kernel_rfl) hlt ?_
                  simp only [pl, pn, el, ec, sz, ss, gz, gs, if_true, if_false, Bool.false_eq_true, Bool.not_true, Bool.not_false, Nat.add_zero, Nat.zero_add, Nat.reduceAdd]
                  refine wpPi_do rfl (fun K hK => ?_)
                  refine wp_exec (exec_load1 9 _ (by rfl) bk (offk + k * 1) (by rfl) _ hc0 _ Try.underlying9 rfl) ?_
                  refine hK _ _ trivial ?_
                  clear hK K
                  try simp only [pl, pn, el, ec, sz, ss, gz, gs, if_true, if_false, Bool.false_eq_true, Bool.not_true, Bool.not_false, Nat.add_zero, Nat.zero_add, Nat.reduceAdd]
                  refine wpPi_do rfl (fun K hK => ?_)
                  refine wp_enterQ (run_call 25 [.tmp 174, .tmp 178] _ rfl _ Try.func25 rfl (by kernel_rfl) [.slice ab b.length cb, .string key] rfl _) (lawValue_any (HB.out.keep0 hM12) key) ?_
                  rintro e w14 ⟨v14, vs14, is14, rfl, hs14, hv14, hm14⟩
                  refine ⟨_, rfl, hK _ _ trivial ?_⟩
                  clear hK K
                  try simp only [pl, pn, el, ec, sz, ss, gz, gs, if_true, if_false, Bool.false_eq_true, Bool.not_true, Bool.not_false, Nat.add_zero, Nat.zero_add, Nat.reduceAdd]
                  refine wpPi_move _ rfl rfl ?_
                  simp only [pl, pn, el, ec, sz, ss, gz, gs, if_true, if_false, Bool.false_eq_true, Bool.not_true, Bool.not_false, Nat.add_zero, Nat.zero_add, Nat.reduceAdd]
                  refine wpPi_any (v := ?_) rfl (fun w' => ?_) ?_; rotate_left; · (go_simp; try with_reducible rfl)
                  simp only [pl, pn, el, ec, sz, ss, gz, gs, if_true, if_false, Bool.false_eq_true, Bool.not_true, Bool.not_false, Nat.add_zero, Nat.zero_add, Nat.reduceAdd]
                  refine wpPi_any (v := ?_) rfl (fun w' => ?_) ?_; rotate_left; · (go_simp; try with_reducible rfl)
                  simp only [pl, pn, el, ec, sz, ss, gz, gs, if_true, if_false, Bool.false_eq_true, Bool.not_true, Bool.not_false, Nat.add_zero, Nat.zero_add, Nat.reduceAdd]
                  refine wpPi_assign _ rfl rfl ?_
                  simp only [pl, pn, el, ec, sz, ss, gz, gs, if_true, if_false, Bool.false_eq_true, Bool.not_true, Bool.not_false, Nat.add_zero, Nat.zero_add, Nat.reduceAdd]
                  refine wpPi_assign _ rfl rfl ?_
                  simp only [pl, pn, el, ec, sz, ss, gz, gs, if_true, if_false, Bool.false_eq_true, Bool.not_true, Bool.not_false, Nat.add_zero, Nat.zero_add, Nat.reduceAdd]
                  refine wpPi_nil ?_
                  have hM14 := hM12.trans0 hm14
                  have hm4' := hm2'.trans0 hm14
                  have HS12' := Lib.hid (HS12.out.keep0 hm14)
                  have HV14 := Lib.hid hv14
                  have HS14 := Lib.hid hs14
                  obtain ⟨av14, cv14, rfl, -, -⟩ := Sl.at hs14
                  clear hv14 hs14 hm14 HS12 hM12 hc0
                  go_upto_region 23 with (fail)
                  cases is12
                  · cases is14
                    · exact absurd HV14.out (HT.out.1 HV12.out)
                    · skip
                      refine wp_region_seq [3, 3, 3, 3, 3, 3, 3, 3, 3, 3, 3, 3, 3, 3, 1, 3, 3] (fun _ => True) (by rfl) (by rfl) trivial ?_
                      simp only [List.zip_cons_cons, List.zip_nil_right]
                      refine wpPi_move _ rfl rfl ?_
                      simp only [pl, pn, el, ec, sz, ss, gz, gs, if_true, if_false, Bool.false_eq_true, Bool.not_true, Bool.not_false, Nat.add_zero, Nat.zero_add, Nat.reduceAdd]
                      refine wpPi_not _ _ _ rfl rfl rfl ?_
                      simp only [pl, pn, el, ec, sz, ss, gz, gs, if_true, if_false, Bool.false_eq_true, Bool.not_true, Bool.not_false, Nat.add_zero, Nat.zero_add, Nat.reduceAdd]
                      refine wpPi_move _ rfl rfl ?_
                      simp only [pl, pn, el, ec, sz, ss, gz, gs, if_true, if_false, Bool.false_eq_true, Bool.not_true, Bool.not_false, Nat.add_zero, Nat.zero_add, Nat.reduceAdd]
                      refine wpPi_move _ rfl rfl ?_
                      simp only [pl, pn, el, ec, sz, ss, gz, gs, if_true, if_false, Bool.false_eq_true, Bool.not_true, Bool.not_false, Nat.add_zero, Nat.zero_add, Nat.reduceAdd]
                      refine wpPi_not _ _ _ rfl rfl rfl ?_
                      simp only [pl, pn, el, ec, sz, ss, gz, gs, if_true, if_false, Bool.false_eq_true, Bool.not_true, Bool.not_false, Nat.add_zero, Nat.zero_add, Nat.reduceAdd]
                      refine wpPi_pick _ _ _ _ rfl rfl rfl ?_
                      simp only [pl, pn, el, ec, sz, ss, gz, gs, if_true, if_false, Bool.false_eq_true, Bool.not_true, Bool.not_false, Nat.add_zero, Nat.zero_add, Nat.reduceAdd]
                      refine wpPi_move _ rfl rfl ?_
                      simp only [pl, pn, el, ec, sz, ss, gz, gs, if_true, if_false, Bool.false_eq_true, Bool.not_true, Bool.not_false, Nat.add_zero, Nat.zero_add, Nat.reduceAdd]
                      refine wpPi_move _ rfl rfl ?_
                      simp only [pl, pn, el, ec, sz, ss, gz, gs, if_true, if_false, Bool.false_eq_true, Bool.not_true, Bool.not_false, Nat.add_zero, Nat.zero_add, Nat.reduceAdd]
                      refine wpPi_move _ rfl rfl ?_
                      simp only [pl, pn, el, ec, sz, ss, gz, gs, if_true, if_false, Bool.false_eq_true, Bool.not_true, Bool.not_false, Nat.add_zero, Nat.zero_add, Nat.reduceAdd]
                      refine wpPi_skip rfl ?_
                      simp only [pl, pn, el, ec, sz, ss, gz, gs, if_true, if_false, Bool.false_eq_true, Bool.not_true, Bool.not_false, Nat.add_zero, Nat.zero_add, Nat.reduceAdd]
                      refine wpPi_pick _ _ _ _ rfl rfl rfl ?_
                      simp only [pl, pn, el, ec, sz, ss, gz, gs, if_true, if_false, Bool.false_eq_true, Bool.not_true, Bool.not_false, Nat.add_zero, Nat.zero_add, Nat.reduceAdd]
                      refine wpPi_move _ rfl rfl ?_
                      simp only [pl, pn, el, ec, sz, ss, gz, gs, if_true, if_false, Bool.false_eq_true, Bool.not_true, Bool.not_false, Nat.add_zero, Nat.zero_add, Nat.reduceAdd]
                      refine wpPi_skip rfl ?_
                      simp only [pl, pn, el, ec, sz, ss, gz, gs, if_true, if_false, Bool.false_eq_true, Bool.not_true, Bool.not_false, Nat.add_zero, Nat.zero_add, Nat.reduceAdd]
                      refine wpPi_skip rfl ?_
                      simp only [pl, pn, el, ec, sz, ss, gz, gs, if_true, if_false, Bool.false_eq_true, Bool.not_true, Bool.not_false, Nat.add_zero, Nat.zero_add, Nat.reduceAdd]
                      refine wpPi_do_skip rfl trivial ?_
                      simp only [pl, pn, el, ec, sz, ss, gz, gs, if_true, if_false, Bool.false_eq_true, Bool.not_true, Bool.not_false, Nat.add_zero, Nat.zero_add, Nat.reduceAdd]
                      refine wpPi_pick _ _ _ _ rfl rfl rfl ?_
                      simp only [pl, pn, el, ec, sz, ss, gz, gs, if_true, if_false, Bool.false_eq_true, Bool.not_true, Bool.not_false, Nat.add_zero, Nat.zero_add, Nat.reduceAdd]
                      refine wpPi_pick _ _ _ _ rfl rfl rfl ?_
                      simp only [pl, pn, el, ec, sz, ss, gz, gs, if_true, if_false, Bool.false_eq_true, Bool.not_true, Bool.not_false, Nat.add_zero, Nat.zero_add, Nat.reduceAdd]
                      refine wpPi_nil ?_
                      go_wp2
                      go_roundw
                      case rel => exact ⟨k + 1, by omega, by go_num, hm4'⟩
                      case measure => simp [intOf]; omega
                  · cases is14
                    · skip
                      refine wp_region_seq [3, 3, 3, 3, 3, 3, 3, 3, 3, 3, 3, 3, 3, 3, 1, 3, 3] (fun _ => True) (by rfl) (by rfl) trivial ?_
                      simp only [List.zip_cons_cons, List.zip_nil_right]
                      refine wpPi_move _ rfl rfl ?_
                      simp only [pl, pn, el, ec, sz, ss, gz, gs, if_true, if_false, Bool.false_eq_true, Bool.not_true, Bool.not_false, Nat.add_zero, Nat.zero_add, Nat.reduceAdd]
                      refine wpPi_not _ _ _ rfl rfl rfl ?_
                      simp only [pl, pn, el, ec, sz, ss, gz, gs, if_true, if_false, Bool.false_eq_true, Bool.not_true, Bool.not_false, Nat.add_zero, Nat.zero_add, Nat.reduceAdd]
                      refine wpPi_move _ rfl rfl ?_
                      simp only [pl, pn, el, ec, sz, ss, gz, gs, if_true, if_false, Bool.false_eq_true, Bool.not_true, Bool.not_false, Nat.add_zero, Nat.zero_add, Nat.reduceAdd]
                      refine wpPi_skip rfl ?_
                      simp only [pl, pn, el, ec, sz, ss, gz, gs, if_true, if_false, Bool.false_eq_true, Bool.not_true, Bool.not_false, Nat.add_zero, Nat.zero_add, Nat.reduceAdd]
                      refine wpPi_skip rfl ?_
                      simp only [pl, pn, el, ec, sz, ss, gz, gs, if_true, if_false, Bool.false_eq_true, Bool.not_true, Bool.not_false, Nat.add_zero, Nat.zero_add, Nat.reduceAdd]
                      refine wpPi_pick _ _ _ _ rfl rfl rfl ?_
                      simp only [pl, pn, el, ec, sz, ss, gz, gs, if_true, if_false, Bool.false_eq_true, Bool.not_true, Bool.not_false, Nat.add_zero, Nat.zero_add, Nat.reduceAdd]
                      refine wpPi_move _ rfl rfl ?_
                      simp only [pl, pn, el, ec, sz, ss, gz, gs, if_true, if_false, Bool.false_eq_true, Bool.not_true, Bool.not_false, Nat.add_zero, Nat.zero_add, Nat.reduceAdd]
                      refine wpPi_move _ rfl rfl ?_
                      simp only [pl, pn, el, ec, sz, ss, gz, gs, if_true, if_false, Bool.false_eq_true, Bool.not_true, Bool.not_false, Nat.add_zero, Nat.zero_add, Nat.reduceAdd]
                      refine wpPi_move _ rfl rfl ?_
                      simp only [pl, pn, el, ec, sz, ss, gz, gs, if_true, if_false, Bool.false_eq_true, Bool.not_true, Bool.not_false, Nat.add_zero, Nat.zero_add, Nat.reduceAdd]
                      refine wpPi_move _ rfl rfl ?_
                      simp only [pl, pn, el, ec, sz, ss, gz, gs, if_true, if_false, Bool.false_eq_true, Bool.not_true, Bool.not_false, Nat.add_zero, Nat.zero_add, Nat.reduceAdd]
                      refine wpPi_pick _ _ _ _ rfl rfl rfl ?_
                      simp only [pl, pn, el, ec, sz, ss, gz, gs, if_true, if_false, Bool.false_eq_true, Bool.not_true, Bool.not_false, Nat.add_zero, Nat.zero_add, Nat.reduceAdd]
                      refine wpPi_move _ rfl rfl ?_
                      simp only [pl, pn, el, ec, sz, ss, gz, gs, if_true, if_false, Bool.false_eq_true, Bool.not_true, Bool.not_false, Nat.add_zero, Nat.zero_add, Nat.reduceAdd]
                      refine wpPi_skip rfl ?_
                      simp only [pl, pn, el, ec, sz, ss, gz, gs, if_true, if_false, Bool.false_eq_true, Bool.not_true, Bool.not_false, Nat.add_zero, Nat.zero_add, Nat.reduceAdd]
                      refine wpPi_skip rfl ?_
                      simp only [pl, pn, el, ec, sz, ss, gz, gs, if_true, if_false, Bool.false_eq_true, Bool.not_true, Bool.not_false, Nat.add_zero, Nat.zero_add, Nat.reduceAdd]
                      refine wpPi_do_skip rfl trivial ?_
                      simp only [pl, pn, el, ec, sz, ss, gz, gs, if_true, if_false, Bool.false_eq_true, Bool.not_true, Bool.not_false, Nat.add_zero, Nat.zero_add, Nat.reduceAdd]
                      refine wpPi_pick _ _ _ _ rfl rfl rfl ?_
                      simp only [pl, pn, el, ec, sz, ss, gz, gs, if_true, if_false, Bool.false_eq_true, Bool.not_true, Bool.not_false, Nat.add_zero, Nat.zero_add, Nat.reduceAdd]
                      refine wpPi_pick _ _ _ _ rfl rfl rfl ?_
                      simp only [pl, pn, el, ec, sz, ss, gz, gs, if_true, if_false, Bool.false_eq_true, Bool.not_true, Bool.not_false, Nat.add_zero, Nat.zero_add, Nat.reduceAdd]
                      refine wpPi_nil ?_
                      go_wp2
                      go_roundw
                      case rel => exact ⟨k + 1, by omega, by go_num, hm4'⟩
                      case measure => simp [intOf]; omega
                    · have HNE := Lib.hid (decide_eq_false (show ¬ vs12 = vs14 from fun h => HT.out.2 vs12 HV12.out (by rw [h]; exact HV14.out)))
                      refine wp_region_seq [3, 3, 3, 3, 3, 3, 3, 3, 3, 3, 3, 3, 3, 3, 1, 3, 3] (fun _ => True) (by rfl) (by rfl) trivial ?_
                      simp only [List.zip_cons_cons, List.zip_nil_right]
                      refine wpPi_move _ rfl rfl ?_
                      simp only [pl, pn, el, ec, sz, ss, gz, gs, if_true, if_false, Bool.false_eq_true, Bool.not_true, Bool.not_false, Nat.add_zero, Nat.zero_add, Nat.reduceAdd]
                      refine wpPi_not _ _ _ rfl rfl rfl ?_
                      simp only [pl, pn, el, ec, sz, ss, gz, gs, if_true, if_false, Bool.false_eq_true, Bool.not_true, Bool.not_false, Nat.add_zero, Nat.zero_add, Nat.reduceAdd]
                      refine wpPi_move _ rfl rfl ?_
                      simp only [pl, pn, el, ec, sz, ss, gz, gs, if_true, if_false, Bool.false_eq_true, Bool.not_true, Bool.not_false, Nat.add_zero, Nat.zero_add, Nat.reduceAdd]
                      refine wpPi_skip rfl ?_
                      simp only [pl, pn, el, ec, sz, ss, gz, gs, if_true, if_false, Bool.false_eq_true, Bool.not_true, Bool.not_false, Nat.add_zero, Nat.zero_add, Nat.reduceAdd]
                      refine wpPi_skip rfl ?_
                      simp only [pl, pn, el, ec, sz, ss, gz, gs, if_true, if_false, Bool.false_eq_true, Bool.not_true, Bool.not_false, Nat.add_zero, Nat.zero_add, Nat.reduceAdd]
                      refine wpPi_pick _ _ _ _ rfl rfl rfl ?_
                      simp only [pl, pn, el, ec, sz, ss, gz, gs, if_true, if_false, Bool.false_eq_true, Bool.not_true, Bool.not_false, Nat.add_zero, Nat.zero_add, Nat.reduceAdd]
                      refine wpPi_move _ rfl rfl ?_
                      simp only [pl, pn, el, ec, sz, ss, gz, gs, if_true, if_false, Bool.false_eq_true, Bool.not_true, Bool.not_false, Nat.add_zero, Nat.zero_add, Nat.reduceAdd]
                      refine wpPi_move _ rfl rfl ?_
                      simp only [pl, pn, el, ec, sz, ss, gz, gs, if_true, if_false, Bool.false_eq_true, Bool.not_true, Bool.not_false, Nat.add_zero, Nat.zero_add, Nat.reduceAdd]
                      refine wpPi_move _ rfl rfl ?_
                      simp only [pl, pn, el, ec, sz, ss, gz, gs, if_true, if_false, Bool.false_eq_true, Bool.not_true, Bool.not_false, Nat.add_zero, Nat.zero_add, Nat.reduceAdd]
                      refine wpPi_move _ rfl rfl ?_
                      simp only [pl, pn, el, ec, sz, ss, gz, gs, if_true, if_false, Bool.false_eq_true, Bool.not_true, Bool.not_false, Nat.add_zero, Nat.zero_add, Nat.reduceAdd]
                      refine wpPi_pick _ _ _ _ rfl rfl rfl ?_
                      simp only [pl, pn, el, ec, sz, ss, gz, gs, if_true, if_false, Bool.false_eq_true, Bool.not_true, Bool.not_false, Nat.add_zero, Nat.zero_add, Nat.reduceAdd]
                      refine wpPi_move _ rfl rfl ?_
                      simp only [pl, pn, el, ec, sz, ss, gz, gs, if_true, if_false, Bool.false_eq_true, Bool.not_true, Bool.not_false, Nat.add_zero, Nat.zero_add, Nat.reduceAdd]
                      refine wpPi_move _ rfl rfl ?_
                      simp only [pl, pn, el, ec, sz, ss, gz, gs, if_true, if_false, Bool.false_eq_true, Bool.not_true, Bool.not_false, Nat.add_zero, Nat.zero_add, Nat.reduceAdd]
                      refine wpPi_move _ rfl rfl ?_
                      simp only [pl, pn, el, ec, sz, ss, gz, gs, if_true, if_false, Bool.false_eq_true, Bool.not_true, Bool.not_false, Nat.add_zero, Nat.zero_add, Nat.reduceAdd]
                      refine wpPi_do rfl (fun K hK => ?_)
                      refine wp_enterQ (run_call 26 [.tmp 194, .tmp 195] _ rfl _ Try.func26 rfl (by kernel_rfl) [.slice av12 vs12.length cv12, .slice av14 vs14.length cv14] rfl _) (sameBytes_any HS12'.out HS14.out) ?_
                      rintro e w15 ⟨rfl, hm15⟩
                      rw [HNE.out]
                      refine ⟨_, rfl, hK _ _ trivial ?_⟩
                      clear hK K
                      try simp only [pl, pn, el, ec, sz, ss, gz, gs, if_true, if_false, Bool.false_eq_true, Bool.not_true, Bool.not_false, Nat.add_zero, Nat.zero_add, Nat.reduceAdd]
                      refine wpPi_pick _ _ _ _ rfl rfl rfl ?_
                      simp only [pl, pn, el, ec, sz, ss, gz, gs, if_true, if_false, Bool.false_eq_true, Bool.not_true, Bool.not_false, Nat.add_zero, Nat.zero_add, Nat.reduceAdd]
                      refine wpPi_pick _ _ _ _ rfl rfl rfl ?_
                      simp only [pl, pn, el, ec, sz, ss, gz, gs, if_true, if_false, Bool.false_eq_true, Bool.not_true, Bool.not_false, Nat.add_zero, Nat.zero_add, Nat.reduceAdd]
                      refine wpPi_nil ?_
                      go_wp2
                      go_roundw
                      case rel => exact ⟨k + 1, by omega, by go_num, hm4'.trans0 hm15⟩
                      case measure => simp [intOf]; omega
                · have hz2 : ¬ (k : Int) < (ks.length : Int) := by omega
                  have hMw := hMW.trans0 hM
                  have hcA := hM.obj id hB12
                  have hcB := hM.obj id hB14
                  have hcA' := CellsAt.whole hcA
                  have hcB' := CellsAt.whole hcB
                  clear hcA hcB hB12 hB14
                  go_upto_region 25 with (fail)
                  cases bb
                  · skip
                    refine wp_region_seq [3, 3, 3, 3, 3, 0, 0, 3, 3, 3, 3, 3, 3, 3, 3, 3] (fun _ => True) (by rfl) (by rfl) trivial ?_
                    simp only [List.zip_cons_cons, List.zip_nil_right]
                    refine wpPi_move _ rfl rfl ?_
                    simp only [pl, pn, el, ec, sz, ss, gz, gs, if_true, if_false, Bool.false_eq_true, Bool.not_true, Bool.not_false, Nat.add_zero, Nat.zero_add, Nat.reduceAdd]
                    refine wpPi_move _ rfl rfl ?_
                    simp only [pl, pn, el, ec, sz, ss, gz, gs, if_true, if_false, Bool.false_eq_true, Bool.not_true, Bool.not_false, Nat.add_zero, Nat.zero_add, Nat.reduceAdd]
                    refine wpPi_move _ rfl rfl ?_
                    simp only [pl, pn, el, ec, sz, ss, gz, gs, if_true, if_false, Bool.false_eq_true, Bool.not_true, Bool.not_false, Nat.add_zero, Nat.zero_add, Nat.reduceAdd]
                    refine wpPi_not _ _ _ rfl rfl rfl ?_
                    simp only [pl, pn, el, ec, sz, ss, gz, gs, if_true, if_false, Bool.false_eq_true, Bool.not_true, Bool.not_false, Nat.add_zero, Nat.zero_add, Nat.reduceAdd]
                    refine wpPi_move _ rfl rfl ?_
                    simp only [pl, pn, el, ec, sz, ss, gz, gs, if_true, if_false, Bool.false_eq_true, Bool.not_true, Bool.not_false, Nat.add_zero, Nat.zero_add, Nat.reduceAdd]
                    refine wpPi_skip0 rfl ?_
                    simp only [pl, pn, el, ec, sz, ss, gz, gs, if_true, if_false, Bool.false_eq_true, Bool.not_true, Bool.not_false, Nat.add_zero, Nat.zero_add, Nat.reduceAdd]
                    refine wpPi_skip0 rfl ?_
                    simp only [pl, pn, el, ec, sz, ss, gz, gs, if_true, if_false, Bool.false_eq_true, Bool.not_true, Bool.not_false, Nat.add_zero, Nat.zero_add, Nat.reduceAdd]
                    refine wpPi_skip rfl ?_
                    simp only [pl, pn, el, ec, sz, ss, gz, gs, if_true, if_false, Bool.false_eq_true, Bool.not_true, Bool.not_false, Nat.add_zero, Nat.zero_add, Nat.reduceAdd]
                    refine wpPi_skip rfl ?_
                    simp only [pl, pn, el, ec, sz, ss, gz, gs, if_true, if_false, Bool.false_eq_true, Bool.not_true, Bool.not_false, Nat.add_zero, Nat.zero_add, Nat.reduceAdd]
                    refine wpPi_skip rfl ?_
                    simp only [pl, pn, el, ec, sz, ss, gz, gs, if_true, if_false, Bool.false_eq_true, Bool.not_true, Bool.not_false, Nat.add_zero, Nat.zero_add, Nat.reduceAdd]
                    refine wpPi_skip rfl ?_
                    simp only [pl, pn, el, ec, sz, ss, gz, gs, if_true, if_false, Bool.false_eq_true, Bool.not_true, Bool.not_false, Nat.add_zero, Nat.zero_add, Nat.reduceAdd]
                    refine wpPi_skip rfl ?_
                    simp only [pl, pn, el, ec, sz, ss, gz, gs, if_true, if_false, Bool.false_eq_true, Bool.not_true, Bool.not_false, Nat.add_zero, Nat.zero_add, Nat.reduceAdd]
                    refine wpPi_skip rfl ?_
                    simp only [pl, pn, el, ec, sz, ss, gz, gs, if_true, if_false, Bool.false_eq_true, Bool.not_true, Bool.not_false, Nat.add_zero, Nat.zero_add, Nat.reduceAdd]
                    refine wpPi_pick _ _ _ _ rfl rfl rfl ?_
                    simp only [pl, pn, el, ec, sz, ss, gz, gs, if_true, if_false, Bool.false_eq_true, Bool.not_true, Bool.not_false, Nat.add_zero, Nat.zero_add, Nat.reduceAdd]
                    refine wpPi_pick _ _ _ _ rfl rfl rfl ?_
                    simp only [pl, pn, el, ec, sz, ss, gz, gs, if_true, if_false, Bool.false_eq_true, Bool.not_true, Bool.not_false, Nat.add_zero, Nat.zero_add, Nat.reduceAdd]
                    refine wpPi_assign _ rfl rfl ?_
                    simp only [pl, pn, el, ec, sz, ss, gz, gs, if_true, if_false, Bool.false_eq_true, Bool.not_true, Bool.not_false, Nat.add_zero, Nat.zero_add, Nat.reduceAdd]
                    refine wpPi_nil ?_
                    go_wp2
                    go_ret
                    exact ⟨rfl, hMw⟩
                  · have hal := HAL.out rfl
                    have hrr := alike_root HCA.out hal.1 hal.2
                    have HRR := Lib.hid hrr
                    have hk0 := HROOT.out.2 hrr
                    subst hk0
                    clear hal hrr
                    have hS : wq.drew.heap = wq.heap := rfl
                    refine wp_region_seq [3, 3, 3, 3, 3, 0, 0, 0, 3, 3, 3, 3, 3, 3, 3, 3] (fun w' => w'.heap = wq.heap) (by rfl) (by rfl) hS ?_
                    simp only [List.zip_cons_cons, List.zip_nil_right]
                    refine wpPi_move _ rfl rfl ?_
                    simp only [pl, pn, el, ec, sz, ss, gz, gs, if_true, if_false, Bool.false_eq_true, Bool.not_true, Bool.not_false, Nat.add_zero, Nat.zero_add, Nat.reduceAdd]
                    refine wpPi_move _ rfl rfl ?_
                    simp only [pl, pn, el, ec, sz, ss, gz, gs, if_true, if_false, Bool.false_eq_true, Bool.not_true, Bool.not_false, Nat.add_zero, Nat.zero_add, Nat.reduceAdd]
                    refine wpPi_move _ rfl rfl ?_
                    simp only [pl, pn, el, ec, sz, ss, gz, gs, if_true, if_false, Bool.false_eq_true, Bool.not_true, Bool.not_false, Nat.add_zero, Nat.zero_add, Nat.reduceAdd]
                    refine wpPi_not _ _ _ rfl rfl rfl ?_
                    simp only [pl, pn, el, ec, sz, ss, gz, gs, if_true, if_false, Bool.false_eq_true, Bool.not_true, Bool.not_false, Nat.add_zero, Nat.zero_add, Nat.reduceAdd]
                    refine wpPi_move _ rfl rfl ?_
                    simp only [pl, pn, el, ec, sz, ss, gz, gs, if_true, if_false, Bool.false_eq_true, Bool.not_true, Bool.not_false, Nat.add_zero, Nat.zero_add, Nat.reduceAdd]
                    refine wpPi_val rfl (fun w' hS => exec_loadA 38 _ (by rfl) b12 0 (by rfl) (idCells (rootE a)) (cells_same hS hcA') _ Try.underlying38 rfl 32 (by kernel_rfl) hRa) ?_
                    simp only [pl, pn, el, ec, sz, ss, gz, gs, if_true, if_false, Bool.false_eq_true, Bool.not_true, Bool.not_false, Nat.add_zero, Nat.zero_add, Nat.reduceAdd]
                    refine wpPi_val rfl (fun w' hS => exec_loadA 38 _ (by rfl) b14 0 (by rfl) (idCells (rootE b)) (cells_same hS hcB') _ Try.underlying38 rfl 32 (by kernel_rfl) hRb) ?_
                    simp only [pl, pn, el, ec, sz, ss, gz, gs, if_true, if_false, Bool.false_eq_true, Bool.not_true, Bool.not_false, Nat.add_zero, Nat.zero_add, Nat.reduceAdd]
                    refine wpPi_val rfl (fun w' hS => exec_eql_id _ _ _ _ rfl _ _ rfl rfl 32 5 Try.underlying38 Try.underlying5 (by kernel_rfl) (by kernel_rfl) (hRal.out) (hRbl.out) true (decide_eq_true HRR.out)) ?_
                    simp only [pl, pn, el, ec, sz, ss, gz, gs, if_true, if_false, Bool.false_eq_true, Bool.not_true, Bool.not_false, Nat.add_zero, Nat.zero_add, Nat.reduceAdd]
                    refine wpPi_move _ rfl rfl ?_
                    simp only [pl, pn, el, ec, sz, ss, gz, gs, if_true, if_false, Bool.false_eq_true, Bool.not_true, Bool.not_false, Nat.add_zero, Nat.zero_add, Nat.reduceAdd]
                    refine wpPi_move _ rfl rfl ?_
                    simp only [pl, pn, el, ec, sz, ss, gz, gs, if_true, if_false, Bool.false_eq_true, Bool.not_true, Bool.not_false, Nat.add_zero, Nat.zero_add, Nat.reduceAdd]
                    refine wpPi_len _ _ _ _ _ rfl rfl rfl (by kernel_rfl) ?_
                    simp only [pl, pn, el, ec, sz, ss, gz, gs, if_true, if_false, Bool.false_eq_true, Bool.not_true, Bool.not_false, Nat.add_zero, Nat.zero_add, Nat.reduceAdd]
                    refine wpPi_any (v := ?_) rfl (fun w' => ?_) ?_; rotate_left; · (go_simp; try with_reducible rfl)
                    simp only [pl, pn, el, ec, sz, ss, gz, gs, if_true, if_false, Bool.false_eq_true, Bool.not_true, Bool.not_false, Nat.add_zero, Nat.zero_add, Nat.reduceAdd]
                    refine wpPi_pick _ _ _ _ rfl rfl rfl ?_
                    simp only [pl, pn, el, ec, sz, ss, gz, gs, if_true, if_false, Bool.false_eq_true, Bool.not_true, Bool.not_false, Nat.add_zero, Nat.zero_add, Nat.reduceAdd]
                    refine wpPi_pick _ _ _ _ rfl rfl rfl ?_
                    simp only [pl, pn, el, ec, sz, ss, gz, gs, if_true, if_false, Bool.false_eq_true, Bool.not_true, Bool.not_false, Nat.add_zero, Nat.zero_add, Nat.reduceAdd]
                    refine wpPi_pick _ _ _ _ rfl rfl rfl ?_
                    simp only [pl, pn, el, ec, sz, ss, gz, gs, if_true, if_false, Bool.false_eq_true, Bool.not_true, Bool.not_false, Nat.add_zero, Nat.zero_add, Nat.reduceAdd]
                    refine wpPi_assign _ rfl rfl ?_
                    simp only [pl, pn, el, ec, sz, ss, gz, gs, if_true, if_false, Bool.false_eq_true, Bool.not_true, Bool.not_false, Nat.add_zero, Nat.zero_add, Nat.reduceAdd]
                    refine wpPi_nil ?_
                    go_wp2
                    go_ret
                    exact ⟨rfl, hMw⟩
      · have he' : ¬ errD b a = 0 := fun h => he (errD_symm.1 h)
        obtain ⟨rfl, rfl⟩ := hok6.2 he
        obtain ⟨rfl, rfl⟩ := hok9.2 he'
        have hze : ¬ ((errD a b : Nat) : Int) = 0 := by omega
        have hze' : ¬ ((errD b a : Nat) : Int) = 0 := by omega
        clear hok6 hok9 HK6 HK9
        go_upto_region 6 with (fail)
        refine wp_region_seq [3, 3, 3, 3, 3, 3] (fun _ => True) (by rfl) (by rfl) trivial ?_
        simp only [List.zip_cons_cons, List.zip_nil_right]
        refine wpPi_move _ rfl rfl ?_
        simp only [pl, pn, el, ec, sz, ss, gz, gs, if_true, if_false, Bool.false_eq_true, Bool.not_true, Bool.not_false, Nat.add_zero, Nat.zero_add, Nat.reduceAdd]
        refine wpPi_cmp _ _ _ _ _ _ _ _ rfl rfl rfl rfl rfl true (decide_eq_true hze) ?_
        simp only [pl, pn, el, ec, sz, ss, gz, gs, if_true, if_false, Bool.false_eq_true, Bool.not_true, Bool.not_false, Nat.add_zero, Nat.zero_add, Nat.reduceAdd]
        refine wpPi_move _ rfl rfl ?_
        simp only [pl, pn, el, ec, sz, ss, gz, gs, if_true, if_false, Bool.false_eq_true, Bool.not_true, Bool.not_false, Nat.add_zero, Nat.zero_add, Nat.reduceAdd]
        refine wpPi_skip rfl ?_
        simp only [pl, pn, el, ec, sz, ss, gz, gs, if_true, if_false, Bool.false_eq_true, Bool.not_true, Bool.not_false, Nat.add_zero, Nat.zero_add, Nat.reduceAdd]
        refine wpPi_skip rfl ?_
        simp only [pl, pn, el, ec, sz, ss, gz, gs, if_true, if_false, Bool.false_eq_true, Bool.not_true, Bool.not_false, Nat.add_zero, Nat.zero_add, Nat.reduceAdd]
        refine wpPi_pick _ _ _ _ rfl rfl rfl ?_
        simp only [pl, pn, el, ec, sz, ss, gz, gs, if_true, if_false, Bool.false_eq_true, Bool.not_true, Bool.not_false, Nat.add_zero, Nat.zero_add, Nat.reduceAdd]
        refine wpPi_nil ?_
        go_upto_region 7 with (fail)
        refine wp_region_seq [3, 3, 3, 3, 3, 3, 3, 3, 3, 3, 3, 3, 3, 3, 3, 3, 3, 3, 3, 3, 3] (fun _ => True) (by rfl) (by rfl) trivial ?_
        simp only [List.zip_cons_cons, List.zip_nil_right]
        refine wpPi_move _ rfl rfl ?_
        simp only [pl, pn, el, ec, sz, ss, gz, gs, if_true, if_false, Bool.false_eq_true, Bool.not_true, Bool.not_false, Nat.add_zero, Nat.zero_add, Nat.reduceAdd]
        refine wpPi_move _ rfl rfl ?_
        simp only [pl, pn, el, ec, sz, ss, gz, gs, if_true, if_false, Bool.false_eq_true, Bool.not_true, Bool.not_false, Nat.add_zero, Nat.zero_add, Nat.reduceAdd]
        refine wpPi_move _ rfl rfl ?_
        simp only [pl, pn, el, ec, sz, ss, gz, gs, if_true, if_false, Bool.false_eq_true, Bool.not_true, Bool.not_false, Nat.add_zero, Nat.zero_add, Nat.reduceAdd]
        refine wpPi_len _ _ _ _ _ rfl rfl rfl (by kernel_rfl) ?_
        simp only [pl, pn, el, ec, sz, ss, gz, gs, if_true, if_false, Bool.false_eq_true, Bool.not_true, Bool.not_false, Nat.add_zero, Nat.zero_add, Nat.reduceAdd]
        refine wpPi_move _ rfl rfl ?_
        simp only [pl, pn, el, ec, sz, ss, gz, gs, if_true, if_false, Bool.false_eq_true, Bool.not_true, Bool.not_false, Nat.add_zero, Nat.zero_add, Nat.reduceAdd]
        refine wpPi_len _ _ _ _ _ rfl rfl rfl (by kernel_rfl) ?_
        simp only [pl, pn, el, ec, sz, ss, gz, gs, if_true, if_false, Bool.false_eq_true, Bool.not_true, Bool.not_false, Nat.add_zero, Nat.zero_add, Nat.reduceAdd]
        refine wpPi_any (v := ?_) rfl (fun w' => ?_) ?_; rotate_left; · (go_simp; try with_reducible rfl)
        simp only [pl, pn, el, ec, sz, ss, gz, gs, if_true, if_false, Bool.false_eq_true, Bool.not_true, Bool.not_false, Nat.add_zero, Nat.zero_add, Nat.reduceAdd]
        refine wpPi_move _ rfl rfl ?_
        simp only [pl, pn, el, ec, sz, ss, gz, gs, if_true, if_false, Bool.false_eq_true, Bool.not_true, Bool.not_false, Nat.add_zero, Nat.zero_add, Nat.reduceAdd]
        refine wpPi_any (v := ?_) rfl (fun w' => ?_) ?_; rotate_left; · (go_simp; try with_reducible rfl)
        simp only [pl, pn, el, ec, sz, ss, gz, gs, if_true, if_false, Bool.false_eq_true, Bool.not_true, Bool.not_false, Nat.add_zero, Nat.zero_add, Nat.reduceAdd]
        refine wpPi_move _ rfl rfl ?_
        simp only [pl, pn, el, ec, sz, ss, gz, gs, if_true, if_false, Bool.false_eq_true, Bool.not_true, Bool.not_false, Nat.add_zero, Nat.zero_add, Nat.reduceAdd]
        refine wpPi_any (v := ?_) rfl (fun w' => ?_) ?_; rotate_left; · (go_simp; try with_reducible rfl)
        simp only [pl, pn, el, ec, sz, ss, gz, gs, if_true, if_false, Bool.false_eq_true, Bool.not_true, Bool.not_false, Nat.add_zero, Nat.zero_add, Nat.reduceAdd]
        refine wpPi_any (v := ?_) rfl (fun w' => ?_) ?_; rotate_left; · (go_simp; try with_reducible rfl)
        simp only [pl, pn, el, ec, sz, ss, gz, gs, if_true, if_false, Bool.false_eq_true, Bool.not_true, Bool.not_false, Nat.add_zero, Nat.zero_add, Nat.reduceAdd]
        refine wpPi_pick _ _ _ _ rfl rfl rfl ?_
        simp only [pl, pn, el, ec, sz, ss, gz, gs, if_true, if_false, Bool.false_eq_true, Bool.not_true, Bool.not_false, Nat.add_zero, Nat.zero_add, Nat.reduceAdd]
        refine wpPi_move _ rfl rfl ?_
        simp only [pl, pn, el, ec, sz, ss, gz, gs, if_true, if_false, Bool.false_eq_true, Bool.not_true, Bool.not_false, Nat.add_zero, Nat.zero_add, Nat.reduceAdd]
        refine wpPi_move _ rfl rfl ?_
        simp only [pl, pn, el, ec, sz, ss, gz, gs, if_true, if_false, Bool.false_eq_true, Bool.not_true, Bool.not_false, Nat.add_zero, Nat.zero_add, Nat.reduceAdd]
        refine wpPi_cmp _ _ _ _ _ _ _ _ rfl rfl rfl rfl rfl false (decide_eq_false hze) ?_
        simp only [pl, pn, el, ec, sz, ss, gz, gs, if_true, if_false, Bool.false_eq_true, Bool.not_true, Bool.not_false, Nat.add_zero, Nat.zero_add, Nat.reduceAdd]
        refine wpPi_move _ rfl rfl ?_
        simp only [pl, pn, el, ec, sz, ss, gz, gs, if_true, if_false, Bool.false_eq_true, Bool.not_true, Bool.not_false, Nat.add_zero, Nat.zero_add, Nat.reduceAdd]
        refine wpPi_cmp _ _ _ _ _ _ _ _ rfl rfl rfl rfl rfl false (decide_eq_false hze') ?_
        simp only [pl, pn, el, ec, sz, ss, gz, gs, if_true, if_false, Bool.false_eq_true, Bool.not_true, Bool.not_false, Nat.add_zero, Nat.zero_add, Nat.reduceAdd]
        refine wpPi_any rfl (fun w' => exec_eql_bool _ _ _ false rfl rfl rfl) ?_
        simp only [pl, pn, el, ec, sz, ss, gz, gs, if_true, if_false, Bool.false_eq_true, Bool.not_true, Bool.not_false, Nat.add_zero, Nat.zero_add, Nat.reduceAdd]
        refine wpPi_pick _ _ _ _ rfl rfl rfl ?_
        simp only [pl, pn, el, ec, sz, ss, gz, gs, if_true, if_false, Bool.false_eq_true, Bool.not_true, Bool.not_false, Nat.add_zero, Nat.zero_add, Nat.reduceAdd]
        refine wpPi_assign _ rfl rfl ?_
        simp only [pl, pn, el, ec, sz, ss, gz, gs, if_true, if_false, Bool.false_eq_true, Bool.not_true, Bool.not_false, Nat.add_zero, Nat.zero_add, Nat.reduceAdd]
        refine wpPi_nil ?_
        go_wp2
        go_ret
        exact ⟨rfl, hM5⟩
    · have HLB := Lib.hid (longB_true hSB)
      clear hSA hSB
      refine wp_region_seq [3, 1, 3, 3, 1, 3] (fun _ => True) (by rfl) (by rfl) trivial ?_
      simp only [List.zip_cons_cons, List.zip_nil_right]
      refine wpPi_move _ rfl rfl ?_
      simp only [pl, pn, el, ec, sz, ss, gz, gs, if_true, if_false, Bool.false_eq_true, Bool.not_true, Bool.not_false, Nat.add_zero, Nat.zero_add, Nat.reduceAdd]
      refine wpPi_do rfl (fun K hK => ?_)
      refine wp_enterQ (run_call 8 [.tmp 26] _ rfl _ Try.func8 rfl (by kernel_rfl) [.slice aa a.length ca] rfl _) (long_any HA.out) ?_
      rintro e w2 ⟨rfl, hm2⟩
      rw [HLA.out]
      refine ⟨_, rfl, hK _ _ trivial ?_⟩
      clear hK K
      try simp only [pl, pn, el, ec, sz, ss, gz, gs, if_true, if_false, Bool.false_eq_true, Bool.not_true, Bool.not_false, Nat.add_zero, Nat.zero_add, Nat.reduceAdd]
      refine wpPi_move _ rfl rfl ?_
      simp only [pl, pn, el, ec, sz, ss, gz, gs, if_true, if_false, Bool.false_eq_true, Bool.not_true, Bool.not_false, Nat.add_zero, Nat.zero_add, Nat.reduceAdd]
      refine wpPi_move _ rfl rfl ?_
      simp only [pl, pn, el, ec, sz, ss, gz, gs, if_true, if_false, Bool.false_eq_true, Bool.not_true, Bool.not_false, Nat.add_zero, Nat.zero_add, Nat.reduceAdd]
      refine wpPi_do rfl (fun K hK => ?_)
      refine wp_enterQ (run_call 8 [.tmp 29] _ rfl _ Try.func8 rfl (by kernel_rfl) [.slice ab b.length cb] rfl _) (long_any (HB.out.keep0 hm2)) ?_
      rintro e w3 ⟨rfl, hm3⟩
      rw [HLB.out]
      refine ⟨_, rfl, hK _ _ trivial ?_⟩
      clear hK K
      try simp only [pl, pn, el, ec, sz, ss, gz, gs, if_true, if_false, Bool.false_eq_true, Bool.not_true, Bool.not_false, Nat.add_zero, Nat.zero_add, Nat.reduceAdd]
      refine wpPi_pick _ _ _ _ rfl rfl rfl ?_
      simp only [pl, pn, el, ec, sz, ss, gz, gs, if_true, if_false, Bool.false_eq_true, Bool.not_true, Bool.not_false, Nat.add_zero, Nat.zero_add, Nat.reduceAdd]
      refine wpPi_nil ?_
      have hM3 := hm1.trans0 (hm2.trans0 hm3)
      clear hm1 hm2 hm3
      go_wp2
      go_ret
      exact ⟨rfl, hM3⟩
  · have HLA := Lib.hid (longB_true hSA)
    clear hSA
    refine wp_region_seq [3, 1, 3, 3, 1, 3] (fun _ => True) (by rfl) (by rfl) trivial ?_
    simp only [List.zip_cons_cons, List.zip_nil_right]
    refine wpPi_move _ rfl rfl ?_
    simp only [pl, pn, el, ec, sz, ss, gz, gs, if_true, if_false, Bool.false_eq_true, Bool.not_true, Bool.not_false, Nat.add_zero, Nat.zero_add, Nat.reduceAdd]
    refine wpPi_do rfl (fun K hK => ?_)
    refine wp_enterQ (run_call 8 [.tmp 26] _ rfl _ Try.func8 rfl (by kernel_rfl) [.slice aa a.length ca] rfl _) (long_any HA.out) ?_
    rintro e w2 ⟨rfl, hm2⟩
    rw [HLA.out]
    refine ⟨_, rfl, hK _ _ trivial ?_⟩
    clear hK K
    try simp only [pl, pn, el, ec, sz, ss, gz, gs, if_true, if_false, Bool.false_eq_true, Bool.not_true, Bool.not_false, Nat.add_zero, Nat.zero_add, Nat.reduceAdd]
    refine wpPi_move _ rfl rfl ?_
    simp only [pl, pn, el, ec, sz, ss, gz, gs, if_true, if_false, Bool.false_eq_true, Bool.not_true, Bool.not_false, Nat.add_zero, Nat.zero_add, Nat.reduceAdd]
    refine wpPi_skip rfl ?_
    simp only [pl, pn, el, ec, sz, ss, gz, gs, if_true, if_false, Bool.false_eq_true, Bool.not_true, Bool.not_false, Nat.add_zero, Nat.zero_add, Nat.reduceAdd]
    refine wpPi_do_skip rfl trivial ?_
    simp only [pl, pn, el, ec, sz, ss, gz, gs, if_true, if_false, Bool.false_eq_true, Bool.not_true, Bool.not_false, Nat.add_zero, Nat.zero_add, Nat.reduceAdd]
    refine wpPi_pick _ _ _ _ rfl rfl rfl ?_
    simp only [pl, pn, el, ec, sz, ss, gz, gs, if_true, if_false, Bool.false_eq_true, Bool.not_true, Bool.not_false, Nat.add_zero, Nat.zero_add, Nat.reduceAdd]
    refine wpPi_nil ?_
    have hM3 := hm1.trans0 hm2
    clear hm1 hm2
    go_wp2
    go_ret
    exact ⟨rfl, hM3⟩
end Go.Proofs.Ytchkikmmcmjcgaa
