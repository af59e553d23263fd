/- What the statement TreeRoots needs, part 5. -/
import Derived.Test.YtchkikmmcmjcgaaGreatTreeRootsP4
/- slices.BinarySearchFunc over leaves. -/
namespace Go.Proofs.YtchkikmmcmjcgaaGreat
set_option linter.unusedSimpArgs false
set_option linter.unusedVariables false
set_option linter.unnecessarySimpa false
set_option linter.unusedSectionVars false
open Go.RowKit Go.Shelf


set_option maxRecDepth 10000 in
theorem differF_any (x : Leaf) (t : List UInt8) (hx : LeafOk x) (ht : t.length = 32) (w : World) : Calls Tryz.prog 59 #[.agg (leafCells x), .agg (idCells t)] w (RetM (.int .i64 (cmpI x.way t)) w) := by
  have hxw := hx.1
  have h1 : (idCells x.way).size = 32 := by rw [idCells_size, hxw]
  have h2 : (idCells t).size = 32 := by rw [idCells_size, ht]
  obtain ⟨C, hC⟩ : ∃ C, leafCells x = C := ⟨_, rfl⟩
  have HC := Lib.hid hC
  rw [hC]
  clear hC
  go_enter Tryz.func59, Tryz.ntmps59
  go_upto_region 0 with (fail)
  refine wp_region_seq [1, 1, 3] (fun _ => True) (by rfl) (by rfl) trivial ?_
  simp only [List.zip_cons_cons, List.zip_nil_right]
  refine wpPi_do rfl (fun K hK => ?_)
  refine wp_box 59 _ _ (by rfl) (by rfl) (fun w1 hB1 hm1 hs1 => ?_)
  replace hB1 : w1.heap[w.heap.size]? = some (.cells C 59 (0, 0)) := hB1
  refine hK _ _ trivial ?_
  clear hK K
  try simp only [pl, pn, el, ec, sz, ss, gz, gs, if_true, if_false, Bool.false_eq_true, Bool.not_true, Bool.not_false, Nat.add_zero, Nat.zero_add, Nat.reduceAdd]
  refine wpPi_do rfl (fun K hK => ?_)
  refine wp_box 24 _ _ (by rfl) (by rfl) (fun w2 hB2 hm2 hs2 => ?_)
  replace hB2 : w2.heap[w1.heap.size]? = some (.cells (idCells t) 24 (0, 0)) := hB2
  refine hK _ _ trivial ?_
  clear hK K
  try simp only [pl, pn, el, ec, sz, ss, gz, gs, if_true, if_false, Bool.false_eq_true, Bool.not_true, Bool.not_false, Nat.add_zero, Nat.zero_add, Nat.reduceAdd]
  refine wpPi_assign _ rfl rfl ?_
  simp only [pl, pn, el, ec, sz, ss, gz, gs, if_true, if_false, Bool.false_eq_true, Bool.not_true, Bool.not_false, Nat.add_zero, Nat.zero_add, Nat.reduceAdd]
  refine wpPi_nil ?_
  have hc1 := CellsAt.whole (hm2.obj id hB1)
  have hc2 := CellsAt.whole hB2
  rw [← HC.out] at hc1
  replace hc1 := leaf_way hx hc1
  rw [Nat.zero_add] at hc1
  have hG := hm1.trans0 hm2
  generalize w.heap.size = b1 at *
  generalize w1.heap.size = b2 at *
  clear hB1 hB2 hm1 hm2
  go_upto_region 1 with (fail)
  refine wp_region_seq [3, 1, 1, 1, 3] (fun _ => True) (by rfl) (by rfl) trivial ?_
  simp only [List.zip_cons_cons, List.zip_nil_right]
  refine wpPi_field _ _ _ _ _ _ rfl rfl rfl fo_59_1 ?_
  simp only [pl, pn, el, ec, sz, ss, gz, gs, if_true, if_false, Bool.false_eq_true, Bool.not_true, Bool.not_false, Nat.add_zero, Nat.zero_add, Nat.reduceAdd]
  refine wpPi_do rfl (fun K hK => ?_)
  refine wp_exec (exec_loadA 24 _ (by rfl) b1 1 (by rfl) (idCells x.way) hc1 _ Tryz.underlying24 rfl 32 (by kernel_rfl) h1) ?_
  refine hK _ _ trivial ?_
  clear hK K
  try simp only [pl, pn, el, ec, sz, ss, gz, gs, if_true, if_false, Bool.false_eq_true, Bool.not_true, Bool.not_false, Nat.add_zero, Nat.zero_add, Nat.reduceAdd]
  refine wpPi_do rfl (fun K hK => ?_)
  refine wp_exec (exec_loadA 24 _ (by rfl) b2 0 (by rfl) (idCells t) hc2 _ Tryz.underlying24 rfl 32 (by kernel_rfl) h2) ?_
  refine hK _ _ trivial ?_
  clear hK K
  try simp only [pl, pn, el, ec, sz, ss, gz, gs, if_true, if_false, Bool.false_eq_true, Bool.not_true, Bool.not_false, Nat.add_zero, Nat.zero_add, Nat.reduceAdd]
  refine wpPi_do rfl (fun K hK => ?_)
  refine wp_enterQ (run_call 45 [.tmp 6, .tmp 7] _ rfl _ Tryz.func45 rfl (by kernel_rfl) [.agg (idCells x.way), .agg (idCells t)] rfl _) (shaCompare_any x.way t hxw ht _) ?_
  rintro e w3 ⟨rfl, hm3⟩
  have hG3 := hG.trans0 hm3.mod
  refine ⟨_, rfl, hK _ _ trivial ?_⟩
  clear hK K
  try simp only [pl, pn, el, ec, sz, ss, gz, gs, if_true, if_false, Bool.false_eq_true, Bool.not_true, Bool.not_false, Nat.add_zero, Nat.zero_add, Nat.reduceAdd]
  refine wpPi_assign _ rfl rfl ?_
  simp only [pl, pn, el, ec, sz, ss, gz, gs, if_true, if_false, Bool.false_eq_true, Bool.not_true, Bool.not_false, Nat.add_zero, Nat.zero_add, Nat.reduceAdd]
  refine wpPi_nil ?_
  go_wp2
  go_ret
  exact ⟨rfl, hG3⟩
theorem eg_differF : ∀ args w, (callFunc 59 args).run Tryz.prog w = .ok (.enter 59 args) w := enters_of Tryz.func59 (by kernel_rfl) rfl
def BinRel (l : List Leaf) (t : List UInt8) (w0 : World) (iv jv : Value) (w : World) : Prop := ∃ i j : Nat, iv = .int .i64 i ∧ jv = .int .i64 j ∧ i ≤ j ∧ j ≤ l.length ∧ (∀ q (_ : q < i) (h : q < l.length), l[q].way < t) ∧ (∀ h : j < l.length, ¬ l[j].way < t) ∧ Mod NoB w0 w
def BinR (l : List Leaf) (t : List UInt8) (w : World) : Ending → World → Prop := fun e w' => ∃ (k : Nat) (b : Bool), e = .returned (.tuple #[.int .i64 k, .bool b]) ∧ (b = true → ∃ h : k < l.length, l[k].way = t) ∧ (b = false → ∀ x ∈ l, x.way ≠ t) ∧ Mod NoB w w'
set_option maxRecDepth 10000 in
set_option maxHeartbeats 1000000 in
theorem binSearch_any {w : World} {G : Nat → Prop} {v : Value} {l : List Leaf} (h : Ls w G v l) (hp : Placed 0 l) (hlen : l.length ≤ 65536) (t : List UInt8) (ht : t.length = 32) :
    Calls Tryz.prog 58 #[v, .agg (idCells t), .func (.func 59) #[] #[]] w (BinR l t w) := by
  have HS := Lib.hid h
  have HP := Lib.hid hp
  obtain ⟨ad, cap, rfl, hlm, -⟩ := Sl.at h
  have h2 : (idCells t).size = 32 := by rw [idCells_size, ht]
  obtain ⟨C, hC⟩ : ∃ C, idCells t = C := ⟨_, rfl⟩
  have HC := Lib.hid hC
  rw [hC] at h2 ⊢
  clear h hC hp
  go_enter Tryz.func58, Tryz.ntmps58
  go_upto_region 0 with (fail)
  refine wp_region_seq [1, 3, 3] (fun _ => True) (by rfl) (by rfl) trivial ?_
  simp only [List.zip_cons_cons, List.zip_nil_right]
  refine wpPi_do rfl (fun K hK => ?_)
  refine wp_box 24 _ _ (by rfl) (by rfl) (fun w1 hB1 hm1 hs1 => ?_)
  replace hB1 : w1.heap[w.heap.size]? = some (.cells C 24 (0, 0)) := hB1
  refine hK _ _ trivial ?_
  clear hK K
  try simp only [pl, pn, el, ec, sz, ss, gz, gs, if_true, if_false, Bool.false_eq_true, Bool.not_true, Bool.not_false, Nat.add_zero, Nat.zero_add, Nat.reduceAdd]
  refine wpPi_assign _ rfl rfl ?_
  simp only [pl, pn, el, ec, sz, ss, gz, gs, if_true, if_false, Bool.false_eq_true, Bool.not_true, Bool.not_false, Nat.add_zero, Nat.zero_add, Nat.reduceAdd]
  refine wpPi_assign _ rfl rfl ?_
  simp only [pl, pn, el, ec, sz, ss, gz, gs, if_true, if_false, Bool.false_eq_true, Bool.not_true, Bool.not_false, Nat.add_zero, Nat.zero_add, Nat.reduceAdd]
  refine wpPi_nil ?_
  have hcb := CellsAt.whole hB1
  have HS1 := Lib.hid (HS.out.keep0 hm1)
  generalize w.heap.size = b4 at *
  clear hB1
  go_wp2
  go_loopw [9, 10] (BinRel l t w1) (fun i j _ => (intOf j).toNat - (intOf i).toNat)
  case atStart => exact ⟨0, l.length, rfl, rfl, by omega, by omega, fun q h1 h2 => by omega, fun h => by omega, Mod.refl _ _⟩
  case round =>
    rename World => wr
    obtain ⟨i, j, rfl, rfl, hij, hjn, hlo, hhi, hm⟩ := hrel
    have HLO := Lib.hid hlo
    have HHI := Lib.hid hhi
    clear hlo hhi
    have hcr := hcb.keep hm id
    by_cases hlt : i < j
    · have hz : (i : Int) < (j : Int) := by omega
      obtain ⟨q, hh⟩ : ∃ q, (i + j) / 2 = q := ⟨_, rfl⟩
      have hil : i ≤ q := by omega
      have hhj : q < j := by omega
      have hql : q < l.length := by omega
      have hcv1 : IntKind.u64.wrap ((i : Int) + (j : Int)) = ((i + j : Nat) : Int) := by simp [IntKind.wrap, IntKind.bits, IntKind.signed]; omega
      have HCV1 := Lib.hid hcv1
      clear hcv1
      go_upto_region 4 with (fail)
      refine wp_region_seq [3, 3, 3, 3, 3, 3, 3] (fun _ => True) (by rfl) (by rfl) trivial ?_
      simp only [List.zip_cons_cons, List.zip_nil_right]
      refine wpPi_move _ rfl rfl ?_
      simp only [pl, pn, el, ec, sz, ss, gz, gs, if_true, if_false, Bool.false_eq_true, Bool.not_true, Bool.not_false, Nat.add_zero, Nat.zero_add, Nat.reduceAdd]
      refine wpPi_move _ rfl rfl ?_
      simp only [pl, pn, el, ec, sz, ss, gz, gs, if_true, if_false, Bool.false_eq_true, Bool.not_true, Bool.not_false, Nat.add_zero, Nat.zero_add, Nat.reduceAdd]
      refine wpPi_addR _ _ _ _ (i : Int) (j : Int) ((i + j : Nat) : Int) rfl rfl rfl rfl (by omega) (by omega) (by omega) ?_
      simp only [pl, pn, el, ec, sz, ss, gz, gs, if_true, if_false, Bool.false_eq_true, Bool.not_true, Bool.not_false, Nat.add_zero, Nat.zero_add, Nat.reduceAdd]
      refine wpPi_any (v := .int .u64 ((i + j : Nat) : Int)) rfl (fun w' => exec_conv_uint 3 87 _ _ rfl rfl (by kernel_rfl) Tryz.underlying87 _ (by rw [Int.natCast_add]; exact HCV1.out)) ?_
      simp only [pl, pn, el, ec, sz, ss, gz, gs, if_true, if_false, Bool.false_eq_true, Bool.not_true, Bool.not_false, Nat.add_zero, Nat.zero_add, Nat.reduceAdd]
      refine wpPi_any (v := .int .u64 (q : Int)) rfl (fun w' => by rw [← hh]; exact exec_shr64 _ _ _ _ (i + j) .u64 1 rfl rfl rfl (by omega) (by omega)) ?_
      simp only [pl, pn, el, ec, sz, ss, gz, gs, if_true, if_false, Bool.false_eq_true, Bool.not_true, Bool.not_false, Nat.add_zero, Nat.zero_add, Nat.reduceAdd]
      refine wpPi_any (v := .int .i64 (q : Int)) rfl (fun w' => exec_conv_int 87 3 _ _ rfl rfl (by kernel_rfl) Tryz.underlying3 _ (wrap_in (by omega) (by omega))) ?_
      simp only [pl, pn, el, ec, sz, ss, gz, gs, if_true, if_false, Bool.false_eq_true, Bool.not_true, Bool.not_false, Nat.add_zero, Nat.zero_add, Nat.reduceAdd]
      refine wpPi_assign _ rfl rfl ?_
      simp only [pl, pn, el, ec, sz, ss, gz, gs, if_true, if_false, Bool.false_eq_true, Bool.not_true, Bool.not_false, Nat.add_zero, Nat.zero_add, Nat.reduceAdd]
      refine wpPi_nil ?_
      obtain ⟨_, _, hv, -, hat⟩ := Sl.at (HS1.out.keep0 hm)
      cases hv
      obtain ⟨b, off, rfl, -, -, hc⟩ := hat q hql
      obtain ⟨_, -, ⟨rfl, hok⟩, hc⟩ := hc q hql
      have hys := leafCells_size hok
      clear hat
      by_cases hless : l[q].way < t
      · have hcm : cmpI l[q].way t < 0 := (cmpI_neg _ _).2 hless
        have hstep : ∀ q' (_ : q' < q + 1) (h : q' < l.length), l[q'].way < t := fun q' h1 h2 => by
          rcases Nat.lt_or_ge q' q with h3 | h3
          · have := List.pairwise_iff_getElem.1 HP.out.rise q' q h2 hql h3
            exact List.lt_trans this hless
          · obtain rfl : q' = q := by omega
            exact hless
        have HST := Lib.hid hstep
        clear hstep hless
        generalize l[q] = y at *
        go_upto_region 5 with (fail)
        have hS : Mod NoB wr wr.drew := (Mod.refl _ _).drew
        refine wp_region_pi [(0, 3), (1, 3), (2, 3), (3, 3), (4, 0), (5, 0), (6, 1), (7, 3)] [] (fun w' => Mod NoB wr w') (by kernel_rfl) (by kernel_rfl) (by kernel_rfl) (by kernel_rfl) (fun _ _ _ _ hd h => ⟨hd.trans h.1, h.2⟩) hS ?_
        simp only [List.map_cons, List.map_nil, List.getD_cons_zero, List.getD_cons_succ]
        refine wpPi_move _ rfl rfl ?_
        simp only [pl, pn, el, ec, sz, ss, gz, gs, if_true, if_false, Bool.false_eq_true, Bool.not_true, Bool.not_false, Nat.add_zero, Nat.zero_add, Nat.reduceAdd]
        refine wpPi_move _ rfl rfl ?_
        simp only [pl, pn, el, ec, sz, ss, gz, gs, if_true, if_false, Bool.false_eq_true, Bool.not_true, Bool.not_false, Nat.add_zero, Nat.zero_add, Nat.reduceAdd]
        refine wpPi_move _ rfl rfl ?_
        simp only [pl, pn, el, ec, sz, ss, gz, gs, if_true, if_false, Bool.false_eq_true, Bool.not_true, Bool.not_false, Nat.add_zero, Nat.zero_add, Nat.reduceAdd]
        refine wpPi_index _ _ _ _ _ _ _ _ _ rfl rfl rfl rfl Tryz.underlying49 (n := 65) (by kernel_rfl) hql ?_
        simp only [pl, pn, el, ec, sz, ss, gz, gs, if_true, if_false, Bool.false_eq_true, Bool.not_true, Bool.not_false, Nat.add_zero, Nat.zero_add, Nat.reduceAdd]
        refine wpPi_val rfl (fun w' hS => exec_loadA 59 _ (by rfl) b (off + q * 65) (by rfl) (leafCells y) (hc.keep hS id) _ Tryz.underlying59 rfl 65 (by kernel_rfl) hys) ?_
        simp only [pl, pn, el, ec, sz, ss, gz, gs, if_true, if_false, Bool.false_eq_true, Bool.not_true, Bool.not_false, Nat.add_zero, Nat.zero_add, Nat.reduceAdd]
        refine wpPi_val rfl (fun w' hS => exec_loadA 24 _ (by rfl) b4 0 (by rfl) C (hcr.keep hS id) _ Tryz.underlying24 rfl 32 (by kernel_rfl) h2) ?_
        simp only [pl, pn, el, ec, sz, ss, gz, gs, if_true, if_false, Bool.false_eq_true, Bool.not_true, Bool.not_false, Nat.add_zero, Nat.zero_add, Nat.reduceAdd]
        refine wpPi_do rfl (fun K hK => ?_)
        refine wp_enterQ (run_callV 59 _ [.tmp 28, .tmp 29] _ #[] rfl rfl eg_differF [.agg (leafCells y), .agg C] rfl _) (by rw [← HC.out]; exact differF_any y t hok ht _) ?_
        rintro e w2 ⟨rfl, hm2⟩
        have hS2 := hS.trans0 hm2
        refine ⟨_, rfl, hK _ _ hS2 ?_⟩
        clear hK K
        try simp only [pl, pn, el, ec, sz, ss, gz, gs, if_true, if_false, Bool.false_eq_true, Bool.not_true, Bool.not_false, Nat.add_zero, Nat.zero_add, Nat.reduceAdd]
        refine wpPi_cmp _ _ _ _ _ _ _ _ rfl rfl rfl rfl rfl true (decide_eq_true hcm) ?_
        simp only [pl, pn, el, ec, sz, ss, gz, gs, if_true, if_false, Bool.false_eq_true, Bool.not_true, Bool.not_false, Nat.add_zero, Nat.zero_add, Nat.reduceAdd]
        refine wpPi_nil ?_
        have hMr := hm.trans0 hS2
        clear hm hS hS2 hm2 hc
        go_wp2
        go_roundw
        case rel => exact ⟨q + 1, j, by go_num, rfl, by omega, hjn, HST.out, HHI.out, hMr⟩
        case measure => simp [intOf]; omega
      · have hcm : ¬ cmpI l[q].way t < 0 := fun h => hless ((cmpI_neg _ _).1 h)
        have hstep : ∀ h : q < l.length, ¬ l[q].way < t := fun _ => hless
        have HST := Lib.hid hstep
        clear hstep hless
        generalize l[q] = y at hcm hok hc hys
        go_upto_region 5 with (fail)
        have hS : Mod NoB wr wr.drew := (Mod.refl _ _).drew
        refine wp_region_pi [(0, 3), (1, 3), (2, 3), (3, 3), (4, 0), (5, 0), (6, 1), (7, 3)] [] (fun w' => Mod NoB wr w') (by kernel_rfl) (by kernel_rfl) (by kernel_rfl) (by kernel_rfl) (fun _ _ _ _ hd h => ⟨hd.trans h.1, h.2⟩) hS ?_
        simp only [List.map_cons, List.map_nil, List.getD_cons_zero, List.getD_cons_succ]
        refine wpPi_move _ rfl rfl ?_
        simp only [pl, pn, el, ec, sz, ss, gz, gs, if_true, if_false, Bool.false_eq_true, Bool.not_true, Bool.not_false, Nat.add_zero, Nat.zero_add, Nat.reduceAdd]
        refine wpPi_move _ rfl rfl ?_
        simp only [pl, pn, el, ec, sz, ss, gz, gs, if_true, if_false, Bool.false_eq_true, Bool.not_true, Bool.not_false, Nat.add_zero, Nat.zero_add, Nat.reduceAdd]
        refine wpPi_move _ rfl rfl ?_
        simp only [pl, pn, el, ec, sz, ss, gz, gs, if_true, if_false, Bool.false_eq_true, Bool.not_true, Bool.not_false, Nat.add_zero, Nat.zero_add, Nat.reduceAdd]
        refine wpPi_index _ _ _ _ _ _ _ _ _ rfl rfl rfl rfl Tryz.underlying49 (n := 65) (by kernel_rfl) hql ?_
        simp only [pl, pn, el, ec, sz, ss, gz, gs, if_true, if_false, Bool.false_eq_true, Bool.not_true, Bool.not_false, Nat.add_zero, Nat.zero_add, Nat.reduceAdd]
        refine wpPi_val rfl (fun w' hS => exec_loadA 59 _ (by rfl) b (off + q * 65) (by rfl) (leafCells y) (hc.keep hS id) _ Tryz.underlying59 rfl 65 (by kernel_rfl) hys) ?_
        simp only [pl, pn, el, ec, sz, ss, gz, gs, if_true, if_false, Bool.false_eq_true, Bool.not_true, Bool.not_false, Nat.add_zero, Nat.zero_add, Nat.reduceAdd]
        refine wpPi_val rfl (fun w' hS => exec_loadA 24 _ (by rfl) b4 0 (by rfl) C (hcr.keep hS id) _ Tryz.underlying24 rfl 32 (by kernel_rfl) h2) ?_
        simp only [pl, pn, el, ec, sz, ss, gz, gs, if_true, if_false, Bool.false_eq_true, Bool.not_true, Bool.not_false, Nat.add_zero, Nat.zero_add, Nat.reduceAdd]
        refine wpPi_do rfl (fun K hK => ?_)
        refine wp_enterQ (run_callV 59 _ [.tmp 28, .tmp 29] _ #[] rfl rfl eg_differF [.agg (leafCells y), .agg C] rfl _) (by rw [← HC.out]; exact differF_any y t hok ht _) ?_
        rintro e w2 ⟨rfl, hm2⟩
        have hS2 := hS.trans0 hm2
        refine ⟨_, rfl, hK _ _ hS2 ?_⟩
        clear hK K
        try simp only [pl, pn, el, ec, sz, ss, gz, gs, if_true, if_false, Bool.false_eq_true, Bool.not_true, Bool.not_false, Nat.add_zero, Nat.zero_add, Nat.reduceAdd]
        refine wpPi_cmp _ _ _ _ _ _ _ _ rfl rfl rfl rfl rfl false (decide_eq_false hcm) ?_
        simp only [pl, pn, el, ec, sz, ss, gz, gs, if_true, if_false, Bool.false_eq_true, Bool.not_true, Bool.not_false, Nat.add_zero, Nat.zero_add, Nat.reduceAdd]
        refine wpPi_nil ?_
        have hMr := hm.trans0 hS2
        clear hm hS hS2 hm2 hc
        go_wp2
        go_roundw
        case rel => exact ⟨i, q, rfl, rfl, hil, by omega, HLO.out, HST.out, hMr⟩
        case measure => simp [intOf]; omega
    · have hz : ¬ (i : Int) < (j : Int) := by omega
      obtain rfl : i = j := by omega
      by_cases hil : i < l.length
      · have hz2 : (i : Int) < (l.length : Int) := by omega
        obtain ⟨_, _, hv, -, hat⟩ := Sl.at (HS1.out.keep0 hm)
        cases hv
        obtain ⟨b, off, rfl, -, -, hc⟩ := hat i hil
        obtain ⟨_, -, ⟨rfl, hok⟩, hc⟩ := hc i hil
        have hys := leafCells_size hok
        clear hat
        by_cases heq : l[i].way = t
        · have hcm : cmpI l[i].way t = 0 := (cmpI_zero _ _).2 heq
          have hout : ∃ h : i < l.length, l[i].way = t := ⟨hil, heq⟩
          have HO := Lib.hid hout
          clear heq hout
          generalize l[i] = y at hcm hok hc hys
          go_upto_region 8 with (fail)
          have hS : Mod NoB wr wr.drew := (Mod.refl _ _).drew
          refine wp_region_pi [(0, 3), (1, 3), (2, 3), (3, 3), (4, 3), (5, 3), (6, 3), (7, 3), (8, 3), (9, 0), (10, 0), (11, 1), (12, 3), (13, 3), (14, 3), (15, 3)] [] (fun w' => Mod NoB wr w') (by kernel_rfl) (by kernel_rfl) (by kernel_rfl) (by kernel_rfl) (fun _ _ _ _ hd h => ⟨hd.trans h.1, h.2⟩) hS ?_
          simp only [List.map_cons, List.map_nil, List.getD_cons_zero, List.getD_cons_succ]
          refine wpPi_move _ rfl rfl ?_
          simp only [pl, pn, el, ec, sz, ss, gz, gs, if_true, if_false, Bool.false_eq_true, Bool.not_true, Bool.not_false, Nat.add_zero, Nat.zero_add, Nat.reduceAdd]
          refine wpPi_move _ rfl rfl ?_
          simp only [pl, pn, el, ec, sz, ss, gz, gs, if_true, if_false, Bool.false_eq_true, Bool.not_true, Bool.not_false, Nat.add_zero, Nat.zero_add, Nat.reduceAdd]
          refine wpPi_move _ rfl rfl ?_
          simp only [pl, pn, el, ec, sz, ss, gz, gs, if_true, if_false, Bool.false_eq_true, Bool.not_true, Bool.not_false, Nat.add_zero, Nat.zero_add, Nat.reduceAdd]
          refine wpPi_cmp _ _ _ _ _ _ _ _ rfl rfl rfl rfl rfl true (decide_eq_true hz2) ?_
          simp only [pl, pn, el, ec, sz, ss, gz, gs, if_true, if_false, Bool.false_eq_true, Bool.not_true, Bool.not_false, Nat.add_zero, Nat.zero_add, Nat.reduceAdd]
          refine wpPi_move _ rfl rfl ?_
          simp only [pl, pn, el, ec, sz, ss, gz, gs, if_true, if_false, Bool.false_eq_true, Bool.not_true, Bool.not_false, Nat.add_zero, Nat.zero_add, Nat.reduceAdd]
          refine wpPi_move _ rfl rfl ?_
          simp only [pl, pn, el, ec, sz, ss, gz, gs, if_true, if_false, Bool.false_eq_true, Bool.not_true, Bool.not_false, Nat.add_zero, Nat.zero_add, Nat.reduceAdd]
          refine wpPi_move _ rfl rfl ?_
          simp only [pl, pn, el, ec, sz, ss, gz, gs, if_true, if_false, Bool.false_eq_true, Bool.not_true, Bool.not_false, Nat.add_zero, Nat.zero_add, Nat.reduceAdd]
          refine wpPi_move _ rfl rfl ?_
          simp only [pl, pn, el, ec, sz, ss, gz, gs, if_true, if_false, Bool.false_eq_true, Bool.not_true, Bool.not_false, Nat.add_zero, Nat.zero_add, Nat.reduceAdd]
          refine wpPi_index _ _ _ _ _ _ _ _ _ rfl rfl rfl rfl Tryz.underlying49 (n := 65) (by kernel_rfl) hil ?_
          simp only [pl, pn, el, ec, sz, ss, gz, gs, if_true, if_false, Bool.false_eq_true, Bool.not_true, Bool.not_false, Nat.add_zero, Nat.zero_add, Nat.reduceAdd]
          refine wpPi_val rfl (fun w' hS => exec_loadA 59 _ (by rfl) b (off + i * 65) (by rfl) (leafCells y) (hc.keep hS id) _ Tryz.underlying59 rfl 65 (by kernel_rfl) hys) ?_
          simp only [pl, pn, el, ec, sz, ss, gz, gs, if_true, if_false, Bool.false_eq_true, Bool.not_true, Bool.not_false, Nat.add_zero, Nat.zero_add, Nat.reduceAdd]
          refine wpPi_val rfl (fun w' hS => exec_loadA 24 _ (by rfl) b4 0 (by rfl) C (hcr.keep hS id) _ Tryz.underlying24 rfl 32 (by kernel_rfl) h2) ?_
          simp only [pl, pn, el, ec, sz, ss, gz, gs, if_true, if_false, Bool.false_eq_true, Bool.not_true, Bool.not_false, Nat.add_zero, Nat.zero_add, Nat.reduceAdd]
          refine wpPi_do rfl (fun K hK => ?_)
          refine wp_enterQ (run_callV 59 _ [.tmp 44, .tmp 45] _ #[] rfl rfl eg_differF [.agg (leafCells y), .agg C] rfl _) (by rw [← HC.out]; exact differF_any y t hok ht _) ?_
          rintro e w2 ⟨rfl, hm2⟩
          have hS2 := hS.trans0 hm2
          refine ⟨_, rfl, hK _ _ hS2 ?_⟩
          clear hK K
          try simp only [pl, pn, el, ec, sz, ss, gz, gs, if_true, if_false, Bool.false_eq_true, Bool.not_true, Bool.not_false, Nat.add_zero, Nat.zero_add, Nat.reduceAdd]
          refine wpPi_cmp _ _ _ _ _ _ _ _ rfl rfl rfl rfl rfl true (decide_eq_true hcm) ?_
          simp only [pl, pn, el, ec, sz, ss, gz, gs, if_true, if_false, Bool.false_eq_true, Bool.not_true, Bool.not_false, Nat.add_zero, Nat.zero_add, Nat.reduceAdd]
          refine wpPi_pick _ _ _ _ rfl rfl rfl ?_
          simp only [pl, pn, el, ec, sz, ss, gz, gs, if_true, if_false, Bool.false_eq_true, Bool.not_true, Bool.not_false, Nat.add_zero, Nat.zero_add, Nat.reduceAdd]
          refine wpPi_assign _ rfl rfl ?_
          simp only [pl, pn, el, ec, sz, ss, gz, gs, if_true, if_false, Bool.false_eq_true, Bool.not_true, Bool.not_false, Nat.add_zero, Nat.zero_add, Nat.reduceAdd]
          refine wpPi_assign _ rfl rfl ?_
          simp only [pl, pn, el, ec, sz, ss, gz, gs, if_true, if_false, Bool.false_eq_true, Bool.not_true, Bool.not_false, Nat.add_zero, Nat.zero_add, Nat.reduceAdd]
          refine wpPi_nil ?_
          have hMr := hm1.trans0 (hm.trans0 hS2)
          clear hm hS hS2 hm2 hc
          go_wp2
          go_ret2
          exact ⟨i, true, rfl, fun _ => HO.out, (fun h => by cases h), hMr⟩
        · have hcm : ¬ cmpI l[i].way t = 0 := fun h => heq ((cmpI_zero _ _).1 h)
          have hout : ∀ x ∈ l, x.way ≠ t := fun x hx e => by
            obtain ⟨q, hq, rfl⟩ := List.getElem_of_mem hx
            rcases Nat.lt_trichotomy q i with h3 | h3 | h3
            · have := HLO.out q h3 hq
              rw [e] at this; exact List.lt_irrefl _ this
            · subst h3; exact heq e
            · have h4 := List.pairwise_iff_getElem.1 HP.out.rise i q hil hq h3
              rw [e] at h4
              exact HHI.out hil h4
          have HO := Lib.hid hout
          clear heq hout
          generalize l[i] = y at hcm hok hc hys
          go_upto_region 8 with (fail)
          have hS : Mod NoB wr wr.drew := (Mod.refl _ _).drew
          refine wp_region_pi [(0, 3), (1, 3), (2, 3), (3, 3), (4, 3), (5, 3), (6, 3), (7, 3), (8, 3), (9, 0), (10, 0), (11, 1), (12, 3), (13, 3), (14, 3), (15, 3)] [] (fun w' => Mod NoB wr w') (by kernel_rfl) (by kernel_rfl) (by kernel_rfl) (by kernel_rfl) (fun _ _ _ _ hd h => ⟨hd.trans h.1, h.2⟩) hS ?_
          simp only [List.map_cons, List.map_nil, List.getD_cons_zero, List.getD_cons_succ]
          refine wpPi_move _ rfl rfl ?_
          simp only [pl, pn, el, ec, sz, ss, gz, gs, if_true, if_false, Bool.false_eq_true, Bool.not_true, Bool.not_false, Nat.add_zero, Nat.zero_add, Nat.reduceAdd]
          refine wpPi_move _ rfl rfl ?_
          simp only [pl, pn, el, ec, sz, ss, gz, gs, if_true, if_false, Bool.false_eq_true, Bool.not_true, Bool.not_false, Nat.add_zero, Nat.zero_add, Nat.reduceAdd]
          refine wpPi_move _ rfl rfl ?_
          simp only [pl, pn, el, ec, sz, ss, gz, gs, if_true, if_false, Bool.false_eq_true, Bool.not_true, Bool.not_false, Nat.add_zero, Nat.zero_add, Nat.reduceAdd]
          refine wpPi_cmp _ _ _ _ _ _ _ _ rfl rfl rfl rfl rfl true (decide_eq_true hz2) ?_
          simp only [pl, pn, el, ec, sz, ss, gz, gs, if_true, if_false, Bool.false_eq_true, Bool.not_true, Bool.not_false, Nat.add_zero, Nat.zero_add, Nat.reduceAdd]
          refine wpPi_move _ rfl rfl ?_
          simp only [pl, pn, el, ec, sz, ss, gz, gs, if_true, if_false, Bool.false_eq_true, Bool.not_true, Bool.not_false, Nat.add_zero, Nat.zero_add, Nat.reduceAdd]
          refine wpPi_move _ rfl rfl ?_
          simp only [pl, pn, el, ec, sz, ss, gz, gs, if_true, if_false, Bool.false_eq_true, Bool.not_true, Bool.not_false, Nat.add_zero, Nat.zero_add, Nat.reduceAdd]
          refine wpPi_move _ rfl rfl ?_
          simp only [pl, pn, el, ec, sz, ss, gz, gs, if_true, if_false, Bool.false_eq_true, Bool.not_true, Bool.not_false, Nat.add_zero, Nat.zero_add, Nat.reduceAdd]
          refine wpPi_move _ rfl rfl ?_
          simp only [pl, pn, el, ec, sz, ss, gz, gs, if_true, if_false, Bool.false_eq_true, Bool.not_true, Bool.not_false, Nat.add_zero, Nat.zero_add, Nat.reduceAdd]
          refine wpPi_index _ _ _ _ _ _ _ _ _ rfl rfl rfl rfl Tryz.underlying49 (n := 65) (by kernel_rfl) hil ?_
          simp only [pl, pn, el, ec, sz, ss, gz, gs, if_true, if_false, Bool.false_eq_true, Bool.not_true, Bool.not_false, Nat.add_zero, Nat.zero_add, Nat.reduceAdd]
          refine wpPi_val rfl (fun w' hS => exec_loadA 59 _ (by rfl) b (off + i * 65) (by rfl) (leafCells y) (hc.keep hS id) _ Tryz.underlying59 rfl 65 (by kernel_rfl) hys) ?_
          simp only [pl, pn, el, ec, sz, ss, gz, gs, if_true, if_false, Bool.false_eq_true, Bool.not_true, Bool.not_false, Nat.add_zero, Nat.zero_add, Nat.reduceAdd]
          refine wpPi_val rfl (fun w' hS => exec_loadA 24 _ (by rfl) b4 0 (by rfl) C (hcr.keep hS id) _ Tryz.underlying24 rfl 32 (by kernel_rfl) h2) ?_
          simp only [pl, pn, el, ec, sz, ss, gz, gs, if_true, if_false, Bool.false_eq_true, Bool.not_true, Bool.not_false, Nat.add_zero, Nat.zero_add, Nat.reduceAdd]
          refine wpPi_do rfl (fun K hK => ?_)
          refine wp_enterQ (run_callV 59 _ [.tmp 44, .tmp 45] _ #[] rfl rfl eg_differF [.agg (leafCells y), .agg C] rfl _) (by rw [← HC.out]; exact differF_any y t hok ht _) ?_
          rintro e w2 ⟨rfl, hm2⟩
          have hS2 := hS.trans0 hm2
          refine ⟨_, rfl, hK _ _ hS2 ?_⟩
          clear hK K
          try simp only [pl, pn, el, ec, sz, ss, gz, gs, if_true, if_false, Bool.false_eq_true, Bool.not_true, Bool.not_false, Nat.add_zero, Nat.zero_add, Nat.reduceAdd]
          refine wpPi_cmp _ _ _ _ _ _ _ _ rfl rfl rfl rfl rfl false (decide_eq_false hcm) ?_
          simp only [pl, pn, el, ec, sz, ss, gz, gs, if_true, if_false, Bool.false_eq_true, Bool.not_true, Bool.not_false, Nat.add_zero, Nat.zero_add, Nat.reduceAdd]
          refine wpPi_pick _ _ _ _ rfl rfl rfl ?_
          simp only [pl, pn, el, ec, sz, ss, gz, gs, if_true, if_false, Bool.false_eq_true, Bool.not_true, Bool.not_false, Nat.add_zero, Nat.zero_add, Nat.reduceAdd]
          refine wpPi_assign _ rfl rfl ?_
          simp only [pl, pn, el, ec, sz, ss, gz, gs, if_true, if_false, Bool.false_eq_true, Bool.not_true, Bool.not_false, Nat.add_zero, Nat.zero_add, Nat.reduceAdd]
          refine wpPi_assign _ rfl rfl ?_
          simp only [pl, pn, el, ec, sz, ss, gz, gs, if_true, if_false, Bool.false_eq_true, Bool.not_true, Bool.not_false, Nat.add_zero, Nat.zero_add, Nat.reduceAdd]
          refine wpPi_nil ?_
          have hMr := hm1.trans0 (hm.trans0 hS2)
          clear hm hS hS2 hm2 hc
          go_wp2
          go_ret2
          exact ⟨i, false, rfl, (fun h => by cases h), fun _ => HO.out, hMr⟩
      · have hz2 : ¬ (i : Int) < (l.length : Int) := by omega
        have hout : ∀ x ∈ l, x.way ≠ t := fun x hx e => by
          obtain ⟨q, hq, rfl⟩ := List.getElem_of_mem hx
          have := HLO.out q (by omega) hq
          rw [e] at this; exact List.lt_irrefl _ this
        have HO := Lib.hid hout
        clear hout
        go_upto_region 8 with (fail)
        have hS : Mod NoB wr wr.drew := (Mod.refl _ _).drew
        refine wp_region_pi [(0, 3), (1, 3), (2, 3), (3, 3), (4, 3), (5, 3), (6, 3), (7, 3), (8, 3), (9, 0), (10, 0), (11, 1), (12, 3), (13, 3), (14, 3), (15, 3)] [] (fun w' => Mod NoB wr w') (by kernel_rfl) (by kernel_rfl) (by kernel_rfl) (by kernel_rfl) (fun _ _ _ _ hd h => ⟨hd.trans h.1, h.2⟩) hS ?_
        simp only [List.map_cons, List.map_nil, List.getD_cons_zero, List.getD_cons_succ]
        refine wpPi_move _ rfl rfl ?_
        simp only [pl, pn, el, ec, sz, ss, gz, gs, if_true, if_false, Bool.false_eq_true, Bool.not_true, Bool.not_false, Nat.add_zero, Nat.zero_add, Nat.reduceAdd]
        refine wpPi_move _ rfl rfl ?_
        simp only [pl, pn, el, ec, sz, ss, gz, gs, if_true, if_false, Bool.false_eq_true, Bool.not_true, Bool.not_false, Nat.add_zero, Nat.zero_add, Nat.reduceAdd]
        refine wpPi_move _ rfl rfl ?_
        simp only [pl, pn, el, ec, sz, ss, gz, gs, if_true, if_false, Bool.false_eq_true, Bool.not_true, Bool.not_false, Nat.add_zero, Nat.zero_add, Nat.reduceAdd]
        refine wpPi_cmp _ _ _ _ _ _ _ _ rfl rfl rfl rfl rfl false (decide_eq_false hz2) ?_
        simp only [pl, pn, el, ec, sz, ss, gz, gs, if_true, if_false, Bool.false_eq_true, Bool.not_true, Bool.not_false, Nat.add_zero, Nat.zero_add, Nat.reduceAdd]
        refine wpPi_move _ rfl rfl ?_
        simp only [pl, pn, el, ec, sz, ss, gz, gs, if_true, if_false, Bool.false_eq_true, Bool.not_true, Bool.not_false, Nat.add_zero, Nat.zero_add, Nat.reduceAdd]
        refine wpPi_skip rfl ?_
        simp only [pl, pn, el, ec, sz, ss, gz, gs, if_true, if_false, Bool.false_eq_true, Bool.not_true, Bool.not_false, Nat.add_zero, Nat.zero_add, Nat.reduceAdd]
        refine wpPi_skip rfl ?_
        simp only [pl, pn, el, ec, sz, ss, gz, gs, if_true, if_false, Bool.false_eq_true, Bool.not_true, Bool.not_false, Nat.add_zero, Nat.zero_add, Nat.reduceAdd]
        refine wpPi_skip rfl ?_
        simp only [pl, pn, el, ec, sz, ss, gz, gs, if_true, if_false, Bool.false_eq_true, Bool.not_true, Bool.not_false, Nat.add_zero, Nat.zero_add, Nat.reduceAdd]
        refine wpPi_skip rfl ?_
        simp only [pl, pn, el, ec, sz, ss, gz, gs, if_true, if_false, Bool.false_eq_true, Bool.not_true, Bool.not_false, Nat.add_zero, Nat.zero_add, Nat.reduceAdd]
        refine wpPi_skip0 rfl ?_
        simp only [pl, pn, el, ec, sz, ss, gz, gs, if_true, if_false, Bool.false_eq_true, Bool.not_true, Bool.not_false, Nat.add_zero, Nat.zero_add, Nat.reduceAdd]
        refine wpPi_skip0 rfl ?_
        simp only [pl, pn, el, ec, sz, ss, gz, gs, if_true, if_false, Bool.false_eq_true, Bool.not_true, Bool.not_false, Nat.add_zero, Nat.zero_add, Nat.reduceAdd]
        refine wpPi_do_skip rfl hS ?_
        simp only [pl, pn, el, ec, sz, ss, gz, gs, if_true, if_false, Bool.false_eq_true, Bool.not_true, Bool.not_false, Nat.add_zero, Nat.zero_add, Nat.reduceAdd]
        refine wpPi_skip rfl ?_
        simp only [pl, pn, el, ec, sz, ss, gz, gs, if_true, if_false, Bool.false_eq_true, Bool.not_true, Bool.not_false, Nat.add_zero, Nat.zero_add, Nat.reduceAdd]
        refine wpPi_pick _ _ _ _ rfl rfl rfl ?_
        simp only [pl, pn, el, ec, sz, ss, gz, gs, if_true, if_false, Bool.false_eq_true, Bool.not_true, Bool.not_false, Nat.add_zero, Nat.zero_add, Nat.reduceAdd]
        refine wpPi_assign _ rfl rfl ?_
        simp only [pl, pn, el, ec, sz, ss, gz, gs, if_true, if_false, Bool.false_eq_true, Bool.not_true, Bool.not_false, Nat.add_zero, Nat.zero_add, Nat.reduceAdd]
        refine wpPi_assign _ rfl rfl ?_
        simp only [pl, pn, el, ec, sz, ss, gz, gs, if_true, if_false, Bool.false_eq_true, Bool.not_true, Bool.not_false, Nat.add_zero, Nat.zero_add, Nat.reduceAdd]
        refine wpPi_nil ?_
        have hMr := hm1.trans0 (hm.trans0 hS)
        clear hm hS
        go_wp2
        go_ret2
        exact ⟨i, false, rfl, (fun h => by cases h), fun _ => HO.out, hMr⟩
end Go.Proofs.YtchkikmmcmjcgaaGreat

/- tree.Differ: which keys differ. -/
namespace Go.Proofs.YtchkikmmcmjcgaaGreat
set_option linter.unusedSimpArgs false
set_option linter.unusedVariables false
set_option linter.unnecessarySimpa false
set_option linter.unusedSectionVars false
open Go.RowKit Go.Shelf


theorem exec_index_agg1 {P : Program} {w : World} {o : Oper} {a : Act} (t e : TypeId) (x y : Operand) (n : Nat) (cs : Array Value) (i : Nat) (c : Value) (ho : o.op = .index t x y) (hx : a.eval x = .agg cs) (hy : a.eval y = .int .i64 (i : Int)) (hu : P.underlying t = some (.array n e)) (hs : (P.info? e).map (·.size) = some 1)
    (hag : ∀ w, (isAgg e).run P w = .ok false w) (hlt : i < n) (hc : cs[i]? = some c) : (execOp a.eval o).run P w = .ok (.value c) w := by
  have hsz : ∀ w, (sizeOf e).run P w = .ok 1 w := fun w => by
    cases hq : P.info? e with
    | none => simp [hq] at hs
    | some i => simp [hq] at hs; simp [sizeOf, typeInfo, hq, hs]
  have hi : (0 : Int) ≤ (i : Int) ∧ (i : Int) < (n : Int) := by omega
  unfold execOp
  simp only [ho, hx, hy]
  have hr : (Instr.index t (.agg cs) (.int .i64 (i : Int))).run P w = .ok c w := by
    unfold Instr.index
    simp only [Sem.run_bind, asIntOf, Sem.run_pure, Result.andThen_ok, run_underlying hu, hi, and_self, if_true, hsz, Int.toNat_natCast, Nat.mul_one]
    unfold part
    simp [hag, hc]
  simp only [Sem.run_bind, hr, Result.andThen_ok, Sem.run_pure]
theorem isAggS (w : World) : (isAgg 22).run Tryz.prog w = .ok false w := by
  unfold isAgg
  rw [Sem.run_bind, run_underlying Tryz.underlying22 w]; rfl
theorem built_a2 (a1 a2 : Option Addr) (n1 n2 c1 c2 : Nat) : Tryz.prog.built 99 [(0, .slice a1 n1 c1), (1, .slice a2 n2 c2)] = some #[.slice a1 n1 c1, .slice a2 n2 c2] := by kernel_rfl
def DifOk (a b : List Ent) (ks : List ByteArray) (n : Nat) : Prop := (errD a b = 0 → Rise (difE a b).1 ks ∧ n = (difE a b).2) ∧ (errD a b ≠ 0 → ks = [] ∧ n = 0)
def DfR (w : World) (a b : List Ent) : Ending → World → Prop := fun e w' => ∃ v ks n, e = .returned (.tuple #[v, .int .i64 ((n : Nat) : Int), .int .i64 ((errD a b : Nat) : Int)]) ∧ Gat strEnc 9 1 w.heap.size w' v ks ∧ DifOk a b ks n ∧ Mod NoB w w'
def DfRel1 (a b : List Ent) (w0 : World) (i : Value) (w : World) : Prop := ∃ k : Nat, k ≤ 2 ∧ i = .int .i64 k ∧ (1 ≤ k → chkE a = 0) ∧ (2 ≤ k → chkE b = 0) ∧ Mod NoB w0 w
def DfRel2 (la lb : List Leaf) (w0 : World) (i : Value) (w : World) : Prop := ∃ k : Nat, k ≤ la.length ∧ i = .int .i64 k ∧ (∀ j (_ : j < k) (h : j < la.length), ∀ y ∈ lb, y.way = la[j].way → y.key = la[j].key) ∧ Mod NoB w0 w
theorem Lie.eq_of_way {i : Nat} {l : List Leaf} (h : Lie i l) {x y : Leaf} (hx : x ∈ l) (hy : y ∈ l) (e : x.way = y.way) : x = y := by
  obtain ⟨p, hp, rfl⟩ := List.getElem_of_mem hx
  obtain ⟨q, hq, rfl⟩ := List.getElem_of_mem hy
  have k : ∀ p q, (hp : p < l.length) → (hq : q < l.length) → p < q → l[p].way ≠ l[q].way := fun p q hp hq hpq => by
    have := List.pairwise_iff_getElem.1 h.nd p q (by simpa using hp) (by simpa using hq) hpq
    simpa using this
  rcases Nat.lt_trichotomy p q with h3 | h3 | h3
  · exact absurd e (k p q hp hq h3)
  · subst h3; rfl
  · exact absurd e.symm (k q p hq hp h3)
theorem difOk_of {a b : List Ent} {la lb : List Leaf} (ha : Sorted a la) (hb : Sorted b lb) (h : errD a b = 0) : DifOk a b (compB (sortB (dif 256 0 la lb).1)) (dif 256 0 la lb).2 := by
  have hp := dif_perm 256 0 ha.1 hb.1
  refine ⟨fun _ => ⟨?_, hp.2⟩, fun h' => absurd h h'⟩
  obtain ⟨h1, h2⟩ := rise_sorted (dif 256 0 la lb).1
  exact ⟨h1, fun x => by rw [h2 x]; exact hp.1.mem_iff⟩
set_option maxRecDepth 10000 in
set_option maxHeartbeats 2000000 in
theorem treeDiffer_any {own own' : Bool} {w : World} {G G' : Nat → Prop} {va vb : Value} {a b : List Ent} (ha : Es own w G va a) (hb : Es own' w G' vb b) (hsa : Short a) (hsb : Short b) (hla : a.length ≤ 4096) (hlb : b.length ≤ 4096) :
    Calls Tryz.prog 41 #[va, vb] w (DfR w a b) := by
  have HA := Lib.hid ha
  have HB := Lib.hid hb
  have HSA := Lib.hid hsa
  have HSB := Lib.hid hsb
  obtain ⟨aa, ca, rfl, -, -⟩ := Sl.at ha
  obtain ⟨ab, cb, rfl, -, -⟩ := Sl.at hb
  have hbt := built_a2 aa ab a.length b.length ca cb
  clear ha hb hsa hsb
  go_enter Tryz.func41, Tryz.ntmps41
  go_upto_region 1 with (fail)
  refine wp_region_seq [3, 3, 0, 3] (fun _ => True) (by rfl) (by rfl) trivial ?_
  simp only [List.zip_cons_cons, List.zip_nil_right]
  refine wpPi_move _ rfl rfl ?_
  simp only [pl, pn, el, ec, sz, ss, gz, gs, if_true, if_false, Bool.false_eq_true, Bool.not_true, Bool.not_false, Nat.add_zero, Nat.zero_add, Nat.reduceAdd]
  refine wpPi_move _ rfl rfl ?_
  simp only [pl, pn, el, ec, sz, ss, gz, gs, if_true, if_false, Bool.false_eq_true, Bool.not_true, Bool.not_false, Nat.add_zero, Nat.zero_add, Nat.reduceAdd]
  refine wpPi_val rfl (fun w' hS => exec_build_of 99 [(0, _), (1, _)] [(0, .slice aa a.length ca), (1, .slice ab b.length cb)] _ (by rfl) (by rfl) hbt) ?_
  simp only [pl, pn, el, ec, sz, ss, gz, gs, if_true, if_false, Bool.false_eq_true, Bool.not_true, Bool.not_false, Nat.add_zero, Nat.zero_add, Nat.reduceAdd]
  refine wpPi_move _ rfl rfl ?_
  simp only [pl, pn, el, ec, sz, ss, gz, gs, if_true, if_false, Bool.false_eq_true, Bool.not_true, Bool.not_false, Nat.add_zero, Nat.zero_add, Nat.reduceAdd]
  refine wpPi_nil ?_
  clear hbt
  go_wp2
  go_loopw [20] (DfRel1 a b w) (fun i _ => 2 - (intOf i).toNat)
  case atStart => exact ⟨0, by omega, rfl, fun h => by omega, fun h => by omega, Mod.refl _ _⟩
  case round =>
    rename World => wr
    obtain ⟨k, hk, rfl, hk1, hk2, hm⟩ := hrel
    have hk3 : k = 0 ∨ k = 1 ∨ k = 2 := by omega
    rcases hk3 with rfl | rfl | rfl
    · have hz : ((0 : Nat) : Int) < 2 := by omega
      go_upto_region 3 with (fail)
      refine wp_region_seq [0, 3] (fun _ => True) (by rfl) (by rfl) trivial ?_
      simp only [List.zip_cons_cons, List.zip_nil_right]
      refine wpPi_val rfl (fun w' hS => exec_index_agg1 99 22 _ _ 2 _ 0 (.slice aa a.length ca) rfl rfl rfl Tryz.underlying99 (by kernel_rfl) isAggS (by omega) rfl) ?_
      simp only [pl, pn, el, ec, sz, ss, gz, gs, if_true, if_false, Bool.false_eq_true, Bool.not_true, Bool.not_false, Nat.add_zero, Nat.zero_add, Nat.reduceAdd]
      refine wpPi_assign _ rfl rfl ?_
      simp only [pl, pn, el, ec, sz, ss, gz, gs, if_true, if_false, Bool.false_eq_true, Bool.not_true, Bool.not_false, Nat.add_zero, Nat.zero_add, Nat.reduceAdd]
      refine wpPi_nil ?_
      go_upto_region 4 with (fail)
      refine wp_region_seq [3, 1, 3] (fun _ => True) (by rfl) (by rfl) trivial ?_
      simp only [List.zip_cons_cons, List.zip_nil_right]
      refine wpPi_move _ rfl rfl ?_
      simp only [pl, pn, el, ec, sz, ss, gz, gs, if_true, if_false, Bool.false_eq_true, Bool.not_true, Bool.not_false, Nat.add_zero, Nat.zero_add, Nat.reduceAdd]
      refine wpPi_do rfl (fun K hK => ?_)
      refine wp_enterQ (run_call 12 [.tmp 23] _ rfl _ Tryz.func12 rfl (by kernel_rfl) [.slice aa a.length ca] rfl _) (check_any (HA.out.keep0 hm) HSA.out hla) ?_
      rintro e w2 ⟨rfl, hm2⟩
      have hM2 := hm.trans0 hm2
      refine ⟨_, rfl, hK _ _ trivial ?_⟩
      clear hK K
      try simp only [pl, pn, el, ec, sz, ss, gz, gs, if_true, if_false, Bool.false_eq_true, Bool.not_true, Bool.not_false, Nat.add_zero, Nat.zero_add, Nat.reduceAdd]
      refine wpPi_assign _ rfl rfl ?_
      simp only [pl, pn, el, ec, sz, ss, gz, gs, if_true, if_false, Bool.false_eq_true, Bool.not_true, Bool.not_false, Nat.add_zero, Nat.zero_add, Nat.reduceAdd]
      refine wpPi_nil ?_
      clear hm hm2
      by_cases hc : chkE a = 0
      · have HC := Lib.hid hc
        rw [hc]
        clear hc hk1 hk2
        go_wp2
        go_roundw
        case rel => exact ⟨1, by omega, by go_num, fun _ => HC.out, fun h => by omega, hM2⟩
        case measure => simp [intOf]
      · have hc2 : ¬ ((chkE a : Nat) : Int) = 0 := by omega
        have hee : errD a b = chkE a := by unfold errD; rw [if_pos hc]
        have hok : DifOk a b [] 0 := ⟨fun h => absurd (hee ▸ h) hc, fun _ => ⟨rfl, rfl⟩⟩
        have HO := Lib.hid hok
        have HE := Lib.hid hee
        clear hc hee hok hk1 hk2
        go_wp2
        go_ret3
        exact ⟨_, [], 0, by rw [HE.out]; rfl, Gat.nil _ _ _ _ _, HO.out, hM2⟩
    · have hz : ((1 : Nat) : Int) < 2 := by omega
      have HC1 := Lib.hid (hk1 (by omega))
      go_upto_region 3 with (fail)
      refine wp_region_seq [0, 3] (fun _ => True) (by rfl) (by rfl) trivial ?_
      simp only [List.zip_cons_cons, List.zip_nil_right]
      refine wpPi_val rfl (fun w' hS => exec_index_agg1 99 22 _ _ 2 _ 1 (.slice ab b.length cb) rfl rfl rfl Tryz.underlying99 (by kernel_rfl) isAggS (by omega) rfl) ?_
      simp only [pl, pn, el, ec, sz, ss, gz, gs, if_true, if_false, Bool.false_eq_true, Bool.not_true, Bool.not_false, Nat.add_zero, Nat.zero_add, Nat.reduceAdd]
      refine wpPi_assign _ rfl rfl ?_
      simp only [pl, pn, el, ec, sz, ss, gz, gs, if_true, if_false, Bool.false_eq_true, Bool.not_true, Bool.not_false, Nat.add_zero, Nat.zero_add, Nat.reduceAdd]
      refine wpPi_nil ?_
      go_upto_region 4 with (fail)
      refine wp_region_seq [3, 1, 3] (fun _ => True) (by rfl) (by rfl) trivial ?_
      simp only [List.zip_cons_cons, List.zip_nil_right]
      refine wpPi_move _ rfl rfl ?_
      simp only [pl, pn, el, ec, sz, ss, gz, gs, if_true, if_false, Bool.false_eq_true, Bool.not_true, Bool.not_false, Nat.add_zero, Nat.zero_add, Nat.reduceAdd]
      refine wpPi_do rfl (fun K hK => ?_)
      refine wp_enterQ (run_call 12 [.tmp 23] _ rfl _ Tryz.func12 rfl (by kernel_rfl) [.slice ab b.length cb] rfl _) (check_any (HB.out.keep0 hm) HSB.out hlb) ?_
      rintro e w2 ⟨rfl, hm2⟩
      have hM2 := hm.trans0 hm2
      refine ⟨_, rfl, hK _ _ trivial ?_⟩
      clear hK K
      try simp only [pl, pn, el, ec, sz, ss, gz, gs, if_true, if_false, Bool.false_eq_true, Bool.not_true, Bool.not_false, Nat.add_zero, Nat.zero_add, Nat.reduceAdd]
      refine wpPi_assign _ rfl rfl ?_
      simp only [pl, pn, el, ec, sz, ss, gz, gs, if_true, if_false, Bool.false_eq_true, Bool.not_true, Bool.not_false, Nat.add_zero, Nat.zero_add, Nat.reduceAdd]
      refine wpPi_nil ?_
      clear hm hm2
      by_cases hc : chkE b = 0
      · have HC := Lib.hid hc
        rw [hc]
        clear hc hk1 hk2
        go_wp2
        go_roundw
        case rel => exact ⟨2, by omega, by go_num, fun _ => HC1.out, fun _ => HC.out, hM2⟩
        case measure => simp [intOf]
      · have hc2 : ¬ ((chkE b : Nat) : Int) = 0 := by omega
        have hee : errD a b = chkE b := by unfold errD; rw [if_neg (by rw [HC1.out]; simp), if_pos hc]
        have hok : DifOk a b [] 0 := ⟨fun h => absurd (hee ▸ h) hc, fun _ => ⟨rfl, rfl⟩⟩
        have HO := Lib.hid hok
        have HE := Lib.hid hee
        clear hc hee hok hk1 hk2
        go_wp2
        go_ret3
        exact ⟨_, [], 0, by rw [HE.out]; rfl, Gat.nil _ _ _ _ _, HO.out, hM2⟩
    · have hz : ¬ ((2 : Nat) : Int) < 2 := by omega
      have HC1 := Lib.hid (hk1 (by omega))
      have HC2 := Lib.hid (hk2 (by omega))
      clear hk1 hk2
      go_upto_region 8 with (fail)
      refine wp_region_seq [3, 1, 3, 1, 0, 1, 1] (fun _ => True) (by rfl) (by rfl) trivial ?_
      simp only [List.zip_cons_cons, List.zip_nil_right]
      refine wpPi_move _ rfl rfl ?_
      simp only [pl, pn, el, ec, sz, ss, gz, gs, if_true, if_false, Bool.false_eq_true, Bool.not_true, Bool.not_false, Nat.add_zero, Nat.zero_add, Nat.reduceAdd]
      refine wpPi_do rfl (fun K hK => ?_)
      refine wp_enterQ (run_call 21 [.tmp 29] _ rfl _ Tryz.func21 rfl (by kernel_rfl) [.slice aa a.length ca] rfl _) (sorted_any (HA.out.keep0 hm) HSA.out (by omega)) ?_
      rintro e w2 ⟨v2, la, rfl, hA2, hsrA, hm2⟩
      have hM2 := hm.trans0 hm2
      refine ⟨_, rfl, hK _ _ trivial ?_⟩
      clear hK K
      try simp only [pl, pn, el, ec, sz, ss, gz, gs, if_true, if_false, Bool.false_eq_true, Bool.not_true, Bool.not_false, Nat.add_zero, Nat.zero_add, Nat.reduceAdd]
      refine wpPi_move _ rfl rfl ?_
      simp only [pl, pn, el, ec, sz, ss, gz, gs, if_true, if_false, Bool.false_eq_true, Bool.not_true, Bool.not_false, Nat.add_zero, Nat.zero_add, Nat.reduceAdd]
      refine wpPi_do rfl (fun K hK => ?_)
      refine wp_enterQ (run_call 21 [.tmp 31] _ rfl _ Tryz.func21 rfl (by kernel_rfl) [.slice ab b.length cb] rfl _) (sorted_any (HB.out.keep0 hM2) HSB.out (by omega)) ?_
      rintro e w3 ⟨v3, lb, rfl, hB3, hsrB, hm3⟩
      have hM3 := hM2.trans0 hm3
      replace hA2 := Ls.bound (Ls.keep0 hA2 hm3)
      replace hB3 := Ls.bound hB3
      have HLA := Lib.hid hA2
      have HLB := Lib.hid hB3
      obtain ⟨xa, cxa, rfl, -, -⟩ := Sl.at hA2
      obtain ⟨xb, cxb, rfl, -, -⟩ := Sl.at hB3
      have hbp := built_pair (.slice xa la.length cxa) (.slice xb lb.length cxb) rfl rfl rfl rfl
      clear hA2 hB3 hm2 hm3 hm
      refine ⟨_, rfl, hK _ _ trivial ?_⟩
      clear hK K
      try simp only [pl, pn, el, ec, sz, ss, gz, gs, if_true, if_false, Bool.false_eq_true, Bool.not_true, Bool.not_false, Nat.add_zero, Nat.zero_add, Nat.reduceAdd]
      refine wpPi_val rfl (fun w' hS => exec_build_of 101 [(0, _), (1, _)] [(0, .slice xa la.length cxa), (1, .slice xb lb.length cxb)] _ (by rfl) (by rfl) hbp) ?_
      simp only [pl, pn, el, ec, sz, ss, gz, gs, if_true, if_false, Bool.false_eq_true, Bool.not_true, Bool.not_false, Nat.add_zero, Nat.zero_add, Nat.reduceAdd]
      refine wpPi_do rfl (fun K hK => ?_)
      refine wp_alloc 101 _ (by rfl) pairZ (fun w4 hB4 hm4 hs4 => ?_)
      replace hB4 : w4.heap[w3.heap.size]? = some (.cells #[.slice none 0 0, .slice none 0 0] 101 (0, 0)) := hB4
      refine hK _ _ trivial ?_
      clear hK K
      try simp only [pl, pn, el, ec, sz, ss, gz, gs, if_true, if_false, Bool.false_eq_true, Bool.not_true, Bool.not_false, Nat.add_zero, Nat.zero_add, Nat.reduceAdd]
      refine wpPi_do rfl (fun K hK => ?_)
      refine wp_storeA 101 _ _ w3.heap.size 0 #[.slice xa la.length cxa, .slice xb lb.length cxb] (by rfl) (by rfl) (by rfl) (by simp [Value.oneCell']) 2 (by kernel_rfl) rfl _ _ hB4 (by simp) (fun w5 hB5 hm5 => ?_)
      rw [putRow_whole (by rfl)] at hB5
      refine hK _ _ trivial ?_
      clear hK K
      try simp only [pl, pn, el, ec, sz, ss, gz, gs, if_true, if_false, Bool.false_eq_true, Bool.not_true, Bool.not_false, Nat.add_zero, Nat.zero_add, Nat.reduceAdd]
      refine wpPi_nil ?_
      have hM5 : Mod NoB w3 w5 := hm4.transB hm5 (Nat.le_refl _)
      have HLA5 := Lib.hid (HLA.out.keep0 hM5)
      have HLB5 := Lib.hid (HLB.out.keep0 hM5)
      have hMw := hM3.trans0 hM5
      have hlaS := sorted_len hsrA
      have hlbS := sorted_len hsrB
      have hlal : la.length ≤ 4096 := by omega
      have hlbl : lb.length ≤ 4096 := by omega
      have HPA := Lib.hid (placed_of hsrA HC1.out)
      have HPB := Lib.hid (placed_of hsrB HC2.out)
      have HSRA := Lib.hid hsrA
      have HSRB := Lib.hid hsrB
      have hcw := CellsAt.whole hB5
      have h0 := hcw.cell (j := 0) (v := .slice xa la.length cxa) rfl
      have h1 := hcw.cell (j := 1) (v := .slice xb lb.length cxb) rfl
      have hsw : w.heap.size ≤ w5.heap.size := hMw.size
      generalize hb10 : w3.heap.size = b10 at *
      clear hm4 hm5 hB4 hB5 hlaS hlbS hsrA hsrB hM2 hM3 HLA HLB hM5
      go_upto_region 9 with (fail)
      refine wp_region_seq [3, 1, 3, 3] (fun _ => True) (by rfl) (by rfl) trivial ?_
      simp only [List.zip_cons_cons, List.zip_nil_right]
      refine wpPi_field _ _ _ _ _ _ rfl rfl rfl fo_101_0 ?_
      simp only [pl, pn, el, ec, sz, ss, gz, gs, if_true, if_false, Bool.false_eq_true, Bool.not_true, Bool.not_false, Nat.add_zero, Nat.zero_add, Nat.reduceAdd]
      refine wpPi_do rfl (fun K hK => ?_)
      refine wp_exec (exec_load1 49 _ (by rfl) b10 0 (by rfl) _ h0 _ Tryz.underlying49 rfl) ?_
      refine hK _ _ trivial ?_
      clear hK K
      try simp only [pl, pn, el, ec, sz, ss, gz, gs, if_true, if_false, Bool.false_eq_true, Bool.not_true, Bool.not_false, Nat.add_zero, Nat.zero_add, Nat.reduceAdd]
      refine wpPi_len _ _ _ _ _ rfl rfl rfl (by kernel_rfl) ?_
      simp only [pl, pn, el, ec, sz, ss, gz, gs, if_true, if_false, Bool.false_eq_true, Bool.not_true, Bool.not_false, Nat.add_zero, Nat.zero_add, Nat.reduceAdd]
      refine wpPi_move _ rfl rfl ?_
      simp only [pl, pn, el, ec, sz, ss, gz, gs, if_true, if_false, Bool.false_eq_true, Bool.not_true, Bool.not_false, Nat.add_zero, Nat.zero_add, Nat.reduceAdd]
      refine wpPi_nil ?_
      go_wp2
      go_loopw [37] (DfRel2 la lb w5) (fun i _ => la.length - (intOf i).toNat)
      case atStart => exact ⟨0, by omega, rfl, fun j h1 h2 => by omega, Mod.refl _ _⟩
      case round =>
        rename World => wq
        obtain ⟨k, hk, rfl, hall, hm⟩ := hrel
        have HALL := Lib.hid hall
        clear hall
        by_cases hlt : k < la.length
        · have hz2 : (k : Int) < (la.length : Int) := by omega
          obtain ⟨_, _, hv, -, hat⟩ := Sl.at (HLA5.out.keep0 hm)
          cases hv
          obtain ⟨bq, off, rfl, -, -, hc⟩ := hat k hlt
          obtain ⟨_, -, ⟨rfl, hok⟩, hc⟩ := hc k hlt
          have hxs := leafCells_size hok
          have hz32 : (leafCells zeroLeaf).size = 65 := by kernel_rfl
          have hxmem : la[k] ∈ la := List.getElem_mem hlt
          clear hat
          obtain ⟨x, hxk⟩ : ∃ x, la[k] = x := ⟨_, rfl⟩
          rw [hxk] at hok hc hxs hxmem
          have HXK := Lib.hid hxk
          clear hxk
          have hxw := hok.1
          have hxr : (idCells x.way).size = 32 := by rw [idCells_size, hxw]
          go_upto_region 11 with (fail)
          refine wp_region_seq [3, 1, 1, 1] (fun _ => True) (by rfl) (by rfl) trivial ?_
          simp only [List.zip_cons_cons, List.zip_nil_right]
          refine wpPi_index _ _ _ _ _ _ _ _ _ rfl rfl rfl rfl Tryz.underlying49 (n := 65) (by kernel_rfl) hlt ?_
          simp only [pl, pn, el, ec, sz, ss, gz, gs, if_true, if_false, Bool.false_eq_true, Bool.not_true, Bool.not_false, Nat.add_zero, Nat.zero_add, Nat.reduceAdd]
          refine wpPi_do rfl (fun K hK => ?_)
          refine wp_exec (exec_loadA 59 _ (by rfl) bq (off + k * 65) (by rfl) (leafCells x) hc _ Tryz.underlying59 rfl 65 (by kernel_rfl) hxs) ?_
          refine hK _ _ trivial ?_
          clear hK K
          try simp only [pl, pn, el, ec, sz, ss, gz, gs, if_true, if_false, Bool.false_eq_true, Bool.not_true, Bool.not_false, Nat.add_zero, Nat.zero_add, Nat.reduceAdd]
          refine wpPi_do rfl (fun K hK => ?_)
          refine wp_alloc 59 _ (by rfl) leafZ (fun w6 hB6 hm6 hs6 => ?_)
          replace hB6 : w6.heap[wq.heap.size]? = some (.cells (leafCells zeroLeaf) 59 (0, 0)) := hB6
          refine hK _ _ trivial ?_
          clear hK K
          try simp only [pl, pn, el, ec, sz, ss, gz, gs, if_true, if_false, Bool.false_eq_true, Bool.not_true, Bool.not_false, Nat.add_zero, Nat.zero_add, Nat.reduceAdd]
          refine wpPi_do rfl (fun K hK => ?_)
          refine wp_storeA 59 _ _ wq.heap.size 0 (leafCells x) (by rfl) (by rfl) (by rfl) (leafCells_one x) 65 (by kernel_rfl) hxs _ _ hB6 (by rw [hxs, hz32]; exact Nat.le_refl _) (fun w7 hB7 hm7 => ?_)
          rw [putRow_whole (by rw [hxs, hz32])] at hB7
          refine hK _ _ trivial ?_
          clear hK K
          try simp only [pl, pn, el, ec, sz, ss, gz, gs, if_true, if_false, Bool.false_eq_true, Bool.not_true, Bool.not_false, Nat.add_zero, Nat.zero_add, Nat.reduceAdd]
          refine wpPi_nil ?_
          have hM7 : Mod NoB w5 w7 := hm.trans0 (hm6.transB hm7 (Nat.le_refl _))
          generalize wq.heap.size = b12 at *
          clear hm6 hm7 hB6 hc hm
          have hcx := CellsAt.whole hB7
          have hkx := leaf_key hcx
          have hwx := leaf_way hok hcx
          rw [Nat.zero_add] at hkx hwx
          clear hcx hB7
          go_upto_region 12 with (fail)
          refine wp_region_seq [3, 1, 3, 1, 1, 3, 3, 3, 3, 3] (fun _ => True) (by rfl) (by rfl) trivial ?_
          simp only [List.zip_cons_cons, List.zip_nil_right]
          refine wpPi_field _ _ _ _ _ _ rfl rfl rfl fo_101_1 ?_
          simp only [pl, pn, el, ec, sz, ss, gz, gs, if_true, if_false, Bool.false_eq_true, Bool.not_true, Bool.not_false, Nat.add_zero, Nat.zero_add, Nat.reduceAdd]
          refine wpPi_do rfl (fun K hK => ?_)
          refine wp_exec (exec_load1 49 _ (by rfl) b10 1 (by rfl) _ (hM7.cell id h1) _ Tryz.underlying49 rfl) ?_
          refine hK _ _ trivial ?_
          clear hK K
          try simp only [pl, pn, el, ec, sz, ss, gz, gs, if_true, if_false, Bool.false_eq_true, Bool.not_true, Bool.not_false, Nat.add_zero, Nat.zero_add, Nat.reduceAdd]
          refine wpPi_field _ _ _ _ _ _ rfl rfl rfl fo_59_1 ?_
          simp only [pl, pn, el, ec, sz, ss, gz, gs, if_true, if_false, Bool.false_eq_true, Bool.not_true, Bool.not_false, Nat.add_zero, Nat.zero_add, Nat.reduceAdd]
          refine wpPi_do rfl (fun K hK => ?_)
          refine wp_exec (exec_loadA 24 _ (by rfl) b12 1 (by rfl) (idCells x.way) hwx _ Tryz.underlying24 rfl 32 (by kernel_rfl) hxr) ?_
          refine hK _ _ trivial ?_
          clear hK K
          try simp only [pl, pn, el, ec, sz, ss, gz, gs, if_true, if_false, Bool.false_eq_true, Bool.not_true, Bool.not_false, Nat.add_zero, Nat.zero_add, Nat.reduceAdd]
          refine wpPi_do rfl (fun K hK => ?_)
          refine wp_enterQ (run_call 58 [.tmp 43, .tmp 45, .func 59] _ rfl _ Tryz.func58 rfl (by kernel_rfl) [.slice xb lb.length cxb, .agg (idCells x.way), .func (.func 59) #[] #[]] rfl _) (binSearch_any (HLB5.out.keep0 hM7) HPB.out (by omega) x.way hxw) ?_
          rintro e w8 ⟨q, bb, rfl, hq1, hq2, hm8⟩
          have hM8 := hM7.trans0 hm8
          replace hkx := hm8.cell id hkx
          refine ⟨_, rfl, hK _ _ trivial ?_⟩
          clear hK K
          try simp only [pl, pn, el, ec, sz, ss, gz, gs, if_true, if_false, Bool.false_eq_true, Bool.not_true, Bool.not_false, Nat.add_zero, Nat.zero_add, Nat.reduceAdd]
          refine wpPi_move _ rfl rfl ?_
          simp only [pl, pn, el, ec, sz, ss, gz, gs, if_true, if_false, Bool.false_eq_true, Bool.not_true, Bool.not_false, Nat.add_zero, Nat.zero_add, Nat.reduceAdd]
          refine wpPi_any (v := ?_) rfl (fun w' => ?_) ?_; rotate_left; · (go_simp; try with_reducible rfl)
          simp only [pl, pn, el, ec, sz, ss, gz, gs, if_true, if_false, Bool.false_eq_true, Bool.not_true, Bool.not_false, Nat.add_zero, Nat.zero_add, Nat.reduceAdd]
          refine wpPi_any (v := ?_) rfl (fun w' => ?_) ?_; rotate_left; · (go_simp; try with_reducible rfl)
          simp only [pl, pn, el, ec, sz, ss, gz, gs, if_true, if_false, Bool.false_eq_true, Bool.not_true, Bool.not_false, Nat.add_zero, Nat.zero_add, Nat.reduceAdd]
          refine wpPi_assign _ rfl rfl ?_
          simp only [pl, pn, el, ec, sz, ss, gz, gs, if_true, if_false, Bool.false_eq_true, Bool.not_true, Bool.not_false, Nat.add_zero, Nat.zero_add, Nat.reduceAdd]
          refine wpPi_assign _ rfl rfl ?_
          simp only [pl, pn, el, ec, sz, ss, gz, gs, if_true, if_false, Bool.false_eq_true, Bool.not_true, Bool.not_false, Nat.add_zero, Nat.zero_add, Nat.reduceAdd]
          refine wpPi_nil ?_
          clear hm8 hM7 hwx
          cases bb with
          | false =>
            have hstep : ∀ j (_ : j < k + 1) (h : j < la.length), ∀ y ∈ lb, y.way = la[j].way → y.key = la[j].key := fun j h1 h2 y hy e => by
              rcases Nat.lt_or_ge j k with h4 | h4
              · exact HALL.out j h4 h2 y hy e
              · obtain rfl : j = k := by omega
                rw [HXK.out] at e
                exact absurd e (hq2 rfl y hy)
            have HST := Lib.hid hstep
            clear hstep hq1 hq2
            go_upto_region 13 with (fail)
            have hS : Mod NoB w8 w8.drew := (Mod.refl _ _).drew
            refine wp_region_pi [(0, 3), (1, 3), (2, 3), (3, 0), (4, 3), (5, 3), (6, 3), (7, 0), (8, 3), (9, 0), (10, 3), (11, 3)] [] (fun w' => Mod NoB w8 w') (by kernel_rfl) (by kernel_rfl) (by kernel_rfl) (by kernel_rfl) (fun _ _ _ _ hd h => ⟨hd.trans h.1, h.2⟩) hS ?_
            simp only [List.map_cons, List.map_nil, List.getD_cons_zero, List.getD_cons_succ]
            refine wpPi_move _ rfl rfl ?_
            simp only [pl, pn, el, ec, sz, ss, gz, gs, if_true, if_false, Bool.false_eq_true, Bool.not_true, Bool.not_false, Nat.add_zero, Nat.zero_add, Nat.reduceAdd]
            refine wpPi_move _ rfl rfl ?_
            simp only [pl, pn, el, ec, sz, ss, gz, gs, if_true, if_false, Bool.false_eq_true, Bool.not_true, Bool.not_false, Nat.add_zero, Nat.zero_add, Nat.reduceAdd]
            refine wpPi_skip rfl ?_
            simp only [pl, pn, el, ec, sz, ss, gz, gs, if_true, if_false, Bool.false_eq_true, Bool.not_true, Bool.not_false, Nat.add_zero, Nat.zero_add, Nat.reduceAdd]
            refine wpPi_skip0 rfl ?_
            simp only [pl, pn, el, ec, sz, ss, gz, gs, if_true, if_false, Bool.false_eq_true, Bool.not_true, Bool.not_false, Nat.add_zero, Nat.zero_add, Nat.reduceAdd]
            refine wpPi_skip rfl ?_
            simp only [pl, pn, el, ec, sz, ss, gz, gs, if_true, if_false, Bool.false_eq_true, Bool.not_true, Bool.not_false, Nat.add_zero, Nat.zero_add, Nat.reduceAdd]
            refine wpPi_skip rfl ?_
            simp only [pl, pn, el, ec, sz, ss, gz, gs, if_true, if_false, Bool.false_eq_true, Bool.not_true, Bool.not_false, Nat.add_zero, Nat.zero_add, Nat.reduceAdd]
            refine wpPi_skip rfl ?_
            simp only [pl, pn, el, ec, sz, ss, gz, gs, if_true, if_false, Bool.false_eq_true, Bool.not_true, Bool.not_false, Nat.add_zero, Nat.zero_add, Nat.reduceAdd]
            refine wpPi_skip0 rfl ?_
            simp only [pl, pn, el, ec, sz, ss, gz, gs, if_true, if_false, Bool.false_eq_true, Bool.not_true, Bool.not_false, Nat.add_zero, Nat.zero_add, Nat.reduceAdd]
            refine wpPi_skip rfl ?_
            simp only [pl, pn, el, ec, sz, ss, gz, gs, if_true, if_false, Bool.false_eq_true, Bool.not_true, Bool.not_false, Nat.add_zero, Nat.zero_add, Nat.reduceAdd]
            refine wpPi_skip0 rfl ?_
            simp only [pl, pn, el, ec, sz, ss, gz, gs, if_true, if_false, Bool.false_eq_true, Bool.not_true, Bool.not_false, Nat.add_zero, Nat.zero_add, Nat.reduceAdd]
            refine wpPi_skip rfl ?_
            simp only [pl, pn, el, ec, sz, ss, gz, gs, if_true, if_false, Bool.false_eq_true, Bool.not_true, Bool.not_false, Nat.add_zero, Nat.zero_add, Nat.reduceAdd]
            refine wpPi_pick _ _ _ _ rfl rfl rfl ?_
            simp only [pl, pn, el, ec, sz, ss, gz, gs, if_true, if_false, Bool.false_eq_true, Bool.not_true, Bool.not_false, Nat.add_zero, Nat.zero_add, Nat.reduceAdd]
            refine wpPi_nil ?_
            have hMr := hM8.trans0 hS
            clear hM8 hS
            go_wp2
            go_roundw
            case rel => exact ⟨k + 1, by omega, by go_num, HST.out, hMr⟩
            case measure => simp [intOf]; omega
          | true =>
            obtain ⟨hql, hqw⟩ := hq1 rfl
            obtain ⟨_, _, hv, -, hat⟩ := Sl.at (HLB5.out.keep0 hM8)
            cases hv
            obtain ⟨br, offr, rfl, -, -, hc⟩ := hat q hql
            obtain ⟨_, -, ⟨rfl, hokr⟩, hc⟩ := hc q hql
            have hkr := leaf_key hc
            have hymem : lb[q] ∈ lb := List.getElem_mem hql
            obtain ⟨y, hyq⟩ : ∃ y, lb[q] = y := ⟨_, rfl⟩
            rw [hyq] at hqw hkr hymem
            have h1q := hM8.cell id h1
            clear hat hc hq1 hq2 hyq hokr
            rw [Nat.add_zero] at hkr
            by_cases hkey : y.key = x.key
            · have hstep : ∀ j (_ : j < k + 1) (h : j < la.length), ∀ y ∈ lb, y.way = la[j].way → y.key = la[j].key := fun j h1 h2 z hz e => by
                rcases Nat.lt_or_ge j k with h4 | h4
                · exact HALL.out j h4 h2 z hz e
                · obtain rfl : j = k := by omega
                  rw [HXK.out] at e ⊢
                  rw [HPB.out.lie.eq_of_way hz hymem (by rw [e, hqw])]
                  exact hkey
              have HST := Lib.hid hstep
              clear hstep
              go_upto_region 13 with (fail)
              have hS : Mod NoB w8 w8.drew := (Mod.refl _ _).drew
              refine wp_region_pi [(0, 3), (1, 3), (2, 3), (3, 0), (4, 3), (5, 3), (6, 3), (7, 0), (8, 3), (9, 0), (10, 0), (11, 3)] [] (fun w' => Mod NoB w8 w') (by kernel_rfl) (by kernel_rfl) (by kernel_rfl) (by kernel_rfl) (fun _ _ _ _ hd h => ⟨hd.trans h.1, h.2⟩) hS ?_
              simp only [List.map_cons, List.map_nil, List.getD_cons_zero, List.getD_cons_succ]
              refine wpPi_move _ rfl rfl ?_
              simp only [pl, pn, el, ec, sz, ss, gz, gs, if_true, if_false, Bool.false_eq_true, Bool.not_true, Bool.not_false, Nat.add_zero, Nat.zero_add, Nat.reduceAdd]
              refine wpPi_move _ rfl rfl ?_
              simp only [pl, pn, el, ec, sz, ss, gz, gs, if_true, if_false, Bool.false_eq_true, Bool.not_true, Bool.not_false, Nat.add_zero, Nat.zero_add, Nat.reduceAdd]
              refine wpPi_field _ _ _ _ _ _ rfl rfl rfl fo_101_1 ?_
              simp only [pl, pn, el, ec, sz, ss, gz, gs, if_true, if_false, Bool.false_eq_true, Bool.not_true, Bool.not_false, Nat.add_zero, Nat.zero_add, Nat.reduceAdd]
              refine wpPi_val rfl (fun w' hS => exec_load1 49 _ (by rfl) b10 1 (by rfl) _ (hS.cell id h1q) _ Tryz.underlying49 rfl) ?_
              simp only [pl, pn, el, ec, sz, ss, gz, gs, if_true, if_false, Bool.false_eq_true, Bool.not_true, Bool.not_false, Nat.add_zero, Nat.zero_add, Nat.reduceAdd]
              refine wpPi_move _ rfl rfl ?_
              simp only [pl, pn, el, ec, sz, ss, gz, gs, if_true, if_false, Bool.false_eq_true, Bool.not_true, Bool.not_false, Nat.add_zero, Nat.zero_add, Nat.reduceAdd]
              refine wpPi_index _ _ _ _ _ _ _ _ _ rfl rfl rfl rfl Tryz.underlying49 (n := 65) (by kernel_rfl) hql ?_
              simp only [pl, pn, el, ec, sz, ss, gz, gs, if_true, if_false, Bool.false_eq_true, Bool.not_true, Bool.not_false, Nat.add_zero, Nat.zero_add, Nat.reduceAdd]
              refine wpPi_field _ _ _ _ _ _ rfl rfl rfl fo_59_0 ?_
              simp only [pl, pn, el, ec, sz, ss, gz, gs, if_true, if_false, Bool.false_eq_true, Bool.not_true, Bool.not_false, Nat.add_zero, Nat.zero_add, Nat.reduceAdd]
              refine wpPi_val rfl (fun w' hS => exec_load1 9 _ (by rfl) br (offr + q * 65) (by rfl) (.string y.key) (hS.cell id hkr) _ Tryz.underlying9 rfl) ?_
              simp only [pl, pn, el, ec, sz, ss, gz, gs, if_true, if_false, Bool.false_eq_true, Bool.not_true, Bool.not_false, Nat.add_zero, Nat.zero_add, Nat.reduceAdd]
              refine wpPi_field _ _ _ _ _ _ rfl rfl rfl fo_59_0 ?_
              simp only [pl, pn, el, ec, sz, ss, gz, gs, if_true, if_false, Bool.false_eq_true, Bool.not_true, Bool.not_false, Nat.add_zero, Nat.zero_add, Nat.reduceAdd]
              refine wpPi_val rfl (fun w' hS => exec_load1 9 _ (by rfl) b12 0 (by rfl) (.string x.key) (hS.cell id hkx) _ Tryz.underlying9 rfl) ?_
              simp only [pl, pn, el, ec, sz, ss, gz, gs, if_true, if_false, Bool.false_eq_true, Bool.not_true, Bool.not_false, Nat.add_zero, Nat.zero_add, Nat.reduceAdd]
              refine wpPi_val rfl (fun w' hS => exec_neq_str _ _ _ _ rfl y.key x.key rfl rfl false (decide_eq_false (fun h => h hkey))) ?_
              simp only [pl, pn, el, ec, sz, ss, gz, gs, if_true, if_false, Bool.false_eq_true, Bool.not_true, Bool.not_false, Nat.add_zero, Nat.zero_add, Nat.reduceAdd]
              refine wpPi_pick _ _ _ _ rfl rfl rfl ?_
              simp only [pl, pn, el, ec, sz, ss, gz, gs, if_true, if_false, Bool.false_eq_true, Bool.not_true, Bool.not_false, Nat.add_zero, Nat.zero_add, Nat.reduceAdd]
              refine wpPi_nil ?_
              have hMr := hM8.trans0 hS
              clear hM8 hS
              go_wp2
              go_roundw
              case rel => exact ⟨k + 1, by omega, by go_num, HST.out, hMr⟩
              case measure => simp [intOf]; omega
            · have hcl : clash a b := ⟨x, HSRA.out.1.mem_iff.1 hxmem, y, HSRB.out.1.mem_iff.1 hymem, hqw.symm, fun e => hkey e.symm⟩
              have hee : errD a b = 9 := by unfold errD; rw [if_neg (by rw [HC1.out]; simp), if_neg (by rw [HC2.out]; simp), if_pos hcl]
              have hok : DifOk a b [] 0 := ⟨(fun h => by rw [hee] at h; cases h), fun _ => ⟨rfl, rfl⟩⟩
              have HO := Lib.hid hok
              have HE := Lib.hid hee
              clear hok hee hcl
              go_upto_region 13 with (fail)
              have hS : Mod NoB w8 w8.drew := (Mod.refl _ _).drew
              refine wp_region_pi [(0, 3), (1, 3), (2, 3), (3, 0), (4, 3), (5, 3), (6, 3), (7, 0), (8, 3), (9, 0), (10, 0), (11, 3)] [] (fun w' => Mod NoB w8 w') (by kernel_rfl) (by kernel_rfl) (by kernel_rfl) (by kernel_rfl) (fun _ _ _ _ hd h => ⟨hd.trans h.1, h.2⟩) hS ?_
              simp only [List.map_cons, List.map_nil, List.getD_cons_zero, List.getD_cons_succ]
              refine wpPi_move _ rfl rfl ?_
              simp only [pl, pn, el, ec, sz, ss, gz, gs, if_true, if_false, Bool.false_eq_true, Bool.not_true, Bool.not_false, Nat.add_zero, Nat.zero_add, Nat.reduceAdd]
              refine wpPi_move _ rfl rfl ?_
              simp only [pl, pn, el, ec, sz, ss, gz, gs, if_true, if_false, Bool.false_eq_true, Bool.not_true, Bool.not_false, Nat.add_zero, Nat.zero_add, Nat.reduceAdd]
              refine wpPi_field _ _ _ _ _ _ rfl rfl rfl fo_101_1 ?_
              simp only [pl, pn, el, ec, sz, ss, gz, gs, if_true, if_false, Bool.false_eq_true, Bool.not_true, Bool.not_false, Nat.add_zero, Nat.zero_add, Nat.reduceAdd]
              refine wpPi_val rfl (fun w' hS => exec_load1 49 _ (by rfl) b10 1 (by rfl) _ (hS.cell id h1q) _ Tryz.underlying49 rfl) ?_
              simp only [pl, pn, el, ec, sz, ss, gz, gs, if_true, if_false, Bool.false_eq_true, Bool.not_true, Bool.not_false, Nat.add_zero, Nat.zero_add, Nat.reduceAdd]
              refine wpPi_move _ rfl rfl ?_
              simp only [pl, pn, el, ec, sz, ss, gz, gs, if_true, if_false, Bool.false_eq_true, Bool.not_true, Bool.not_false, Nat.add_zero, Nat.zero_add, Nat.reduceAdd]
              refine wpPi_index _ _ _ _ _ _ _ _ _ rfl rfl rfl rfl Tryz.underlying49 (n := 65) (by kernel_rfl) hql ?_
              simp only [pl, pn, el, ec, sz, ss, gz, gs, if_true, if_false, Bool.false_eq_true, Bool.not_true, Bool.not_false, Nat.add_zero, Nat.zero_add, Nat.reduceAdd]
              refine wpPi_field _ _ _ _ _ _ rfl rfl rfl fo_59_0 ?_
              simp only [pl, pn, el, ec, sz, ss, gz, gs, if_true, if_false, Bool.false_eq_true, Bool.not_true, Bool.not_false, Nat.add_zero, Nat.zero_add, Nat.reduceAdd]
              refine wpPi_val rfl (fun w' hS => exec_load1 9 _ (by rfl) br (offr + q * 65) (by rfl) (.string y.key) (hS.cell id hkr) _ Tryz.underlying9 rfl) ?_
              simp only [pl, pn, el, ec, sz, ss, gz, gs, if_true, if_false, Bool.false_eq_true, Bool.not_true, Bool.not_false, Nat.add_zero, Nat.zero_add, Nat.reduceAdd]
              refine wpPi_field _ _ _ _ _ _ rfl rfl rfl fo_59_0 ?_
              simp only [pl, pn, el, ec, sz, ss, gz, gs, if_true, if_false, Bool.false_eq_true, Bool.not_true, Bool.not_false, Nat.add_zero, Nat.zero_add, Nat.reduceAdd]
              refine wpPi_val rfl (fun w' hS => exec_load1 9 _ (by rfl) b12 0 (by rfl) (.string x.key) (hS.cell id hkx) _ Tryz.underlying9 rfl) ?_
              simp only [pl, pn, el, ec, sz, ss, gz, gs, if_true, if_false, Bool.false_eq_true, Bool.not_true, Bool.not_false, Nat.add_zero, Nat.zero_add, Nat.reduceAdd]
              refine wpPi_val rfl (fun w' hS => exec_neq_str _ _ _ _ rfl y.key x.key rfl rfl true (decide_eq_true hkey)) ?_
              simp only [pl, pn, el, ec, sz, ss, gz, gs, if_true, if_false, Bool.false_eq_true, Bool.not_true, Bool.not_false, Nat.add_zero, Nat.zero_add, Nat.reduceAdd]
              refine wpPi_pick _ _ _ _ rfl rfl rfl ?_
              simp only [pl, pn, el, ec, sz, ss, gz, gs, if_true, if_false, Bool.false_eq_true, Bool.not_true, Bool.not_false, Nat.add_zero, Nat.zero_add, Nat.reduceAdd]
              refine wpPi_nil ?_
              have hMr := hMw.trans0 (hM8.trans0 hS)
              clear hM8 hS
              go_wp2
              go_ret3
              exact ⟨_, [], 0, by rw [HE.out]; rfl, Gat.nil _ _ _ _ _, HO.out, hMr⟩
        · have hz2 : ¬ (k : Int) < (la.length : Int) := by omega
          obtain rfl : k = la.length := by omega
          have hncl : ¬ clash a b := by
            rintro ⟨x, hx, y, hy, e1, e2⟩
            have hx := HSRA.out.1.mem_iff.2 hx
            have hy := HSRB.out.1.mem_iff.2 hy
            obtain ⟨j, hj, rfl⟩ := List.getElem_of_mem hx
            exact e2 (HALL.out j hj hj y hy e1.symm).symm
          have hee : errD a b = 0 := errD_zero.2 ⟨HC1.out, HC2.out, hncl⟩
          have HO := Lib.hid (difOk_of HSRA.out HSRB.out hee)
          have HE := Lib.hid hee
          have hkl := dif_keys 256 0 la lb
          clear hncl hee
          have hcr := hcw.keep hm id
          go_upto_region 16 with (fail)
          refine wp_region_seq [1, 1, 3, 3, 3, 3, 3] (fun _ => True) (by rfl) (by rfl) trivial ?_
          simp only [List.zip_cons_cons, List.zip_nil_right]
          refine wpPi_do rfl (fun K hK => ?_)
          refine wp_exec (exec_loadA 101 _ (by rfl) b10 0 (by rfl) _ hcr _ Tryz.underlying101 rfl 2 (by kernel_rfl) rfl) ?_
          refine hK _ _ trivial ?_
          clear hK K
          try simp only [pl, pn, el, ec, sz, ss, gz, gs, if_true, if_false, Bool.false_eq_true, Bool.not_true, Bool.not_false, Nat.add_zero, Nat.zero_add, Nat.reduceAdd]
          refine wpPi_do rfl (fun K hK => ?_)
          refine wp_enterQ (run_call 60 [.tmp 63, .const (.int .i64 0)] _ rfl _ Tryz.func60 rfl (by kernel_rfl) [.agg #[.slice xa la.length cxa, .slice xb lb.length cxb], .int .i64 ((0 : Nat) : Int)] rfl _) (differ_any 256 0 la lb _ _ _ rfl (HLA5.out.keep0 hm).all (HLB5.out.keep0 hm).all HPA.out HPB.out (by omega) (by omega)) ?_
          rintro e w6 ⟨v6, rfl, hg6, hm6⟩
          generalize dif 256 0 la lb = p at *
          have hM6 := hm.trans0 hm6
          have hs6 := hm.size
          replace hg6 := hg6.base (b' := w5.heap.size) hs6
          refine ⟨_, rfl, hK _ _ trivial ?_⟩
          clear hK K
          try simp only [pl, pn, el, ec, sz, ss, gz, gs, if_true, if_false, Bool.false_eq_true, Bool.not_true, Bool.not_false, Nat.add_zero, Nat.zero_add, Nat.reduceAdd]
          refine wpPi_move _ rfl rfl ?_
          simp only [pl, pn, el, ec, sz, ss, gz, gs, if_true, if_false, Bool.false_eq_true, Bool.not_true, Bool.not_false, Nat.add_zero, Nat.zero_add, Nat.reduceAdd]
          refine wpPi_any (v := ?_) rfl (fun w' => ?_) ?_; rotate_left; · (go_simp; try with_reducible rfl)
          simp only [pl, pn, el, ec, sz, ss, gz, gs, if_true, if_false, Bool.false_eq_true, Bool.not_true, Bool.not_false, Nat.add_zero, Nat.zero_add, Nat.reduceAdd]
          refine wpPi_any (v := ?_) rfl (fun w' => ?_) ?_; rotate_left; · (go_simp; try with_reducible rfl)
          simp only [pl, pn, el, ec, sz, ss, gz, gs, if_true, if_false, Bool.false_eq_true, Bool.not_true, Bool.not_false, Nat.add_zero, Nat.zero_add, Nat.reduceAdd]
          refine wpPi_assign _ rfl rfl ?_
          simp only [pl, pn, el, ec, sz, ss, gz, gs, if_true, if_false, Bool.false_eq_true, Bool.not_true, Bool.not_false, Nat.add_zero, Nat.zero_add, Nat.reduceAdd]
          refine wpPi_assign _ rfl rfl ?_
          simp only [pl, pn, el, ec, sz, ss, gz, gs, if_true, if_false, Bool.false_eq_true, Bool.not_true, Bool.not_false, Nat.add_zero, Nat.zero_add, Nat.reduceAdd]
          refine wpPi_nil ?_
          have hcl6 := hg6.lts
          clear hm6 hm hcr
          go_upto_region 17 with (fail)
          refine wp_region_seq [3, 1] (fun _ => True) (by rfl) (by rfl) trivial ?_
          simp only [List.zip_cons_cons, List.zip_nil_right]
          refine wpPi_move _ rfl rfl ?_
          simp only [pl, pn, el, ec, sz, ss, gz, gs, if_true, if_false, Bool.false_eq_true, Bool.not_true, Bool.not_false, Nat.add_zero, Nat.zero_add, Nat.reduceAdd]
          refine wpPi_do rfl (fun K hK => ?_)
          refine wp_enterQ (run_call 31 [.tmp 67] _ rfl _ Tryz.func31 rfl (by kernel_rfl) [v6] rfl _) (sortS_any hg6 (by omega)) ?_
          rintro e w7 ⟨rfl, hg7, hm7⟩
          have hM7 : Mod NoB w5 w7 := hM6.trans hm7 (fun k hk e => by have := (hcl6 _ e).1; omega)
          refine ⟨_, rfl, hK _ _ trivial ?_⟩
          clear hK K
          try simp only [pl, pn, el, ec, sz, ss, gz, gs, if_true, if_false, Bool.false_eq_true, Bool.not_true, Bool.not_false, Nat.add_zero, Nat.zero_add, Nat.reduceAdd]
          refine wpPi_nil ?_
          have hcl7 := hg7.lts
          clear hm7 hM6
          go_upto_region 18 with (fail)
          refine wp_region_seq [3, 1, 3, 3, 3, 3] (fun _ => True) (by rfl) (by rfl) trivial ?_
          simp only [List.zip_cons_cons, List.zip_nil_right]
          refine wpPi_move _ rfl rfl ?_
          simp only [pl, pn, el, ec, sz, ss, gz, gs, if_true, if_false, Bool.false_eq_true, Bool.not_true, Bool.not_false, Nat.add_zero, Nat.zero_add, Nat.reduceAdd]
          refine wpPi_do rfl (fun K hK => ?_)
          refine wp_enterQ (run_call 32 [.tmp 69] _ rfl _ Tryz.func32 rfl (by kernel_rfl) [v6] rfl _) (compactS_any hg7 (by rw [sortB_len]; omega)) ?_
          rintro e w8 ⟨v8, rfl, hv8, hg8, hm8⟩
          have hM8 : Mod NoB w5 w8 := hM7.trans hm8 (fun k hk e => by have := (hcl7 _ e).1; omega)
          refine ⟨_, rfl, hK _ _ trivial ?_⟩
          clear hK K
          try simp only [pl, pn, el, ec, sz, ss, gz, gs, if_true, if_false, Bool.false_eq_true, Bool.not_true, Bool.not_false, Nat.add_zero, Nat.zero_add, Nat.reduceAdd]
          refine wpPi_move _ rfl rfl ?_
          simp only [pl, pn, el, ec, sz, ss, gz, gs, if_true, if_false, Bool.false_eq_true, Bool.not_true, Bool.not_false, Nat.add_zero, Nat.zero_add, Nat.reduceAdd]
          refine wpPi_assign _ rfl rfl ?_
          simp only [pl, pn, el, ec, sz, ss, gz, gs, if_true, if_false, Bool.false_eq_true, Bool.not_true, Bool.not_false, Nat.add_zero, Nat.zero_add, Nat.reduceAdd]
          refine wpPi_assign _ rfl rfl ?_
          simp only [pl, pn, el, ec, sz, ss, gz, gs, if_true, if_false, Bool.false_eq_true, Bool.not_true, Bool.not_false, Nat.add_zero, Nat.zero_add, Nat.reduceAdd]
          refine wpPi_assign _ rfl rfl ?_
          simp only [pl, pn, el, ec, sz, ss, gz, gs, if_true, if_false, Bool.false_eq_true, Bool.not_true, Bool.not_false, Nat.add_zero, Nat.zero_add, Nat.reduceAdd]
          refine wpPi_nil ?_
          have hMr := hMw.trans0 hM8
          have hgr := hg8.base hsw
          clear hm8 hM7 hM8 hg7 hg8 hMw
          go_wp2
          go_ret3
          exact ⟨_, _, _, by rw [HE.out]; rfl, hgr, HO.out, hMr⟩
end Go.Proofs.YtchkikmmcmjcgaaGreat

/- A region that draws its order, by a plan: runs of pure operations, single effects, and groups of effects that come in any order that their waiting allows, each of them shown once. -/
namespace Go.Proofs.YtchkikmmcmjcgaaGreat
set_option linter.unusedSimpArgs false
set_option linter.unusedVariables false
set_option linter.unnecessarySimpa false
set_option linter.unusedSectionVars false
open Go.RowKit

section
variable {P : Program} {ops : Array Oper} {Q : Exit → Act → World → Prop} {S : World → Prop} {md : Region.Mode}
/-- A step: a run of pure operations; a single effect; a group of so many effects, where so many have come up. -/
abbrev Step := List (Nat × Nat) ⊕ (Nat ⊕ (Nat × Array Bool))
def treeAll (md : Region.Mode) (ops : Array Oper) (f : Array Bool → Bool) : Nat → Array Bool → Bool
  | 0, L => f L
  | k + 1, L => !(Region.ready md ops L).isEmpty && (Region.ready md ops L).all fun i => decide (i < ops.size) && treeAll md ops f k (L.setIfInBounds i true)
def planOk (md : Region.Mode) (ops : Array Oper) : List Step → Array Bool → Nat → Bool
  | [], L, n => n == 0 && (Region.ready md ops L).isEmpty
  | .inl l :: p, L, n => match piPre md ops [] l L with
    | some L' => decide (l.length ≤ n) && planOk md ops p L' (n - l.length)
    | none => false
  | .inr (.inl i) :: p, L, n => decide (i < ops.size) && (Region.ready md ops L == [i]) && decide (0 < n) && planOk md ops p (L.setIfInBounds i true) (n - 1)
  | .inr (.inr (k, L0)) :: p, L, n => decide (L = L0) && decide (k ≤ n) && treeAll md ops (fun L' => planOk md ops p L' (n - k)) k L
def wpTr (P : Program) (md : Region.Mode) (ops : Array Oper) (Q : Exit → Act → World → Prop) (S : World → Prop) (K : Act → World → Prop) : Nat → Array Bool → Act → World → Prop
  | 0, _, a, w => K a w
  | n + 1, L, a, w => ∀ i ∈ Region.ready md ops L, Region.wanted (ops.getD i default) (yielded ops a.tmps) = true ∧ (ops.getD i default).wp P a w (fun a' w' => S w' ∧ wpTr P md ops Q S K n (L.setIfInBounds i true) a' w') Q
def planQ (K : Act → World → Prop) : Exit → Act → World → Prop
  | .normal, a, w => K a w
  | _, _, _ => True
def wpPlan (P : Program) (md : Region.Mode) (ops : Array Oper) (Q : Exit → Act → World → Prop) (S : World → Prop) : List Step → Act → World → Prop
  | [], a, w => Q .normal a w
  | .inl l :: p, a, w => wpPi P ops (planQ (wpPlan P md ops Q S p)) S (l.map fun x => (ops.getD x.1 default, x.2)) a w
  | .inr (.inl i) :: p, a, w => if Region.wanted (ops.getD i default) (yielded ops a.tmps) then (ops.getD i default).wp P a w (fun a' w' => S w' ∧ wpPlan P md ops Q S p a' w') Q ∨ ((ops.getD i default).asks P a w ∧ LetsOut Q) else S w ∧ wpPlan P md ops Q S p (a.put (ops.getD i default).dst undef) w
  | .inr (.inr (k, L)) :: p, a, w => wpTr P md ops Q S (wpPlan P md ops Q S p) k L a w
theorem wpAnyG_of_tr {K : Act → World → Prop} {f : Array Bool → Bool} {m : Nat} (hk : ∀ L a w, f L = true → S w → K a w → wpAnyG P md ops Q S [] m L a w) :
    ∀ (k : Nat) (L : Array Bool) (a : Act) (w : World), treeAll md ops f k L = true → S w → wpTr P md ops Q S K k L a w → wpAnyG P md ops Q S [] (k + m) L a w
  | 0, L, a, w, hp, hS, h => by
    rw [Nat.zero_add]
    exact hk L a w hp hS h
  | k + 1, L, a, w, hp, hS, h => by
    simp only [treeAll, Bool.and_eq_true, Bool.not_eq_true', List.all_eq_true] at hp
    rw [Nat.succ_add]
    refine ⟨fun h0 => (by rw [h0] at hp; simp at hp), fun i hi => ?_⟩
    have h1 := hp.2 i hi
    simp only [decide_eq_true_eq] at h1
    obtain ⟨hsz, hp'⟩ := h1
    have hi' : ops[i]? = some (ops.getD i default) := by simp [Array.getD, hsz]
    obtain ⟨hwant, hw⟩ := h i hi
    unfold wpOp
    generalize ops.getD i default = oi at hi' hw hwant
    simp only [hi']
    rw [if_pos hwant]
    exact .inl (Oper.wp_mono (fun a' w' h' => ⟨fun _ => h'.1, wpAnyG_of_tr hk k _ a' w' hp' h'.1 h'.2⟩) hw)
theorem wpAnyG_of_plan (hs : Region.noSelect ops = true) (hQ : PanicSame Q) :
    ∀ (p : List Step) (L : Array Bool) (a : Act) (w : World) (n : Nat), planOk md ops p L n = true → S w → wpPlan P md ops Q S p a w → wpAnyG P md ops Q S [] n L a w
  | [], L, a, w, n, hp, hS, h => by
    simp only [planOk, Bool.and_eq_true, beq_iff_eq, List.isEmpty_iff] at hp
    obtain ⟨rfl, hr⟩ := hp
    exact ⟨hr, h⟩
  | .inl l :: p, L, a, w, n, hp, hS, h => by
    simp only [planOk] at hp
    split at hp
    · rename_i L' hL
      simp only [Bool.and_eq_true, decide_eq_true_eq] at hp
      obtain ⟨hn, hp⟩ := hp
      have := wpAnyG_of_pre (S := S) (tl := []) hs hQ (Q1 := planQ (wpPlan P md ops Q S p)) (L := L') (fuel := n - l.length) (fun a w hS h => wpAnyG_of_plan hs hQ p L' a w (n - l.length) hp (hS rfl) h) l L a w hL (fun _ => hS) h
      rwa [show l.length + (n - l.length) = n by omega] at this
    · cases hp
  | .inr (.inl i) :: p, L, a, w, n, hp, hS, h => by
    simp only [planOk, Bool.and_eq_true, decide_eq_true_eq, beq_iff_eq] at hp
    obtain ⟨⟨⟨hi, hr⟩, hn⟩, hp⟩ := hp
    obtain ⟨m, rfl⟩ : ∃ m, n = m + 1 := ⟨n - 1, by omega⟩
    refine ⟨fun h0 => (by rw [hr] at h0; cases h0), fun j hj => ?_⟩
    have : j = i := by rw [hr] at hj; simpa using hj
    subst this
    have hi' : ops[j]? = some (ops.getD j default) := by simp [Array.getD, hi]
    unfold wpPlan at h
    refine wpOp_mono (K := fun a' w' => S w' ∧ wpPlan P md ops Q S p a' w') (fun a' w' h' => ⟨fun _ => h'.1, wpAnyG_of_plan hs hQ p _ a' w' m hp h'.1 h'.2⟩) ?_
    unfold wpOp
    generalize ops.getD j default = oj at hi' h
    simp only [hi']
    by_cases hg : Region.wanted oj (yielded ops a.tmps) = true
    · rw [if_pos hg] at h ⊢
      exact h
    · rw [if_neg hg] at h ⊢
      exact h
  | .inr (.inr (k, L0)) :: p, L, a, w, n, hp, hS, h => by
    simp only [planOk, Bool.and_eq_true, decide_eq_true_eq] at hp
    obtain ⟨⟨rfl, hk⟩, hp⟩ := hp
    have := wpAnyG_of_tr (S := S) (m := n - k) (f := fun L' => planOk md ops p L' (n - k)) (fun L' a w hf hS h => wpAnyG_of_plan hs hQ p L' a w (n - k) hf hS h) k L a w hp hS h
    rwa [show k + (n - k) = n by omega] at this
theorem wp_region_plan {id : Nat} {a : Act} {w : World} {l : List Oper} (p : List Step) (S : World → Prop) (hm : P.follows .mixedOrders = true) (hs : Region.noSelect l.toArray = true)
    (hp : planOk .any l.toArray p (Array.replicate l.toArray.size false) l.toArray.size = true) (hQ : PanicSame Q) (hS : S w.drew)
    (h : wpPlan P .any l.toArray Q S p a w.drew) : (Code.region id l.toArray true).wp P Q a w := by
  exact wp_region_any hm (wpAny_of_G _ _ _ _ (wpAnyG_of_plan hs hQ p _ a w.drew _ hp hS h))
theorem wpPlan_seg {l : List (Nat × Nat)} {p : List Step} {a : Act} {w : World} (h : wpPi P ops (planQ (wpPlan P md ops Q S p)) S (l.map fun x => (ops.getD x.1 default, x.2)) a w) : wpPlan P md ops Q S (.inl l :: p) a w := h
theorem wpPlan_one {i : Nat} {p : List Step} {a : Act} {w : World} (hw : Region.wanted (ops.getD i default) (yielded ops a.tmps) = true) (h : ∀ K : Act → World → Prop, (∀ a' w', S w' → wpPlan P md ops Q S p a' w' → K a' w') → (ops.getD i default).wp P a w K Q) : wpPlan P md ops Q S (.inr (.inl i) :: p) a w := by
  unfold wpPlan
  rw [if_pos hw]
  exact .inl (h _ fun a' w' h1 h2 => ⟨h1, h2⟩)
theorem wpPlan_skip {i : Nat} {p : List Step} {a : Act} {w : World} (hw : Region.wanted (ops.getD i default) (yielded ops a.tmps) = false) (hS : S w) (h : wpPlan P md ops Q S p (a.put (ops.getD i default).dst undef) w) : wpPlan P md ops Q S (.inr (.inl i) :: p) a w := by
  unfold wpPlan
  rw [if_neg (by rw [hw]; simp)]
  exact ⟨hS, h⟩
theorem planQ_normal {K : Act → World → Prop} {a : Act} {w : World} (h : K a w) : planQ K .normal a w := h
theorem wpPlan_fin {a : Act} {w : World} (h : Q .normal a w) : wpPlan P md ops Q S [] a w := h

/-! ### A group whose effects wait on each other -/
theorem puts_get {ps : List (Nat × Value)} {d : Nat} {v : Value} (h : (d, v) ∈ ps) (hn : (ps.map (·.1)).Nodup) {a : Act} (hd : d < a.tmps.size) : (puts ps a).eval (.tmp d) = v := by
  have hsz : ∀ ps : List (Nat × Value), (puts ps a).tmps.size = a.tmps.size := fun ps => by
    induction ps with
    | nil => rfl
    | cons p ps ih => simp only [puts, Act.put, Array.size_setIfInBounds]; exact ih
  induction ps with
  | nil => cases h
  | cons p ps ih =>
    rw [List.map_cons, List.nodup_cons] at hn
    rcases List.mem_cons.1 h with rfl | h
    · simp only [puts, Act.put, Act.eval, Array.getD_eq_getD_getElem?]
      rw [Array.getElem?_setIfInBounds_self]
      simp [hsz, hd]
    · have hne : p.1 ≠ d := fun e => hn.1 (e ▸ List.mem_map_of_mem (f := (·.1)) h)
      rw [← ih h hn.2]
      simp only [puts, Act.put, Act.eval, Array.getD_eq_getD_getElem?, Array.getElem?_setIfInBounds_ne hne]
theorem puts_slot {ps : List (Nat × Value)} {t : Nat} (h : ∀ p ∈ ps, p.1 ≠ t) (a : Act) : (puts ps a).tmps[t]? = a.tmps[t]? := by
  induction ps with
  | nil => rfl
  | cons p ps ih =>
    rw [← ih fun q hq => h q (List.mem_cons_of_mem _ hq)]
    have := h p List.mem_cons_self
    simp only [puts, Act.put, Array.getElem?_setIfInBounds_ne this]
/-- The slot that an operation's guard looks at is none of these. -/
def guardFar (ops : Array Oper) (ds : List Nat) (o : Oper) : Bool := match o.guard with
  | none => true
  | some (j, _) => match (ops[j]?).bind (·.dst) with
    | some t => ds.all (· != t)
    | none => true
theorem wanted_puts {ps : List (Nat × Value)} {ds : List Nat} (hps : ∀ p ∈ ps, p.1 ∈ ds) {o : Oper} (hg : guardFar ops ds o = true) (a : Act) : Region.wanted o (yielded ops (puts ps a).tmps) = Region.wanted o (yielded ops a.tmps) := by
  unfold Region.wanted
  cases hq : o.guard with
  | none => rfl
  | some x =>
    obtain ⟨j, b⟩ := x
    unfold guardFar at hg
    simp only [hq] at hg
    unfold yielded
    cases hd : (ops[j]?).bind (·.dst) with
    | none => simp [hd]
    | some t =>
      simp only [hd, List.all_eq_true, bne_iff_ne] at hg
      simp only [hd, Option.bind_some]
      rw [puts_slot (fun p hp => hg _ (hps p hp))]
/-- What comes up is of the group that is left, and what it waits on has come up. -/
def depOk (md : Region.Mode) (ops : Array Oper) : Nat → List (Nat × Nat × List Nat) → Array Bool → Bool
  | 0, g, _ => g.isEmpty
  | n + 1, g, L => (Region.ready md ops L).all fun i => g.any fun q => q.1 == i && (q.2.2.all fun d => !(g.any fun r => r.2.1 == d)) && depOk md ops n (g.erase q) (L.setIfInBounds i true)
theorem wpTr_dep {a : Act} {w0 : World} {K : Act → World → Prop} (F : Nat → Value → World → Prop) (g0 : List (Nat × Nat × List Nat)) (hF : ∀ d v w w', F d v w → Mod NoB w w' → F d v w') (hS : ∀ w, Mod NoB w0 w → S w) (hn : (g0.map (·.2.1)).Nodup) (hds : (g0.all fun q => q.2.2.all fun d => (g0.map (·.2.1)).contains d) = true)
    (hgf : (g0.all fun q => guardFar ops (g0.map (·.2.1)) (ops.getD q.1 default)) = true) (hw : ∀ q ∈ g0, Region.wanted (ops.getD q.1 default) (yielded ops a.tmps) = true)
    (hend : ∀ (vals : List Value) (w : World), vals.length = g0.length → Mod NoB w0 w → (∀ p ∈ (g0.map (·.2.1)).zip vals, F p.1 p.2 w) → K (puts ((g0.map (·.2.1)).zip vals) a) w)
    (hop : ∀ q ∈ g0, ∀ (ps : List (Nat × Value)) (w : World), Mod NoB w0 w → (∀ p ∈ ps, F p.1 p.2 w) → (∀ d ∈ q.2.2, ∃ v, (d, v) ∈ ps) → (ps.map (·.1)).Nodup → (∀ p ∈ ps, p.1 ≠ q.2.1 ∧ p.1 ∈ g0.map (·.2.1)) →
      ∀ K', (∀ v w', Mod NoB w w' → F q.2.1 v w' → K' ((puts ps a).put (some q.2.1) v) w') → (ops.getD q.1 default).wp P (puts ps a) w K' Q) :
    ∀ (n : Nat) (g : List (Nat × Nat × List Nat)) (L : Array Bool) (ps : List (Nat × Value)) (w : World), depOk md ops n g L = true → (∀ q ∈ g, q ∈ g0) → (ps.map (·.1) ++ g.map (·.2.1)).Perm (g0.map (·.2.1)) → Mod NoB w0 w → (∀ p ∈ ps, F p.1 p.2 w) →
      wpTr P md ops Q S K n L (puts ps a) w
  | 0, g, L, ps, w, hg, hsub, hp, hm, hps => by
    simp only [depOk, List.isEmpty_iff] at hg
    subst hg
    have hp' : (ps.map (·.1)).Perm (g0.map (·.2.1)) := by simpa using hp
    obtain ⟨vals, hl, hv⟩ := perm_vals hp'
    show K (puts ps a) w
    rw [puts_perm hv a (hp'.symm.nodup_iff.1 hn)]
    exact hend vals w (by simpa using hl) hm (fun p hp => hps p (hv.symm.subset hp))
  | n + 1, g, L, ps, w, hg, hsub, hp, hm, hps => by
    intro i hi
    simp only [depOk, List.all_eq_true] at hg
    have h1 := hg i hi
    rw [List.any_eq_true] at h1
    obtain ⟨q, hq, h1⟩ := h1
    simp only [Bool.and_eq_true, beq_iff_eq] at h1
    obtain ⟨⟨rfl, hdep⟩, hg'⟩ := h1
    have hnd : (ps.map (·.1) ++ g.map (·.2.1)).Nodup := hp.symm.nodup_iff.1 hn
    have hin : ∀ p ∈ ps, p.1 ∈ g0.map (·.2.1) := fun p hpp => hp.subset (List.mem_append_left _ (List.mem_map_of_mem hpp))
    refine ⟨?_, ?_⟩
    · rw [wanted_puts hin (by simpa using List.all_eq_true.1 hgf q (hsub q hq))]
      exact hw q (hsub q hq)
    · refine hop q (hsub q hq) ps w hm hps (fun d hd => ?_) (List.nodup_append.1 hnd).1 (fun p hpp => ⟨?_, hin p hpp⟩) _ fun v w' hm' hv => ⟨hS _ (hm.trans0 hm'), ?_⟩
      · have h2 : d ∈ g0.map (·.2.1) := by
          have := List.all_eq_true.1 (List.all_eq_true.1 hds q (hsub q hq)) d hd
          simpa using this
        rcases List.mem_append.1 (hp.symm.subset h2) with h3 | h3
        · obtain ⟨p, hp1, rfl⟩ := List.mem_map.1 h3
          exact ⟨p.2, hp1⟩
        · exfalso
          have := List.all_eq_true.1 hdep d hd
          obtain ⟨r, hr, rfl⟩ := List.mem_map.1 h3
          simp only [Bool.not_eq_true', List.any_eq_false] at this
          exact this r hr (by simp)
      · rw [List.nodup_append] at hnd
        exact hnd.2.2 _ (List.mem_map_of_mem hpp) _ (List.mem_map_of_mem (f := (·.2.1)) hq)
      · refine wpTr_dep F g0 hF hS hn hds hgf hw hend hop n (g.erase q) _ ((q.2.1, v) :: ps) w' hg' (fun r hr => hsub r (List.mem_of_mem_erase hr)) ?_ (hm.trans0 hm') (fun p hpp => ?_)
        · refine List.Perm.trans ?_ hp
          simp only [List.map_cons, List.cons_append]
          refine (List.perm_middle (l₁ := ps.map (·.1)) (a := q.2.1) (l₂ := (g.erase q).map (·.2.1))).symm.trans ?_
          exact List.Perm.append_left _ (by simpa using ((List.perm_cons_erase hq).map (·.2.1)).symm)
        · rcases List.mem_cons.1 hpp with rfl | hpp
          · exact hv
          · exact hF _ _ _ _ (hps p hpp) hm'
/-- Facts by slots. -/
def depF : List (Nat × (Value → World → Prop)) → Nat → Value → World → Prop
  | [], _, _, _ => True
  | (d, f) :: r, e, v, w => if d = e then f v w else depF r e v w
theorem depF_keep {fs : List (Nat × (Value → World → Prop))} (h : ∀ x ∈ fs, ∀ v w w', x.2 v w → Mod NoB w w' → x.2 v w') : ∀ d v w w', depF fs d v w → Mod NoB w w' → depF fs d v w' := by
  induction fs with
  | nil => intros; trivial
  | cons x fs ih =>
    obtain ⟨d0, f⟩ := x
    intro d v w w' hf hm
    unfold depF at hf ⊢
    by_cases hd : d0 = d
    · rw [if_pos hd] at hf ⊢
      exact h (d0, f) (by simp) v w w' hf hm
    · rw [if_neg hd] at hf ⊢
      exact ih (fun x hx => h x (by simp [hx])) d v w w' hf hm
theorem wpPlan_dep {p : List Step} {a : Act} {w0 : World} {n : Nat} {L : Array Bool} (fs : List (Nat × (Value → World → Prop))) (g0 : List (Nat × Nat × List Nat)) (hF : ∀ x ∈ fs, ∀ v w w', x.2 v w → Mod NoB w w' → x.2 v w') (hS : ∀ w, Mod NoB w0 w → S w) (hn : (g0.map (·.2.1)).Nodup) (hds : (g0.all fun q => q.2.2.all fun d => (g0.map (·.2.1)).contains d) = true)
    (hgf : (g0.all fun q => guardFar ops (g0.map (·.2.1)) (ops.getD q.1 default)) = true) (hok : depOk md ops n g0 L = true) (hw : ∀ q ∈ g0, Region.wanted (ops.getD q.1 default) (yielded ops a.tmps) = true)
    (hend : ∀ (vals : List Value) (w : World), vals.length = g0.length → Mod NoB w0 w → (∀ p ∈ (g0.map (·.2.1)).zip vals, depF fs p.1 p.2 w) → wpPlan P md ops Q S p (puts ((g0.map (·.2.1)).zip vals) a) w)
    (hop : ∀ q ∈ g0, ∀ (ps : List (Nat × Value)) (w : World), Mod NoB w0 w → (∀ p ∈ ps, depF fs p.1 p.2 w) → (∀ d ∈ q.2.2, ∃ v, (d, v) ∈ ps) → (ps.map (·.1)).Nodup → (∀ p ∈ ps, p.1 ≠ q.2.1 ∧ p.1 ∈ g0.map (·.2.1)) →
      ∀ K', (∀ v w', Mod NoB w w' → depF fs q.2.1 v w' → K' ((puts ps a).put (some q.2.1) v) w') → (ops.getD q.1 default).wp P (puts ps a) w K' Q) :
    wpPlan P md ops Q S (.inr (.inr (n, L)) :: p) a w0 :=
  wpTr_dep (depF fs) g0 (depF_keep hF) hS hn hds hgf hw hend hop n g0 L [] w0 hok (fun _ h => h) (by simp) (Mod.refl _ _) (fun p hp => (nomatch hp))
end
end Go.Proofs.YtchkikmmcmjcgaaGreat

/- Lists of texts side by side; the statements' entries; do just these keys differ. -/
namespace Go.Proofs.YtchkikmmcmjcgaaGreat
set_option linter.unusedSimpArgs false
set_option linter.unusedVariables false
set_option linter.unnecessarySimpa false
set_option linter.unusedSectionVars false
open Go.RowKit Go.Shelf


def StrC (cs : Array Value) (x : ByteArray) : Prop := cs = #[.string x]
def Txt (own : Bool) (w : World) (G : Nat → Prop) (v : Value) (l : List ByteArray) : Prop := Sl own w G 1 StrC v l
theorem Gat.txt {base : Nat} {w : World} {v : Value} {l : List ByteArray} (h : Gat strEnc 9 1 base w v l) : Txt true w (fun q => base ≤ q ∧ q < w.heap.size ∧ v.ownBlock = some q) v l := (h.sl (fun _ => rfl)).mono (fun _ h => h) (fun _ _ h => h)
set_option maxHeartbeats 400000 in
theorem sameTexts_any {o o' : Bool} {G G' : Nat → Prop} {va vb : Value} {la lb : List ByteArray} {w : World} (ha : Txt o w G va la) (hb : Txt o' w G' vb lb) :
    Calls Tryz.prog 42 #[va, vb] w (RetM (.bool (decide (la = lb))) w) := by
  obtain ⟨aa, ca, rfl, hla, ha⟩ := Sl.at ha
  obtain ⟨ab, cb, rfl, hlb, hb⟩ := Sl.at hb
  by_cases hlen : la.length = lb.length
  · have e1 : ((la.length : Int) == (lb.length : Int)) = true := by simp [hlen]
    have H := Lib.hid hlen; have HA := Lib.hid ha; have HB := Lib.hid hb; clear hlen ha hb
    go_enter Tryz.func42, Tryz.ntmps42
    go_wp2
    go_loopw [5, 6] (SameRel la lb w) (fun _ i _ => la.length - (intOf i).toNat)
    case atStart => exact ⟨0, by omega, rfl, by rw [pre_zero], Mod.refl _ _⟩
    case round =>
      obtain ⟨k, hk, rfl, rfl, hm⟩ := hrel
      rename_i wr
      by_cases hs : pre k la lb = true
      · by_cases hlt : k < la.length
        · have hlt' : k < lb.length := by rw [← H.out]; exact hlt
          obtain ⟨ba, oa, rfl, -, -, hca⟩ := HA.out k hlt
          obtain ⟨bb, ob, rfl, -, -, hcb⟩ := HB.out k hlt'
          obtain ⟨_, -, rfl, hca⟩ := hca k hlt
          obtain ⟨_, -, rfl, hcb⟩ := hcb k hlt'
          have hps := Lib.hid (pre_succ hlt hlt' hs)
          clear HA HB
          go_wp2_with fail
          have hS := hm.drew
          refine wp_region_pi [(0, 3), (1, 3), (2, 3), (3, 0), (4, 3), (5, 3), (6, 3), (7, 0), (8, 0), (9, 3)] [] (fun w' => Mod NoB w w') (by kernel_rfl) (by kernel_rfl) (by kernel_rfl) (by kernel_rfl) (fun _ _ _ _ hd h => ⟨hd.trans h.1, h.2⟩) hS ?_
          simp only [List.map_cons, List.map_nil, List.getD_cons_zero, List.getD_cons_succ]
          refine wpPi_move _ rfl rfl ?_
          simp only [pl, pn, el, ec, sz, ss, gz, gs, if_true, if_false, Bool.false_eq_true, Bool.not_true, Bool.not_false, Nat.add_zero, Nat.zero_add, Nat.reduceAdd]
          refine wpPi_move _ rfl rfl ?_
          simp only [pl, pn, el, ec, sz, ss, gz, gs, if_true, if_false, Bool.false_eq_true, Bool.not_true, Bool.not_false, Nat.add_zero, Nat.zero_add, Nat.reduceAdd]
          refine wpPi_index _ _ _ _ _ _ _ _ _ rfl rfl rfl rfl Tryz.underlying67 (n := 1) (by kernel_rfl) hlt ?_
          simp only [pl, pn, el, ec, sz, ss, gz, gs, if_true, if_false, Bool.false_eq_true, Bool.not_true, Bool.not_false, Nat.add_zero, Nat.zero_add, Nat.reduceAdd]
          refine wpPi_val rfl (fun w' hS => exec_load1 _ _ rfl _ _ rfl _ (CellsAt.one.1 (hca.keep hS id)) _ Tryz.underlying9 rfl) ?_
          simp only [pl, pn, el, ec, sz, ss, gz, gs, if_true, if_false, Bool.false_eq_true, Bool.not_true, Bool.not_false, Nat.add_zero, Nat.zero_add, Nat.reduceAdd]
          refine wpPi_move _ rfl rfl ?_
          simp only [pl, pn, el, ec, sz, ss, gz, gs, if_true, if_false, Bool.false_eq_true, Bool.not_true, Bool.not_false, Nat.add_zero, Nat.zero_add, Nat.reduceAdd]
          refine wpPi_move _ rfl rfl ?_
          simp only [pl, pn, el, ec, sz, ss, gz, gs, if_true, if_false, Bool.false_eq_true, Bool.not_true, Bool.not_false, Nat.add_zero, Nat.zero_add, Nat.reduceAdd]
          refine wpPi_index _ _ _ _ _ _ _ _ _ rfl rfl rfl rfl Tryz.underlying67 (n := 1) (by kernel_rfl) hlt' ?_
          simp only [pl, pn, el, ec, sz, ss, gz, gs, if_true, if_false, Bool.false_eq_true, Bool.not_true, Bool.not_false, Nat.add_zero, Nat.zero_add, Nat.reduceAdd]
          refine wpPi_val rfl (fun w' hS => exec_load1 _ _ rfl _ _ rfl _ (CellsAt.one.1 (hcb.keep hS id)) _ Tryz.underlying9 rfl) ?_
          simp only [pl, pn, el, ec, sz, ss, gz, gs, if_true, if_false, Bool.false_eq_true, Bool.not_true, Bool.not_false, Nat.add_zero, Nat.zero_add, Nat.reduceAdd]
          refine wpPi_val rfl (fun w' hS => exec_eql_str _ _ _ _ rfl _ _ rfl rfl _ rfl) ?_
          simp only [pl, pn, el, ec, sz, ss, gz, gs, if_true, if_false, Bool.false_eq_true, Bool.not_true, Bool.not_false, Nat.add_zero, Nat.zero_add, Nat.reduceAdd]
          refine wpPi_assign _ rfl rfl ?_
          simp only [pl, pn, el, ec, sz, ss, gz, gs, if_true, if_false, Bool.false_eq_true, Bool.not_true, Bool.not_false, Nat.add_zero, Nat.zero_add, Nat.reduceAdd]
          refine wpPi_nil ?_
          go_wp2
          go_roundw
          case rel => exact ⟨k + 1, by omega, by go_num, by rw [hps.out], hS⟩
          case measure => simp [intOf]; omega
        · go_wp2
          go_ret
          exact ⟨by rw [← pre_full H.out (Nat.le_of_not_lt hlt), hs]; rfl, hm⟩
      · have hs' : pre k la lb = false := by simpa using hs
        have hps := Lib.hid (pre_false hs'); clear hs
        go_wp2
        go_ret
        exact ⟨by rw [hps.out]; rfl, hm⟩
  · have e1 : ((la.length : Int) == (lb.length : Int)) = false := by simp; omega
    have hps := Lib.hid (decide_eq_false (show ¬ la = lb by rintro rfl; exact hlen rfl)); clear hlen
    go_enter Tryz.func42, Tryz.ntmps42
    go_wp2
    refine wp_loop_once ?_
    go_wp2
    go_ret
    exact ⟨by rw [hps.out]; rfl, Mod.refl _ _⟩
def EntR (w : World) (e0 : Ent) : Ending → World → Prop := fun e w' => ∃ cs, e = .returned (.agg cs) ∧ EntC w' (fun _ => True) cs e0 ∧ Mod NoB w w'
theorem built_ent2 (k : ByteArray) (v : Value) (hv : v.cells = #[v]) : Tryz.prog.built 27 [(0, .string k), (1, v)] = some #[.string k, v] := by
  have hz : (Tryz.prog.info? 27).bind (·.zero) = some (.agg #[.string ⟨#[]⟩, .slice none 0 0]) := entryZ
  have hp : placesOf Tryz.prog 27 = some [(0, 1), (1, 1)] := by kernel_rfl
  rw [built_struct hz hp, fill_cons (off := 0) (size := 1) rfl rfl (by simp), fill_cons (off := 1) (size := 1) rfl (by simp [hv]) (by simp [putRow, Value.cells]), fill_nil, hv]
  rfl
set_option maxRecDepth 10000 in
theorem lawOf_any (k v : ByteArray) (hv : v.size ≤ 1000000) (w : World) : Calls Tryz.prog 17 #[.string k, .string v] w (EntR w (k, v.data.toList)) := by
  go_enter Tryz.func17, Tryz.ntmps17
  go_upto_region 0 with (fail)
  refine wp_region_seq [1] (fun _ => True) (by rfl) (by rfl) trivial ?_
  simp only [List.zip_cons_cons, List.zip_nil_right]
  refine wpPi_do rfl (fun K hK => ?_)
  refine wp_alloc 27 _ (by rfl) entryZ (fun w1 hB1 hm1 hs1 => ?_)
  replace hB1 : w1.heap[w.heap.size]? = some (.cells #[.string ⟨#[]⟩, .slice none 0 0] 27 (0, 0)) := hB1
  refine hK _ _ trivial ?_
  clear hK K
  try simp only [pl, pn, el, ec, sz, ss, gz, gs, if_true, if_false, Bool.false_eq_true, Bool.not_true, Bool.not_false, Nat.add_zero, Nat.zero_add, Nat.reduceAdd]
  refine wpPi_nil ?_
  go_upto_region 1 with (fail)
  refine wp_region_seq [3, 3, 1, 0, 1] (fun _ => True) (by rfl) (by rfl) trivial ?_
  simp only [List.zip_cons_cons, List.zip_nil_right]
  refine wpPi_move _ rfl rfl ?_
  simp only [pl, pn, el, ec, sz, ss, gz, gs, if_true, if_false, Bool.false_eq_true, Bool.not_true, Bool.not_false, Nat.add_zero, Nat.zero_add, Nat.reduceAdd]
  refine wpPi_move _ rfl rfl ?_
  simp only [pl, pn, el, ec, sz, ss, gz, gs, if_true, if_false, Bool.false_eq_true, Bool.not_true, Bool.not_false, Nat.add_zero, Nat.zero_add, Nat.reduceAdd]
  refine wpPi_do rfl (fun K hK => ?_)
  refine wp_bytesOf 9 25 5 _ v (by rfl) (by rfl) Tryz.underlying9 Tryz.underlying25 Tryz.underlying5 (by unfold maxLen; omega) (fun v7 w7 hs7 hm7 => ?_)
  have hv7 := hs7.one
  have hvc : v7.cells = #[v7] := by
    obtain ⟨_, _, rfl, -⟩ := hs7; rfl
  have hbE := built_ent2 k v7 hvc
  have h1c := entC_one (w := w7) (G := fun q => w1.heap.size ≤ q) (e := (k, v.data.toList)) ⟨v7, rfl, hs7⟩
  replace hB1 := hm7.obj id hB1
  have hM7 := hm1.trans0 hm7
  refine hK _ _ trivial ?_
  clear hK K
  try simp only [pl, pn, el, ec, sz, ss, gz, gs, if_true, if_false, Bool.false_eq_true, Bool.not_true, Bool.not_false, Nat.add_zero, Nat.zero_add, Nat.reduceAdd]
  refine wpPi_val rfl (fun w' hS => exec_build_of 27 [(0, _), (1, _)] [(0, .string k), (1, v7)] _ (by rfl) (by rfl) hbE) ?_
  simp only [pl, pn, el, ec, sz, ss, gz, gs, if_true, if_false, Bool.false_eq_true, Bool.not_true, Bool.not_false, Nat.add_zero, Nat.zero_add, Nat.reduceAdd]
  refine wpPi_do rfl (fun K hK => ?_)
  refine wp_storeA 27 _ _ w.heap.size 0 #[.string k, v7] (by rfl) (by rfl) (by rfl) h1c 2 (by kernel_rfl) rfl _ _ hB1 (by simp) (fun w9 hB9 hm9 => ?_)
  rw [putRow_whole (by rfl)] at hB9
  refine hK _ _ trivial ?_
  clear hK K
  try simp only [pl, pn, el, ec, sz, ss, gz, gs, if_true, if_false, Bool.false_eq_true, Bool.not_true, Bool.not_false, Nat.add_zero, Nat.zero_add, Nat.reduceAdd]
  refine wpPi_nil ?_
  have hlt : w.heap.size < w7.heap.size := (Array.getElem?_eq_some_iff.1 hB1).1
  have hM9 : Mod NoB w w9 := hM7.transB hm9 (Nat.le_refl _)
  have hout : EntC w9 (fun _ => True) #[.string k, v7] (k, v.data.toList) := ⟨v7, rfl, (hs7.keepB hm9 (fun q hq => by omega)).mono (fun _ _ => trivial) (fun _ _ h => h)⟩
  clear hm9 hB1
  go_wp2
  refine bodyPost_ret (results_cell_row rfl _ _ w.heap.size _ _ _ _ (by rfl) hB9 Tryz.underlying27 rfl (by kernel_rfl)) rfl ?_
  exact ⟨_, rfl, hout, hM9⟩
def riseOf (l : List ByteArray) : List ByteArray := compB (sortB l)
theorem riseOf_rise (l : List ByteArray) : Rise l (riseOf l) := rise_sorted l
/-- What differs answers. -/
noncomputable def difB (a b : List Ent) (places : Int) (want : List ByteArray) : Bool := decide (errD a b = 0) && (decide (((difE a b).2 : Int) = places) && decide (riseOf (difE a b).1 = want))
set_option maxRecDepth 10000 in
theorem differs_any {own own' o2 : Bool} {w : World} {G G' G2 : Nat → Prop} {va vb vw : Value} {a b : List Ent} {want : List ByteArray} (ha : Es own w G va a) (hb : Es own' w G' vb b) (hw : Txt o2 w G2 vw want) (hsa : Short a) (hsb : Short b) (hla : a.length ≤ 4096) (hlb : b.length ≤ 4096) (places : Int) :
    Calls Tryz.prog 19 #[va, vb, .int .i64 places, vw] w (RetM (.bool (difB a b places want)) w) := by
  have HW := Lib.hid hw
  have hdf := treeDiffer_any ha hb hsa hsb hla hlb
  obtain ⟨aa, ca, rfl, -, -⟩ := Sl.at ha
  obtain ⟨ab, cb, rfl, -, -⟩ := Sl.at hb
  obtain ⟨aw, cw, rfl, -, -⟩ := Sl.at hw
  clear ha hb hw
  go_enter Tryz.func19, Tryz.ntmps19
  go_upto_region 1 with (fail)
  refine wp_region_seq [3, 3, 1, 3, 3, 3, 3, 3, 3, 3] (fun _ => True) (by rfl) (by rfl) trivial ?_
  simp only [List.zip_cons_cons, List.zip_nil_right]
  refine wpPi_move _ rfl rfl ?_
  simp only [pl, pn, el, ec, sz, ss, gz, gs, if_true, if_false, Bool.false_eq_true, Bool.not_true, Bool.not_false, Nat.add_zero, Nat.zero_add, Nat.reduceAdd]
  refine wpPi_move _ rfl rfl ?_
  simp only [pl, pn, el, ec, sz, ss, gz, gs, if_true, if_false, Bool.false_eq_true, Bool.not_true, Bool.not_false, Nat.add_zero, Nat.zero_add, Nat.reduceAdd]
  refine wpPi_do rfl (fun K hK => ?_)
  refine wp_enterQ (run_call 41 [.tmp 13, .tmp 14] _ rfl _ Tryz.func41 rfl (by kernel_rfl) [.slice aa a.length ca, .slice ab b.length cb] rfl _) hdf ?_
  rintro e w2 ⟨v2, ks, n, rfl, hg2, hok, hm2⟩
  refine ⟨_, rfl, hK _ _ trivial ?_⟩
  clear hK K
  try simp only [pl, pn, el, ec, sz, ss, gz, gs, if_true, if_false, Bool.false_eq_true, Bool.not_true, Bool.not_false, Nat.add_zero, Nat.zero_add, Nat.reduceAdd]
  refine wpPi_move _ rfl rfl ?_
  simp only [pl, pn, el, ec, sz, ss, gz, gs, if_true, if_false, Bool.false_eq_true, Bool.not_true, Bool.not_false, Nat.add_zero, Nat.zero_add, Nat.reduceAdd]
  refine wpPi_any (v := ?_) rfl (fun w' => ?_) ?_; rotate_left; · (go_simp; try with_reducible rfl)
  simp only [pl, pn, el, ec, sz, ss, gz, gs, if_true, if_false, Bool.false_eq_true, Bool.not_true, Bool.not_false, Nat.add_zero, Nat.zero_add, Nat.reduceAdd]
  refine wpPi_any (v := ?_) rfl (fun w' => ?_) ?_; rotate_left; · (go_simp; try with_reducible rfl)
  simp only [pl, pn, el, ec, sz, ss, gz, gs, if_true, if_false, Bool.false_eq_true, Bool.not_true, Bool.not_false, Nat.add_zero, Nat.zero_add, Nat.reduceAdd]
  refine wpPi_any (v := ?_) rfl (fun w' => ?_) ?_; rotate_left; · (go_simp; try with_reducible rfl)
  simp only [pl, pn, el, ec, sz, ss, gz, gs, if_true, if_false, Bool.false_eq_true, Bool.not_true, Bool.not_false, Nat.add_zero, Nat.zero_add, Nat.reduceAdd]
  refine wpPi_assign _ rfl rfl ?_
  simp only [pl, pn, el, ec, sz, ss, gz, gs, if_true, if_false, Bool.false_eq_true, Bool.not_true, Bool.not_false, Nat.add_zero, Nat.zero_add, Nat.reduceAdd]
  refine wpPi_assign _ rfl rfl ?_
  simp only [pl, pn, el, ec, sz, ss, gz, gs, if_true, if_false, Bool.false_eq_true, Bool.not_true, Bool.not_false, Nat.add_zero, Nat.zero_add, Nat.reduceAdd]
  refine wpPi_assign _ rfl rfl ?_
  simp only [pl, pn, el, ec, sz, ss, gz, gs, if_true, if_false, Bool.false_eq_true, Bool.not_true, Bool.not_false, Nat.add_zero, Nat.zero_add, Nat.reduceAdd]
  refine wpPi_nil ?_
  by_cases he : errD a b = 0
  · obtain ⟨hr, rfl⟩ := hok.1 he
    have hks : riseOf (difE a b).1 = ks := (riseOf_rise _).uniq hr (fun _ => Iff.rfl)
    by_cases hn : ((difE a b).2 : Int) = places
    · have hres : difB a b places want = decide (ks = want) := by unfold difB; rw [decide_eq_true he, decide_eq_true hn, hks]; rfl
      have hg2t := hg2.txt
      obtain ⟨ad2, cap2, rfl⟩ := hg2.slice
      have HRES := Lib.hid hres
      rw [he]
      clear hres hks hok he
      go_upto_region 2 with (fail)
      refine wp_region_seq [3, 3, 3, 3, 3, 3, 3, 3, 3, 3, 1, 3, 3] (fun _ => True) (by rfl) (by rfl) trivial ?_
      simp only [List.zip_cons_cons, List.zip_nil_right]
      refine wpPi_move _ rfl rfl ?_
      simp only [pl, pn, el, ec, sz, ss, gz, gs, if_true, if_false, Bool.false_eq_true, Bool.not_true, Bool.not_false, Nat.add_zero, Nat.zero_add, Nat.reduceAdd]
      refine wpPi_any (v := ?_) rfl (fun w' => ?_) ?_; rotate_left; · (go_simp; try with_reducible rfl)
      simp only [pl, pn, el, ec, sz, ss, gz, gs, if_true, if_false, Bool.false_eq_true, Bool.not_true, Bool.not_false, Nat.add_zero, Nat.zero_add, Nat.reduceAdd]
      refine wpPi_move _ rfl rfl ?_
      simp only [pl, pn, el, ec, sz, ss, gz, gs, if_true, if_false, Bool.false_eq_true, Bool.not_true, Bool.not_false, Nat.add_zero, Nat.zero_add, Nat.reduceAdd]
      refine wpPi_move _ rfl rfl ?_
      simp only [pl, pn, el, ec, sz, ss, gz, gs, if_true, if_false, Bool.false_eq_true, Bool.not_true, Bool.not_false, Nat.add_zero, Nat.zero_add, Nat.reduceAdd]
      refine wpPi_move _ rfl rfl ?_
      simp only [pl, pn, el, ec, sz, ss, gz, gs, if_true, if_false, Bool.false_eq_true, Bool.not_true, Bool.not_false, Nat.add_zero, Nat.zero_add, Nat.reduceAdd]
      refine wpPi_cmp _ _ _ _ _ _ _ _ rfl rfl rfl rfl rfl true (decide_eq_true hn) ?_
      simp only [pl, pn, el, ec, sz, ss, gz, gs, if_true, if_false, Bool.false_eq_true, Bool.not_true, Bool.not_false, Nat.add_zero, Nat.zero_add, Nat.reduceAdd]
      refine wpPi_pick _ _ _ _ rfl rfl rfl ?_
      simp only [pl, pn, el, ec, sz, ss, gz, gs, if_true, if_false, Bool.false_eq_true, Bool.not_true, Bool.not_false, Nat.add_zero, Nat.zero_add, Nat.reduceAdd]
      refine wpPi_move _ rfl rfl ?_
      simp only [pl, pn, el, ec, sz, ss, gz, gs, if_true, if_false, Bool.false_eq_true, Bool.not_true, Bool.not_false, Nat.add_zero, Nat.zero_add, Nat.reduceAdd]
      refine wpPi_move _ rfl rfl ?_
      simp only [pl, pn, el, ec, sz, ss, gz, gs, if_true, if_false, Bool.false_eq_true, Bool.not_true, Bool.not_false, Nat.add_zero, Nat.zero_add, Nat.reduceAdd]
      refine wpPi_move _ rfl rfl ?_
      simp only [pl, pn, el, ec, sz, ss, gz, gs, if_true, if_false, Bool.false_eq_true, Bool.not_true, Bool.not_false, Nat.add_zero, Nat.zero_add, Nat.reduceAdd]
      refine wpPi_do rfl (fun K hK => ?_)
      refine wp_enterQ (run_call 42 [.tmp 27, .tmp 28] _ rfl _ Tryz.func42 rfl (by kernel_rfl) [.slice ad2 ks.length cap2, .slice aw want.length cw] rfl _) (sameTexts_any hg2t (Sl.keep0 HW.out hm2)) ?_
      rintro e w3 ⟨rfl, hm3⟩
      refine ⟨_, rfl, hK _ _ trivial ?_⟩
      clear hK K
      try simp only [pl, pn, el, ec, sz, ss, gz, gs, if_true, if_false, Bool.false_eq_true, Bool.not_true, Bool.not_false, Nat.add_zero, Nat.zero_add, Nat.reduceAdd]
      refine wpPi_pick _ _ _ _ rfl rfl rfl ?_
      simp only [pl, pn, el, ec, sz, ss, gz, gs, if_true, if_false, Bool.false_eq_true, Bool.not_true, Bool.not_false, Nat.add_zero, Nat.zero_add, Nat.reduceAdd]
      refine wpPi_assign _ rfl rfl ?_
      simp only [pl, pn, el, ec, sz, ss, gz, gs, if_true, if_false, Bool.false_eq_true, Bool.not_true, Bool.not_false, Nat.add_zero, Nat.zero_add, Nat.reduceAdd]
      refine wpPi_nil ?_
      have hMr := hm2.trans0 hm3
      clear hm2 hm3
      go_wp2
      go_ret
      exact ⟨by rw [HRES.out]; rfl, hMr⟩
    · have hres : difB a b places want = false := by unfold difB; rw [decide_eq_false hn]; simp
      have HRES := Lib.hid hres
      rw [he]
      clear hres hks hok he
      go_upto_region 2 with (fail)
      refine wp_region_seq [3, 3, 3, 3, 3, 3, 3, 3, 3, 3, 1, 3, 3] (fun _ => True) (by rfl) (by rfl) trivial ?_
      simp only [List.zip_cons_cons, List.zip_nil_right]
      refine wpPi_move _ rfl rfl ?_
      simp only [pl, pn, el, ec, sz, ss, gz, gs, if_true, if_false, Bool.false_eq_true, Bool.not_true, Bool.not_false, Nat.add_zero, Nat.zero_add, Nat.reduceAdd]
      refine wpPi_any (v := ?_) rfl (fun w' => ?_) ?_; rotate_left; · (go_simp; try with_reducible rfl)
      simp only [pl, pn, el, ec, sz, ss, gz, gs, if_true, if_false, Bool.false_eq_true, Bool.not_true, Bool.not_false, Nat.add_zero, Nat.zero_add, Nat.reduceAdd]
      refine wpPi_move _ rfl rfl ?_
      simp only [pl, pn, el, ec, sz, ss, gz, gs, if_true, if_false, Bool.false_eq_true, Bool.not_true, Bool.not_false, Nat.add_zero, Nat.zero_add, Nat.reduceAdd]
      refine wpPi_move _ rfl rfl ?_
      simp only [pl, pn, el, ec, sz, ss, gz, gs, if_true, if_false, Bool.false_eq_true, Bool.not_true, Bool.not_false, Nat.add_zero, Nat.zero_add, Nat.reduceAdd]
      refine wpPi_move _ rfl rfl ?_
      simp only [pl, pn, el, ec, sz, ss, gz, gs, if_true, if_false, Bool.false_eq_true, Bool.not_true, Bool.not_false, Nat.add_zero, Nat.zero_add, Nat.reduceAdd]
      refine wpPi_cmp _ _ _ _ _ _ _ _ rfl rfl rfl rfl rfl false (decide_eq_false hn) ?_
      simp only [pl, pn, el, ec, sz, ss, gz, gs, if_true, if_false, Bool.false_eq_true, Bool.not_true, Bool.not_false, Nat.add_zero, Nat.zero_add, Nat.reduceAdd]
      refine wpPi_pick _ _ _ _ rfl rfl rfl ?_
      simp only [pl, pn, el, ec, sz, ss, gz, gs, if_true, if_false, Bool.false_eq_true, Bool.not_true, Bool.not_false, Nat.add_zero, Nat.zero_add, Nat.reduceAdd]
      refine wpPi_move _ rfl rfl ?_
      simp only [pl, pn, el, ec, sz, ss, gz, gs, if_true, if_false, Bool.false_eq_true, Bool.not_true, Bool.not_false, Nat.add_zero, Nat.zero_add, Nat.reduceAdd]
      refine wpPi_skip rfl ?_
      simp only [pl, pn, el, ec, sz, ss, gz, gs, if_true, if_false, Bool.false_eq_true, Bool.not_true, Bool.not_false, Nat.add_zero, Nat.zero_add, Nat.reduceAdd]
      refine wpPi_skip rfl ?_
      simp only [pl, pn, el, ec, sz, ss, gz, gs, if_true, if_false, Bool.false_eq_true, Bool.not_true, Bool.not_false, Nat.add_zero, Nat.zero_add, Nat.reduceAdd]
      refine wpPi_do_skip rfl trivial ?_
      simp only [pl, pn, el, ec, sz, ss, gz, gs, if_true, if_false, Bool.false_eq_true, Bool.not_true, Bool.not_false, Nat.add_zero, Nat.zero_add, Nat.reduceAdd]
      refine wpPi_pick _ _ _ _ rfl rfl rfl ?_
      simp only [pl, pn, el, ec, sz, ss, gz, gs, if_true, if_false, Bool.false_eq_true, Bool.not_true, Bool.not_false, Nat.add_zero, Nat.zero_add, Nat.reduceAdd]
      refine wpPi_assign _ rfl rfl ?_
      simp only [pl, pn, el, ec, sz, ss, gz, gs, if_true, if_false, Bool.false_eq_true, Bool.not_true, Bool.not_false, Nat.add_zero, Nat.zero_add, Nat.reduceAdd]
      refine wpPi_nil ?_
      go_wp2
      go_ret
      exact ⟨by rw [HRES.out]; rfl, hm2⟩
  · have hres : difB a b places want = false := by unfold difB; rw [decide_eq_false he]; simp
    have he2 : ¬ ((errD a b : Nat) : Int) = 0 := by omega
    have HRES := Lib.hid hres
    clear hres hok he
    go_upto_region 2 with (fail)
    refine wp_region_seq [3, 3, 3, 3, 3, 3, 3, 3, 3, 3, 1, 3, 3] (fun _ => True) (by rfl) (by rfl) trivial ?_
    simp only [List.zip_cons_cons, List.zip_nil_right]
    refine wpPi_move _ rfl rfl ?_
    simp only [pl, pn, el, ec, sz, ss, gz, gs, if_true, if_false, Bool.false_eq_true, Bool.not_true, Bool.not_false, Nat.add_zero, Nat.zero_add, Nat.reduceAdd]
    refine wpPi_cmp _ _ _ _ _ _ _ _ rfl rfl rfl rfl rfl false (decide_eq_false he2) ?_
    simp only [pl, pn, el, ec, sz, ss, gz, gs, if_true, if_false, Bool.false_eq_true, Bool.not_true, Bool.not_false, Nat.add_zero, Nat.zero_add, Nat.reduceAdd]
    refine wpPi_move _ rfl rfl ?_
    simp only [pl, pn, el, ec, sz, ss, gz, gs, if_true, if_false, Bool.false_eq_true, Bool.not_true, Bool.not_false, Nat.add_zero, Nat.zero_add, Nat.reduceAdd]
    refine wpPi_skip rfl ?_
    simp only [pl, pn, el, ec, sz, ss, gz, gs, if_true, if_false, Bool.false_eq_true, Bool.not_true, Bool.not_false, Nat.add_zero, Nat.zero_add, Nat.reduceAdd]
    refine wpPi_skip rfl ?_
    simp only [pl, pn, el, ec, sz, ss, gz, gs, if_true, if_false, Bool.false_eq_true, Bool.not_true, Bool.not_false, Nat.add_zero, Nat.zero_add, Nat.reduceAdd]
    refine wpPi_skip rfl ?_
    simp only [pl, pn, el, ec, sz, ss, gz, gs, if_true, if_false, Bool.false_eq_true, Bool.not_true, Bool.not_false, Nat.add_zero, Nat.zero_add, Nat.reduceAdd]
    refine wpPi_pick _ _ _ _ rfl rfl rfl ?_
    simp only [pl, pn, el, ec, sz, ss, gz, gs, if_true, if_false, Bool.false_eq_true, Bool.not_true, Bool.not_false, Nat.add_zero, Nat.zero_add, Nat.reduceAdd]
    refine wpPi_move _ rfl rfl ?_
    simp only [pl, pn, el, ec, sz, ss, gz, gs, if_true, if_false, Bool.false_eq_true, Bool.not_true, Bool.not_false, Nat.add_zero, Nat.zero_add, Nat.reduceAdd]
    refine wpPi_skip rfl ?_
    simp only [pl, pn, el, ec, sz, ss, gz, gs, if_true, if_false, Bool.false_eq_true, Bool.not_true, Bool.not_false, Nat.add_zero, Nat.zero_add, Nat.reduceAdd]
    refine wpPi_skip rfl ?_
    simp only [pl, pn, el, ec, sz, ss, gz, gs, if_true, if_false, Bool.false_eq_true, Bool.not_true, Bool.not_false, Nat.add_zero, Nat.zero_add, Nat.reduceAdd]
    refine wpPi_do_skip rfl trivial ?_
    simp only [pl, pn, el, ec, sz, ss, gz, gs, if_true, if_false, Bool.false_eq_true, Bool.not_true, Bool.not_false, Nat.add_zero, Nat.zero_add, Nat.reduceAdd]
    refine wpPi_pick _ _ _ _ rfl rfl rfl ?_
    simp only [pl, pn, el, ec, sz, ss, gz, gs, if_true, if_false, Bool.false_eq_true, Bool.not_true, Bool.not_false, Nat.add_zero, Nat.zero_add, Nat.reduceAdd]
    refine wpPi_assign _ rfl rfl ?_
    simp only [pl, pn, el, ec, sz, ss, gz, gs, if_true, if_false, Bool.false_eq_true, Bool.not_true, Bool.not_false, Nat.add_zero, Nat.zero_add, Nat.reduceAdd]
    refine wpPi_nil ?_
    go_wp2
    go_ret
    exact ⟨by rw [HRES.out]; rfl, hm2⟩
end Go.Proofs.YtchkikmmcmjcgaaGreat

/- The chapter's examples: awake. -/
namespace Go.Proofs.YtchkikmmcmjcgaaGreat
set_option linter.unusedSimpArgs false
set_option linter.unusedVariables false
set_option linter.unnecessarySimpa false
set_option linter.unusedSectionVars false
open Go.RowKit Go.Shelf


abbrev Ever : Nat → Prop := fun _ => True
theorem EntC.ever {w : World} {G : Nat → Prop} {cs : Array Value} {e : Ent} (h : EntC w G cs e) : EntC w Ever cs e := by
  obtain ⟨v, e1, hs⟩ := h
  exact ⟨v, e1, hs.mono (fun _ _ => trivial) (fun _ _ h => h)⟩
theorem es_one {w : World} {b : Nat} {T : TypeId} {cs : Array Value} {e : Ent} (hb : w.heap[b]? = some (.cells cs T (0, 0))) (h : EntC w Ever cs e) : Es false w Ever (.slice (some ⟨b, 0, none⟩) 1 1) [e] := by
  have hcs : cs.size = 2 := by obtain ⟨v, rfl, -⟩ := h; rfl
  refine ⟨_, _, rfl, Nat.le_refl _, by unfold maxLen; omega, fun _ => ⟨b, 0, rfl, trivial, by simp [Owned], fun i hi => ?_⟩⟩
  match i, hi with
  | 0, _ => exact ⟨cs, hcs, h, by simpa using CellsAt.whole hb⟩
theorem txt_one {w : World} {b : Nat} {T : TypeId} {s : ByteArray} (hb : w.heap[b]? = some (.cells #[.string s] T (0, 0))) : Txt false w Ever (.slice (some ⟨b, 0, none⟩) 1 1) [s] := by
  refine ⟨_, _, rfl, Nat.le_refl _, by unfold maxLen; omega, fun _ => ⟨b, 0, rfl, trivial, by simp [Owned], fun i hi => ?_⟩⟩
  match i, hi with
  | 0, _ => exact ⟨_, rfl, rfl, by simpa using CellsAt.whole hb⟩
theorem entF_keep (e : Ent) : ∀ (v : Value) (w w' : World), (∃ cs, v = .agg cs ∧ EntC w Ever cs e) → Mod NoB w w' → (∃ cs, v = .agg cs ∧ EntC w' Ever cs e) := fun _ _ _ ⟨cs, h1, h2⟩ hm => ⟨cs, h1, h2.keep hm (fun _ _ => id)⟩
theorem esF_keep (l : List Ent) : ∀ (v : Value) (w w' : World), Es false w Ever v l → Mod NoB w w' → Es false w' Ever v l := fun _ _ _ h hm => h.keep0 hm
theorem txtF_keep (l : List ByteArray) : ∀ (v : Value) (w w' : World), Txt false w Ever v l → Mod NoB w w' → Txt false w' Ever v l := fun _ _ _ h hm => Sl.keep0 h hm
theorem entry_i2 : (Tryz.prog.info? 27).map (fun i => (i.zero, i.size)) = some (some (.agg #[.string ⟨#[]⟩, .slice none 0 0]), 2) := by kernel_rfl
theorem EntC.size {w : World} {G : Nat → Prop} {cs : Array Value} {e : Ent} (h : EntC w G cs e) : cs.size = 2 := by obtain ⟨v, rfl, -⟩ := h; rfl
/-- '[]byte("..")' of a constant: a mark behind the literal's row. -/
theorem wp_bytesConst {P : Program} {o : Oper} {a : Act} {w : World} {K : Act → World → Prop} {Q : Exit → Act → World → Prop} (t e : TypeId) (x : Operand) (b n c : Nat) (C : Array Value) (ho : o.op = .convert t t x) (hx : a.eval x = .slice (some ⟨b, 0, none⟩) n c)
    (ht : P.underlying t = some (.slice e)) (he : P.underlying e = some (.int .u8)) (hb : w.heap[b]? = some (.cells C e (0, 0)))
    (h : ∀ w', w'.heap[b]? = some (.cells C e (C.size, C.size + 1)) → Mod (fun k => k = b) w w' → K (a.put o.dst (.slice (some ⟨b, 0, none⟩) n c)) w') : o.wp P a w K Q := by
  have hsh : w.shape? b = some (e, C.size) := by unfold World.shape?; rw [hb]
  have hr : (convert t t (.slice (some ⟨b, 0, none⟩) n c)).run P w = .ok (.slice (some ⟨b, 0, none⟩) n c) (w.freeze ⟨b, C.size, none⟩ 1) := by
    simp [convert, run_underlying ht, run_underlying he, markStringish, hsh]
  unfold Oper.wp execOp
  simp only [ho, hx, Sem.run_bind, hr, Result.andThen_ok, Sem.run_pure]
  refine h _ ?_ ⟨rfl, rfl, rfl, ?_, fun k hk hne => ?_⟩
  · unfold World.freeze
    rw [if_neg (by decide)]
    show (w.heap.modify b _)[b]? = _
    rw [Array.getElem?_modify, if_pos rfl, hb]
    rfl
  · unfold World.freeze
    rw [if_neg (by decide)]
    simp
  · unfold World.freeze
    rw [if_neg (by decide)]
    show (w.heap.modify b _)[k]? = _
    rw [Array.getElem?_modify, if_neg (fun e => hne e.symm)]
/-- "a", "x", "y". -/
def sA : ByteArray := ⟨#[97]⟩
def eAX : Ent := (sA, [120])
def eAY : Ent := (sA, [121])
theorem short_one {e : Ent} (h1 : e.1.size ≤ 1000000) (h2 : e.2.length ≤ 1000000) : Short [e] := fun x hx => by rw [List.mem_singleton.1 hx]; exact ⟨h1, h2⟩
theorem short_nil : Short [] := fun x hx => by cases hx
theorem root_nil : rootOut [] = shaL [0] := by
  unfold rootOut
  rw [if_pos (chkE_few [] (by simp))]
  unfold rootE leavesE
  rw [List.map_nil, dig_nil]
theorem root_one (e : Ent) : rootOut [e] = shaL (1 :: (shaL e.1.data.toList ++ shaL e.2)) := by
  unfold rootOut
  rw [if_pos (chkE_few [e] (by simp))]
  unfold rootE leavesE
  rw [List.map_cons, List.map_nil, dig_one]
  rfl
set_option maxRecDepth 100000 in
theorem one_ne : oneD (leafOf eAX) ≠ oneD (leafOf eAY) := by decide +kernel
theorem dif_ax_ay : difB [eAX] [eAY] 1 [sA] = true := by
  have h1 : chkE [eAX] = 0 := chkE_few _ (by simp)
  have h2 : chkE [eAY] = 0 := chkE_few _ (by simp)
  have hcl : ¬ clash [eAX] [eAY] := by
    rintro ⟨x, hx, y, hy, -, h⟩
    unfold leavesE at hx hy
    rw [List.map_cons, List.map_nil, List.mem_singleton] at hx hy
    subst hx; subst hy
    exact h rfl
  have he : errD [eAX] [eAY] = 0 := errD_zero.2 ⟨h1, h2, hcl⟩
  have hne : leafOf eAX ≠ leafOf eAY := fun e => one_ne (by rw [e])
  have hd : difE [eAX] [eAY] = ([sA, sA], 1) := by
    unfold difE leavesE
    rw [List.map_cons, List.map_nil, List.map_cons, List.map_nil, dif_few (by rw [dig_one, dig_one]; exact one_ne) (by simp)]
    simp only [lackL, List.filter_cons, List.filter_nil, List.mem_singleton, hne, Ne.symm hne, not_false_iff, decide_true, if_true, List.map_cons, List.map_nil]
    rfl
  have hr : riseOf [sA, sA] = [sA] := (riseOf_rise _).one (fun x hx => by simpa using hx) (by simp)
  unfold difB
  rw [he, hd, hr]
  simp
end Go.Proofs.YtchkikmmcmjcgaaGreat

/- The kit's functions: LongEntries, Pick, SameBytes, CopyBytes. -/
namespace Go.Proofs.YtchkikmmcmjcgaaGreat
set_option linter.unusedSimpArgs false
set_option linter.unusedVariables false
set_option linter.unnecessarySimpa false
set_option linter.unusedSectionVars false
open Go.RowKit


theorem exec_len_str {P : Program} {w : World} {o : Oper} {a : Act} (t : TypeId) (x : Operand) (s : ByteArray) (ho : o.op = .call { callee := .builtin .len, args := #[x], argTypes := #[t] }) (hx : a.eval x = .string s) (ht : P.underlying t = some .string) : (execOp a.eval o).run P w = .ok (.value (.int .i64 s.size)) w := by
  unfold execOp
  simp [ho, hx, resolve, invoke, builtin, Builtin.len_, run_underlying ht, goInt]
def SmallE (l : List Ent) : Prop := l.length ≤ 40 ∧ ∀ e ∈ l, e.1.size ≤ 60 ∧ e.2.length ≤ 60
instance (l : List Ent) : Decidable (SmallE l) := by unfold SmallE; infer_instance
/-- Are they long? -/
def longB (l : List Ent) : Bool := decide (¬ SmallE l)
theorem longB_true {l : List Ent} (h : ¬ SmallE l) : longB l = true := decide_eq_true h
theorem longB_false {l : List Ent} (h : SmallE l) : longB l = false := decide_eq_false (fun k => k h)
def LongR (l : List Ent) (w : World) : Ending → World → Prop := fun e w' => e = .returned (.bool (longB l)) ∧ Mod NoB w w'
def LongRel (w0 : World) (l : List Ent) (i : Value) (w : World) : Prop := ∃ k : Nat, k ≤ l.length ∧ k ≤ 41 ∧ i = .int .i64 k ∧ Mod NoB w0 w ∧ ∀ j (h : j < l.length), j < k → l[j].1.size ≤ 60 ∧ l[j].2.length ≤ 60
set_option maxRecDepth 10000 in
theorem long_any {own : Bool} {w : World} {G : Nat → Prop} {v : Value} {l : List Ent} (h : Es own w G v l) : Calls Tryz.prog 4 #[v] w (LongR l w) := by
  have HS := Lib.hid h
  obtain ⟨ad, cap, rfl, hlm, -⟩ := Sl.at h
  clear h
  go_enter Tryz.func4, Tryz.ntmps4
  go_wp2
  go_loopw [3] (LongRel w l) (fun i _ => 41 - (intOf i).toNat)
  case atStart => exact ⟨0, by omega, by omega, rfl, Mod.refl _ _, fun j h1 h2 => by omega⟩
  case round =>
    rename World => wr
    obtain ⟨k, hk, hk41, rfl, hm, hall⟩ := hrel
    have HALL := Lib.hid hall
    clear hall
    by_cases hlt : k < l.length
    · have hz : (k : Int) < (l.length : Int) := by omega
      by_cases h41 : k < 41
      · have hz41 : (k : Int) < 41 := by omega
        obtain ⟨_, _, hv, -, hat⟩ := Sl.at (HS.out.keep0 hm)
        cases hv
        obtain ⟨b, off, rfl, -, -, hc⟩ := hat k hlt
        obtain ⟨cs, hcs2, ⟨vv, rfl, hsl⟩, hc⟩ := hc k hlt
        have hc0 := hc.cell (j := 0) (v := .string l[k].1) rfl
        have hc1 := hc.cell (j := 1) (v := vv) rfl
        obtain ⟨av, cv, rfl, -, -⟩ := Sl.at hsl
        rw [Nat.add_zero] at hc0
        clear hat hc hsl
        go_upto_region 4 with (fail)
        by_cases h1 : 60 < l[k].1.size
        · have hres := Lib.hid (longB_true (fun h : SmallE l => by have := h.2 l[k] (List.getElem_mem _); omega))
          have hz1 : (l[k].1.size : Int) > 60 := by omega
          generalize l[k] = x at *
          refine wp_region_seq [3, 3, 3, 3, 1, 3, 3, 3, 3, 3, 3, 3, 0, 3, 3, 3] (fun _ => True) (by rfl) (by rfl) trivial ?_
          simp only [List.zip_cons_cons, List.zip_nil_right]
          refine wpPi_move _ rfl rfl ?_
          simp only [pl, pn, el, ec, sz, ss, gz, gs, if_true, if_false, Bool.false_eq_true, Bool.not_true, Bool.not_false, Nat.add_zero, Nat.zero_add, Nat.reduceAdd]
          refine wpPi_move _ rfl rfl ?_
          simp only [pl, pn, el, ec, sz, ss, gz, gs, if_true, if_false, Bool.false_eq_true, Bool.not_true, Bool.not_false, Nat.add_zero, Nat.zero_add, Nat.reduceAdd]
          refine wpPi_index _ _ _ _ _ _ _ _ _ rfl rfl rfl rfl Tryz.underlying22 (n := 2) (by kernel_rfl) hlt ?_
          simp only [pl, pn, el, ec, sz, ss, gz, gs, if_true, if_false, Bool.false_eq_true, Bool.not_true, Bool.not_false, Nat.add_zero, Nat.zero_add, Nat.reduceAdd]
          refine wpPi_field _ _ _ _ _ _ rfl rfl rfl fo_27_0 ?_
          simp only [pl, pn, el, ec, sz, ss, gz, gs, if_true, if_false, Bool.false_eq_true, Bool.not_true, Bool.not_false, Nat.add_zero, Nat.zero_add, Nat.reduceAdd]
          refine wpPi_do rfl (fun K hK => ?_)
          refine wp_exec (exec_load1 9 _ (by rfl) b (off + k * 2) (by rfl) _ hc0 _ Tryz.underlying9 rfl) ?_
          refine hK _ _ trivial ?_
          clear hK K
          try simp only [pl, pn, el, ec, sz, ss, gz, gs, if_true, if_false, Bool.false_eq_true, Bool.not_true, Bool.not_false, Nat.add_zero, Nat.zero_add, Nat.reduceAdd]
          refine wpPi_any rfl (fun w' => exec_len_str _ _ x.1 rfl rfl Tryz.underlying9) ?_
          simp only [pl, pn, el, ec, sz, ss, gz, gs, if_true, if_false, Bool.false_eq_true, Bool.not_true, Bool.not_false, Nat.add_zero, Nat.zero_add, Nat.reduceAdd]
          refine wpPi_cmp _ _ _ _ _ _ _ _ rfl rfl rfl rfl rfl true (decide_eq_true hz1) ?_
          simp only [pl, pn, el, ec, sz, ss, gz, gs, if_true, if_false, Bool.false_eq_true, Bool.not_true, Bool.not_false, Nat.add_zero, Nat.zero_add, Nat.reduceAdd]
          refine wpPi_move _ rfl rfl ?_
          simp only [pl, pn, el, ec, sz, ss, gz, gs, if_true, if_false, Bool.false_eq_true, Bool.not_true, Bool.not_false, Nat.add_zero, Nat.zero_add, Nat.reduceAdd]
          refine wpPi_skip rfl ?_
          simp only [pl, pn, el, ec, sz, ss, gz, gs, if_true, if_false, Bool.false_eq_true, Bool.not_true, Bool.not_false, Nat.add_zero, Nat.zero_add, Nat.reduceAdd]
          refine wpPi_skip rfl ?_
          simp only [pl, pn, el, ec, sz, ss, gz, gs, if_true, if_false, Bool.false_eq_true, Bool.not_true, Bool.not_false, Nat.add_zero, Nat.zero_add, Nat.reduceAdd]
          refine wpPi_skip rfl ?_
          simp only [pl, pn, el, ec, sz, ss, gz, gs, if_true, if_false, Bool.false_eq_true, Bool.not_true, Bool.not_false, Nat.add_zero, Nat.zero_add, Nat.reduceAdd]
          refine wpPi_skip rfl ?_
          simp only [pl, pn, el, ec, sz, ss, gz, gs, if_true, if_false, Bool.false_eq_true, Bool.not_true, Bool.not_false, Nat.add_zero, Nat.zero_add, Nat.reduceAdd]
          refine wpPi_skip0 rfl ?_
          simp only [pl, pn, el, ec, sz, ss, gz, gs, if_true, if_false, Bool.false_eq_true, Bool.not_true, Bool.not_false, Nat.add_zero, Nat.zero_add, Nat.reduceAdd]
          refine wpPi_skip rfl ?_
          simp only [pl, pn, el, ec, sz, ss, gz, gs, if_true, if_false, Bool.false_eq_true, Bool.not_true, Bool.not_false, Nat.add_zero, Nat.zero_add, Nat.reduceAdd]
          refine wpPi_skip rfl ?_
          simp only [pl, pn, el, ec, sz, ss, gz, gs, if_true, if_false, Bool.false_eq_true, Bool.not_true, Bool.not_false, Nat.add_zero, Nat.zero_add, Nat.reduceAdd]
          refine wpPi_pick _ _ _ _ rfl rfl rfl ?_
          simp only [pl, pn, el, ec, sz, ss, gz, gs, if_true, if_false, Bool.false_eq_true, Bool.not_true, Bool.not_false, Nat.add_zero, Nat.zero_add, Nat.reduceAdd]
          refine wpPi_nil ?_
          go_wp2
          go_ret
          exact ⟨by rw [hres.out]; rfl, hm⟩
        · have hz1 : ¬ (l[k].1.size : Int) > 60 := by omega
          by_cases h2 : 60 < l[k].2.length
          · have hres := Lib.hid (longB_true (fun h : SmallE l => by have := h.2 l[k] (List.getElem_mem _); omega))
            have hz2 : (l[k].2.length : Int) > 60 := by omega
            generalize l[k] = x at *
            refine wp_region_seq [3, 3, 3, 3, 1, 3, 3, 3, 3, 3, 3, 3, 1, 3, 3, 3] (fun _ => True) (by rfl) (by rfl) trivial ?_
            simp only [List.zip_cons_cons, List.zip_nil_right]
            refine wpPi_move _ rfl rfl ?_
            simp only [pl, pn, el, ec, sz, ss, gz, gs, if_true, if_false, Bool.false_eq_true, Bool.not_true, Bool.not_false, Nat.add_zero, Nat.zero_add, Nat.reduceAdd]
            refine wpPi_move _ rfl rfl ?_
            simp only [pl, pn, el, ec, sz, ss, gz, gs, if_true, if_false, Bool.false_eq_true, Bool.not_true, Bool.not_false, Nat.add_zero, Nat.zero_add, Nat.reduceAdd]
            refine wpPi_index _ _ _ _ _ _ _ _ _ rfl rfl rfl rfl Tryz.underlying22 (n := 2) (by kernel_rfl) hlt ?_
            simp only [pl, pn, el, ec, sz, ss, gz, gs, if_true, if_false, Bool.false_eq_true, Bool.not_true, Bool.not_false, Nat.add_zero, Nat.zero_add, Nat.reduceAdd]
            refine wpPi_field _ _ _ _ _ _ rfl rfl rfl fo_27_0 ?_
            simp only [pl, pn, el, ec, sz, ss, gz, gs, if_true, if_false, Bool.false_eq_true, Bool.not_true, Bool.not_false, Nat.add_zero, Nat.zero_add, Nat.reduceAdd]
            refine wpPi_do rfl (fun K hK => ?_)
            refine wp_exec (exec_load1 9 _ (by rfl) b (off + k * 2) (by rfl) _ hc0 _ Tryz.underlying9 rfl) ?_
            refine hK _ _ trivial ?_
            clear hK K
            try simp only [pl, pn, el, ec, sz, ss, gz, gs, if_true, if_false, Bool.false_eq_true, Bool.not_true, Bool.not_false, Nat.add_zero, Nat.zero_add, Nat.reduceAdd]
            refine wpPi_any rfl (fun w' => exec_len_str _ _ x.1 rfl rfl Tryz.underlying9) ?_
            simp only [pl, pn, el, ec, sz, ss, gz, gs, if_true, if_false, Bool.false_eq_true, Bool.not_true, Bool.not_false, Nat.add_zero, Nat.zero_add, Nat.reduceAdd]
            refine wpPi_cmp _ _ _ _ _ _ _ _ rfl rfl rfl rfl rfl false (decide_eq_false hz1) ?_
            simp only [pl, pn, el, ec, sz, ss, gz, gs, if_true, if_false, Bool.false_eq_true, Bool.not_true, Bool.not_false, Nat.add_zero, Nat.zero_add, Nat.reduceAdd]
            refine wpPi_move _ rfl rfl ?_
            simp only [pl, pn, el, ec, sz, ss, gz, gs, if_true, if_false, Bool.false_eq_true, Bool.not_true, Bool.not_false, Nat.add_zero, Nat.zero_add, Nat.reduceAdd]
            refine wpPi_move _ rfl rfl ?_
            simp only [pl, pn, el, ec, sz, ss, gz, gs, if_true, if_false, Bool.false_eq_true, Bool.not_true, Bool.not_false, Nat.add_zero, Nat.zero_add, Nat.reduceAdd]
            refine wpPi_move _ rfl rfl ?_
            simp only [pl, pn, el, ec, sz, ss, gz, gs, if_true, if_false, Bool.false_eq_true, Bool.not_true, Bool.not_false, Nat.add_zero, Nat.zero_add, Nat.reduceAdd]
            refine wpPi_index _ _ _ _ _ _ _ _ _ rfl rfl rfl rfl Tryz.underlying22 (n := 2) (by kernel_rfl) hlt ?_
            simp only [pl, pn, el, ec, sz, ss, gz, gs, if_true, if_false, Bool.false_eq_true, Bool.not_true, Bool.not_false, Nat.add_zero, Nat.zero_add, Nat.reduceAdd]
            refine wpPi_field _ _ _ _ _ _ rfl rfl rfl fo_27_1 ?_
            simp only [pl, pn, el, ec, sz, ss, gz, gs, if_true, if_false, Bool.false_eq_true, Bool.not_true, Bool.not_false, Nat.add_zero, Nat.zero_add, Nat.reduceAdd]
            refine wpPi_do rfl (fun K hK => ?_)
            refine wp_exec (exec_load1 25 _ (by rfl) b (off + k * 2 + 1) (by rfl) _ hc1 _ Tryz.underlying25 rfl) ?_
            refine hK _ _ trivial ?_
            clear hK K
            try simp only [pl, pn, el, ec, sz, ss, gz, gs, if_true, if_false, Bool.false_eq_true, Bool.not_true, Bool.not_false, Nat.add_zero, Nat.zero_add, Nat.reduceAdd]
            refine wpPi_len _ _ _ _ _ rfl rfl rfl (by kernel_rfl) ?_
            simp only [pl, pn, el, ec, sz, ss, gz, gs, if_true, if_false, Bool.false_eq_true, Bool.not_true, Bool.not_false, Nat.add_zero, Nat.zero_add, Nat.reduceAdd]
            refine wpPi_cmp _ _ _ _ _ _ _ _ rfl rfl rfl rfl rfl true (decide_eq_true hz2) ?_
            simp only [pl, pn, el, ec, sz, ss, gz, gs, if_true, if_false, Bool.false_eq_true, Bool.not_true, Bool.not_false, Nat.add_zero, Nat.zero_add, Nat.reduceAdd]
            refine wpPi_pick _ _ _ _ rfl rfl rfl ?_
            simp only [pl, pn, el, ec, sz, ss, gz, gs, if_true, if_false, Bool.false_eq_true, Bool.not_true, Bool.not_false, Nat.add_zero, Nat.zero_add, Nat.reduceAdd]
            refine wpPi_nil ?_
            go_wp2
            go_ret
            exact ⟨by rw [hres.out]; rfl, hm⟩
          · have hz2 : ¬ (l[k].2.length : Int) > 60 := by omega
            have hstep : ∀ j (h : j < l.length), j < k + 1 → l[j].1.size ≤ 60 ∧ l[j].2.length ≤ 60 := fun j h3 h4 => by
              rcases Nat.lt_or_ge j k with h5 | h5
              · exact HALL.out j h3 h5
              · obtain rfl : j = k := by omega
                exact ⟨by omega, by omega⟩
            have HST := Lib.hid hstep
            clear hstep
            generalize l[k] = x at *
            refine wp_region_seq [3, 3, 3, 3, 1, 3, 3, 3, 3, 3, 3, 3, 1, 3, 3, 3] (fun _ => True) (by rfl) (by rfl) trivial ?_
            simp only [List.zip_cons_cons, List.zip_nil_right]
            refine wpPi_move _ rfl rfl ?_
            simp only [pl, pn, el, ec, sz, ss, gz, gs, if_true, if_false, Bool.false_eq_true, Bool.not_true, Bool.not_false, Nat.add_zero, Nat.zero_add, Nat.reduceAdd]
            refine wpPi_move _ rfl rfl ?_
            simp only [pl, pn, el, ec, sz, ss, gz, gs, if_true, if_false, Bool.false_eq_true, Bool.not_true, Bool.not_false, Nat.add_zero, Nat.zero_add, Nat.reduceAdd]
            refine wpPi_index _ _ _ _ _ _ _ _ _ rfl rfl rfl rfl Tryz.underlying22 (n := 2) (by kernel_rfl) hlt ?_
            simp only [pl, pn, el, ec, sz, ss, gz, gs, if_true, if_false, Bool.false_eq_true, Bool.not_true, Bool.not_false, Nat.add_zero, Nat.zero_add, Nat.reduceAdd]
            refine wpPi_field _ _ _ _ _ _ rfl rfl rfl fo_27_0 ?_
            simp only [pl, pn, el, ec, sz, ss, gz, gs, if_true, if_false, Bool.false_eq_true, Bool.not_true, Bool.not_false, Nat.add_zero, Nat.zero_add, Nat.reduceAdd]
            refine wpPi_do rfl (fun K hK => ?_)
            refine wp_exec (exec_load1 9 _ (by rfl) b (off + k * 2) (by rfl) _ hc0 _ Tryz.underlying9 rfl) ?_
            refine hK _ _ trivial ?_
            clear hK K
            try simp only [pl, pn, el, ec, sz, ss, gz, gs, if_true, if_false, Bool.false_eq_true, Bool.not_true, Bool.not_false, Nat.add_zero, Nat.zero_add, Nat.reduceAdd]
            refine wpPi_any rfl (fun w' => exec_len_str _ _ x.1 rfl rfl Tryz.underlying9) ?_
            simp only [pl, pn, el, ec, sz, ss, gz, gs, if_true, if_false, Bool.false_eq_true, Bool.not_true, Bool.not_false, Nat.add_zero, Nat.zero_add, Nat.reduceAdd]
            refine wpPi_cmp _ _ _ _ _ _ _ _ rfl rfl rfl rfl rfl false (decide_eq_false hz1) ?_
            simp only [pl, pn, el, ec, sz, ss, gz, gs, if_true, if_false, Bool.false_eq_true, Bool.not_true, Bool.not_false, Nat.add_zero, Nat.zero_add, Nat.reduceAdd]
            refine wpPi_move _ rfl rfl ?_
            simp only [pl, pn, el, ec, sz, ss, gz, gs, if_true, if_false, Bool.false_eq_true, Bool.not_true, Bool.not_false, Nat.add_zero, Nat.zero_add, Nat.reduceAdd]
            refine wpPi_move _ rfl rfl ?_
            simp only [pl, pn, el, ec, sz, ss, gz, gs, if_true, if_false, Bool.false_eq_true, Bool.not_true, Bool.not_false, Nat.add_zero, Nat.zero_add, Nat.reduceAdd]
            refine wpPi_move _ rfl rfl ?_
            simp only [pl, pn, el, ec, sz, ss, gz, gs, if_true, if_false, Bool.false_eq_true, Bool.not_true, Bool.not_false, Nat.add_zero, Nat.zero_add, Nat.reduceAdd]
            refine wpPi_index _ _ _ _ _ _ _ _ _ rfl rfl rfl rfl Tryz.underlying22 (n := 2) (by kernel_rfl) hlt ?_
            simp only [pl, pn, el, ec, sz, ss, gz, gs, if_true, if_false, Bool.false_eq_true, Bool.not_true, Bool.not_false, Nat.add_zero, Nat.zero_add, Nat.reduceAdd]
            refine wpPi_field _ _ _ _ _ _ rfl rfl rfl fo_27_1 ?_
            simp only [pl, pn, el, ec, sz, ss, gz, gs, if_true, if_false, Bool.false_eq_true, Bool.not_true, Bool.not_false, Nat.add_zero, Nat.zero_add, Nat.reduceAdd]
            refine wpPi_do rfl (fun K hK => ?_)
            refine wp_exec (exec_load1 25 _ (by rfl) b (off + k * 2 + 1) (by rfl) _ hc1 _ Tryz.underlying25 rfl) ?_
            refine hK _ _ trivial ?_
            clear hK K
            try simp only [pl, pn, el, ec, sz, ss, gz, gs, if_true, if_false, Bool.false_eq_true, Bool.not_true, Bool.not_false, Nat.add_zero, Nat.zero_add, Nat.reduceAdd]
            refine wpPi_len _ _ _ _ _ rfl rfl rfl (by kernel_rfl) ?_
            simp only [pl, pn, el, ec, sz, ss, gz, gs, if_true, if_false, Bool.false_eq_true, Bool.not_true, Bool.not_false, Nat.add_zero, Nat.zero_add, Nat.reduceAdd]
            refine wpPi_cmp _ _ _ _ _ _ _ _ rfl rfl rfl rfl rfl false (decide_eq_false hz2) ?_
            simp only [pl, pn, el, ec, sz, ss, gz, gs, if_true, if_false, Bool.false_eq_true, Bool.not_true, Bool.not_false, Nat.add_zero, Nat.zero_add, Nat.reduceAdd]
            refine wpPi_pick _ _ _ _ rfl rfl rfl ?_
            simp only [pl, pn, el, ec, sz, ss, gz, gs, if_true, if_false, Bool.false_eq_true, Bool.not_true, Bool.not_false, Nat.add_zero, Nat.zero_add, Nat.reduceAdd]
            refine wpPi_nil ?_
            go_wp2
            go_roundw
            case rel => exact ⟨k + 1, by omega, by omega, by go_num, hm, HST.out⟩
            case measure => simp [intOf]; omega
      · have hres := Lib.hid (longB_true (fun h : SmallE l => by have := h.1; omega))
        have hz41 : ¬ (k : Int) < 41 := by omega
        have hz40 : (l.length : Int) > 40 := by omega
        go_wp2
        go_ret
        exact ⟨by rw [hres.out]; rfl, hm⟩
    · have hz : ¬ (k : Int) < (l.length : Int) := by omega
      obtain rfl : k = l.length := by omega
      by_cases h40 : 40 < l.length
      · have hres := Lib.hid (longB_true (fun h : SmallE l => by have := h.1; omega))
        have hz40 : (l.length : Int) > 40 := by omega
        go_wp2
        go_ret
        exact ⟨by rw [hres.out]; rfl, hm⟩
      · have hz40 : ¬ (l.length : Int) > 40 := by omega
        go_wp2
        go_ret
        exact ⟨by
          rw [longB_false ⟨by omega, fun e he => by
            obtain ⟨j, hj, rfl⟩ := List.getElem_of_mem he
            exact HALL.out j hj hj⟩]; rfl, hm⟩
theorem SmallE.short {l : List Ent} (h : SmallE l) : Short l := fun e he => by have := h.2 e he; omega
set_option maxRecDepth 10000 in
theorem sameBytes_any {o o' : Bool} {G G' : Nat → Prop} {va vb : Value} {la lb : List UInt8} {w : World} (ha : Sl o w G 1 ByteC va la) (hb : Sl o' w G' 1 ByteC vb lb) :
    Calls Tryz.prog 37 #[va, vb] w (RetM (.bool (decide (la = lb))) w) := by
  go_enter Tryz.func37, Tryz.ntmps37
  go_upto_region 1 with (fail)
  refine wp_region_seq [3, 1, 3, 1, 0, 3] (fun _ => True) (by rfl) (by rfl) trivial ?_
  simp only [List.zip_cons_cons, List.zip_nil_right]
  refine wpPi_move _ rfl rfl ?_
  simp only [pl, pn, el, ec, sz, ss, gz, gs, if_true, if_false, Bool.false_eq_true, Bool.not_true, Bool.not_false, Nat.add_zero, Nat.zero_add, Nat.reduceAdd]
  refine wpPi_do rfl (fun K hK => ?_)
  refine wp_exec (exec_string_of_bytes 25 5 9 _ (by rfl) va (by rfl) ha Tryz.underlying25 Tryz.underlying5 Tryz.underlying9) ?_
  refine hK _ _ trivial ?_
  clear hK K
  try simp only [pl, pn, el, ec, sz, ss, gz, gs, if_true, if_false, Bool.false_eq_true, Bool.not_true, Bool.not_false, Nat.add_zero, Nat.zero_add, Nat.reduceAdd]
  refine wpPi_move _ rfl rfl ?_
  simp only [pl, pn, el, ec, sz, ss, gz, gs, if_true, if_false, Bool.false_eq_true, Bool.not_true, Bool.not_false, Nat.add_zero, Nat.zero_add, Nat.reduceAdd]
  refine wpPi_do rfl (fun K hK => ?_)
  refine wp_exec (exec_string_of_bytes 25 5 9 _ (by rfl) vb (by rfl) hb Tryz.underlying25 Tryz.underlying5 Tryz.underlying9) ?_
  refine hK _ _ trivial ?_
  clear hK K
  try simp only [pl, pn, el, ec, sz, ss, gz, gs, if_true, if_false, Bool.false_eq_true, Bool.not_true, Bool.not_false, Nat.add_zero, Nat.zero_add, Nat.reduceAdd]
  refine wpPi_val rfl (fun w' hS => exec_eql_str _ _ _ _ rfl _ _ rfl rfl (decide (la = lb)) (by rw [decide_eq_decide]; exact bytes_inj)) ?_
  simp only [pl, pn, el, ec, sz, ss, gz, gs, if_true, if_false, Bool.false_eq_true, Bool.not_true, Bool.not_false, Nat.add_zero, Nat.zero_add, Nat.reduceAdd]
  refine wpPi_assign _ rfl rfl ?_
  simp only [pl, pn, el, ec, sz, ss, gz, gs, if_true, if_false, Bool.false_eq_true, Bool.not_true, Bool.not_false, Nat.add_zero, Nat.zero_add, Nat.reduceAdd]
  refine wpPi_nil ?_
  go_wp2
  go_ret
  exact ⟨rfl, Mod.refl _ _⟩
def CopyR (w : World) (m : List UInt8) : Ending → World → Prop := fun e w' => ∃ v, e = .returned v ∧ Bts w.heap.size w' v m ∧ Mod NoB w w'
set_option maxRecDepth 10000 in
theorem copyBytes_any {o : Bool} {G : Nat → Prop} {v : Value} {m : List UInt8} {w : World} (h : Sl o w G 1 ByteC v m) (hl : m.length ≤ 1000000) : Calls Tryz.prog 20 #[v] w (CopyR w m) := by
  go_enter Tryz.func20, Tryz.ntmps20
  go_upto_region 1 with (fail)
  refine wp_region_seq [1, 3, 1, 3] (fun _ => True) (by rfl) (by rfl) trivial ?_
  simp only [List.zip_cons_cons, List.zip_nil_right]
  refine wpPi_do rfl (fun K hK => ?_)
  refine wp_buildSlice0 25 5 (by rfl) Tryz.underlying25 (by kernel_rfl) (fun w1 hB1 hm1 hs1 => ?_)
  refine hK _ _ trivial ?_
  clear hK K
  try simp only [pl, pn, el, ec, sz, ss, gz, gs, if_true, if_false, Bool.false_eq_true, Bool.not_true, Bool.not_false, Nat.add_zero, Nat.zero_add, Nat.reduceAdd]
  refine wpPi_move _ rfl rfl ?_
  simp only [pl, pn, el, ec, sz, ss, gz, gs, if_true, if_false, Bool.false_eq_true, Bool.not_true, Bool.not_false, Nat.add_zero, Nat.zero_add, Nat.reduceAdd]
  refine wpPi_do rfl (fun K hK => ?_)
  refine wp_bytes _ _ (by rfl) w.heap.size _ [] (by rfl) (owns_empty _ hB1 (Nat.le_refl _)) _ m (by rfl) (h.keep0 hm1).bsrc (by simp; omega) hm1.size (fun v' w2 ho2 hm2 => ?_)
  rw [List.nil_append] at ho2
  refine hK _ _ trivial ?_
  clear hK K
  try simp only [pl, pn, el, ec, sz, ss, gz, gs, if_true, if_false, Bool.false_eq_true, Bool.not_true, Bool.not_false, Nat.add_zero, Nat.zero_add, Nat.reduceAdd]
  refine wpPi_assign _ rfl rfl ?_
  simp only [pl, pn, el, ec, sz, ss, gz, gs, if_true, if_false, Bool.false_eq_true, Bool.not_true, Bool.not_false, Nat.add_zero, Nat.zero_add, Nat.reduceAdd]
  refine wpPi_nil ?_
  go_wp2
  go_ret
  exact ⟨_, rfl, ho2, hm1.trans hm2 (fun k hk e => by
    have e' : some w.heap.size = some k := e
    cases e'; omega)⟩
end Go.Proofs.YtchkikmmcmjcgaaGreat

/- Small rules on rows; entries gathered in a row; CopyEntries. -/
namespace Go.Proofs.YtchkikmmcmjcgaaGreat
set_option linter.unusedSimpArgs false
set_option linter.unusedVariables false
set_option linter.unnecessarySimpa false
set_option linter.unusedSectionVars false
open Go.RowKit Go.Shelf


theorem wp_allocAt {P : Program} {o : Oper} {a : Act} {w : World} {K : Act → World → Prop} {Q : Exit → Act → World → Prop} (elem : TypeId) (z : Value) (ho : o.op = .alloc elem) (hz : (P.info? elem).bind (·.zero) = some z)
    (h : ∀ b w', b = w.heap.size → w'.heap[b]? = some (.cells z.cells elem (0, 0)) → Mod NoB w w' → b < w'.heap.size → K (a.put o.dst (.pointer (some ⟨b, 0, none⟩))) w') : o.wp P a w K Q :=
  wp_alloc elem z ho hz (fun w' h1 h2 h3 => h _ w' rfl h1 h2 h3)
theorem wp_byteAt {o : Oper} {a : Act} {w : World} {K : Act → World → Prop} {Q : Exit → Act → World → Prop} (x : Operand) (c : UInt8) (ho : o.op = .buildSlice 25 1 #[(0, x)]) (hx : a.eval x = byteV c) (base : Nat) (hb : base ≤ w.heap.size)
    (h : ∀ v w', v.ownBlock = some w.heap.size → Bts base w' v [c] → Mod NoB w w' → K (a.put o.dst v) w') : o.wp Tryz.prog a w K Q :=
  wp_buildSlice1 25 5 x (byteV c) (.int .u8 0) 1 ho hx Tryz.underlying25 (by kernel_rfl) (by omega) (by omega) rfl (fun w' h1 h2 _ => h _ w' rfl (owns_base (owns_lit h1) hb) h2)
theorem bts_ne {base b : Nat} {w : World} {v : Value} {xs : List UInt8} {cs : Array Value} {T : TypeId} (hg : Bts base w v xs) (hb : w.heap[b]? = some (.cells cs T (0, 0))) (hT : T ≠ 5) : v.ownBlock ≠ some b := by
  intro e
  rcases hg.2 with ⟨rfl, h0⟩ | ⟨g, cap, cur, rfl, -, hg', -⟩
  · cases e
  · cases e
    rw [hg'] at hb
    cases hb
    exact hT rfl
theorem row_lt {w : World} {b : Nat} {o : Obj} (h : w.heap[b]? = some o) : b < w.heap.size := (Array.getElem?_eq_some_iff.1 h).1
theorem id_slice {w : World} {b : Nat} {x : List UInt8} (h : w.heap[b]? = some (.cells (idCells x) 24 (0, 0))) (hx : x.length = 32) : Sl false w (fun _ => True) 1 ByteC (.slice (some ⟨b, 0, none⟩) 32 32) x := by
  have := sl_of_cells (CellsAt.whole h) (by omega)
  rwa [hx] at this
theorem one_is (e : Ent) : shaL ([1] ++ shaL e.1.data.toList ++ shaL e.2) = oneD (leafOf e) := by rw [List.append_assoc]; rfl
theorem two_is (x y : List UInt8) : shaL ([2] ++ x ++ y) = twoD x y := by rw [List.append_assoc]; rfl
/-- An entry's two cells. -/
abbrev EnS := ByteArray × (Option Addr × Nat × Nat)
def EnS.val (x : EnS) : Value := .slice x.2.1 x.2.2.1 x.2.2.2
def entEnc (x : EnS) : List Value := [.string x.1, x.val]
theorem entEnc_len : ∀ x, (entEnc x).length = 2 := fun _ => rfl
theorem entEnc_one : ∀ x, ∀ c ∈ entEnc x, c.oneCell' = true := by
  intro x c hc
  simp only [entEnc, List.mem_cons, List.not_mem_nil, or_false] at hc
  rcases hc with rfl | rfl <;> rfl
def EntX (G : Nat → Prop) (w : World) (x : EnS) (e : Ent) : Prop := x.1 = e.1 ∧ Sl false w G 1 ByteC x.val e.2
theorem EntX.keep {S : Nat → Prop} {w w' : World} {G : Nat → Prop} {x : EnS} {e : Ent} (h : EntX G w x e) (hm : Mod S w w') (hd : ∀ k, G k → ¬ S k) : EntX G w' x e := ⟨h.1, h.2.keep hm hd (fun _ _ h => h)⟩
theorem EntC.ens {w : World} {G : Nat → Prop} {cs : Array Value} {e : Ent} (h : EntC w G cs e) : ∃ x : EnS, cs = (entEnc x).toArray ∧ EntX G w x e := by
  obtain ⟨v, rfl, hs⟩ := h
  obtain ⟨ad, cap, rfl, -, -⟩ := Sl.at hs
  exact ⟨(e.1, ad, e.2.length, cap), rfl, rfl, hs⟩
theorem EntX.ent {w : World} {G : Nat → Prop} {x : EnS} {e : Ent} (h : EntX G w x e) : EntC w Ever (entEnc x).toArray e := ⟨x.val, by unfold entEnc; rw [h.1], h.2.mono (fun _ _ => trivial) (fun _ _ h => h)⟩
theorem entry_i : (Tryz.prog.info? 27).map (fun i => (i.zero, i.size, i.bytes)) = some (some (.agg #[.string ⟨#[]⟩, .slice none 0 0]), 2, 40) := by kernel_rfl
/-- Entries that a call has gathered; X reads one. -/
def Gs (X : World → EnS → Ent → Prop) (base : Nat) (w : World) (v : Value) (l : List Ent) : Prop := ∃ xs, Gat entEnc 27 2 base w v xs ∧ All2 (X w) xs l
section
variable {X : World → EnS → Ent → Prop} {base : Nat} {w : World} {v : Value} {l : List Ent}
theorem Gs.nil (X : World → EnS → Ent → Prop) (base : Nat) (w : World) : Gs X base w (.slice none 0 0) [] := ⟨[], Gat.nil _ _ _ _ _, All2.nil⟩
theorem Gs.keep0 {w' : World} (h : Gs X base w v l) (hm : Mod NoB w w') (hX : ∀ x e, X w x e → X w' x e) : Gs X base w' v l := by
  obtain ⟨xs, h1, h2⟩ := h
  exact ⟨xs, h1.keep0 hm, h2.imp hX⟩
theorem sl_map {α β : Type} {own : Bool} {G : Nat → Prop} {sz : Nat} {R : Array Value → α → Prop} {R' : Array Value → β → Prop} {xs : List α} {l : List β} (h : Sl own w G sz R v xs) (hl : xs.length = l.length)
    (hr : ∀ i (h : i < xs.length) (h' : i < l.length) cs, R cs xs[i] → R' cs l[i]) : Sl own w G sz R' v l := by
  obtain ⟨a, cap, hv, h1, h2, h3⟩ := h
  refine ⟨a, cap, by rw [← hl]; exact hv, by omega, h2, fun hne => ?_⟩
  obtain ⟨b, off, ha, hG, ho, h4⟩ := h3 (by rintro rfl; exact hne (List.length_eq_zero_iff.1 hl.symm))
  refine ⟨b, off, ha, hG, ho, fun i hi => ?_⟩
  obtain ⟨cs, hs, hR, hc⟩ := h4 i (by omega)
  exact ⟨cs, hs, hr i _ hi cs hR, hc⟩
theorem Gs.es (h : Gs X base w v l) (hX : ∀ x e, X w x e → EntC w Ever (entEnc x).toArray e) : Es false w Ever v l := by
  obtain ⟨xs, h1, h2⟩ := h
  have h3 := ((h1.sl entEnc_len).mono (fun _ _ => trivial) (fun _ _ h => h) : Sl true w Ever 2 (fun cs x => cs = (entEnc x).toArray) v xs).weak
  exact sl_map h3 h2.1 (fun i hi hi' cs hR => by subst hR; exact hX _ _ (h2.2 i hi hi'))
theorem Gs.slice (h : Gs X base w v l) : ∃ ad cap, v = .slice ad l.length cap := by
  obtain ⟨xs, h1, h2⟩ := h
  rw [← h2.1]
  exact h1.slice
theorem Gs.lt (h : Gs X base w v l) {q : Nat} (hq : v.ownBlock = some q) : base ≤ q ∧ q < w.heap.size := by
  obtain ⟨xs, h1, h2⟩ := h
  exact h1.lt hq
/-- One entry more. -/
theorem wp_gs {o : Oper} {a : Act} {K : Act → World → Prop} {Q : Exit → Act → World → Prop} (s x : Operand) (ho : o.op = .call { callee := .builtin .append, args := #[s, x], argTypes := #[22, 22] })
    (hs : a.eval s = v) (hg : Gs X base w v l) (b : Nat) (y : EnS) (e : Ent) (hx : a.eval x = .slice (some ⟨b, 0, none⟩) 1 1) (hb : w.heap[b]? = some (.cells (entEnc y).toArray 27 (0, 0))) (hy : X w y e)
    (hlen : l.length ≤ 4096) (hbase : base ≤ w.heap.size) (hX : ∀ xs w' x e, Gat entEnc 27 2 base w v xs → Mod (fun q => v.ownBlock = some q) w w' → X w x e → X w' x e)
    (h : ∀ v' w', Gs X base w' v' (l ++ [e]) → Mod (fun q => v.ownBlock = some q) w w' → K (a.put o.dst v') w') : o.wp Tryz.prog a w K Q := by
  obtain ⟨xs, h1, h2⟩ := hg
  have hcl := h2.1
  refine wp_gat entEnc s x 22 27 (.agg #[.string ⟨#[]⟩, .slice none 0 0]) 2 40 ho Tryz.underlying22 entry_i rfl (by omega) entEnc_one base v xs hs h1 _ [y] hx (src_lit entEnc_len hb) (by simp only [List.length_singleton]; unfold maxLen; omega) (by simp only [List.length_singleton]; omega) hbase (fun v' w' hg' hm => ?_)
  exact h v' w' ⟨_, hg', (h2.snoc hy).imp fun x e => hX xs w' x e h1 hm⟩ hm
end
theorem Es.inside {own : Bool} {w : World} {G : Nat → Prop} {v : Value} {l : List Ent} (h : Es own w G v l) : Es own w (fun k => k < w.heap.size) v l := (Sl.inside h (by omega)).mono (fun _ h => h) (fun _ _ ⟨v, e, hs⟩ => ⟨v, e, Sl.inside hs (by omega)⟩)
theorem chkE_of {l : List Ent} (h1 : l.length ≤ 4096) (h2 : (l.map (·.1)).Nodup) (h3 : ((leavesE l).map (·.way)).Nodup) : chkE l = 0 := by
  unfold chkE
  rw [if_neg (by omega), if_neg (fun h => h h2), if_neg (fun h => h h3)]
/-- The copies that a call has made. -/
def CpX (base : Nat) (w : World) (y : EnS) (e : Ent) : Prop := y.1 = e.1 ∧ Bts base w y.val e.2
theorem bts_sep {base base' : Nat} {w : World} {v u : Value} {xs : List EnS} {bs : List UInt8} (hg : Gat entEnc 27 2 base w v xs) (hb : Bts base' w u bs) : ∀ k, u.ownBlock = some k → ¬ v.ownBlock = some k := by
  intro k h1 h2
  rcases hb.2 with ⟨rfl, -⟩ | ⟨g, cap, cur, rfl, -, hg1, -⟩
  · cases h1
  · rcases hg.2 with ⟨rfl, -⟩ | ⟨g', cap', cur', rfl, -, hg2, -⟩
    · cases h2
    · cases h1; cases h2
      rw [hg1] at hg2
      injection hg2 with hg2
      injection hg2 with _ hT _
      exact absurd hT (by decide)
def CpRel (l : List Ent) (w0 : World) (s i : Value) (w : World) : Prop := ∃ k : Nat, k ≤ l.length ∧ i = .int .i64 k ∧ Gs (CpX w0.heap.size) w0.heap.size w s (l.take k) ∧ Mod NoB w0 w
def CpR (w : World) (l : List Ent) : Ending → World → Prop := fun e w' => ∃ v, e = .returned v ∧ Gs (CpX w.heap.size) w.heap.size w' v l ∧ Mod NoB w w'
theorem CpX.keep0 {base : Nat} {w w' : World} {y : EnS} {e : Ent} (h : CpX base w y e) (hm : Mod NoB w w') : CpX base w' y e := ⟨h.1, h.2.keep hm (fun _ _ => id)⟩
set_option maxRecDepth 10000 in
set_option maxHeartbeats 400000 in
theorem copyEs_any {own : Bool} {w : World} {G : Nat → Prop} {v : Value} {l : List Ent} (h : Es own w G v l) (hs : Short l) (hlen : l.length ≤ 4096) : Calls Tryz.prog 6 #[v] w (CpR w l) := by
  have HS := Lib.hid (Es.inside h)
  obtain ⟨ad, cap, rfl, hlm, -⟩ := Sl.at h
  clear h
  go_enter Tryz.func6, Tryz.ntmps6
  go_wp2
  go_loopw [3, 4] (CpRel l w) (fun _ i _ => l.length - (intOf i).toNat)
  case atStart => exact ⟨0, by omega, rfl, Gs.nil _ _ _, Mod.refl _ _⟩
  case round =>
    rename World => wr
    obtain ⟨k, hk, rfl, hgs, hm⟩ := hrel
    have HGS := Lib.hid hgs
    obtain ⟨adb, capb, rfl⟩ := hgs.slice
    clear hgs
    by_cases hlt : k < l.length
    · have hz : (k : Int) < (l.length : Int) := by omega
      have HTK := Lib.hid (show l.take (k + 1) = l.take k ++ [l[k]] by rw [List.take_add_one, List.getElem?_eq_getElem hlt]; rfl)
      have hbl : (l.take k).length ≤ 4096 := by rw [List.length_take]; omega
      obtain ⟨_, _, hv, -, hat⟩ := Sl.at (HS.out.keep0 hm)
      cases hv
      obtain ⟨b, off, rfl, hgb, -, hc⟩ := hat k hlt
      obtain ⟨cs, hcs2, ⟨vv, rfl, hsl⟩, hc⟩ := hc k hlt
      have hsh := hs l[k] (List.getElem_mem hlt)
      have hc0 := hc.cell (j := 0) (v := .string l[k].1) rfl
      have hc1 := hc.cell (j := 1) (v := vv) rfl
      obtain ⟨av, cv, rfl, -, -⟩ := Sl.at hsl
      rw [Nat.add_zero] at hc0
      have HSL := Lib.hid hsl
      clear hat hc hsl
      obtain ⟨bq, hbq⟩ : ∃ bk, bk = l.take k := ⟨_, rfl⟩
      rw [← hbq] at HGS HTK hbl ⊢
      obtain ⟨x, hx⟩ : ∃ x, l[k] = x := ⟨_, rfl⟩
      rw [hx] at hc0 hc1 HSL HTK hsh
      clear hbq hx
      go_upto_region 5 with (fail)
      have hD : Mod NoB wr wr.drew := (Mod.refl _ _).drew
      have hS : Mod (fun q => w.heap.size ≤ q) wr wr.drew := (Mod.refl _ _).drew
      have hnb : ¬ w.heap.size ≤ b := Nat.not_le.2 hgb
      have hsz := hm.size
      refine wp_region_pi [(0, 3), (1, 3), (2, 3), (3, 3), (4, 3), (5, 0), (6, 3), (7, 3), (8, 3), (9, 3), (10, 0), (11, 1), (12, 0), (13, 1), (14, 1), (15, 3)] [] (fun w' => Mod (fun q => w.heap.size ≤ q) wr w') (by kernel_rfl) (by kernel_rfl) (by kernel_rfl) (by kernel_rfl) (fun _ _ _ _ hd h => ⟨hd.trans h.1, h.2⟩) hS ?_
      simp only [List.map_cons, List.map_nil, List.getD_cons_zero, List.getD_cons_succ]
      refine wpPi_move _ rfl rfl ?_
      simp only [pl, pn, el, ec, sz, ss, gz, gs, if_true, if_false, Bool.false_eq_true, Bool.not_true, Bool.not_false, Nat.add_zero, Nat.zero_add, Nat.reduceAdd]
      refine wpPi_move _ rfl rfl ?_
      simp only [pl, pn, el, ec, sz, ss, gz, gs, if_true, if_false, Bool.false_eq_true, Bool.not_true, Bool.not_false, Nat.add_zero, Nat.zero_add, Nat.reduceAdd]
      refine wpPi_move _ rfl rfl ?_
      simp only [pl, pn, el, ec, sz, ss, gz, gs, if_true, if_false, Bool.false_eq_true, Bool.not_true, Bool.not_false, Nat.add_zero, Nat.zero_add, Nat.reduceAdd]
      refine wpPi_index _ _ _ _ _ _ _ _ _ rfl rfl rfl rfl Tryz.underlying22 (n := 2) (by kernel_rfl) hlt ?_
      simp only [pl, pn, el, ec, sz, ss, gz, gs, if_true, if_false, Bool.false_eq_true, Bool.not_true, Bool.not_false, Nat.add_zero, Nat.zero_add, Nat.reduceAdd]
      refine wpPi_field _ _ _ _ _ _ rfl rfl rfl fo_27_0 ?_
      simp only [pl, pn, el, ec, sz, ss, gz, gs, if_true, if_false, Bool.false_eq_true, Bool.not_true, Bool.not_false, Nat.add_zero, Nat.zero_add, Nat.reduceAdd]
      refine wpPi_val rfl (fun w' hS => exec_load1 9 _ (by rfl) b (off + k * 2) (by rfl) (.string x.1) (hS.cell hnb hc0) _ Tryz.underlying9 rfl) ?_
      simp only [pl, pn, el, ec, sz, ss, gz, gs, if_true, if_false, Bool.false_eq_true, Bool.not_true, Bool.not_false, Nat.add_zero, Nat.zero_add, Nat.reduceAdd]
      refine wpPi_move _ rfl rfl ?_
      simp only [pl, pn, el, ec, sz, ss, gz, gs, if_true, if_false, Bool.false_eq_true, Bool.not_true, Bool.not_false, Nat.add_zero, Nat.zero_add, Nat.reduceAdd]
      refine wpPi_move _ rfl rfl ?_
      simp only [pl, pn, el, ec, sz, ss, gz, gs, if_true, if_false, Bool.false_eq_true, Bool.not_true, Bool.not_false, Nat.add_zero, Nat.zero_add, Nat.reduceAdd]
      refine wpPi_index _ _ _ _ _ _ _ _ _ rfl rfl rfl rfl Tryz.underlying22 (n := 2) (by kernel_rfl) hlt ?_
      simp only [pl, pn, el, ec, sz, ss, gz, gs, if_true, if_false, Bool.false_eq_true, Bool.not_true, Bool.not_false, Nat.add_zero, Nat.zero_add, Nat.reduceAdd]
      refine wpPi_field _ _ _ _ _ _ rfl rfl rfl fo_27_1 ?_
      simp only [pl, pn, el, ec, sz, ss, gz, gs, if_true, if_false, Bool.false_eq_true, Bool.not_true, Bool.not_false, Nat.add_zero, Nat.zero_add, Nat.reduceAdd]
      refine wpPi_val rfl (fun w' hS => exec_load1 25 _ (by rfl) b (off + k * 2 + 1) (by rfl) _ (hS.cell hnb hc1) _ Tryz.underlying25 rfl) ?_
      simp only [pl, pn, el, ec, sz, ss, gz, gs, if_true, if_false, Bool.false_eq_true, Bool.not_true, Bool.not_false, Nat.add_zero, Nat.zero_add, Nat.reduceAdd]
      refine wpPi_do rfl (fun K hK => ?_)
      refine wp_enterQ (run_call 20 [.tmp 21] _ rfl _ Tryz.func20 rfl (by kernel_rfl) [.slice av x.2.length cv] rfl _) (copyBytes_any (HSL.out.keep0 hD) hsh.2) ?_
      rintro e w5 ⟨v5, rfl, hb5, hm5⟩
      replace hb5 : Bts w.heap.size w5 v5 x.2 := owns_base hb5 (by have := hD.size; omega)
      have hM5 := hD.trans0 hm5
      obtain ⟨a5, c5, rfl, -, -⟩ := Sl.at hb5.sl
      refine ⟨_, rfl, hK _ _ (hM5.mono fun _ _ h => h.elim) ?_⟩
      clear hK K
      try simp only [pl, pn, el, ec, sz, ss, gz, gs, if_true, if_false, Bool.false_eq_true, Bool.not_true, Bool.not_false, Nat.add_zero, Nat.zero_add, Nat.reduceAdd]
      refine wpPi_val rfl (fun w' hS => exec_build_of 27 [(0, _), (1, _)] [(0, .string x.1), (1, .slice a5 x.2.length c5)] _ (by rfl) (by rfl) (built_ent2 x.1 (.slice a5 x.2.length c5) rfl)) ?_
      simp only [pl, pn, el, ec, sz, ss, gz, gs, if_true, if_false, Bool.false_eq_true, Bool.not_true, Bool.not_false, Nat.add_zero, Nat.zero_add, Nat.reduceAdd]
      refine wpPi_do rfl (fun K hK => ?_)
      refine wp_buildSlice1 22 27 _ (.agg #[.string x.1, .slice a5 x.2.length c5]) (.agg #[.string ⟨#[]⟩, .slice none 0 0]) 2 (by rfl) (by rfl) Tryz.underlying22 entry_i2 (by omega) (by omega) rfl (fun w6 hB6 hm6 hs6 => ?_)
      replace hB6 : w6.heap[w5.heap.size]? = some (.cells (entEnc (x.1, a5, x.2.length, c5)).toArray 27 (0, 0)) := hB6
      have hM6 := hM5.trans0 hm6
      refine hK _ _ (hM6.mono fun _ _ h => h.elim) ?_
      clear hK K
      try simp only [pl, pn, el, ec, sz, ss, gz, gs, if_true, if_false, Bool.false_eq_true, Bool.not_true, Bool.not_false, Nat.add_zero, Nat.zero_add, Nat.reduceAdd]
      refine wpPi_do rfl (fun K hK => ?_)
      refine wp_gs (X := CpX w.heap.size) (base := w.heap.size) _ _ (by rfl) (by rfl) (HGS.out.keep0 hM6 (fun x e h => h.keep0 hM6)) w5.heap.size (x.1, a5, x.2.length, c5) x (by rfl) hB6 ⟨rfl, hb5.keep hm6 (fun _ _ => id)⟩ hbl (by have := hM6.size; omega) (fun xs w' x e hg hm h => ⟨h.1, h.2.keep hm (bts_sep hg h.2)⟩) (fun v7 w7 hg7 hm7 => ?_)
      rw [← HTK.out] at hg7
      have hM7 : Mod NoB w w7 := (hm.trans0 hM6).trans hm7 (fun k hk e => by have := (HGS.out.lt e).1; omega)
      refine hK _ _ ((hM6.mono fun _ _ h => h.elim).trans hm7 (fun k hk e => (HGS.out.lt e).1)) ?_
      clear hK K
      try simp only [pl, pn, el, ec, sz, ss, gz, gs, if_true, if_false, Bool.false_eq_true, Bool.not_true, Bool.not_false, Nat.add_zero, Nat.zero_add, Nat.reduceAdd]
      refine wpPi_assign _ rfl rfl ?_
      simp only [pl, pn, el, ec, sz, ss, gz, gs, if_true, if_false, Bool.false_eq_true, Bool.not_true, Bool.not_false, Nat.add_zero, Nat.zero_add, Nat.reduceAdd]
      refine wpPi_nil ?_
      clear hD hS hm hm5 hm6 hm7 hM5 hM6 hB6 hb5 HGS HSL HTK
      go_wp2
      go_roundw
      case rel => exact ⟨k + 1, by omega, by go_num, hg7, hM7⟩
      case measure => simp [intOf]; omega
    · obtain rfl : k = l.length := by omega
      rw [List.take_length] at HGS ⊢
      go_wp2
      go_ret
      exact ⟨_, rfl, HGS.out, hm⟩
end Go.Proofs.YtchkikmmcmjcgaaGreat

/- SHA-256, the document's: turn, keys. -/
namespace Go.Proofs.YtchkikmmcmjcgaaGreat
set_option linter.unusedSimpArgs false
set_option linter.unusedVariables false
set_option linter.unnecessarySimpa false
set_option linter.unusedSectionVars false
open Go.RowKit


theorem w8Z : (Tryz.prog.info? 92).bind (·.zero) = some (.agg (wordCells (List.replicate 8 0))) := by kernel_rfl
set_option maxRecDepth 10000 in
theorem refTurn_any (x : UInt32) (n : Nat) (h : 0 < n ∧ n < 32) (w : World) : Calls Tryz.prog 92 #[wordV x, .int .i64 (n : Int)] w (RetM (wordV (rotr x n)) w) := by
  have hc : rotr x n = shrU x n ||| shlU x (32 - n) := by unfold rotr; exact UInt32.or_comm _ _
  rw [hc]
  clear hc
  go_enter Tryz.func92, Tryz.ntmps92
  go_upto_region 1 with (fail)
  refine wp_region_pi [(0, 3), (1, 3), (2, 3), (3, 3), (4, 3), (5, 3), (6, 3), (7, 3), (8, 3)] [] (fun _ => True) (by kernel_rfl) (by kernel_rfl) (by kernel_rfl) (by kernel_rfl) (fun _ _ _ _ hd h => ⟨hd.trans h.1, h.2⟩) trivial ?_
  simp only [List.map_cons, List.map_nil, List.getD_cons_zero, List.getD_cons_succ]
  refine wpPi_move _ rfl rfl ?_
  simp only [pl, pn, el, ec, sz, ss, gz, gs, if_true, if_false, Bool.false_eq_true, Bool.not_true, Bool.not_false, Nat.add_zero, Nat.zero_add, Nat.reduceAdd]
  refine wpPi_move _ rfl rfl ?_
  simp only [pl, pn, el, ec, sz, ss, gz, gs, if_true, if_false, Bool.false_eq_true, Bool.not_true, Bool.not_false, Nat.add_zero, Nat.zero_add, Nat.reduceAdd]
  refine wpPi_shr32 _ _ _ _ _ .i64 n rfl rfl rfl rfl (by omega) ?_
  simp only [pl, pn, el, ec, sz, ss, gz, gs, if_true, if_false, Bool.false_eq_true, Bool.not_true, Bool.not_false, Nat.add_zero, Nat.zero_add, Nat.reduceAdd]
  refine wpPi_move _ rfl rfl ?_
  simp only [pl, pn, el, ec, sz, ss, gz, gs, if_true, if_false, Bool.false_eq_true, Bool.not_true, Bool.not_false, Nat.add_zero, Nat.zero_add, Nat.reduceAdd]
  refine wpPi_move _ rfl rfl ?_
  simp only [pl, pn, el, ec, sz, ss, gz, gs, if_true, if_false, Bool.false_eq_true, Bool.not_true, Bool.not_false, Nat.add_zero, Nat.zero_add, Nat.reduceAdd]
  refine wpPi_subR _ _ _ _ 32 (n : Int) ((32 - n : Nat) : Int) rfl rfl rfl rfl (by omega) (by omega) (by omega) ?_
  simp only [pl, pn, el, ec, sz, ss, gz, gs, if_true, if_false, Bool.false_eq_true, Bool.not_true, Bool.not_false, Nat.add_zero, Nat.zero_add, Nat.reduceAdd]
  refine wpPi_shl32 _ _ _ _ _ .i64 (32 - n) rfl rfl rfl rfl (by omega) ?_
  simp only [pl, pn, el, ec, sz, ss, gz, gs, if_true, if_false, Bool.false_eq_true, Bool.not_true, Bool.not_false, Nat.add_zero, Nat.zero_add, Nat.reduceAdd]
  refine wpPi_or32 _ _ _ _ _ _ rfl rfl rfl rfl ?_
  simp only [pl, pn, el, ec, sz, ss, gz, gs, if_true, if_false, Bool.false_eq_true, Bool.not_true, Bool.not_false, Nat.add_zero, Nat.zero_add, Nat.reduceAdd]
  refine wpPi_assign _ rfl rfl ?_
  simp only [pl, pn, el, ec, sz, ss, gz, gs, if_true, if_false, Bool.false_eq_true, Bool.not_true, Bool.not_false, Nat.add_zero, Nat.zero_add, Nat.reduceAdd]
  refine wpPi_nil ?_
  go_wp2
  go_ret
  exact ⟨rfl, (Mod.refl _ _).drew⟩
set_option maxRecDepth 10000 in
theorem refKeys_any (w : World) : Calls Tryz.prog 93 #[] w (RetM (.agg (wordCells shaKeys)) w) := by
  go_enter Tryz.func93, Tryz.ntmps93
  go_upto_region 0 with (fail)
  refine wp_region_seq [1] (fun _ => True) (by rfl) (by rfl) trivial ?_
  simp only [List.zip_cons_cons, List.zip_nil_right]
  refine wpPi_do rfl (fun K hK => ?_)
  refine wp_alloc 125 _ (by rfl) w64Z (fun w1 hB1 hm1 hs1 => ?_)
  replace hB1 : w1.heap[w.heap.size]? = some (.cells (wordCells (List.replicate 64 0)) 125 (0, 0)) := hB1
  refine hK _ _ trivial ?_
  clear hK K
  try simp only [pl, pn, el, ec, sz, ss, gz, gs, if_true, if_false, Bool.false_eq_true, Bool.not_true, Bool.not_false, Nat.add_zero, Nat.zero_add, Nat.reduceAdd]
  refine wpPi_nil ?_
  go_upto_region 1 with (fail)
  refine wp_region_seq [1, 1] (fun _ => True) (by rfl) (by rfl) trivial ?_
  simp only [List.zip_cons_cons, List.zip_nil_right]
  refine wpPi_do rfl (fun K hK => ?_)
  refine wp_exec (exec_build_of 125 _ _ (wordCells shaKeys) (by rfl) (by rfl) (by kernel_rfl)) ?_
  refine hK _ _ trivial ?_
  clear hK K
  try simp only [pl, pn, el, ec, sz, ss, gz, gs, if_true, if_false, Bool.false_eq_true, Bool.not_true, Bool.not_false, Nat.add_zero, Nat.zero_add, Nat.reduceAdd]
  refine wpPi_do rfl (fun K hK => ?_)
  refine wp_storeA 125 _ _ w.heap.size 0 (wordCells shaKeys) (by rfl) (by rfl) (by rfl) (wordCells_one _) 64 (by kernel_rfl) (by kernel_rfl) _ _ hB1 (by rw [wordCells_size, wordCells_size]; simp [shaKeys]) (fun w2 hB2 hm2 => ?_)
  refine hK _ _ trivial ?_
  clear hK K
  try simp only [pl, pn, el, ec, sz, ss, gz, gs, if_true, if_false, Bool.false_eq_true, Bool.not_true, Bool.not_false, Nat.add_zero, Nat.zero_add, Nat.reduceAdd]
  refine wpPi_nil ?_
  rw [putRow_whole (by kernel_rfl)] at hB2
  go_wp2
  refine bodyPost_ret (results_cell_row rfl _ _ w.heap.size _ _ _ _ (by rfl) hB2 Tryz.underlying125 rfl (by kernel_rfl)) rfl ?_
  exact ⟨rfl, hm1.transB hm2 (Nat.le_refl _)⟩
end Go.Proofs.YtchkikmmcmjcgaaGreat
