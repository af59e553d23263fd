/- What the statement TreeMisses needs, part 6. -/
import Derived.Test.YtchkikmmcmjcgaaTreeMissesP5
/- tree.Proves: does a path prove an entry. -/
namespace Go.Proofs.Ytchkikmmcmjcgaa
set_option linter.unusedSimpArgs false
set_option linter.unusedVariables false
set_option linter.unnecessarySimpa false
set_option linter.unusedSectionVars false
open Go.RowKit Go.Shelf

theorem fo_84_0 : fieldOff Try.prog 84 0 = some 0 := by kernel_rfl
theorem fo_84_1 : fieldOff Try.prog 84 1 = some 1 := by kernel_rfl
theorem Sl.inside {α : Type} {own : Bool} {w : World} {G : Nat → Prop} {sz : Nat} {R : Array Value → α → Prop} {v : Value} {l : List α} (h : Sl own w G sz R v l) (hz : 0 < sz) : Sl own w (fun k => k < w.heap.size) sz R v l := by
  obtain ⟨ad, cap, e, h1, h2, h3⟩ := h
  refine ⟨ad, cap, e, h1, h2, fun hne => ?_⟩
  obtain ⟨b, off, ha, hG, ho, hc⟩ := h3 hne
  refine ⟨b, off, ha, ?_, ho, hc⟩
  cases l with
  | nil => exact absurd rfl hne
  | cons x l =>
    obtain ⟨cs, hs, _, hcs⟩ := hc 0 (by simp)
    have h0 := hcs 0 (by omega)
    rw [Array.getElem?_eq_getElem (by omega : 0 < cs.size)] at h0
    exact block_lt_of_cell h0
def SideC (cs : Array Value) (s : SideL) : Prop := cs = sideCells s ∧ s.2.length = 32
def Ss (own : Bool) (w : World) (G : Nat → Prop) (v : Value) (ps : List SideL) : Prop := Sl own w G 33 SideC v ps
theorem side_flag {w : World} {b off : Nat} {s : SideL} (h : CellsAt w b off (sideCells s)) : w.cell? ⟨b, off + 0, none⟩ = some (.bool s.1) := h.cell (j := 0) (by simp [sideCells, sideEnc])
theorem side_other {w : World} {b off : Nat} {s : SideL} (hs : s.2.length = 32) (h : CellsAt w b off (sideCells s)) : CellsAt w b (off + 1) (idCells s.2) := by
  have := h.part (i := 1) (j := 33) (by rw [sideCells_size]; omega)
  have e : (sideCells s).extract 1 33 = idCells s.2 := by
    simp only [sideCells, sideEnc, idCells, List.extract_toArray, List.extract_eq_take_drop, fit32_eq hs]
    congr 1
    show List.take 32 (List.map byteV s.2) = _
    rw [List.take_of_length_le (by simp [hs])]
  rwa [e] at this
theorem climb_len (d : List UInt8) (s : SideL) : (climb d s).length = 32 := by unfold climb; split <;> exact shaL_len _
theorem fold_len (ps : List SideL) (d : List UInt8) (hd : d.length = 32) : (ps.foldl climb d).length = 32 := by
  induction ps generalizing d with
  | nil => exact hd
  | cons s ps ih => exact ih _ (climb_len d s)
theorem fold_succ {ps : List SideL} {k : Nat} (h : k < ps.length) (d : List UInt8) : (ps.take (k + 1)).foldl climb d = climb ((ps.take k).foldl climb d) ps[k] := by
  rw [List.take_succ_eq_append_getElem h, List.foldl_append]; rfl
def PvRel (ps : List SideL) (d0 : List UInt8) (b7 : Nat) (w0 : World) (i : Value) (w : World) : Prop := ∃ k : Nat, k ≤ ps.length ∧ i = .int .i64 k ∧ w.heap[b7]? = some (.cells (idCells ((ps.take k).foldl climb d0)) 38 (0, 0)) ∧ Mod (fun q => q = b7) w0 w
set_option maxRecDepth 10000 in
theorem proves_long {own : Bool} {w : World} {G' : Nat → Prop} {cs : Array Value} {vp : Value} {ps : List SideL} (root : List UInt8) (x : Leaf) (hp : Ss own w G' vp ps) (hlen : 256 < ps.length) :
    Calls Try.prog 20 #[.agg (idCells root), .agg cs, vp] w (RetM (.bool (provesL root x ps)) w) := by
  obtain ⟨ad, cap, rfl, -, -⟩ := Sl.at hp
  have e : provesL root x ps = false := by unfold provesL; rw [decide_eq_false (by omega)]; rfl
  have hz : (ps.length : Int) > 256 := by omega
  rw [e]
  obtain ⟨C, hC⟩ : ∃ C, idCells root = C := ⟨_, rfl⟩
  rw [hC]
  clear hp e hC
  go_enter Try.func20, Try.ntmps20
  go_upto_region 0 with (fail)
  refine wp_region_seq [1, 1, 3] (fun _ => True) (by rfl) (by rfl) trivial ?_
  simp only [List.zip_cons_cons, List.zip_nil_right]
  refine wpPi_do rfl (fun K hK => ?_)
  refine wp_box 38 _ _ (by rfl) (by rfl) (fun w1 hB1 hm1 hs1 => ?_)
  refine hK _ _ trivial ?_
  clear hK K
  try simp only [pl, pn, el, ec, sz, ss, gz, gs, if_true, if_false, Bool.false_eq_true, Bool.not_true, Bool.not_false, Nat.add_zero, Nat.zero_add, Nat.reduceAdd]
  refine wpPi_do rfl (fun K hK => ?_)
  refine wp_box 35 _ _ (by rfl) (by rfl) (fun w2 hB2 hm2 hs2 => ?_)
  refine hK _ _ trivial ?_
  clear hK K
  try simp only [pl, pn, el, ec, sz, ss, gz, gs, if_true, if_false, Bool.false_eq_true, Bool.not_true, Bool.not_false, Nat.add_zero, Nat.zero_add, Nat.reduceAdd]
  refine wpPi_assign _ rfl rfl ?_
  simp only [pl, pn, el, ec, sz, ss, gz, gs, if_true, if_false, Bool.false_eq_true, Bool.not_true, Bool.not_false, Nat.add_zero, Nat.zero_add, Nat.reduceAdd]
  refine wpPi_nil ?_
  have hM := hm1.trans0 hm2
  clear hB1 hB2
  go_wp2
  go_ret
  exact ⟨rfl, hM⟩
set_option maxRecDepth 10000 in
set_option maxHeartbeats 1000000 in
theorem proves_any {own : Bool} {w : World} {G G' : Nat → Prop} {cs : Array Value} {e : Ent} {vp : Value} {ps : List SideL} (root : List UInt8) (hroot : root.length = 32) (he : EntC w G cs e) (h1 : e.1.size ≤ 1000000) (h2 : e.2.length ≤ 1000000) (hp : Ss own w G' vp ps) :
    Calls Try.prog 20 #[.agg (idCells root), .agg cs, vp] w (RetM (.bool (provesL root (leafOf e) ps)) w) := by
  rcases Nat.lt_or_ge 256 ps.length with hlong | hlen
  · exact proves_long root _ hp hlong
  have HP := Lib.hid hp
  have HE := Lib.hid he
  have hcs2 : cs.size = 2 := by obtain ⟨v, rfl, -⟩ := he; rfl
  have hce : (Value.agg cs).cells = cs := rfl
  obtain ⟨ad, cap, rfl, -, -⟩ := Sl.at hp
  have hz : ¬ (ps.length : Int) > 256 := by omega
  have hpl : provesL root (leafOf e) ps = decide (ps.foldl climb (oneD (leafOf e)) = root) := by unfold provesL; rw [decide_eq_true hlen]; rfl
  have hd0 : (oneD (leafOf e)).length = 32 := shaL_len _
  have hls := leaf_len e
  rw [hpl]
  have hrs : (idCells root).size = 32 := by rw [idCells_size, hroot]
  obtain ⟨C, hC⟩ : ∃ C, idCells root = C := ⟨_, rfl⟩
  have HC := Lib.hid hC
  rw [hC] at hrs ⊢
  clear hp hC hpl he
  go_enter Try.func20, Try.ntmps20
  go_upto_region 0 with (fail)
  refine wp_region_seq [1, 1, 3] (fun _ => True) (by rfl) (by rfl) trivial ?_
  simp only [List.zip_cons_cons, List.zip_nil_right]
  refine wpPi_do rfl (fun K hK => ?_)
  refine wp_box 38 _ _ (by rfl) (by rfl) (fun w1 hB1 hm1 hs1 => ?_)
  replace hB1 : w1.heap[w.heap.size]? = some (.cells C 38 (0, 0)) := hB1
  refine hK _ _ trivial ?_
  clear hK K
  try simp only [pl, pn, el, ec, sz, ss, gz, gs, if_true, if_false, Bool.false_eq_true, Bool.not_true, Bool.not_false, Nat.add_zero, Nat.zero_add, Nat.reduceAdd]
  refine wpPi_do rfl (fun K hK => ?_)
  refine wp_box 35 _ _ (by rfl) (by rfl) (fun w2 hB2 hm2 hs2 => ?_)
  replace hB2 : w2.heap[w1.heap.size]? = some (.cells cs 35 (0, 0)) := hB2
  replace hB1 := hm2.obj id hB1
  refine hK _ _ trivial ?_
  clear hK K
  try simp only [pl, pn, el, ec, sz, ss, gz, gs, if_true, if_false, Bool.false_eq_true, Bool.not_true, Bool.not_false, Nat.add_zero, Nat.zero_add, Nat.reduceAdd]
  refine wpPi_assign _ rfl rfl ?_
  simp only [pl, pn, el, ec, sz, ss, gz, gs, if_true, if_false, Bool.false_eq_true, Bool.not_true, Bool.not_false, Nat.add_zero, Nat.zero_add, Nat.reduceAdd]
  refine wpPi_nil ?_
  have hM2 := hm1.trans0 hm2
  have hb3 : w.heap.size < w2.heap.size := by omega
  generalize w1.heap.size = b4 at *
  clear hm1 hm2
  go_upto_region 3 with (fail)
  refine wp_region_seq [1, 1, 1, 1, 1] (fun _ => True) (by rfl) (by rfl) trivial ?_
  simp only [List.zip_cons_cons, List.zip_nil_right]
  refine wpPi_do rfl (fun K hK => ?_)
  refine wp_exec (exec_loadA 35 _ (by rfl) b4 0 (by rfl) cs (CellsAt.whole hB2) _ Try.underlying35 rfl 2 (by kernel_rfl) hcs2) ?_
  refine hK _ _ trivial ?_
  clear hK K
  try simp only [pl, pn, el, ec, sz, ss, gz, gs, if_true, if_false, Bool.false_eq_true, Bool.not_true, Bool.not_false, Nat.add_zero, Nat.zero_add, Nat.reduceAdd]
  refine wpPi_do rfl (fun K hK => ?_)
  refine wp_enterQ (run_call 43 [.tmp 13] _ rfl _ Try.func43 rfl (by kernel_rfl) [.agg cs] rfl _) (of_any (HE.out.keep hM2 (fun _ _ => id)) h1 h2) ?_
  rintro e3 w3 ⟨rfl, hm3⟩
  refine ⟨_, rfl, hK _ _ trivial ?_⟩
  clear hK K
  try simp only [pl, pn, el, ec, sz, ss, gz, gs, if_true, if_false, Bool.false_eq_true, Bool.not_true, Bool.not_false, Nat.add_zero, Nat.zero_add, Nat.reduceAdd]
  refine wpPi_do rfl (fun K hK => ?_)
  refine wp_enterQ (run_call 44 [.tmp 14] _ rfl _ Try.func44 rfl (by kernel_rfl) [.agg (leafCells (leafOf e))] rfl _) (one_any _ hls _) ?_
  rintro e4 w4 ⟨rfl, hm4⟩
  generalize hdd : oneD (leafOf e) = d0 at *
  refine ⟨_, rfl, hK _ _ trivial ?_⟩
  clear hK K
  try simp only [pl, pn, el, ec, sz, ss, gz, gs, if_true, if_false, Bool.false_eq_true, Bool.not_true, Bool.not_false, Nat.add_zero, Nat.zero_add, Nat.reduceAdd]
  refine wpPi_do rfl (fun K hK => ?_)
  refine wp_alloc 38 _ (by rfl) idZ (fun w5 hB5 hm5 hs5 => ?_)
  replace hB5 : w5.heap[w4.heap.size]? = some (.cells (idCells (List.replicate 32 0)) 38 (0, 0)) := hB5
  refine hK _ _ trivial ?_
  clear hK K
  try simp only [pl, pn, el, ec, sz, ss, gz, gs, if_true, if_false, Bool.false_eq_true, Bool.not_true, Bool.not_false, Nat.add_zero, Nat.zero_add, Nat.reduceAdd]
  refine wpPi_do rfl (fun K hK => ?_)
  have hrd : (idCells d0).size = 32 := by rw [idCells_size, hd0]
  refine wp_storeA 38 _ _ w4.heap.size 0 (idCells d0) (by rfl) (by rfl) (by rfl) (idCells_one _) 32 (by kernel_rfl) hrd _ _ hB5 (by rw [hrd, idCells_size]; simp) (fun w6 hB6 hm6 => ?_)
  rw [putRow_whole (by rw [hrd, idCells_size]; rfl)] at hB6
  refine hK _ _ trivial ?_
  clear hK K
  try simp only [pl, pn, el, ec, sz, ss, gz, gs, if_true, if_false, Bool.false_eq_true, Bool.not_true, Bool.not_false, Nat.add_zero, Nat.zero_add, Nat.reduceAdd]
  refine wpPi_nil ?_
  have hM24 := hm3.trans0 hm4
  have hM6 : Mod NoB w2 w6 := (hM24.trans0 hm5).transB hm6 hM24.size
  have hMw := hM2.trans0 hM6
  replace hB1 := hM6.obj id hB1
  have hb7 : w2.heap.size ≤ w4.heap.size := hM24.size
  have HP6 := Lib.hid (Sl.keep0 (Sl.inside HP.out (by omega)) hMw)
  generalize w4.heap.size = b7 at *
  clear hm3 hm4 hm5 hm6 hM24 hB5 hB2 hM6 hM2
  go_wp2
  go_loopw [18] (PvRel ps d0 b7 w6) (fun i _ => ps.length - (intOf i).toNat)
  case atStart => exact ⟨0, by omega, rfl, by simpa using hB6, Mod.refl _ _⟩
  case round =>
    rename World => wr
    obtain ⟨k, hk, rfl, hrow, hm⟩ := hrel
    by_cases hlt : k < ps.length
    · have hz2 : (k : Int) < (ps.length : Int) := by omega
      have hpk := Sl.keepB HP6.out hm (fun q hq => by omega)
      obtain ⟨_, _, hv, -, hat⟩ := Sl.at hpk
      cases hv
      obtain ⟨bq, off, rfl, -, -, hc⟩ := hat k hlt
      obtain ⟨_, -, ⟨rfl, hso⟩, hc⟩ := hc k hlt
      have hss := sideCells_size ps[k]
      have hfs := fold_succ hlt d0
      have hfl := fold_len (ps.take k) d0 hd0
      have hfl2 := climb_len ((ps.take k).foldl climb d0) ps[k]
      have HFS := Lib.hid hfs
      clear hat hpk hfs
      generalize ps[k] = s at *
      obtain ⟨d, hd⟩ : ∃ d, (ps.take k).foldl climb d0 = d := ⟨_, rfl⟩
      rw [hd] at hrow hfl hfl2 HFS
      clear hd
      have hrd : (idCells d).size = 32 := by rw [idCells_size, hfl]
      have hro : (idCells s.2).size = 32 := by rw [idCells_size, hso]
      have hrc : (idCells (climb d s)).size = 32 := by rw [idCells_size, hfl2]
      go_upto_region 6 with (fail)
      refine wp_region_seq [3, 1, 1, 1] (fun _ => True) (by rfl) (by rfl) trivial ?_
      simp only [List.zip_cons_cons, List.zip_nil_right]
      refine wpPi_index _ _ _ _ _ _ _ _ _ rfl rfl rfl rfl Try.underlying41 (n := 33) (by kernel_rfl) hlt ?_
      simp only [pl, pn, el, ec, sz, ss, gz, gs, if_true, if_false, Bool.false_eq_true, Bool.not_true, Bool.not_false, Nat.add_zero, Nat.zero_add, Nat.reduceAdd]
      refine wpPi_do rfl (fun K hK => ?_)
      refine wp_exec (exec_loadA 84 _ (by rfl) bq (off + k * 33) (by rfl) (sideCells s) hc _ Try.underlying84 rfl 33 (by kernel_rfl) hss) ?_
      refine hK _ _ trivial ?_
      clear hK K
      try simp only [pl, pn, el, ec, sz, ss, gz, gs, if_true, if_false, Bool.false_eq_true, Bool.not_true, Bool.not_false, Nat.add_zero, Nat.zero_add, Nat.reduceAdd]
      refine wpPi_do rfl (fun K hK => ?_)
      refine wp_alloc 84 _ (by rfl) sideZ (fun w7 hB7 hm7 hs7 => ?_)
      replace hB7 : w7.heap[wr.heap.size]? = some (.cells (sideCells (false, zeroID)) 84 (0, 0)) := hB7
      refine hK _ _ trivial ?_
      clear hK K
      try simp only [pl, pn, el, ec, sz, ss, gz, gs, if_true, if_false, Bool.false_eq_true, Bool.not_true, Bool.not_false, Nat.add_zero, Nat.zero_add, Nat.reduceAdd]
      refine wpPi_do rfl (fun K hK => ?_)
      refine wp_storeA 84 _ _ wr.heap.size 0 (sideCells s) (by rfl) (by rfl) (by rfl) (sideCells_one _) 33 (by kernel_rfl) hss _ _ hB7 (by rw [hss, sideCells_size]; exact Nat.le_refl _) (fun w8 hB8 hm8 => ?_)
      rw [putRow_whole (by rw [hss, sideCells_size])] at hB8
      refine hK _ _ trivial ?_
      clear hK K
      try simp only [pl, pn, el, ec, sz, ss, gz, gs, if_true, if_false, Bool.false_eq_true, Bool.not_true, Bool.not_false, Nat.add_zero, Nat.zero_add, Nat.reduceAdd]
      refine wpPi_nil ?_
      have hm78 : Mod NoB wr w8 := hm7.transB hm8 (Nat.le_refl _)
      have hM8 : Mod (fun q => q = b7) w6 w8 := hm.trans (hm78.mono fun _ _ h => h.elim) (fun _ _ h => h)
      replace hrow := hm78.obj id hrow
      generalize wr.heap.size = b9 at *
      clear hm7 hm8 hm78 hm hB7 hc
      have hcs := CellsAt.whole hB8
      have hfg := side_flag hcs
      have hot := side_other hso hcs
      simp only [Nat.zero_add] at hfg hot
      have hcr := CellsAt.whole hrow
      go_upto_region 7 with (fail)
      cases hleft : s.1 with
      | true =>
        have hcl : climb d s = twoD s.2 d := by unfold climb; rw [if_pos hleft]
        rw [hcl] at hrc hfl2 HFS
        refine wp_region_seq [3, 1] (fun _ => True) (by rfl) (by rfl) trivial ?_
        simp only [List.zip_cons_cons, List.zip_nil_right]
        refine wpPi_field _ _ _ _ _ _ rfl rfl rfl fo_84_0 ?_
        simp only [pl, pn, el, ec, sz, ss, gz, gs, if_true, if_false, Bool.false_eq_true, Bool.not_true, Bool.not_false, Nat.add_zero, Nat.zero_add, Nat.reduceAdd]
        refine wpPi_do rfl (fun K hK => ?_)
        refine wp_exec (exec_load1 4 _ (by rfl) b9 0 (by rfl) (.bool true) (by rw [← hleft]; exact hfg) _ Try.underlying4 rfl) ?_
        refine hK _ _ trivial ?_
        clear hK K
        try simp only [pl, pn, el, ec, sz, ss, gz, gs, if_true, if_false, Bool.false_eq_true, Bool.not_true, Bool.not_false, Nat.add_zero, Nat.zero_add, Nat.reduceAdd]
        refine wpPi_nil ?_
        go_upto_region 8 with (fail)
        refine wp_region_seq [3, 1, 1, 1, 1] (fun _ => True) (by rfl) (by rfl) trivial ?_
        simp only [List.zip_cons_cons, List.zip_nil_right]
        refine wpPi_field _ _ _ _ _ _ rfl rfl rfl fo_84_1 ?_
        simp only [pl, pn, el, ec, sz, ss, gz, gs, if_true, if_false, Bool.false_eq_true, Bool.not_true, Bool.not_false, Nat.add_zero, Nat.zero_add, Nat.reduceAdd]
        refine wpPi_do rfl (fun K hK => ?_)
        refine wp_exec (exec_loadA 38 _ (by rfl) b9 1 (by rfl) (idCells s.2) hot _ Try.underlying38 rfl 32 (by kernel_rfl) hro) ?_
        refine hK _ _ trivial ?_
        clear hK K
        try simp only [pl, pn, el, ec, sz, ss, gz, gs, if_true, if_false, Bool.false_eq_true, Bool.not_true, Bool.not_false, Nat.add_zero, Nat.zero_add, Nat.reduceAdd]
        refine wpPi_do rfl (fun K hK => ?_)
        refine wp_exec (exec_loadA 38 _ (by rfl) b7 0 (by rfl) (idCells d) hcr _ Try.underlying38 rfl 32 (by kernel_rfl) hrd) ?_
        refine hK _ _ trivial ?_
        clear hK K
        try simp only [pl, pn, el, ec, sz, ss, gz, gs, if_true, if_false, Bool.false_eq_true, Bool.not_true, Bool.not_false, Nat.add_zero, Nat.zero_add, Nat.reduceAdd]
        refine wpPi_do rfl (fun K hK => ?_)
        refine wp_enterQ (run_call 45 [.tmp 25, .tmp 26] _ rfl _ Try.func45 rfl (by kernel_rfl) [.agg (idCells s.2), .agg (idCells d)] rfl _) (two_any s.2 d hso hfl _) ?_
        rintro e9 w9 ⟨rfl, hm9⟩
        replace hrow := hm9.obj id hrow
        generalize twoD s.2 d = y at *
        refine ⟨_, rfl, hK _ _ trivial ?_⟩
        clear hK K
        try simp only [pl, pn, el, ec, sz, ss, gz, gs, if_true, if_false, Bool.false_eq_true, Bool.not_true, Bool.not_false, Nat.add_zero, Nat.zero_add, Nat.reduceAdd]
        refine wpPi_do rfl (fun K hK => ?_)
        refine wp_storeA 38 _ _ b7 0 (idCells y) (by rfl) (by rfl) (by rfl) (idCells_one _) 32 (by kernel_rfl) hrc _ _ hrow (by rw [hrc, hrd]; exact Nat.le_refl _) (fun w10 hB10 hm10 => ?_)
        rw [putRow_whole (by rw [hrc, hrd])] at hB10
        have hM10 : Mod (fun q => q = b7) w6 w10 := (hM8.trans (hm9.mono fun _ _ h => h.elim) (fun _ _ h => h)).trans hm10 (fun _ _ h => h)
        refine hK _ _ trivial ?_
        clear hK K
        try simp only [pl, pn, el, ec, sz, ss, gz, gs, if_true, if_false, Bool.false_eq_true, Bool.not_true, Bool.not_false, Nat.add_zero, Nat.zero_add, Nat.reduceAdd]
        refine wpPi_nil ?_
        clear hm9 hm10 hM8 hrow hcr hot hfg hcs hB8
        go_wp2
        go_roundw
        case rel => exact ⟨k + 1, by omega, by go_num, by rw [HFS.out]; exact hB10, hM10⟩
        case measure => simp [intOf]; omega
      | false =>
        have hcl : climb d s = twoD d s.2 := by unfold climb; rw [if_neg (by rw [hleft]; simp)]
        rw [hcl] at hrc hfl2 HFS
        refine wp_region_seq [3, 1] (fun _ => True) (by rfl) (by rfl) trivial ?_
        simp only [List.zip_cons_cons, List.zip_nil_right]
        refine wpPi_field _ _ _ _ _ _ rfl rfl rfl fo_84_0 ?_
        simp only [pl, pn, el, ec, sz, ss, gz, gs, if_true, if_false, Bool.false_eq_true, Bool.not_true, Bool.not_false, Nat.add_zero, Nat.zero_add, Nat.reduceAdd]
        refine wpPi_do rfl (fun K hK => ?_)
        refine wp_exec (exec_load1 4 _ (by rfl) b9 0 (by rfl) (.bool false) (by rw [← hleft]; exact hfg) _ Try.underlying4 rfl) ?_
        refine hK _ _ trivial ?_
        clear hK K
        try simp only [pl, pn, el, ec, sz, ss, gz, gs, if_true, if_false, Bool.false_eq_true, Bool.not_true, Bool.not_false, Nat.add_zero, Nat.zero_add, Nat.reduceAdd]
        refine wpPi_nil ?_
        go_upto_region 9 with (fail)
        refine wp_region_seq [1, 3, 1, 1, 1] (fun _ => True) (by rfl) (by rfl) trivial ?_
        simp only [List.zip_cons_cons, List.zip_nil_right]
        refine wpPi_do rfl (fun K hK => ?_)
        refine wp_exec (exec_loadA 38 _ (by rfl) b7 0 (by rfl) (idCells d) hcr _ Try.underlying38 rfl 32 (by kernel_rfl) hrd) ?_
        refine hK _ _ trivial ?_
        clear hK K
        try simp only [pl, pn, el, ec, sz, ss, gz, gs, if_true, if_false, Bool.false_eq_true, Bool.not_true, Bool.not_false, Nat.add_zero, Nat.zero_add, Nat.reduceAdd]
        refine wpPi_field _ _ _ _ _ _ rfl rfl rfl fo_84_1 ?_
        simp only [pl, pn, el, ec, sz, ss, gz, gs, if_true, if_false, Bool.false_eq_true, Bool.not_true, Bool.not_false, Nat.add_zero, Nat.zero_add, Nat.reduceAdd]
        refine wpPi_do rfl (fun K hK => ?_)
        refine wp_exec (exec_loadA 38 _ (by rfl) b9 1 (by rfl) (idCells s.2) hot _ Try.underlying38 rfl 32 (by kernel_rfl) hro) ?_
        refine hK _ _ trivial ?_
        clear hK K
        try simp only [pl, pn, el, ec, sz, ss, gz, gs, if_true, if_false, Bool.false_eq_true, Bool.not_true, Bool.not_false, Nat.add_zero, Nat.zero_add, Nat.reduceAdd]
        refine wpPi_do rfl (fun K hK => ?_)
        refine wp_enterQ (run_call 45 [.tmp 28, .tmp 30] _ rfl _ Try.func45 rfl (by kernel_rfl) [.agg (idCells d), .agg (idCells s.2)] rfl _) (two_any d s.2 hfl hso _) ?_
        rintro e9 w9 ⟨rfl, hm9⟩
        replace hrow := hm9.obj id hrow
        generalize twoD d s.2 = y at *
        refine ⟨_, rfl, hK _ _ trivial ?_⟩
        clear hK K
        try simp only [pl, pn, el, ec, sz, ss, gz, gs, if_true, if_false, Bool.false_eq_true, Bool.not_true, Bool.not_false, Nat.add_zero, Nat.zero_add, Nat.reduceAdd]
        refine wpPi_do rfl (fun K hK => ?_)
        refine wp_storeA 38 _ _ b7 0 (idCells y) (by rfl) (by rfl) (by rfl) (idCells_one _) 32 (by kernel_rfl) hrc _ _ hrow (by rw [hrc, hrd]; exact Nat.le_refl _) (fun w10 hB10 hm10 => ?_)
        rw [putRow_whole (by rw [hrc, hrd])] at hB10
        have hM10 : Mod (fun q => q = b7) w6 w10 := (hM8.trans (hm9.mono fun _ _ h => h.elim) (fun _ _ h => h)).trans hm10 (fun _ _ h => h)
        refine hK _ _ trivial ?_
        clear hK K
        try simp only [pl, pn, el, ec, sz, ss, gz, gs, if_true, if_false, Bool.false_eq_true, Bool.not_true, Bool.not_false, Nat.add_zero, Nat.zero_add, Nat.reduceAdd]
        refine wpPi_nil ?_
        clear hm9 hm10 hM8 hrow hcr hot hfg hcs hB8
        go_wp2
        go_roundw
        case rel => exact ⟨k + 1, by omega, by go_num, by rw [HFS.out]; exact hB10, hM10⟩
        case measure => simp [intOf]; omega
    · have hz2 : ¬ (k : Int) < (ps.length : Int) := by omega
      obtain rfl : k = ps.length := by omega
      rw [List.take_length] at hrow
      have hfl := fold_len ps d0 hd0
      obtain ⟨d, hd⟩ : ∃ d, ps.foldl climb d0 = d := ⟨_, rfl⟩
      rw [hd] at hrow hfl
      have HD := Lib.hid hd
      clear hd
      have hrd : (idCells d).size = 32 := by rw [idCells_size, hfl]
      have hb1 := hm.obj (by omega) hB1
      have hMr : Mod NoB w wr := hMw.transB hm (by omega)
      clear hm
      go_upto_region 11 with (fail)
      refine wp_region_seq [1, 1, 0, 3] (fun _ => True) (by rfl) (by rfl) trivial ?_
      simp only [List.zip_cons_cons, List.zip_nil_right]
      refine wpPi_do rfl (fun K hK => ?_)
      refine wp_exec (exec_loadA 38 _ (by rfl) b7 0 (by rfl) (idCells d) (CellsAt.whole hrow) _ Try.underlying38 rfl 32 (by kernel_rfl) hrd) ?_
      refine hK _ _ trivial ?_
      clear hK K
      try simp only [pl, pn, el, ec, sz, ss, gz, gs, if_true, if_false, Bool.false_eq_true, Bool.not_true, Bool.not_false, Nat.add_zero, Nat.zero_add, Nat.reduceAdd]
      refine wpPi_do rfl (fun K hK => ?_)
      refine wp_exec (exec_loadA 38 _ (by rfl) w.heap.size 0 (by rfl) C (CellsAt.whole hb1) _ Try.underlying38 rfl 32 (by kernel_rfl) hrs) ?_
      refine hK _ _ trivial ?_
      clear hK K
      try simp only [pl, pn, el, ec, sz, ss, gz, gs, if_true, if_false, Bool.false_eq_true, Bool.not_true, Bool.not_false, Nat.add_zero, Nat.zero_add, Nat.reduceAdd]
      refine wpPi_val rfl (fun w' hS => exec_eql_id _ _ _ _ rfl d root rfl (by rw [HC.out]; rfl) 32 5 Try.underlying38 Try.underlying5 (by kernel_rfl) (by kernel_rfl) hfl hroot _ rfl) ?_
      simp only [pl, pn, el, ec, sz, ss, gz, gs, if_true, if_false, Bool.false_eq_true, Bool.not_true, Bool.not_false, Nat.add_zero, Nat.zero_add, Nat.reduceAdd]
      refine wpPi_assign _ rfl rfl ?_
      simp only [pl, pn, el, ec, sz, ss, gz, gs, if_true, if_false, Bool.false_eq_true, Bool.not_true, Bool.not_false, Nat.add_zero, Nat.zero_add, Nat.reduceAdd]
      refine wpPi_nil ?_
      go_wp2
      go_ret
      exact ⟨by rw [HD.out]; rfl, hMr⟩
end Go.Proofs.Ytchkikmmcmjcgaa

/- The chapter's examples: TreeKnown. -/
namespace Go.Proofs.Ytchkikmmcmjcgaa
set_option linter.unusedSimpArgs false
set_option linter.unusedVariables false
set_option linter.unnecessarySimpa false
set_option linter.unusedSectionVars false
open Go.RowKit Go.Shelf


theorem es_two {w : World} {b : Nat} {T : TypeId} {cs ds : Array Value} {e f : Ent} (hb : w.heap[b]? = some (.cells (cs ++ ds) T (0, 0))) (h : EntC w Ever cs e) (k : EntC w Ever ds f) : Es false w Ever (.slice (some ⟨b, 0, none⟩) 2 2) [e, f] := by
  have hcs := h.size
  have hds := k.size
  have hc := CellsAt.whole hb
  refine ⟨_, _, rfl, Nat.le_refl _, by unfold maxLen; omega, fun _ => ⟨b, 0, rfl, trivial, by simp [Owned], fun i hi => ?_⟩⟩
  match i, hi with
  | 0, _ => exact ⟨cs, hcs, h, fun j hj => by
      have := hc j (by simp; omega)
      rw [Array.getElem?_append_left hj] at this
      simpa using this⟩
  | 1, _ => exact ⟨ds, hds, k, fun j hj => by
      have := hc (2 + j) (by simp; omega)
      rw [Array.getElem?_append_right (by omega), hcs, Nat.add_sub_cancel_left] at this
      rw [show 0 + 1 * 2 + j = 0 + (2 + j) by omega]
      exact this⟩
theorem dif_self : difB [eAX] [eAX] 1 [] = true := by
  have he : errD [eAX] [eAX] = 0 := errD_self (chkE_few _ (by simp))
  have hd : difE [eAX] [eAX] = ([], 1) := dif_same rfl
  have hr : riseOf [] = [] := (riseOf_rise []).nil.2 rfl
  unfold difB
  rw [he, hd, hr]
  simp
set_option maxRecDepth 100000 in
theorem zero_ne : shaL [0] ≠ oneD (leafOf eAX) := by decide +kernel
theorem dif_nil_ax : difB [] [eAX] 1 [sA] = true := by
  have hcl : ¬ clash [] [eAX] := by
    rintro ⟨x, hx, -⟩
    cases hx
  have he : errD [] [eAX] = 0 := errD_zero.2 ⟨chkE_few _ (by simp), chkE_few _ (by simp), hcl⟩
  have hd : difE [] [eAX] = ([sA], 1) := by
    unfold difE leavesE
    rw [List.map_cons, List.map_nil, dif_few (by rw [dig_one, dig_nil]; exact zero_ne) (by simp)]
    simp [lackL]
    rfl
  have hr : riseOf [sA] = [sA] := (riseOf_rise _).one (fun x hx => by simpa using hx) (by simp)
  unfold difB
  rw [he, hd, hr]
  simp
theorem root_ax : rootOut [eAX] = oneD (leafOf eAX) := by rw [root_one]; rfl
theorem proves_ax : provesL (rootOut [eAX]) (leafOf eAX) [] = true := by unfold provesL; rw [root_ax]; simp
theorem proves_ay : provesL (rootOut [eAX]) (leafOf eAY) [] = false := by
  unfold provesL
  rw [root_ax, List.foldl_nil, decide_eq_false (p := oneD (leafOf eAY) = oneD (leafOf eAX)) (fun e => one_ne e.symm)]
  simp
theorem path_ax : errP [eAX] sA = 0 ∧ pathOut [eAX] sA = [] := by
  have h : errP [eAX] sA = 0 := by
    unfold errP
    rw [if_neg (by rw [chkE_few _ (by simp)]; simp), if_pos (hasK_iff.2 (by simp [keysE, eAX]))]
  refine ⟨h, ?_⟩
  unfold pathOut
  rw [if_pos h]
  exact path_few (by simp [leavesE])
theorem path_nil : errP [] sA = 26 := by
  unfold errP
  rw [if_neg (by rw [chkE_few _ (by simp)]; simp), if_neg (by simp [hasK, keysE])]
theorem chk_two : chkE [eAX, eAY] = 19 := by
  unfold chkE
  rw [if_neg (by simp), if_pos (by simp [eAX, eAY])]
end Go.Proofs.Ytchkikmmcmjcgaa

/- The chapter's examples are answered as it says. -/
namespace Go.Proofs.Ytchkikmmcmjcgaa
set_option linter.unusedSimpArgs false
set_option linter.unusedVariables false
set_option linter.unnecessarySimpa false
set_option linter.unusedSectionVars false
open Go.RowKit Go.Shelf


set_option maxRecDepth 10000 in
set_option maxHeartbeats 2000000 in
theorem treeKnown_any (w : World) : Calls Try.prog 4 #[] w (RetM (.bool true) w) := by
  have hc1 : chkE [eAX] = 0 := chkE_few _ (by simp)
  have HD1 := Lib.hid dif_self
  have HD2 := Lib.hid dif_nil_ax
  have HP1 := Lib.hid proves_ax
  have HP2 := Lib.hid proves_ay
  have HC2 := Lib.hid chk_two
  have hpx := path_ax
  have hpn := path_nil
  have hRl : (rootOut [eAX]).length = 32 := by rw [root_ax]; exact shaL_len _
  obtain ⟨R, hR⟩ : ∃ R, rootOut [eAX] = R := ⟨_, rfl⟩
  rw [hR] at HP1 HP2 hRl
  have hRr : (idCells R).size = 32 := by rw [idCells_size, hRl]
  go_enter Try.func4, Try.ntmps4
  go_upto_region 1 with (fail)
  refine wp_region_seq [1, 1, 3] (fun _ => True) (by rfl) (by rfl) trivial ?_
  simp only [List.zip_cons_cons, List.zip_nil_right]
  refine wpPi_do rfl (fun K hK => ?_)
  refine wp_enterQ (run_call 16 [.const (.string ⟨#[97]⟩), .const (.string ⟨#[120]⟩)] _ rfl _ Try.func16 rfl (by kernel_rfl) [.string ⟨#[97]⟩, .string ⟨#[120]⟩] rfl _) (lawOf_any ⟨#[97]⟩ ⟨#[120]⟩ (by decide) _) ?_
  rintro e w1 ⟨cs, rfl, hec, hm1⟩
  replace hec : EntC w1 Ever cs eAX := hec
  have hcs2 := hec.size
  refine ⟨_, rfl, hK _ _ trivial ?_⟩
  clear hK K
  try simp only [pl, pn, el, ec, sz, ss, gz, gs, if_true, if_false, Bool.false_eq_true, Bool.not_true, Bool.not_false, Nat.add_zero, Nat.zero_add, Nat.reduceAdd]
  refine wpPi_do rfl (fun K hK => ?_)
  refine wp_buildSlice1 22 35 _ (.agg cs) (.agg #[.string ⟨#[]⟩, .slice none 0 0]) 2 (by rfl) (by rfl) Try.underlying22 entry_i2 (by omega) (by omega) hcs2 (fun w2 hB2 hm2 hs2 => ?_)
  replace hB2 : w2.heap[w1.heap.size]? = some (.cells cs 35 (0, 0)) := hB2
  have hes := es_one hB2 (hec.keep hm2 (fun _ _ => id))
  refine hK _ _ trivial ?_
  clear hK K
  try simp only [pl, pn, el, ec, sz, ss, gz, gs, if_true, if_false, Bool.false_eq_true, Bool.not_true, Bool.not_false, Nat.add_zero, Nat.zero_add, Nat.reduceAdd]
  refine wpPi_assign _ rfl rfl ?_
  simp only [pl, pn, el, ec, sz, ss, gz, gs, if_true, if_false, Bool.false_eq_true, Bool.not_true, Bool.not_false, Nat.add_zero, Nat.zero_add, Nat.reduceAdd]
  refine wpPi_nil ?_
  have hM2 := hm1.trans0 hm2
  generalize w1.heap.size = bx at *
  clear hec hcs2 hB2 hm1 hm2
  have HES := Lib.hid hes
  clear hes
  go_upto_region 2 with (fail)
  refine wp_region_seq [3, 1, 3, 3, 3, 1, 1, 3] (fun _ => True) (by rfl) (by rfl) trivial ?_
  simp only [List.zip_cons_cons, List.zip_nil_right]
  refine wpPi_move _ rfl rfl ?_
  simp only [pl, pn, el, ec, sz, ss, gz, gs, if_true, if_false, Bool.false_eq_true, Bool.not_true, Bool.not_false, Nat.add_zero, Nat.zero_add, Nat.reduceAdd]
  refine wpPi_do rfl (fun K hK => ?_)
  refine wp_enterQ (run_call 17 [.tmp 11] _ rfl _ Try.func17 rfl (by kernel_rfl) [.slice (some ⟨bx, 0, none⟩) 1 1] rfl _) (root_any HES.out (short_one (by decide) (by decide)) (by simp)) ?_
  rintro e w3 ⟨rfl, hm3⟩
  rw [hc1, hR]
  refine ⟨_, rfl, hK _ _ trivial ?_⟩
  clear hK K
  try simp only [pl, pn, el, ec, sz, ss, gz, gs, if_true, if_false, Bool.false_eq_true, Bool.not_true, Bool.not_false, Nat.add_zero, Nat.zero_add, Nat.reduceAdd]
  refine wpPi_move _ rfl rfl ?_
  simp only [pl, pn, el, ec, sz, ss, gz, gs, if_true, if_false, Bool.false_eq_true, Bool.not_true, Bool.not_false, Nat.add_zero, Nat.zero_add, Nat.reduceAdd]
  refine wpPi_any (v := ?_) rfl (fun w' => ?_) ?_; rotate_left; · (go_simp; try with_reducible rfl)
  simp only [pl, pn, el, ec, sz, ss, gz, gs, if_true, if_false, Bool.false_eq_true, Bool.not_true, Bool.not_false, Nat.add_zero, Nat.zero_add, Nat.reduceAdd]
  refine wpPi_any (v := ?_) rfl (fun w' => ?_) ?_; rotate_left; · (go_simp; try with_reducible rfl)
  simp only [pl, pn, el, ec, sz, ss, gz, gs, if_true, if_false, Bool.false_eq_true, Bool.not_true, Bool.not_false, Nat.add_zero, Nat.zero_add, Nat.reduceAdd]
  refine wpPi_do rfl (fun K hK => ?_)
  refine wp_alloc 38 _ (by rfl) idZ (fun w4 hB4 hm4 hs4 => ?_)
  replace hB4 : w4.heap[w3.heap.size]? = some (.cells (idCells (List.replicate 32 0)) 38 (0, 0)) := hB4
  refine hK _ _ trivial ?_
  clear hK K
  try simp only [pl, pn, el, ec, sz, ss, gz, gs, if_true, if_false, Bool.false_eq_true, Bool.not_true, Bool.not_false, Nat.add_zero, Nat.zero_add, Nat.reduceAdd]
  refine wpPi_do rfl (fun K hK => ?_)
  refine wp_storeA 38 _ _ w3.heap.size 0 (idCells R) (by rfl) (by rfl) (by rfl) (idCells_one _) 32 (by kernel_rfl) hRr _ _ hB4 (by rw [hRr, idCells_size]; simp) (fun w5 hB5 hm5 => ?_)
  rw [putRow_whole (by rw [hRr, idCells_size]; rfl)] at hB5
  refine hK _ _ trivial ?_
  clear hK K
  try simp only [pl, pn, el, ec, sz, ss, gz, gs, if_true, if_false, Bool.false_eq_true, Bool.not_true, Bool.not_false, Nat.add_zero, Nat.zero_add, Nat.reduceAdd]
  refine wpPi_assign _ rfl rfl ?_
  simp only [pl, pn, el, ec, sz, ss, gz, gs, if_true, if_false, Bool.false_eq_true, Bool.not_true, Bool.not_false, Nat.add_zero, Nat.zero_add, Nat.reduceAdd]
  refine wpPi_nil ?_
  have hM5 : Mod NoB w2 w5 := (hm3.trans0 hm4).transB hm5 hm3.size
  generalize w3.heap.size = b2 at *
  clear hm3 hm4 hm5 hB4 hc1 hR
  go_upto_region 3 with (fail)
  refine wp_region_seq [3, 1, 3, 3, 3, 3, 3] (fun _ => True) (by rfl) (by rfl) trivial ?_
  simp only [List.zip_cons_cons, List.zip_nil_right]
  refine wpPi_move _ rfl rfl ?_
  simp only [pl, pn, el, ec, sz, ss, gz, gs, if_true, if_false, Bool.false_eq_true, Bool.not_true, Bool.not_false, Nat.add_zero, Nat.zero_add, Nat.reduceAdd]
  refine wpPi_do rfl (fun K hK => ?_)
  refine wp_enterQ (run_call 18 [.tmp 16, .const (.string ⟨#[97]⟩)] _ rfl _ Try.func18 rfl (by kernel_rfl) [.slice (some ⟨bx, 0, none⟩) 1 1, .string ⟨#[97]⟩] rfl _) (treePath_any (HES.out.keep0 hM5) (short_one (by decide) (by decide)) (by simp) ⟨#[97]⟩ (by decide)) ?_
  rintro e w6 ⟨v6, rfl, hg6, hm6⟩
  rw [show (⟨#[97]⟩ : ByteArray) = sA from rfl] at hg6 ⊢
  rw [hpx.1]
  rw [hpx.2] at hg6
  have hM6 := hM5.trans0 hm6
  replace hB5 := hm6.obj id hB5
  obtain ⟨ad6, cap6, rfl⟩ := hg6.slice
  refine ⟨_, rfl, hK _ _ trivial ?_⟩
  clear hK K
  try simp only [pl, pn, el, ec, sz, ss, gz, gs, if_true, if_false, Bool.false_eq_true, Bool.not_true, Bool.not_false, Nat.add_zero, Nat.zero_add, Nat.reduceAdd]
  refine wpPi_move _ rfl rfl ?_
  simp only [pl, pn, el, ec, sz, ss, gz, gs, if_true, if_false, Bool.false_eq_true, Bool.not_true, Bool.not_false, Nat.add_zero, Nat.zero_add, Nat.reduceAdd]
  refine wpPi_any (v := ?_) rfl (fun w' => ?_) ?_; rotate_left; · (go_simp; try with_reducible rfl)
  simp only [pl, pn, el, ec, sz, ss, gz, gs, if_true, if_false, Bool.false_eq_true, Bool.not_true, Bool.not_false, Nat.add_zero, Nat.zero_add, Nat.reduceAdd]
  refine wpPi_any (v := ?_) rfl (fun w' => ?_) ?_; rotate_left; · (go_simp; try with_reducible rfl)
  simp only [pl, pn, el, ec, sz, ss, gz, gs, if_true, if_false, Bool.false_eq_true, Bool.not_true, Bool.not_false, Nat.add_zero, Nat.zero_add, Nat.reduceAdd]
  refine wpPi_assign _ rfl rfl ?_
  simp only [pl, pn, el, ec, sz, ss, gz, gs, if_true, if_false, Bool.false_eq_true, Bool.not_true, Bool.not_false, Nat.add_zero, Nat.zero_add, Nat.reduceAdd]
  refine wpPi_assign _ rfl rfl ?_
  simp only [pl, pn, el, ec, sz, ss, gz, gs, if_true, if_false, Bool.false_eq_true, Bool.not_true, Bool.not_false, Nat.add_zero, Nat.zero_add, Nat.reduceAdd]
  refine wpPi_nil ?_
  clear hm6 hM5 hg6 hpx
  go_upto_region 4 with (fail)
  refine wp_region_seq [1, 3, 3, 3, 3, 3] (fun _ => True) (by rfl) (by rfl) trivial ?_
  simp only [List.zip_cons_cons, List.zip_nil_right]
  refine wpPi_do rfl (fun K hK => ?_)
  refine wp_enterQ (run_call 18 [.const (.slice none 0 0), .const (.string ⟨#[97]⟩)] _ rfl _ Try.func18 rfl (by kernel_rfl) [.slice none 0 0, .string ⟨#[97]⟩] rfl _) (treePath_any (own := false) (G := Ever) (es := []) (Sl.nil _ _ _ _ _) short_nil (by simp) ⟨#[97]⟩ (by decide)) ?_
  rintro e w7 ⟨v7, rfl, hg7, hm7⟩
  rw [show (⟨#[97]⟩ : ByteArray) = sA from rfl]
  rw [hpn]
  have hM7 := hM6.trans0 hm7
  replace hB5 := hm7.obj id hB5
  refine ⟨_, rfl, hK _ _ trivial ?_⟩
  clear hK K
  try simp only [pl, pn, el, ec, sz, ss, gz, gs, if_true, if_false, Bool.false_eq_true, Bool.not_true, Bool.not_false, Nat.add_zero, Nat.zero_add, Nat.reduceAdd]
  refine wpPi_move _ rfl rfl ?_
  simp only [pl, pn, el, ec, sz, ss, gz, gs, if_true, if_false, Bool.false_eq_true, Bool.not_true, Bool.not_false, Nat.add_zero, Nat.zero_add, Nat.reduceAdd]
  refine wpPi_any (v := ?_) rfl (fun w' => ?_) ?_; rotate_left; · (go_simp; try with_reducible rfl)
  simp only [pl, pn, el, ec, sz, ss, gz, gs, if_true, if_false, Bool.false_eq_true, Bool.not_true, Bool.not_false, Nat.add_zero, Nat.zero_add, Nat.reduceAdd]
  refine wpPi_any (v := ?_) rfl (fun w' => ?_) ?_; rotate_left; · (go_simp; try with_reducible rfl)
  simp only [pl, pn, el, ec, sz, ss, gz, gs, if_true, if_false, Bool.false_eq_true, Bool.not_true, Bool.not_false, Nat.add_zero, Nat.zero_add, Nat.reduceAdd]
  refine wpPi_assign _ rfl rfl ?_
  simp only [pl, pn, el, ec, sz, ss, gz, gs, if_true, if_false, Bool.false_eq_true, Bool.not_true, Bool.not_false, Nat.add_zero, Nat.zero_add, Nat.reduceAdd]
  refine wpPi_assign _ rfl rfl ?_
  simp only [pl, pn, el, ec, sz, ss, gz, gs, if_true, if_false, Bool.false_eq_true, Bool.not_true, Bool.not_false, Nat.add_zero, Nat.zero_add, Nat.reduceAdd]
  refine wpPi_nil ?_
  clear hm7 hM6 hg7 hpn
  have HES7 := Lib.hid (HES.out.keep0 hM7)
  have hcR := CellsAt.whole hB5
  have hMw := hM2.trans0 hM7
  clear HES hB5 hM7 hM2
  go_upto_region 5 with (fail)
  have hS : Mod NoB w7 w7.drew := (Mod.refl _ _).drew
  refine wp_region_pi [(0, 1), (1, 3), (2, 3), (3, 3), (4, 1), (5, 3), (6, 3), (7, 3), (8, 1), (9, 1), (10, 3), (11, 3), (12, 3), (13, 3), (14, 3), (15, 3), (16, 3), (17, 3), (18, 3), (19, 3), (20, 3), (21, 3), (22, 3), (23, 3), (24, 3), (25, 0), (26, 1), (27, 1), (28, 3), (29, 3), (30, 0), (31, 1), (32, 1), (33, 3), (34, 3), (35, 3), (36, 3), (37, 3), (38, 3), (39, 3), (40, 1), (41, 1), (42, 1), (43, 1), (44, 3), (45, 3), (46, 3)] [] (fun w' => Mod NoB w7 w') (by kernel_rfl) (by kernel_rfl) (by kernel_rfl) (by kernel_rfl) (fun _ _ _ _ hd h => ⟨hd.trans h.1, h.2⟩) hS ?_
  simp only [List.map_cons, List.map_nil, List.getD_cons_zero, List.getD_cons_succ]
  refine wpPi_do rfl (fun K hK => ?_)
  refine wp_enterQ (run_call 9 [] _ rfl _ Try.func9 rfl (by kernel_rfl) [] rfl _) (awake_any _) ?_
  rintro e wa ⟨rfl, hma⟩
  have hSa := hS.trans0 hma
  refine ⟨_, rfl, hK _ _ hSa ?_⟩
  clear hK K
  try simp only [pl, pn, el, ec, sz, ss, gz, gs, if_true, if_false, Bool.false_eq_true, Bool.not_true, Bool.not_false, Nat.add_zero, Nat.zero_add, Nat.reduceAdd]
  refine wpPi_move _ rfl rfl ?_
  simp only [pl, pn, el, ec, sz, ss, gz, gs, if_true, if_false, Bool.false_eq_true, Bool.not_true, Bool.not_false, Nat.add_zero, Nat.zero_add, Nat.reduceAdd]
  refine wpPi_move _ rfl rfl ?_
  simp only [pl, pn, el, ec, sz, ss, gz, gs, if_true, if_false, Bool.false_eq_true, Bool.not_true, Bool.not_false, Nat.add_zero, Nat.zero_add, Nat.reduceAdd]
  refine wpPi_move _ rfl rfl ?_
  simp only [pl, pn, el, ec, sz, ss, gz, gs, if_true, if_false, Bool.false_eq_true, Bool.not_true, Bool.not_false, Nat.add_zero, Nat.zero_add, Nat.reduceAdd]
  refine wpPi_do rfl (fun K hK => ?_)
  refine wp_enterQ (run_call 19 [.tmp 26, .tmp 27, .const (.int .i64 1), .const (.slice none 0 0)] _ rfl _ Try.func19 rfl (by kernel_rfl) [.slice (some ⟨bx, 0, none⟩) 1 1, .slice (some ⟨bx, 0, none⟩) 1 1, .int .i64 1, .slice none 0 0] rfl _) (differs_any (o2 := false) (G2 := Ever) (want := []) (HES7.out.keep0 hSa) (HES7.out.keep0 hSa) (Sl.nil _ _ _ _ _) (short_one (by decide) (by decide)) (short_one (by decide) (by decide)) (by simp) (by simp) 1) ?_
  rintro e wb ⟨rfl, hmb⟩
  rw [HD1.out]
  have hSb := hSa.trans0 hmb
  refine ⟨_, rfl, hK _ _ hSb ?_⟩
  clear hK K
  try simp only [pl, pn, el, ec, sz, ss, gz, gs, if_true, if_false, Bool.false_eq_true, Bool.not_true, Bool.not_false, Nat.add_zero, Nat.zero_add, Nat.reduceAdd]
  refine wpPi_pick _ _ _ _ rfl rfl rfl ?_
  simp only [pl, pn, el, ec, sz, ss, gz, gs, if_true, if_false, Bool.false_eq_true, Bool.not_true, Bool.not_false, Nat.add_zero, Nat.zero_add, Nat.reduceAdd]
  refine wpPi_move _ rfl rfl ?_
  simp only [pl, pn, el, ec, sz, ss, gz, gs, if_true, if_false, Bool.false_eq_true, Bool.not_true, Bool.not_false, Nat.add_zero, Nat.zero_add, Nat.reduceAdd]
  refine wpPi_move _ rfl rfl ?_
  simp only [pl, pn, el, ec, sz, ss, gz, gs, if_true, if_false, Bool.false_eq_true, Bool.not_true, Bool.not_false, Nat.add_zero, Nat.zero_add, Nat.reduceAdd]
  refine wpPi_do rfl (fun K hK => ?_)
  refine wp_buildSlice1 26 9 _ (.string sA) (.string ⟨#[]⟩) 1 (by rfl) (by rfl) Try.underlying26 str_i2 (by omega) (by omega) rfl (fun wc hBc hmc hsc => ?_)
  have htx := txt_one hBc
  have hSc := hSb.trans0 hmc
  refine hK _ _ hSc ?_
  clear hK K
  try simp only [pl, pn, el, ec, sz, ss, gz, gs, if_true, if_false, Bool.false_eq_true, Bool.not_true, Bool.not_false, Nat.add_zero, Nat.zero_add, Nat.reduceAdd]
  refine wpPi_do rfl (fun K hK => ?_)
  refine wp_enterQ (run_call 19 [.const (.slice none 0 0), .tmp 31, .const (.int .i64 1), .tmp 32] _ rfl _ Try.func19 rfl (by kernel_rfl) [.slice none 0 0, .slice (some ⟨bx, 0, none⟩) 1 1, .int .i64 1, .slice (some ⟨wb.heap.size, 0, none⟩) 1 1] rfl _) (differs_any (own := false) (G := Ever) (a := []) (Sl.nil _ _ _ _ _) (HES7.out.keep0 hSc) htx short_nil (short_one (by decide) (by decide)) (by simp) (by simp) 1) ?_
  rintro e wd ⟨rfl, hmd⟩
  rw [HD2.out]
  have hSd := hSc.trans0 hmd
  refine ⟨_, rfl, hK _ _ hSd ?_⟩
  clear hK K
  try simp only [pl, pn, el, ec, sz, ss, gz, gs, if_true, if_false, Bool.false_eq_true, Bool.not_true, Bool.not_false, Nat.add_zero, Nat.zero_add, Nat.reduceAdd]
  refine wpPi_pick _ _ _ _ rfl rfl rfl ?_
  simp only [pl, pn, el, ec, sz, ss, gz, gs, if_true, if_false, Bool.false_eq_true, Bool.not_true, Bool.not_false, Nat.add_zero, Nat.zero_add, Nat.reduceAdd]
  refine wpPi_move _ rfl rfl ?_
  simp only [pl, pn, el, ec, sz, ss, gz, gs, if_true, if_false, Bool.false_eq_true, Bool.not_true, Bool.not_false, Nat.add_zero, Nat.zero_add, Nat.reduceAdd]
  refine wpPi_move _ rfl rfl ?_
  simp only [pl, pn, el, ec, sz, ss, gz, gs, if_true, if_false, Bool.false_eq_true, Bool.not_true, Bool.not_false, Nat.add_zero, Nat.zero_add, Nat.reduceAdd]
  refine wpPi_any (v := ?_) rfl (fun w' => ?_) ?_; rotate_left; · (go_simp; try with_reducible rfl)
  simp only [pl, pn, el, ec, sz, ss, gz, gs, if_true, if_false, Bool.false_eq_true, Bool.not_true, Bool.not_false, Nat.add_zero, Nat.zero_add, Nat.reduceAdd]
  refine wpPi_pick _ _ _ _ rfl rfl rfl ?_
  simp only [pl, pn, el, ec, sz, ss, gz, gs, if_true, if_false, Bool.false_eq_true, Bool.not_true, Bool.not_false, Nat.add_zero, Nat.zero_add, Nat.reduceAdd]
  refine wpPi_move _ rfl rfl ?_
  simp only [pl, pn, el, ec, sz, ss, gz, gs, if_true, if_false, Bool.false_eq_true, Bool.not_true, Bool.not_false, Nat.add_zero, Nat.zero_add, Nat.reduceAdd]
  refine wpPi_move _ rfl rfl ?_
  simp only [pl, pn, el, ec, sz, ss, gz, gs, if_true, if_false, Bool.false_eq_true, Bool.not_true, Bool.not_false, Nat.add_zero, Nat.zero_add, Nat.reduceAdd]
  refine wpPi_any (v := ?_) rfl (fun w' => ?_) ?_; rotate_left; · (go_simp; try with_reducible rfl)
  simp only [pl, pn, el, ec, sz, ss, gz, gs, if_true, if_false, Bool.false_eq_true, Bool.not_true, Bool.not_false, Nat.add_zero, Nat.zero_add, Nat.reduceAdd]
  refine wpPi_pick _ _ _ _ rfl rfl rfl ?_
  simp only [pl, pn, el, ec, sz, ss, gz, gs, if_true, if_false, Bool.false_eq_true, Bool.not_true, Bool.not_false, Nat.add_zero, Nat.zero_add, Nat.reduceAdd]
  refine wpPi_move _ rfl rfl ?_
  simp only [pl, pn, el, ec, sz, ss, gz, gs, if_true, if_false, Bool.false_eq_true, Bool.not_true, Bool.not_false, Nat.add_zero, Nat.zero_add, Nat.reduceAdd]
  refine wpPi_move _ rfl rfl ?_
  simp only [pl, pn, el, ec, sz, ss, gz, gs, if_true, if_false, Bool.false_eq_true, Bool.not_true, Bool.not_false, Nat.add_zero, Nat.zero_add, Nat.reduceAdd]
  refine wpPi_len _ _ _ _ _ rfl rfl rfl (by kernel_rfl) ?_
  simp only [pl, pn, el, ec, sz, ss, gz, gs, if_true, if_false, Bool.false_eq_true, Bool.not_true, Bool.not_false, Nat.add_zero, Nat.zero_add, Nat.reduceAdd]
  refine wpPi_any (v := ?_) rfl (fun w' => ?_) ?_; rotate_left; · (go_simp; try with_reducible rfl)
  simp only [pl, pn, el, ec, sz, ss, gz, gs, if_true, if_false, Bool.false_eq_true, Bool.not_true, Bool.not_false, Nat.add_zero, Nat.zero_add, Nat.reduceAdd]
  refine wpPi_pick _ _ _ _ rfl rfl rfl ?_
  simp only [pl, pn, el, ec, sz, ss, gz, gs, if_true, if_false, Bool.false_eq_true, Bool.not_true, Bool.not_false, Nat.add_zero, Nat.zero_add, Nat.reduceAdd]
  refine wpPi_move _ rfl rfl ?_
  simp only [pl, pn, el, ec, sz, ss, gz, gs, if_true, if_false, Bool.false_eq_true, Bool.not_true, Bool.not_false, Nat.add_zero, Nat.zero_add, Nat.reduceAdd]
  refine wpPi_val rfl (fun w' hS => exec_loadA 38 _ (by rfl) b2 0 (by rfl) (idCells R) (hcR.keep hS id) _ Try.underlying38 rfl 32 (by kernel_rfl) hRr) ?_
  simp only [pl, pn, el, ec, sz, ss, gz, gs, if_true, if_false, Bool.false_eq_true, Bool.not_true, Bool.not_false, Nat.add_zero, Nat.zero_add, Nat.reduceAdd]
  refine wpPi_do rfl (fun K hK => ?_)
  refine wp_enterQ (run_call 16 [.const (.string ⟨#[97]⟩), .const (.string ⟨#[120]⟩)] _ rfl _ Try.func16 rfl (by kernel_rfl) [.string ⟨#[97]⟩, .string ⟨#[120]⟩] rfl _) (lawOf_any ⟨#[97]⟩ ⟨#[120]⟩ (by decide) _) ?_
  rintro e we ⟨cs1, rfl, hec1, hme⟩
  replace hec1 : EntC we Ever cs1 eAX := hec1
  have hSe := hSd.trans0 hme
  refine ⟨_, rfl, hK _ _ hSe ?_⟩
  clear hK K
  try simp only [pl, pn, el, ec, sz, ss, gz, gs, if_true, if_false, Bool.false_eq_true, Bool.not_true, Bool.not_false, Nat.add_zero, Nat.zero_add, Nat.reduceAdd]
  refine wpPi_do rfl (fun K hK => ?_)
  refine wp_enterQ (run_call 20 [.tmp 49, .tmp 50, .const (.slice none 0 0)] _ rfl _ Try.func20 rfl (by kernel_rfl) [.agg (idCells R), .agg cs1, .slice none 0 0] rfl _) (proves_any (own := false) (G' := Ever) (ps := []) R hRl hec1 (by decide) (by decide) (Sl.nil _ _ _ _ _)) ?_
  rintro e wf ⟨rfl, hmf⟩
  rw [HP1.out]
  have hSf := hSe.trans0 hmf
  refine ⟨_, rfl, hK _ _ hSf ?_⟩
  clear hK K
  try simp only [pl, pn, el, ec, sz, ss, gz, gs, if_true, if_false, Bool.false_eq_true, Bool.not_true, Bool.not_false, Nat.add_zero, Nat.zero_add, Nat.reduceAdd]
  refine wpPi_pick _ _ _ _ rfl rfl rfl ?_
  simp only [pl, pn, el, ec, sz, ss, gz, gs, if_true, if_false, Bool.false_eq_true, Bool.not_true, Bool.not_false, Nat.add_zero, Nat.zero_add, Nat.reduceAdd]
  refine wpPi_move _ rfl rfl ?_
  simp only [pl, pn, el, ec, sz, ss, gz, gs, if_true, if_false, Bool.false_eq_true, Bool.not_true, Bool.not_false, Nat.add_zero, Nat.zero_add, Nat.reduceAdd]
  refine wpPi_val rfl (fun w' hS => exec_loadA 38 _ (by rfl) b2 0 (by rfl) (idCells R) (hcR.keep hS id) _ Try.underlying38 rfl 32 (by kernel_rfl) hRr) ?_
  simp only [pl, pn, el, ec, sz, ss, gz, gs, if_true, if_false, Bool.false_eq_true, Bool.not_true, Bool.not_false, Nat.add_zero, Nat.zero_add, Nat.reduceAdd]
  refine wpPi_do rfl (fun K hK => ?_)
  refine wp_enterQ (run_call 16 [.const (.string ⟨#[97]⟩), .const (.string ⟨#[121]⟩)] _ rfl _ Try.func16 rfl (by kernel_rfl) [.string ⟨#[97]⟩, .string ⟨#[121]⟩] rfl _) (lawOf_any ⟨#[97]⟩ ⟨#[121]⟩ (by decide) _) ?_
  rintro e wg ⟨cs2, rfl, hec2, hmg⟩
  replace hec2 : EntC wg Ever cs2 eAY := hec2
  have hSg := hSf.trans0 hmg
  refine ⟨_, rfl, hK _ _ hSg ?_⟩
  clear hK K
  try simp only [pl, pn, el, ec, sz, ss, gz, gs, if_true, if_false, Bool.false_eq_true, Bool.not_true, Bool.not_false, Nat.add_zero, Nat.zero_add, Nat.reduceAdd]
  refine wpPi_do rfl (fun K hK => ?_)
  refine wp_enterQ (run_call 20 [.tmp 54, .tmp 55, .const (.slice none 0 0)] _ rfl _ Try.func20 rfl (by kernel_rfl) [.agg (idCells R), .agg cs2, .slice none 0 0] rfl _) (proves_any (own := false) (G' := Ever) (ps := []) R hRl hec2 (by decide) (by decide) (Sl.nil _ _ _ _ _)) ?_
  rintro e wh ⟨rfl, hmh⟩
  rw [HP2.out]
  have hSh := hSg.trans0 hmh
  refine ⟨_, rfl, hK _ _ hSh ?_⟩
  clear hK K
  try simp only [pl, pn, el, ec, sz, ss, gz, gs, if_true, if_false, Bool.false_eq_true, Bool.not_true, Bool.not_false, Nat.add_zero, Nat.zero_add, Nat.reduceAdd]
  refine wpPi_not _ _ _ rfl rfl rfl ?_
  simp only [pl, pn, el, ec, sz, ss, gz, gs, if_true, if_false, Bool.false_eq_true, Bool.not_true, Bool.not_false, Nat.add_zero, Nat.zero_add, Nat.reduceAdd]
  refine wpPi_pick _ _ _ _ rfl rfl rfl ?_
  simp only [pl, pn, el, ec, sz, ss, gz, gs, if_true, if_false, Bool.false_eq_true, Bool.not_true, Bool.not_false, Nat.add_zero, Nat.zero_add, Nat.reduceAdd]
  refine wpPi_move _ rfl rfl ?_
  simp only [pl, pn, el, ec, sz, ss, gz, gs, if_true, if_false, Bool.false_eq_true, Bool.not_true, Bool.not_false, Nat.add_zero, Nat.zero_add, Nat.reduceAdd]
  refine wpPi_move _ rfl rfl ?_
  simp only [pl, pn, el, ec, sz, ss, gz, gs, if_true, if_false, Bool.false_eq_true, Bool.not_true, Bool.not_false, Nat.add_zero, Nat.zero_add, Nat.reduceAdd]
  refine wpPi_any (v := ?_) rfl (fun w' => ?_) ?_; rotate_left; · (go_simp; try with_reducible rfl)
  simp only [pl, pn, el, ec, sz, ss, gz, gs, if_true, if_false, Bool.false_eq_true, Bool.not_true, Bool.not_false, Nat.add_zero, Nat.zero_add, Nat.reduceAdd]
  refine wpPi_pick _ _ _ _ rfl rfl rfl ?_
  simp only [pl, pn, el, ec, sz, ss, gz, gs, if_true, if_false, Bool.false_eq_true, Bool.not_true, Bool.not_false, Nat.add_zero, Nat.zero_add, Nat.reduceAdd]
  refine wpPi_move _ rfl rfl ?_
  simp only [pl, pn, el, ec, sz, ss, gz, gs, if_true, if_false, Bool.false_eq_true, Bool.not_true, Bool.not_false, Nat.add_zero, Nat.zero_add, Nat.reduceAdd]
  refine wpPi_do rfl (fun K hK => ?_)
  refine wp_enterQ (run_call 16 [.const (.string ⟨#[97]⟩), .const (.string ⟨#[120]⟩)] _ rfl _ Try.func16 rfl (by kernel_rfl) [.string ⟨#[97]⟩, .string ⟨#[120]⟩] rfl _) (lawOf_any ⟨#[97]⟩ ⟨#[120]⟩ (by decide) _) ?_
  rintro e wi ⟨cs3, rfl, hec3, hmi⟩
  replace hec3 : EntC wi Ever cs3 eAX := hec3
  have hSi := hSh.trans0 hmi
  refine ⟨_, rfl, hK _ _ hSi ?_⟩
  clear hK K
  try simp only [pl, pn, el, ec, sz, ss, gz, gs, if_true, if_false, Bool.false_eq_true, Bool.not_true, Bool.not_false, Nat.add_zero, Nat.zero_add, Nat.reduceAdd]
  refine wpPi_do rfl (fun K hK => ?_)
  refine wp_enterQ (run_call 16 [.const (.string ⟨#[97]⟩), .const (.string ⟨#[121]⟩)] _ rfl _ Try.func16 rfl (by kernel_rfl) [.string ⟨#[97]⟩, .string ⟨#[121]⟩] rfl _) (lawOf_any ⟨#[97]⟩ ⟨#[121]⟩ (by decide) _) ?_
  rintro e wj ⟨cs4, rfl, hec4, hmj⟩
  replace hec4 : EntC wj Ever cs4 eAY := hec4
  replace hec3 := hec3.keep hmj (fun _ _ => id)
  have hc3 := hec3.size
  have hc4 := hec4.size
  have hSj := hSi.trans0 hmj
  refine ⟨_, rfl, hK _ _ hSj ?_⟩
  clear hK K
  try simp only [pl, pn, el, ec, sz, ss, gz, gs, if_true, if_false, Bool.false_eq_true, Bool.not_true, Bool.not_false, Nat.add_zero, Nat.zero_add, Nat.reduceAdd]
  refine wpPi_do rfl (fun K hK => ?_)
  refine wp_buildSliceL 22 35 2 [(0, _), (1, _)] [.agg cs3, .agg cs4] (.agg #[.string ⟨#[]⟩, .slice none 0 0]) 2 (by rfl) (by rfl) (by rfl) Try.underlying22 entry_i2 (by omega) (by omega) (by intro v hv; simp only [List.mem_cons, List.not_mem_nil, or_false] at hv; rcases hv with rfl | rfl <;> assumption) (fun wk hBk hmk hsk => ?_)
  replace hBk : wk.heap[wj.heap.size]? = some (.cells (cs3 ++ cs4) 35 (0, 0)) := by
    rw [hBk]; simp [Value.cells]
  have hes2 := es_two hBk (hec3.keep hmk (fun _ _ => id)) (hec4.keep hmk (fun _ _ => id))
  have hSk := hSj.trans0 hmk
  refine hK _ _ hSk ?_
  clear hK K
  try simp only [pl, pn, el, ec, sz, ss, gz, gs, if_true, if_false, Bool.false_eq_true, Bool.not_true, Bool.not_false, Nat.add_zero, Nat.zero_add, Nat.reduceAdd]
  refine wpPi_do rfl (fun K hK => ?_)
  refine wp_enterQ (run_call 21 [.tmp 66] _ rfl _ Try.func21 rfl (by kernel_rfl) [.slice (some ⟨wj.heap.size, 0, none⟩) 2 2] rfl _) (check_any hes2 (fun x hx => by simp only [List.mem_cons, List.not_mem_nil, or_false] at hx; rcases hx with rfl | rfl <;> exact ⟨by decide, by decide⟩) (by simp)) ?_
  rintro e wl ⟨rfl, hml⟩
  rw [HC2.out]
  have hSl := hSk.trans0 hml
  refine ⟨_, rfl, hK _ _ hSl ?_⟩
  clear hK K
  try simp only [pl, pn, el, ec, sz, ss, gz, gs, if_true, if_false, Bool.false_eq_true, Bool.not_true, Bool.not_false, Nat.add_zero, Nat.zero_add, Nat.reduceAdd]
  refine wpPi_any (v := ?_) rfl (fun w' => ?_) ?_; rotate_left; · (go_simp; try with_reducible rfl)
  simp only [pl, pn, el, ec, sz, ss, gz, gs, if_true, if_false, Bool.false_eq_true, Bool.not_true, Bool.not_false, Nat.add_zero, Nat.zero_add, Nat.reduceAdd]
  refine wpPi_pick _ _ _ _ rfl rfl rfl ?_
  simp only [pl, pn, el, ec, sz, ss, gz, gs, if_true, if_false, Bool.false_eq_true, Bool.not_true, Bool.not_false, Nat.add_zero, Nat.zero_add, Nat.reduceAdd]
  refine wpPi_assign _ rfl rfl ?_
  simp only [pl, pn, el, ec, sz, ss, gz, gs, if_true, if_false, Bool.false_eq_true, Bool.not_true, Bool.not_false, Nat.add_zero, Nat.zero_add, Nat.reduceAdd]
  refine wpPi_nil ?_
  have hMr := hMw.trans0 hSl
  clear hSl hSk hSj hSi hSh hSg hSf hSe hSd hSc hSb hSa hS
  go_wp2
  go_ret
  exact ⟨rfl, hMr⟩
end Go.Proofs.Ytchkikmmcmjcgaa

/- What is told, in plain words; the value of a key; a walk: value. -/
namespace Go.Proofs.Ytchkikmmcmjcgaa
set_option linter.unusedSimpArgs false
set_option linter.unusedVariables false
set_option linter.unnecessarySimpa false
set_option linter.unusedSectionVars false
open Go.RowKit Go.Shelf


theorem difB_self {a : List Ent} (h : chkE a = 0) : difB a a 1 [] = true := by
  have he : errD a a = 0 := errD_self h
  have hd : difE a a = ([], 1) := dif_same rfl
  have hr : riseOf [] = [] := (riseOf_rise []).nil.2 rfl
  unfold difB
  rw [he, hd, hr]
  simp
/-- The value of the first entry of a key. -/
def valE (l : List Ent) (k : ByteArray) : Option (List UInt8) := (l.find? fun e => decide (e.1 = k)).map (·.2)
theorem valE_at {l : List Ent} {k : ByteArray} {j : Nat} (hj : j < l.length) (h : l[j].1 = k) (hb : ∀ i (h : i < l.length), i < j → l[i].1 ≠ k) : valE l k = some l[j].2 := by
  have : l.find? (fun e => decide (e.1 = k)) = some l[j] := by
    rw [List.find?_eq_some_iff_getElem]
    exact ⟨decide_eq_true h, j, hj, rfl, fun i hi => by simpa using hb i (by omega) hi⟩
  unfold valE
  rw [this]; rfl
theorem valE_none {l : List Ent} {k : ByteArray} : valE l k = none ↔ ∀ e ∈ l, e.1 ≠ k := by
  unfold valE
  rw [Option.map_eq_none_iff, List.find?_eq_none]
  simp
theorem valE_mem {l : List Ent} {k : ByteArray} {v : List UInt8} (h : valE l k = some v) : (k, v) ∈ l := by
  unfold valE at h
  rw [Option.map_eq_some_iff] at h
  obtain ⟨e, he, rfl⟩ := h
  have h1 := List.mem_of_find?_eq_some he
  have h2 := List.find?_some he
  have h3 : e.1 = k := by simpa using h2
  subst h3
  exact h1
theorem key_uniq {l : List Ent} (h : (l.map (·.1)).Nodup) {x y : Ent} (hx : x ∈ l) (hy : y ∈ l) (e : x.1 = y.1) : x = y := by
  obtain ⟨i, hi, rfl⟩ := List.getElem_of_mem hx
  obtain ⟨j, hj, rfl⟩ := List.getElem_of_mem hy
  have k : ∀ i j, (hi : i < l.length) → (hj : j < l.length) → i < j → l[i].1 ≠ l[j].1 := fun i j hi hj hij => by
    have := List.pairwise_iff_getElem.1 h i j (by simpa using hi) (by simpa using hj) hij
    simpa using this
  rcases Nat.lt_trichotomy i j with h3 | h3 | h3
  · exact absurd e (k i j hi hj h3)
  · subst h3; rfl
  · exact absurd e.symm (k j i hj hi h3)
theorem told_half {a b : List Ent} (ha : chkE a = 0) {k : ByteArray} {x : Leaf} (hx : x ∈ leavesE a) (hn : x ∉ leavesE b) (hk : x.key = k) : valE a k ≠ none ∧ ∀ v, valE a k = some v → valE b k ≠ some v := by
  obtain ⟨e, he, rfl⟩ := List.mem_map.1 hx
  have hk' : e.1 = k := hk
  refine ⟨fun h => valE_none.1 h e he hk', fun v h1 h2 => hn ?_⟩
  have h3 := valE_mem h1
  have h4 := valE_mem h2
  have h5 : e = (k, v) := key_uniq (chkE_zero ha).2.1 he h3 hk'
  subst h5
  exact List.mem_map.2 ⟨_, h4, rfl⟩
/-- Whatever key is told differs. -/
theorem told_differs {a b : List Ent} (ha : chkE a = 0) (hb : chkE b = 0) {k : ByteArray} (hk : k ∈ (difE a b).1) : (valE a k = none → valE b k ≠ none) ∧ (∀ v, valE a k = some v → valE b k ≠ some v) := by
  rcases dif_mem _ _ _ _ hk with ⟨x, hx, hn, hxk⟩ | ⟨x, hx, hn, hxk⟩
  · have h := told_half ha hx hn hxk
    exact ⟨fun h1 => absurd h1 h.1, h.2⟩
  · have h := told_half hb hx hn hxk
    exact ⟨fun _ => h.1, fun v h1 h2 => h.2 v h2 h1⟩
theorem perm_of_all : ∀ {a b : List Ent}, a.Nodup → a.length = b.length → (∀ x ∈ a, x ∈ b) → a.Perm b
  | [], b, _, hl, _ => by
    have : b = [] := List.length_eq_zero_iff.1 hl.symm
    subst this; exact .nil
  | x :: a, b, hn, hl, h => by
    classical
    have hx : x ∈ b := h x (by simp)
    rw [List.nodup_cons] at hn
    obtain ⟨s, t, rfl⟩ := List.append_of_mem hx
    have hp : (s ++ x :: t).Perm (x :: (s ++ t)) := List.perm_middle
    refine List.Perm.trans ?_ hp.symm
    refine List.Perm.cons _ (perm_of_all hn.2 (by simp at hl ⊢; omega) fun y hy => ?_)
    have h1 : y ∈ x :: (s ++ t) := hp.mem_iff.1 (h y (by simp [hy]))
    rcases List.mem_cons.1 h1 with rfl | h2
    · exact absurd hy hn.1
    · exact h2
/-- Alike entries have one root. -/
theorem alike_root {a b : List Ent} (ha : chkE a = 0) (hl : a.length = b.length) (h : ∀ x ∈ a, x ∈ b) : rootE a = rootE b :=
  dig_perm _ _ ((perm_of_all (nodup_of_map _ (chkE_zero ha).2.1) hl h).map _)
theorem root_dif {a b : List Ent} (h : errD a b = 0) : (difE a b).1 = [] ↔ rootE a = rootE b :=
  dif_none _ _ rfl (lie_of_chk (errD_zero.1 h).1) (lie_of_chk (errD_zero.1 h).2.1)
theorem root_place {a b : List Ent} (h : rootE a = rootE b) : (difE a b).2 = 1 := by
  unfold difE; rw [dif_same h]
theorem dif_both {a b : List Ent} {l m : List ByteArray} (hl : Rise (difE a b).1 l) (hm : Rise (difE b a).1 m) : l = m := hl.uniq hm (dif_swap _ _ _ _).1
theorem dif_places {a b : List Ent} : (difE a b).2 = (difE b a).2 := (dif_swap _ _ _ _).2
theorem rootOut_zero {a : List Ent} (h : chkE a = 0) : rootOut a = rootE a := by unfold rootOut; rw [if_pos h]

def ValR (w : World) (G : Nat → Prop) (l : List Ent) (key : ByteArray) : Ending → World → Prop := fun e w' => ∃ v vs is, e = .returned (.tuple #[v, .bool is]) ∧ Sl false w' G 1 ByteC v vs ∧ valE l key = (if is then some vs else none) ∧ Mod NoB w w'
def ValRel (l : List Ent) (key : ByteArray) (w0 : World) (i : Value) (w : World) : Prop := ∃ k : Nat, k ≤ l.length ∧ i = .int .i64 k ∧ Mod NoB w0 w ∧ ∀ j (_ : j < l.length), j < k → l[j].1 ≠ key
set_option maxRecDepth 10000 in
theorem lawValue_any {own : Bool} {w : World} {G : Nat → Prop} {v : Value} {l : List Ent} (h : Es own w G v l) (key : ByteArray) : Calls Try.prog 25 #[v, .string key] w (ValR w G l key) := by
  have HS := Lib.hid h
  obtain ⟨ad, cap, rfl, hlm, -⟩ := Sl.at h
  clear h
  go_enter Try.func25, Try.ntmps25
  go_wp2
  go_loopw [6] (ValRel l key w) (fun i _ => l.length - (intOf i).toNat)
  case atStart => exact ⟨0, by omega, rfl, Mod.refl _ _, fun j _ h2 => by omega⟩
  case round =>
    rename World => wr
    obtain ⟨k, hk, rfl, hm, hall⟩ := hrel
    have HALL := Lib.hid hall
    clear hall
    by_cases hlt : k < l.length
    · have hz : (k : Int) < (l.length : Int) := by omega
      obtain ⟨_, _, hv, -, hat⟩ := Sl.at (HS.out.keep0 hm)
      cases hv
      obtain ⟨b, off, rfl, -, -, hc⟩ := hat k hlt
      obtain ⟨cs, hcs2, ⟨vv, rfl, hsl⟩, hc⟩ := hc k hlt
      have hc0 := hc.cell (j := 0) (v := .string l[k].1) rfl
      have hc1 := hc.cell (j := 1) (v := vv) rfl
      obtain ⟨av, cv, rfl, -, -⟩ := Sl.at hsl
      rw [Nat.add_zero] at hc0
      have HSL := Lib.hid hsl
      clear hat hc hsl
      go_upto_region 4 with (fail)
      by_cases h1 : l[k].1 = key
      · have hval := Lib.hid (valE_at hlt h1 (fun i hi hik => HALL.out i hi hik))
        generalize l[k] = x at *
        refine wp_region_seq [3, 3, 3, 3, 1, 3, 0] (fun _ => True) (by rfl) (by rfl) trivial ?_
        simp only [List.zip_cons_cons, List.zip_nil_right]
        refine wpPi_move _ rfl rfl ?_
        simp only [pl, pn, el, ec, sz, ss, gz, gs, if_true, if_false, Bool.false_eq_true, Bool.not_true, Bool.not_false, Nat.add_zero, Nat.zero_add, Nat.reduceAdd]
        refine wpPi_move _ rfl rfl ?_
        simp only [pl, pn, el, ec, sz, ss, gz, gs, if_true, if_false, Bool.false_eq_true, Bool.not_true, Bool.not_false, Nat.add_zero, Nat.zero_add, Nat.reduceAdd]
        refine wpPi_index _ _ _ _ _ _ _ _ _ rfl rfl rfl rfl Try.underlying22 (n := 2) (by kernel_rfl) hlt ?_
        simp only [pl, pn, el, ec, sz, ss, gz, gs, if_true, if_false, Bool.false_eq_true, Bool.not_true, Bool.not_false, Nat.add_zero, Nat.zero_add, Nat.reduceAdd]
        refine wpPi_field _ _ _ _ _ _ rfl rfl rfl fo_35_0 ?_
        simp only [pl, pn, el, ec, sz, ss, gz, gs, if_true, if_false, Bool.false_eq_true, Bool.not_true, Bool.not_false, Nat.add_zero, Nat.zero_add, Nat.reduceAdd]
        refine wpPi_do rfl (fun K hK => ?_)
        refine wp_exec (exec_load1 9 _ (by rfl) b (off + k * 2) (by rfl) _ hc0 _ Try.underlying9 rfl) ?_
        refine hK _ _ trivial ?_
        clear hK K
        try simp only [pl, pn, el, ec, sz, ss, gz, gs, if_true, if_false, Bool.false_eq_true, Bool.not_true, Bool.not_false, Nat.add_zero, Nat.zero_add, Nat.reduceAdd]
        refine wpPi_move _ rfl rfl ?_
        simp only [pl, pn, el, ec, sz, ss, gz, gs, if_true, if_false, Bool.false_eq_true, Bool.not_true, Bool.not_false, Nat.add_zero, Nat.zero_add, Nat.reduceAdd]
        refine wpPi_val rfl (fun w' hS => exec_eql_str _ _ _ _ rfl _ _ rfl rfl true (decide_eq_true h1)) ?_
        simp only [pl, pn, el, ec, sz, ss, gz, gs, if_true, if_false, Bool.false_eq_true, Bool.not_true, Bool.not_false, Nat.add_zero, Nat.zero_add, Nat.reduceAdd]
        refine wpPi_nil ?_
        clear h1
        go_upto_region 5 with (fail)
        refine wp_region_seq [3, 3, 3, 3, 1, 3, 3] (fun _ => True) (by rfl) (by rfl) trivial ?_
        simp only [List.zip_cons_cons, List.zip_nil_right]
        refine wpPi_move _ rfl rfl ?_
        simp only [pl, pn, el, ec, sz, ss, gz, gs, if_true, if_false, Bool.false_eq_true, Bool.not_true, Bool.not_false, Nat.add_zero, Nat.zero_add, Nat.reduceAdd]
        refine wpPi_move _ rfl rfl ?_
        simp only [pl, pn, el, ec, sz, ss, gz, gs, if_true, if_false, Bool.false_eq_true, Bool.not_true, Bool.not_false, Nat.add_zero, Nat.zero_add, Nat.reduceAdd]
        refine wpPi_index _ _ _ _ _ _ _ _ _ rfl rfl rfl rfl Try.underlying22 (n := 2) (by kernel_rfl) hlt ?_
        simp only [pl, pn, el, ec, sz, ss, gz, gs, if_true, if_false, Bool.false_eq_true, Bool.not_true, Bool.not_false, Nat.add_zero, Nat.zero_add, Nat.reduceAdd]
        refine wpPi_field _ _ _ _ _ _ rfl rfl rfl fo_35_1 ?_
        simp only [pl, pn, el, ec, sz, ss, gz, gs, if_true, if_false, Bool.false_eq_true, Bool.not_true, Bool.not_false, Nat.add_zero, Nat.zero_add, Nat.reduceAdd]
        refine wpPi_do rfl (fun K hK => ?_)
        refine wp_exec (exec_load1 33 _ (by rfl) b (off + k * 2 + 1) (by rfl) _ hc1 _ Try.underlying33 rfl) ?_
        refine hK _ _ trivial ?_
        clear hK K
        try simp only [pl, pn, el, ec, sz, ss, gz, gs, if_true, if_false, Bool.false_eq_true, Bool.not_true, Bool.not_false, Nat.add_zero, Nat.zero_add, Nat.reduceAdd]
        refine wpPi_assign _ rfl rfl ?_
        simp only [pl, pn, el, ec, sz, ss, gz, gs, if_true, if_false, Bool.false_eq_true, Bool.not_true, Bool.not_false, Nat.add_zero, Nat.zero_add, Nat.reduceAdd]
        refine wpPi_assign _ rfl rfl ?_
        simp only [pl, pn, el, ec, sz, ss, gz, gs, if_true, if_false, Bool.false_eq_true, Bool.not_true, Bool.not_false, Nat.add_zero, Nat.zero_add, Nat.reduceAdd]
        refine wpPi_nil ?_
        go_wp2
        go_ret2
        exact ⟨_, _, true, rfl, HSL.out, by rw [hval.out]; rfl, hm⟩
      · have hstep : ∀ j (h : j < l.length), j < k + 1 → l[j].1 ≠ key := fun j h3 h4 => by
          rcases Nat.lt_or_ge j k with h5 | h5
          · exact HALL.out j h3 h5
          · obtain rfl : j = k := by omega
            exact h1
        have HST := Lib.hid hstep
        clear hstep
        generalize l[k] = x at *
        refine wp_region_seq [3, 3, 3, 3, 1, 3, 0] (fun _ => True) (by rfl) (by rfl) trivial ?_
        simp only [List.zip_cons_cons, List.zip_nil_right]
        refine wpPi_move _ rfl rfl ?_
        simp only [pl, pn, el, ec, sz, ss, gz, gs, if_true, if_false, Bool.false_eq_true, Bool.not_true, Bool.not_false, Nat.add_zero, Nat.zero_add, Nat.reduceAdd]
        refine wpPi_move _ rfl rfl ?_
        simp only [pl, pn, el, ec, sz, ss, gz, gs, if_true, if_false, Bool.false_eq_true, Bool.not_true, Bool.not_false, Nat.add_zero, Nat.zero_add, Nat.reduceAdd]
        refine wpPi_index _ _ _ _ _ _ _ _ _ rfl rfl rfl rfl Try.underlying22 (n := 2) (by kernel_rfl) hlt ?_
        simp only [pl, pn, el, ec, sz, ss, gz, gs, if_true, if_false, Bool.false_eq_true, Bool.not_true, Bool.not_false, Nat.add_zero, Nat.zero_add, Nat.reduceAdd]
        refine wpPi_field _ _ _ _ _ _ rfl rfl rfl fo_35_0 ?_
        simp only [pl, pn, el, ec, sz, ss, gz, gs, if_true, if_false, Bool.false_eq_true, Bool.not_true, Bool.not_false, Nat.add_zero, Nat.zero_add, Nat.reduceAdd]
        refine wpPi_do rfl (fun K hK => ?_)
        refine wp_exec (exec_load1 9 _ (by rfl) b (off + k * 2) (by rfl) _ hc0 _ Try.underlying9 rfl) ?_
        refine hK _ _ trivial ?_
        clear hK K
        try simp only [pl, pn, el, ec, sz, ss, gz, gs, if_true, if_false, Bool.false_eq_true, Bool.not_true, Bool.not_false, Nat.add_zero, Nat.zero_add, Nat.reduceAdd]
        refine wpPi_move _ rfl rfl ?_
        simp only [pl, pn, el, ec, sz, ss, gz, gs, if_true, if_false, Bool.false_eq_true, Bool.not_true, Bool.not_false, Nat.add_zero, Nat.zero_add, Nat.reduceAdd]
        refine wpPi_val rfl (fun w' hS => exec_eql_str _ _ _ _ rfl _ _ rfl rfl false (decide_eq_false h1)) ?_
        simp only [pl, pn, el, ec, sz, ss, gz, gs, if_true, if_false, Bool.false_eq_true, Bool.not_true, Bool.not_false, Nat.add_zero, Nat.zero_add, Nat.reduceAdd]
        refine wpPi_nil ?_
        clear h1
        go_wp2
        go_roundw
        case rel => exact ⟨k + 1, by omega, by go_num, hm, HST.out⟩
        case measure => simp [intOf]; omega
    · have hz : ¬ (k : Int) < (l.length : Int) := by omega
      obtain rfl : k = l.length := by omega
      go_wp2
      go_ret2
      exact ⟨_, [], false, rfl, Sl.nil _ _ _ _ _, by
        rw [valE_none.2 (fun e he => by
          obtain ⟨j, hj, rfl⟩ := List.getElem_of_mem he
          exact HALL.out j hj hj)]; rfl, hm⟩
end Go.Proofs.Ytchkikmmcmjcgaa
