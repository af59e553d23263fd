/- What the statement TreeMisses needs, part 4. -/
import Derived.Laws.StructEq
import Derived.Test.YtchkikmmcmjcgaaTreeMissesP3
/- tree.Check: why entries may not be. -/
namespace Go.Proofs.Ytchkikmmcmjcgaa
set_option linter.unusedSimpArgs false
set_option linter.unusedVariables false
set_option linter.unnecessarySimpa false
set_option linter.unusedSectionVars false
open Go.RowKit Go.Shelf


theorem str_i : (Try.prog.info? 9).map (fun i => (i.zero, i.size, i.bytes)) = some (some (.string ⟨#[]⟩), 1, 16) := by kernel_rfl
theorem str_i2 : (Try.prog.info? 9).map (fun i => (i.zero, i.size)) = some (some (.string ⟨#[]⟩), 1) := by kernel_rfl
def KeysRel (es : List Ent) (w0 : World) (v i : Value) (w : World) : Prop := ∃ k : Nat, k ≤ es.length ∧ i = .int .i64 k ∧ Gat strEnc 9 1 w0.heap.size w v ((es.take k).map (·.1)) ∧ Mod NoB w0 w
/-- No two neighbours of the first i have one way. -/
def WaysRel (ls : List Leaf) (w0 : World) (i : Value) (w : World) : Prop := ∃ k : Nat, 1 ≤ k ∧ k ≤ ls.length + 1 ∧ i = .int .i64 k ∧ (∀ j (h1 : 1 ≤ j) (_ : j < k) (h3 : j < ls.length), ls[j - 1].way ≠ ls[j].way) ∧ Mod NoB w0 w
theorem ways_nodup {ls : List Leaf} (hs : ls.Pairwise (fun a b => ¬ b.way < a.way)) (hn : ∀ j (h1 : 1 ≤ j) (h3 : j < ls.length), ls[j - 1].way ≠ ls[j].way) : (ls.map (·.way)).Nodup := by
  have hlt : ∀ d i (h : i + d + 1 < ls.length), ls[i].way < ls[i + d + 1].way := by
    intro d
    induction d with
    | zero =>
      intro i h
      have h1 := List.pairwise_iff_getElem.1 hs i (i + 1) (by omega) (by omega) (by omega)
      have h2 := hn (i + 1) (by omega) (by omega)
      rcases List.le_iff_lt_or_eq.1 (List.not_lt.1 h1) with h3 | h3
      · exact h3
      · exact absurd h3 (by simpa using h2)
    | succ d ih =>
      intro i h
      have h1 := List.pairwise_iff_getElem.1 hs (i + d + 1) (i + (d + 1) + 1) (by omega) (by omega) (by omega)
      have h2 := ih i (by omega)
      rcases List.le_iff_lt_or_eq.1 (List.not_lt.1 h1) with h3 | h3
      · exact List.lt_trans h2 h3
      · rw [← h3]; exact h2
  rw [List.nodup_iff_pairwise_ne, List.pairwise_iff_getElem]
  intro i j hi hj hij
  simp only [List.length_map] at hi hj
  have := hlt (j - i - 1) i (by omega)
  have e : i + (j - i - 1) + 1 = j := by omega
  simp only [e] at this
  rw [List.getElem_map, List.getElem_map]
  intro h
  rw [h] at this
  exact List.lt_irrefl _ this
set_option maxRecDepth 10000 in
theorem check_long {own : Bool} {w : World} {G : Nat → Prop} {v : Value} {es : List Ent} (h : Es own w G v es) (hlen : 4096 < es.length) : Calls Try.prog 21 #[v] w (RetM (.int .i64 (chkE es : Nat)) w) := by
  obtain ⟨ad, cap, rfl, -, -⟩ := Sl.at h
  have e : chkE es = 4 := by unfold chkE; rw [if_pos hlen]
  rw [e]
  clear h e
  have hz : (es.length : Int) > 4096 := by omega
  go_enter Try.func21, Try.ntmps21
  go_wp2
  go_ret
  exact ⟨rfl, Mod.refl _ _⟩
set_option maxRecDepth 10000 in
theorem check_any {own : Bool} {w : World} {G : Nat → Prop} {v : Value} {es : List Ent} (h : Es own w G v es) (hs : Short es) (hlen : es.length ≤ 4096) : Calls Try.prog 21 #[v] w (RetM (.int .i64 (chkE es : Nat)) w) := by
  have HS := Lib.hid h
  have HSH := Lib.hid hs
  obtain ⟨ad, cap, rfl, -, -⟩ := Sl.at h
  have hz0 : ¬ (es.length : Int) > 4096 := by omega
  clear h hs
  go_enter Try.func21, Try.ntmps21
  go_wp2
  go_loopw [3, 13] (KeysRel es w) (fun _ i _ => es.length - (intOf i).toNat)
  case atStart => exact ⟨0, by omega, rfl, Gat.nil _ _ _ _ _, Mod.refl _ _⟩
  case round =>
    rename World => wr
    obtain ⟨k, hk, rfl, hg, hm⟩ := hrel
    have HG := Lib.hid hg
    obtain ⟨ad2, cap2, rfl⟩ := hg.slice
    clear hg
    by_cases hlt : k < es.length
    · have hz : (k : Int) < (es.length : Int) := by omega
      have HE := HS.out.keep0 hm
      obtain ⟨_, _, hv, -, hat⟩ := Sl.at HE
      cases hv
      obtain ⟨b, off, rfl, -, -, hc⟩ := hat k hlt
      obtain ⟨cs, hcs2, hec, hc⟩ := hc k hlt
      have htk : (es.take (k + 1)).map (·.1) = (es.take k).map (·.1) ++ [es[k].1] := by rw [List.take_succ_eq_append_getElem hlt, List.map_append]; rfl
      have hlk : ((es.take k).map (·.1)).length = k := by simp; omega
      have HTK := Lib.hid htk
      generalize es[k] = x at *
      have hc1 := entC_one hec
      obtain ⟨vx, rfl, -⟩ := hec
      clear htk hat HE
      go_upto_region 6 with (fail)
      refine wp_region_seq [3, 1, 1, 1] (fun _ => True) (by rfl) (by rfl) trivial ?_
      simp only [List.zip_cons_cons, List.zip_nil_right]
      refine wpPi_index _ _ _ _ _ _ _ _ _ rfl rfl rfl rfl Try.underlying22 (n := 2) (by kernel_rfl) hlt ?_
      simp only [pl, pn, el, ec, sz, ss, gz, gs, if_true, if_false, Bool.false_eq_true, Bool.not_true, Bool.not_false, Nat.add_zero, Nat.zero_add, Nat.reduceAdd]
      refine wpPi_do rfl (fun K hK => ?_)
      refine wp_exec (exec_loadA 35 _ (by rfl) b (off + k * 2) (by rfl) #[.string x.1, vx] hc _ Try.underlying35 rfl 2 (by kernel_rfl) hcs2) ?_
      refine hK _ _ trivial ?_
      clear hK K
      try simp only [pl, pn, el, ec, sz, ss, gz, gs, if_true, if_false, Bool.false_eq_true, Bool.not_true, Bool.not_false, Nat.add_zero, Nat.zero_add, Nat.reduceAdd]
      refine wpPi_do rfl (fun K hK => ?_)
      refine wp_alloc 35 _ (by rfl) entryZ (fun w2 hB2 hm2 hs2 => ?_)
      replace hB2 : w2.heap[wr.heap.size]? = some (.cells #[.string ⟨#[]⟩, .slice none 0 0] 35 (0, 0)) := hB2
      refine hK _ _ trivial ?_
      clear hK K
      try simp only [pl, pn, el, ec, sz, ss, gz, gs, if_true, if_false, Bool.false_eq_true, Bool.not_true, Bool.not_false, Nat.add_zero, Nat.zero_add, Nat.reduceAdd]
      refine wpPi_do rfl (fun K hK => ?_)
      refine wp_storeA 35 _ _ wr.heap.size 0 #[.string x.1, vx] (by rfl) (by rfl) (by rfl) hc1 2 (by kernel_rfl) hcs2 _ _ hB2 (by rw [hcs2]; exact Nat.le_of_eq rfl) (fun w3 hB3 hm3 => ?_)
      rw [putRow_whole (by rw [hcs2]; rfl)] at hB3
      refine hK _ _ trivial ?_
      clear hK K
      try simp only [pl, pn, el, ec, sz, ss, gz, gs, if_true, if_false, Bool.false_eq_true, Bool.not_true, Bool.not_false, Nat.add_zero, Nat.zero_add, Nat.reduceAdd]
      refine wpPi_nil ?_
      have hM3 := hm2.transB hm3 (Nat.le_refl _)
      generalize wr.heap.size = b4 at *
      have hcl := (CellsAt.whole hB3).cell (j := 0) (v := .string x.1) rfl
      clear hm2 hm3 hB2 hc hB3
      go_upto_region 7 with (fail)
      refine wp_region_seq [3, 3, 1, 1, 1, 3] (fun _ => True) (by rfl) (by rfl) trivial ?_
      simp only [List.zip_cons_cons, List.zip_nil_right]
      refine wpPi_move _ rfl rfl ?_
      simp only [pl, pn, el, ec, sz, ss, gz, gs, if_true, if_false, Bool.false_eq_true, Bool.not_true, Bool.not_false, Nat.add_zero, Nat.zero_add, Nat.reduceAdd]
      refine wpPi_field _ _ _ _ _ _ rfl rfl rfl fo_35_0 ?_
      simp only [pl, pn, el, ec, sz, ss, gz, gs, if_true, if_false, Bool.false_eq_true, Bool.not_true, Bool.not_false, Nat.add_zero, Nat.zero_add, Nat.reduceAdd]
      refine wpPi_do rfl (fun K hK => ?_)
      refine wp_exec (exec_load1 9 _ (by rfl) b4 0 (by rfl) (.string x.1) hcl _ Try.underlying9 rfl) ?_
      refine hK _ _ trivial ?_
      clear hK K
      try simp only [pl, pn, el, ec, sz, ss, gz, gs, if_true, if_false, Bool.false_eq_true, Bool.not_true, Bool.not_false, Nat.add_zero, Nat.zero_add, Nat.reduceAdd]
      refine wpPi_do rfl (fun K hK => ?_)
      refine wp_buildSlice1 26 9 _ (.string x.1) (.string ⟨#[]⟩) 1 (by rfl) (by rfl) Try.underlying26 str_i2 (by omega) (by omega) rfl (fun w5 hB5 hm5 hs5 => ?_)
      have hM5 := hM3.trans0 hm5
      refine hK _ _ trivial ?_
      clear hK K
      try simp only [pl, pn, el, ec, sz, ss, gz, gs, if_true, if_false, Bool.false_eq_true, Bool.not_true, Bool.not_false, Nat.add_zero, Nat.zero_add, Nat.reduceAdd]
      refine wpPi_do rfl (fun K hK => ?_)
      refine wp_gat strEnc _ _ 26 9 (.string ⟨#[]⟩) 1 16 (by rfl) Try.underlying26 str_i (by kernel_rfl) (by omega) strEnc_one w.heap.size _ _ (by rfl) (HG.out.keep0 hM5) (.slice (some ⟨w3.heap.size, 0, none⟩) 1 1) [x.1] (by rfl) (src_lit (enc := strEnc) (x := x.1) (e := 9) (fun _ => rfl) hB5) (by simp only [List.length_singleton]; unfold maxLen; omega) (by simp only [List.length_singleton]; omega) (by have := hm.size; have := hM5.size; omega) (fun v6 w6 hg6 hm6 => ?_)
      rw [← HTK.out] at hg6
      have hM6 : Mod NoB w w6 := (hm.trans0 hM5).trans hm6 (fun k hk e => by have := (HG.out.lt e).1; omega)
      refine hK _ _ trivial ?_
      clear hK K
      try simp only [pl, pn, el, ec, sz, ss, gz, gs, if_true, if_false, Bool.false_eq_true, Bool.not_true, Bool.not_false, Nat.add_zero, Nat.zero_add, Nat.reduceAdd]
      refine wpPi_assign _ rfl rfl ?_
      simp only [pl, pn, el, ec, sz, ss, gz, gs, if_true, if_false, Bool.false_eq_true, Bool.not_true, Bool.not_false, Nat.add_zero, Nat.zero_add, Nat.reduceAdd]
      refine wpPi_nil ?_
      clear hm6 hm5 hM3 hM5 hm hB5 hcl
      go_wp2
      go_roundw
      case rel => exact ⟨k + 1, by omega, by go_num, hg6, hM6⟩
      case measure => simp [intOf]; omega
    · have hz : ¬ (k : Int) < (es.length : Int) := by omega
      obtain rfl : k = es.length := by omega
      simp only [List.take_length] at HG ⊢
      have hkl : (es.map (·.1)).length = es.length := by simp
      have hcs := comp_short (es.map (·.1))
      rw [hkl] at hcs
      have hcl := HG.out.lts
      generalize hKE : es.map (·.1) = ks at *
      go_upto_region 9 with (fail)
      refine wp_region_seq [3, 1] (fun _ => True) (by rfl) (by rfl) trivial ?_
      simp only [List.zip_cons_cons, List.zip_nil_right]
      refine wpPi_move _ rfl rfl ?_
      simp only [pl, pn, el, ec, sz, ss, gz, gs, if_true, if_false, Bool.false_eq_true, Bool.not_true, Bool.not_false, Nat.add_zero, Nat.zero_add, Nat.reduceAdd]
      refine wpPi_do rfl (fun K hK => ?_)
      refine wp_enterQ (run_call 33 [.tmp 23] _ rfl _ Try.func33 rfl (by kernel_rfl) [.slice ad2 ks.length cap2] rfl _) (sortS_any HG.out (by omega)) ?_
      rintro e w3 ⟨rfl, hg3, hm3⟩
      have hM3 : Mod NoB w w3 := hm.trans hm3 (fun k hk e => by have := (hcl _ e).1; omega)
      refine ⟨_, rfl, hK _ _ trivial ?_⟩
      clear hK K
      try simp only [pl, pn, el, ec, sz, ss, gz, gs, if_true, if_false, Bool.false_eq_true, Bool.not_true, Bool.not_false, Nat.add_zero, Nat.zero_add, Nat.reduceAdd]
      refine wpPi_nil ?_
      clear hm3 hm
      have hs3 := hM3.size
      have hcl3 := hg3.lts
      have hsl : (sortB ks).length = es.length := by rw [sortB_len, hkl]
      go_upto_region 10 with (fail)
      by_cases hdup : (compB (sortB ks)).length < es.length
      · have hz2 : ((compB (sortB ks)).length : Int) < (es.length : Int) := by omega
        have hchk : chkE es = 19 := by
          unfold chkE
          rw [if_neg (by omega), hKE, if_pos (hcs.1 hdup)]
        rw [hchk]
        refine wp_region_seq [3, 1, 3, 3, 3, 3] (fun _ => True) (by rfl) (by rfl) trivial ?_
        simp only [List.zip_cons_cons, List.zip_nil_right]
        refine wpPi_move _ rfl rfl ?_
        simp only [pl, pn, el, ec, sz, ss, gz, gs, if_true, if_false, Bool.false_eq_true, Bool.not_true, Bool.not_false, Nat.add_zero, Nat.zero_add, Nat.reduceAdd]
        refine wpPi_do rfl (fun K hK => ?_)
        refine wp_enterQ (run_call 34 [.tmp 25] _ rfl _ Try.func34 rfl (by kernel_rfl) [.slice ad2 ks.length cap2] rfl _) (compactS_any hg3 (by omega)) ?_
        rintro e w4 ⟨v4, rfl, hv4, hg4, hm4⟩
        have hM4 : Mod NoB w w4 := hM3.trans hm4 (fun k hk e => by have := (hcl3 _ e).1; omega)
        obtain ⟨ad4, cap4, rfl⟩ := hg4.slice
        refine ⟨_, rfl, hK _ _ trivial ?_⟩
        clear hK K
        try simp only [pl, pn, el, ec, sz, ss, gz, gs, if_true, if_false, Bool.false_eq_true, Bool.not_true, Bool.not_false, Nat.add_zero, Nat.zero_add, Nat.reduceAdd]
        refine wpPi_len _ _ _ _ _ rfl rfl rfl (by kernel_rfl) ?_
        simp only [pl, pn, el, ec, sz, ss, gz, gs, if_true, if_false, Bool.false_eq_true, Bool.not_true, Bool.not_false, Nat.add_zero, Nat.zero_add, Nat.reduceAdd]
        refine wpPi_move _ rfl rfl ?_
        simp only [pl, pn, el, ec, sz, ss, gz, gs, if_true, if_false, Bool.false_eq_true, Bool.not_true, Bool.not_false, Nat.add_zero, Nat.zero_add, Nat.reduceAdd]
        refine wpPi_len _ _ _ _ _ rfl rfl rfl (by kernel_rfl) ?_
        simp only [pl, pn, el, ec, sz, ss, gz, gs, if_true, if_false, Bool.false_eq_true, Bool.not_true, Bool.not_false, Nat.add_zero, Nat.zero_add, Nat.reduceAdd]
        refine wpPi_any (v := ?_) rfl (fun w' => ?_) ?_; rotate_left; · (go_simp; try with_reducible rfl)
        simp only [pl, pn, el, ec, sz, ss, gz, gs, if_true, if_false, Bool.false_eq_true, Bool.not_true, Bool.not_false, Nat.add_zero, Nat.zero_add, Nat.reduceAdd]
        refine wpPi_nil ?_
        clear hm4 hM3
        go_wp2
        go_ret
        exact ⟨rfl, hM4⟩
      · have hz2 : ¬ ((compB (sortB ks)).length : Int) < (es.length : Int) := by omega
        have hnd : ks.Nodup := Classical.not_not.1 fun h => hdup (hcs.2 h)
        refine wp_region_seq [3, 1, 3, 3, 3, 3] (fun _ => True) (by rfl) (by rfl) trivial ?_
        simp only [List.zip_cons_cons, List.zip_nil_right]
        refine wpPi_move _ rfl rfl ?_
        simp only [pl, pn, el, ec, sz, ss, gz, gs, if_true, if_false, Bool.false_eq_true, Bool.not_true, Bool.not_false, Nat.add_zero, Nat.zero_add, Nat.reduceAdd]
        refine wpPi_do rfl (fun K hK => ?_)
        refine wp_enterQ (run_call 34 [.tmp 25] _ rfl _ Try.func34 rfl (by kernel_rfl) [.slice ad2 ks.length cap2] rfl _) (compactS_any hg3 (by omega)) ?_
        rintro e w4 ⟨v4, rfl, hv4, hg4, hm4⟩
        have hM4 : Mod NoB w w4 := hM3.trans hm4 (fun k hk e => by have := (hcl3 _ e).1; omega)
        obtain ⟨ad4, cap4, rfl⟩ := hg4.slice
        refine ⟨_, rfl, hK _ _ trivial ?_⟩
        clear hK K
        try simp only [pl, pn, el, ec, sz, ss, gz, gs, if_true, if_false, Bool.false_eq_true, Bool.not_true, Bool.not_false, Nat.add_zero, Nat.zero_add, Nat.reduceAdd]
        refine wpPi_len _ _ _ _ _ rfl rfl rfl (by kernel_rfl) ?_
        simp only [pl, pn, el, ec, sz, ss, gz, gs, if_true, if_false, Bool.false_eq_true, Bool.not_true, Bool.not_false, Nat.add_zero, Nat.zero_add, Nat.reduceAdd]
        refine wpPi_move _ rfl rfl ?_
        simp only [pl, pn, el, ec, sz, ss, gz, gs, if_true, if_false, Bool.false_eq_true, Bool.not_true, Bool.not_false, Nat.add_zero, Nat.zero_add, Nat.reduceAdd]
        refine wpPi_len _ _ _ _ _ rfl rfl rfl (by kernel_rfl) ?_
        simp only [pl, pn, el, ec, sz, ss, gz, gs, if_true, if_false, Bool.false_eq_true, Bool.not_true, Bool.not_false, Nat.add_zero, Nat.zero_add, Nat.reduceAdd]
        refine wpPi_any (v := ?_) rfl (fun w' => ?_) ?_; rotate_left; · (go_simp; try with_reducible rfl)
        simp only [pl, pn, el, ec, sz, ss, gz, gs, if_true, if_false, Bool.false_eq_true, Bool.not_true, Bool.not_false, Nat.add_zero, Nat.zero_add, Nat.reduceAdd]
        refine wpPi_nil ?_
        clear hm4 hM3
        go_upto_region 12 with (fail)
        refine wp_region_seq [3, 1, 3] (fun _ => True) (by rfl) (by rfl) trivial ?_
        simp only [List.zip_cons_cons, List.zip_nil_right]
        refine wpPi_move _ rfl rfl ?_
        simp only [pl, pn, el, ec, sz, ss, gz, gs, if_true, if_false, Bool.false_eq_true, Bool.not_true, Bool.not_false, Nat.add_zero, Nat.zero_add, Nat.reduceAdd]
        refine wpPi_do rfl (fun K hK => ?_)
        refine wp_enterQ (run_call 28 [.tmp 31] _ rfl _ Try.func28 rfl (by kernel_rfl) [.slice ad es.length cap] rfl _) (sorted_any (HS.out.keep0 hM4) HSH.out (by omega)) ?_
        rintro e w5 ⟨v5, ls, rfl, hl5, ⟨hp5, ho5⟩, hm5⟩
        have hM5 := hM4.trans0 hm5
        refine ⟨_, rfl, hK _ _ trivial ?_⟩
        clear hK K
        try simp only [pl, pn, el, ec, sz, ss, gz, gs, if_true, if_false, Bool.false_eq_true, Bool.not_true, Bool.not_false, Nat.add_zero, Nat.zero_add, Nat.reduceAdd]
        refine wpPi_assign _ rfl rfl ?_
        simp only [pl, pn, el, ec, sz, ss, gz, gs, if_true, if_false, Bool.false_eq_true, Bool.not_true, Bool.not_false, Nat.add_zero, Nat.zero_add, Nat.reduceAdd]
        refine wpPi_nil ?_
        have hll : ls.length = es.length := by rw [hp5.length_eq]; simp [leavesE]
        have hnw : ((leavesE es).map (·.way)).Nodup ↔ (ls.map (·.way)).Nodup := (hp5.map (·.way)).nodup_iff.symm
        have hchk : chkE es = if ¬ (ls.map (·.way)).Nodup then 9 else 0 := by
          simp only [chkE, show ¬ 4096 < es.length by omega, hKE, hnd, hnw, if_false, not_true]
        have HCHK := Lib.hid hchk
        have HL := Lib.hid hl5
        obtain ⟨ad5, cap5, rfl, -, -⟩ := Sl.at hl5
        have hlb : ls.length ≤ 4096 := by omega
        clear hm5 hM4 hchk hl5 hp5 hnw hll
        go_wp2
        go_loopw [7] (WaysRel ls w5) (fun i _ => ls.length + 1 - (intOf i).toNat)
        case atStart => exact ⟨1, by omega, by omega, rfl, fun j h1 h2 h3 => by omega, Mod.refl _ _⟩
        case round =>
          rename World => wq
          obtain ⟨i, hi1, hi2, rfl, hne, hmq⟩ := hrel
          have HNE := Lib.hid hne
          clear hne
          by_cases hlt : i < ls.length
          · have hz3 : (i : Int) < (ls.length : Int) := by omega
            obtain ⟨_, _, hv, -, hat⟩ := Sl.at (HL.out.keep0 hmq)
            cases hv
            obtain ⟨b, off, rfl, -, -, hc⟩ := hat i hlt
            have hi1' : i - 1 < ls.length := by omega
            obtain ⟨_, -, ⟨rfl, hok1⟩, hc1⟩ := hc (i - 1) hi1'
            obtain ⟨_, -, ⟨rfl, hok2⟩, hc2⟩ := hc i hlt
            have hw1 := leaf_way hok1 hc1
            have hw2 := leaf_way hok2 hc2
            have hx1 := hok1.1
            have hx2 := hok2.1
            have hr1 : (idCells ls[i - 1].way).size = 32 := by rw [idCells_size, hx1]
            have hr2 : (idCells ls[i].way).size = 32 := by rw [idCells_size, hx2]
            clear hat hc hc1 hc2 hok1 hok2
            by_cases heq : ls[i - 1].way = ls[i].way
            · have hout : chkE es = 9 := by
                rw [HCHK.out, if_pos]
                intro hnd
                have := List.pairwise_iff_getElem.1 hnd (i - 1) i (by simpa using hi1') (by simpa using hlt) (by omega)
                simp only [List.getElem_map] at this
                exact this heq
              rw [hout]
              generalize ls[i - 1].way = x1 at *
              generalize ls[i].way = x2 at *
              go_upto_region 16 with (fail)
              have hS : Mod NoB wq wq.drew := (Mod.refl _ _).drew
              refine wp_region_pi [(0, 3), (1, 3), (2, 3), (3, 3), (4, 3), (5, 0), (6, 3), (7, 3), (8, 3), (9, 3), (10, 0), (11, 0)] [] (fun w' => Mod NoB wq w') (by kernel_rfl) (by kernel_rfl) (by kernel_rfl) (by kernel_rfl) (fun _ _ _ _ hd h => ⟨hd.trans h.1, h.2⟩) hS ?_
              simp only [List.map_cons, List.map_nil, List.getD_cons_zero, List.getD_cons_succ]
              refine wpPi_move _ rfl rfl ?_
              simp only [pl, pn, el, ec, sz, ss, gz, gs, if_true, if_false, Bool.false_eq_true, Bool.not_true, Bool.not_false, Nat.add_zero, Nat.zero_add, Nat.reduceAdd]
              refine wpPi_move _ rfl rfl ?_
              simp only [pl, pn, el, ec, sz, ss, gz, gs, if_true, if_false, Bool.false_eq_true, Bool.not_true, Bool.not_false, Nat.add_zero, Nat.zero_add, Nat.reduceAdd]
              refine wpPi_subR _ _ _ _ (i : Int) 1 ((i - 1 : Nat) : Int) rfl rfl rfl rfl (by omega) (by omega) (by omega) ?_
              simp only [pl, pn, el, ec, sz, ss, gz, gs, if_true, if_false, Bool.false_eq_true, Bool.not_true, Bool.not_false, Nat.add_zero, Nat.zero_add, Nat.reduceAdd]
              refine wpPi_index _ _ _ _ _ _ _ _ _ rfl rfl rfl rfl Try.underlying58 (n := 65) (by kernel_rfl) hi1' ?_
              simp only [pl, pn, el, ec, sz, ss, gz, gs, if_true, if_false, Bool.false_eq_true, Bool.not_true, Bool.not_false, Nat.add_zero, Nat.zero_add, Nat.reduceAdd]
              refine wpPi_field _ _ _ _ _ _ rfl rfl rfl fo_63_1 ?_
              simp only [pl, pn, el, ec, sz, ss, gz, gs, if_true, if_false, Bool.false_eq_true, Bool.not_true, Bool.not_false, Nat.add_zero, Nat.zero_add, Nat.reduceAdd]
              refine wpPi_val rfl (fun w' hS => exec_loadA 38 _ (by rfl) b (off + (i - 1) * 65 + 1) (by rfl) (idCells x1) (hw1.keep hS id) _ Try.underlying38 rfl 32 (by kernel_rfl) hr1) ?_
              simp only [pl, pn, el, ec, sz, ss, gz, gs, if_true, if_false, Bool.false_eq_true, Bool.not_true, Bool.not_false, Nat.add_zero, Nat.zero_add, Nat.reduceAdd]
              refine wpPi_move _ rfl rfl ?_
              simp only [pl, pn, el, ec, sz, ss, gz, gs, if_true, if_false, Bool.false_eq_true, Bool.not_true, Bool.not_false, Nat.add_zero, Nat.zero_add, Nat.reduceAdd]
              refine wpPi_move _ rfl rfl ?_
              simp only [pl, pn, el, ec, sz, ss, gz, gs, if_true, if_false, Bool.false_eq_true, Bool.not_true, Bool.not_false, Nat.add_zero, Nat.zero_add, Nat.reduceAdd]
              refine wpPi_index _ _ _ _ _ _ _ _ _ rfl rfl rfl rfl Try.underlying58 (n := 65) (by kernel_rfl) hlt ?_
              simp only [pl, pn, el, ec, sz, ss, gz, gs, if_true, if_false, Bool.false_eq_true, Bool.not_true, Bool.not_false, Nat.add_zero, Nat.zero_add, Nat.reduceAdd]
              refine wpPi_field _ _ _ _ _ _ rfl rfl rfl fo_63_1 ?_
              simp only [pl, pn, el, ec, sz, ss, gz, gs, if_true, if_false, Bool.false_eq_true, Bool.not_true, Bool.not_false, Nat.add_zero, Nat.zero_add, Nat.reduceAdd]
              refine wpPi_val rfl (fun w' hS => exec_loadA 38 _ (by rfl) b (off + i * 65 + 1) (by rfl) (idCells x2) (hw2.keep hS id) _ Try.underlying38 rfl 32 (by kernel_rfl) hr2) ?_
              simp only [pl, pn, el, ec, sz, ss, gz, gs, if_true, if_false, Bool.false_eq_true, Bool.not_true, Bool.not_false, Nat.add_zero, Nat.zero_add, Nat.reduceAdd]
              refine wpPi_val rfl (fun w' hS => exec_eql_id _ _ _ _ rfl x1 x2 rfl rfl 32 5 Try.underlying38 Try.underlying5 (by kernel_rfl) (by kernel_rfl) hx1 hx2 true (decide_eq_true heq)) ?_
              simp only [pl, pn, el, ec, sz, ss, gz, gs, if_true, if_false, Bool.false_eq_true, Bool.not_true, Bool.not_false, Nat.add_zero, Nat.zero_add, Nat.reduceAdd]
              refine wpPi_nil ?_
              have hMq := hM5.trans0 (hmq.trans0 hS)
              clear hmq hS hM5
              go_wp2
              go_ret
              exact ⟨rfl, hMq⟩
            · have hstep : ∀ j (h1 : 1 ≤ j) (_ : j < i + 1) (h3 : j < ls.length), ls[j - 1].way ≠ ls[j].way := fun j h1 h2 h3 => by
                rcases Nat.lt_or_ge j i with h4 | h4
                · exact HNE.out j h1 h4 h3
                · obtain rfl : j = i := by omega
                  exact heq
              have HSTEP := Lib.hid hstep
              clear hstep
              generalize ls[i - 1].way = x1 at *
              generalize ls[i].way = x2 at *
              go_upto_region 16 with (fail)
              have hS : Mod NoB wq wq.drew := (Mod.refl _ _).drew
              refine wp_region_pi [(0, 3), (1, 3), (2, 3), (3, 3), (4, 3), (5, 0), (6, 3), (7, 3), (8, 3), (9, 3), (10, 0), (11, 0)] [] (fun w' => Mod NoB wq w') (by kernel_rfl) (by kernel_rfl) (by kernel_rfl) (by kernel_rfl) (fun _ _ _ _ hd h => ⟨hd.trans h.1, h.2⟩) hS ?_
              simp only [List.map_cons, List.map_nil, List.getD_cons_zero, List.getD_cons_succ]
              refine wpPi_move _ rfl rfl ?_
              simp only [pl, pn, el, ec, sz, ss, gz, gs, if_true, if_false, Bool.false_eq_true, Bool.not_true, Bool.not_false, Nat.add_zero, Nat.zero_add, Nat.reduceAdd]
              refine wpPi_move _ rfl rfl ?_
              simp only [pl, pn, el, ec, sz, ss, gz, gs, if_true, if_false, Bool.false_eq_true, Bool.not_true, Bool.not_false, Nat.add_zero, Nat.zero_add, Nat.reduceAdd]
              refine wpPi_subR _ _ _ _ (i : Int) 1 ((i - 1 : Nat) : Int) rfl rfl rfl rfl (by omega) (by omega) (by omega) ?_
              simp only [pl, pn, el, ec, sz, ss, gz, gs, if_true, if_false, Bool.false_eq_true, Bool.not_true, Bool.not_false, Nat.add_zero, Nat.zero_add, Nat.reduceAdd]
              refine wpPi_index _ _ _ _ _ _ _ _ _ rfl rfl rfl rfl Try.underlying58 (n := 65) (by kernel_rfl) hi1' ?_
              simp only [pl, pn, el, ec, sz, ss, gz, gs, if_true, if_false, Bool.false_eq_true, Bool.not_true, Bool.not_false, Nat.add_zero, Nat.zero_add, Nat.reduceAdd]
              refine wpPi_field _ _ _ _ _ _ rfl rfl rfl fo_63_1 ?_
              simp only [pl, pn, el, ec, sz, ss, gz, gs, if_true, if_false, Bool.false_eq_true, Bool.not_true, Bool.not_false, Nat.add_zero, Nat.zero_add, Nat.reduceAdd]
              refine wpPi_val rfl (fun w' hS => exec_loadA 38 _ (by rfl) b (off + (i - 1) * 65 + 1) (by rfl) (idCells x1) (hw1.keep hS id) _ Try.underlying38 rfl 32 (by kernel_rfl) hr1) ?_
              simp only [pl, pn, el, ec, sz, ss, gz, gs, if_true, if_false, Bool.false_eq_true, Bool.not_true, Bool.not_false, Nat.add_zero, Nat.zero_add, Nat.reduceAdd]
              refine wpPi_move _ rfl rfl ?_
              simp only [pl, pn, el, ec, sz, ss, gz, gs, if_true, if_false, Bool.false_eq_true, Bool.not_true, Bool.not_false, Nat.add_zero, Nat.zero_add, Nat.reduceAdd]
              refine wpPi_move _ rfl rfl ?_
              simp only [pl, pn, el, ec, sz, ss, gz, gs, if_true, if_false, Bool.false_eq_true, Bool.not_true, Bool.not_false, Nat.add_zero, Nat.zero_add, Nat.reduceAdd]
              refine wpPi_index _ _ _ _ _ _ _ _ _ rfl rfl rfl rfl Try.underlying58 (n := 65) (by kernel_rfl) hlt ?_
              simp only [pl, pn, el, ec, sz, ss, gz, gs, if_true, if_false, Bool.false_eq_true, Bool.not_true, Bool.not_false, Nat.add_zero, Nat.zero_add, Nat.reduceAdd]
              refine wpPi_field _ _ _ _ _ _ rfl rfl rfl fo_63_1 ?_
              simp only [pl, pn, el, ec, sz, ss, gz, gs, if_true, if_false, Bool.false_eq_true, Bool.not_true, Bool.not_false, Nat.add_zero, Nat.zero_add, Nat.reduceAdd]
              refine wpPi_val rfl (fun w' hS => exec_loadA 38 _ (by rfl) b (off + i * 65 + 1) (by rfl) (idCells x2) (hw2.keep hS id) _ Try.underlying38 rfl 32 (by kernel_rfl) hr2) ?_
              simp only [pl, pn, el, ec, sz, ss, gz, gs, if_true, if_false, Bool.false_eq_true, Bool.not_true, Bool.not_false, Nat.add_zero, Nat.zero_add, Nat.reduceAdd]
              refine wpPi_val rfl (fun w' hS => exec_eql_id _ _ _ _ rfl x1 x2 rfl rfl 32 5 Try.underlying38 Try.underlying5 (by kernel_rfl) (by kernel_rfl) hx1 hx2 false (decide_eq_false heq)) ?_
              simp only [pl, pn, el, ec, sz, ss, gz, gs, if_true, if_false, Bool.false_eq_true, Bool.not_true, Bool.not_false, Nat.add_zero, Nat.zero_add, Nat.reduceAdd]
              refine wpPi_nil ?_
              have hMq := hmq.trans0 hS
              clear hmq hS
              go_wp2
              go_roundw
              case rel => exact ⟨i + 1, by omega, by omega, by go_num, HSTEP.out, hMq⟩
              case measure => simp [intOf]; omega
          · have hz3 : ¬ (i : Int) < (ls.length : Int) := by omega
            have hout : chkE es = 0 := by
              rw [HCHK.out, if_neg]
              intro hnd
              exact hnd (ways_nodup ho5 fun j h1 h3 => HNE.out j h1 (by omega) h3)
            rw [hout]
            have hMq := hM5.trans0 hmq
            clear hmq hM5
            go_wp2
            go_ret
            exact ⟨rfl, hMq⟩
end Go.Proofs.Ytchkikmmcmjcgaa

/- tree.Root: the digest of all; pairs turned about. -/
namespace Go.Proofs.Ytchkikmmcmjcgaa
set_option linter.unusedSimpArgs false
set_option linter.unusedVariables false
set_option linter.unnecessarySimpa false
set_option linter.unusedSectionVars false
open Go.RowKit Go.Shelf

theorem fo_61_0 : fieldOff Try.prog 61 0 = some 0 := by kernel_rfl
theorem fo_61_1 : fieldOff Try.prog 61 1 = some 1 := by kernel_rfl
theorem placed_of {es : List Ent} {ls : List Leaf} (hs : Sorted es ls) (h : chkE es = 0) : Placed 0 ls := by
  have hl := (lie_of_chk h).perm hs.1.symm
  refine ⟨hl.len, fun _ _ _ _ j hj => by omega, ?_⟩
  have hn := hl.nd
  rw [List.nodup_iff_pairwise_ne, List.pairwise_map] at hn
  exact (hs.2.and hn).imp fun ⟨h1, h2⟩ => by
    rcases List.le_iff_lt_or_eq.1 (List.not_lt.1 h1) with h3 | h3
    · exact h3
    · exact absurd h3 h2
theorem sorted_len {es : List Ent} {ls : List Leaf} (hs : Sorted es ls) : ls.length = es.length := by rw [hs.1.length_eq]; simp [leavesE]
def zeroID : List UInt8 := List.replicate 32 0
def rootOut (es : List Ent) : List UInt8 := if chkE es = 0 then rootE es else zeroID
theorem built_zero : Try.prog.built 38 [] = some (idCells zeroID) := by kernel_rfl
def RootR (w : World) (es : List Ent) : Ending → World → Prop := fun e w' => e = .returned (.tuple #[.agg (idCells (rootOut es)), .int .i64 (chkE es : Nat)]) ∧ Mod NoB w w'
set_option maxRecDepth 10000 in
theorem root_any {own : Bool} {w : World} {G : Nat → Prop} {v : Value} {es : List Ent} (h : Es own w G v es) (hs : Short es) (hlen : es.length ≤ 4096) : Calls Try.prog 17 #[v] w (RootR w es) := by
  have HS := Lib.hid h
  have HSH := Lib.hid hs
  obtain ⟨ad, cap, rfl, -, -⟩ := Sl.at h
  clear h hs
  go_enter Try.func17, Try.ntmps17
  go_upto_region 0 with (fail)
  refine wp_region_seq [1, 3] (fun _ => True) (by rfl) (by rfl) trivial ?_
  simp only [List.zip_cons_cons, List.zip_nil_right]
  refine wpPi_do rfl (fun K hK => ?_)
  refine wp_alloc 38 _ (by rfl) idZ (fun w1 hB1 hm1 hs1 => ?_)
  replace hB1 : w1.heap[w.heap.size]? = some (.cells (idCells (List.replicate 32 0)) 38 (0, 0)) := hB1
  refine hK _ _ trivial ?_
  clear hK K
  try simp only [pl, pn, el, ec, sz, ss, gz, gs, if_true, if_false, Bool.false_eq_true, Bool.not_true, Bool.not_false, Nat.add_zero, Nat.zero_add, Nat.reduceAdd]
  refine wpPi_assign _ rfl rfl ?_
  simp only [pl, pn, el, ec, sz, ss, gz, gs, if_true, if_false, Bool.false_eq_true, Bool.not_true, Bool.not_false, Nat.add_zero, Nat.zero_add, Nat.reduceAdd]
  refine wpPi_nil ?_
  go_upto_region 1 with (fail)
  refine wp_region_seq [3, 1, 3] (fun _ => True) (by rfl) (by rfl) trivial ?_
  simp only [List.zip_cons_cons, List.zip_nil_right]
  refine wpPi_move _ rfl rfl ?_
  simp only [pl, pn, el, ec, sz, ss, gz, gs, if_true, if_false, Bool.false_eq_true, Bool.not_true, Bool.not_false, Nat.add_zero, Nat.zero_add, Nat.reduceAdd]
  refine wpPi_do rfl (fun K hK => ?_)
  refine wp_enterQ (run_call 21 [.tmp 5] _ rfl _ Try.func21 rfl (by kernel_rfl) [.slice ad es.length cap] rfl _) (check_any (HS.out.keep0 hm1) HSH.out hlen) ?_
  rintro e w2 ⟨rfl, hm2⟩
  have hM2 := hm1.trans0 hm2
  replace hB1 := hm2.obj id hB1
  refine ⟨_, rfl, hK _ _ trivial ?_⟩
  clear hK K
  try simp only [pl, pn, el, ec, sz, ss, gz, gs, if_true, if_false, Bool.false_eq_true, Bool.not_true, Bool.not_false, Nat.add_zero, Nat.zero_add, Nat.reduceAdd]
  refine wpPi_assign _ rfl rfl ?_
  simp only [pl, pn, el, ec, sz, ss, gz, gs, if_true, if_false, Bool.false_eq_true, Bool.not_true, Bool.not_false, Nat.add_zero, Nat.zero_add, Nat.reduceAdd]
  refine wpPi_nil ?_
  clear hm1 hm2
  by_cases hc : chkE es = 0
  · have ho : rootOut es = rootE es := by unfold rootOut; rw [if_pos hc]
    have HO := Lib.hid ho
    have HC := Lib.hid hc
    rw [hc]
    clear hc ho
    go_upto_region 4 with (fail)
    refine wp_region_seq [3, 1, 1, 1, 3] (fun _ => True) (by rfl) (by rfl) trivial ?_
    simp only [List.zip_cons_cons, List.zip_nil_right]
    refine wpPi_move _ rfl rfl ?_
    simp only [pl, pn, el, ec, sz, ss, gz, gs, if_true, if_false, Bool.false_eq_true, Bool.not_true, Bool.not_false, Nat.add_zero, Nat.zero_add, Nat.reduceAdd]
    refine wpPi_do rfl (fun K hK => ?_)
    refine wp_enterQ (run_call 28 [.tmp 11] _ rfl _ Try.func28 rfl (by kernel_rfl) [.slice ad es.length cap] rfl _) (sorted_any (HS.out.keep0 hM2) HSH.out (by omega)) ?_
    rintro e w3 ⟨v3, ls, rfl, hl3, hsr, hm3⟩
    refine ⟨_, rfl, hK _ _ trivial ?_⟩
    clear hK K
    try simp only [pl, pn, el, ec, sz, ss, gz, gs, if_true, if_false, Bool.false_eq_true, Bool.not_true, Bool.not_false, Nat.add_zero, Nat.zero_add, Nat.reduceAdd]
    refine wpPi_do rfl (fun K hK => ?_)
    refine wp_enterQ (run_call 39 [.tmp 12, .const (.int .i64 0)] _ rfl _ Try.func39 rfl (by kernel_rfl) [v3, .int .i64 ((0 : Nat) : Int)] rfl _) (digest_any _ 256 0 ls v3 _ rfl hl3 (placed_of hsr HC.out) (by rw [sorted_len hsr]; omega)) ?_
    rintro e w4 ⟨rfl, hm4⟩
    have hM4 := (hM2.trans0 hm3).trans0 hm4
    replace hB1 := (hm3.trans0 hm4).obj id hB1
    have hd : dig 256 0 ls = rootOut es := by rw [HO.out]; exact dig_perm 256 0 hsr.1
    rw [hd]
    have hrs : (idCells (rootOut es)).size = 32 := by rw [idCells_size, ← hd]; exact dig_len rfl ((lie_of_chk HC.out).perm hsr.1.symm)
    refine ⟨_, rfl, hK _ _ trivial ?_⟩
    clear hK K hm3 hm4 hd
    try simp only [pl, pn, el, ec, sz, ss, gz, gs, if_true, if_false, Bool.false_eq_true, Bool.not_true, Bool.not_false, Nat.add_zero, Nat.zero_add, Nat.reduceAdd]
    refine wpPi_do rfl (fun K hK => ?_)
    refine wp_storeA 38 _ _ w.heap.size 0 (idCells (rootOut es)) (by rfl) (by rfl) (by rfl) (idCells_one _) 32 (by kernel_rfl) hrs _ _ hB1 (by rw [hrs, idCells_size]; simp) (fun w5 hB5 hm5 => ?_)
    rw [putRow_whole (by rw [hrs, idCells_size]; rfl)] at hB5
    refine hK _ _ trivial ?_
    clear hK K
    try simp only [pl, pn, el, ec, sz, ss, gz, gs, if_true, if_false, Bool.false_eq_true, Bool.not_true, Bool.not_false, Nat.add_zero, Nat.zero_add, Nat.reduceAdd]
    refine wpPi_assign _ rfl rfl ?_
    simp only [pl, pn, el, ec, sz, ss, gz, gs, if_true, if_false, Bool.false_eq_true, Bool.not_true, Bool.not_false, Nat.add_zero, Nat.zero_add, Nat.reduceAdd]
    refine wpPi_nil ?_
    have hM5 : Mod NoB w w5 := hM4.transB hm5 (Nat.le_refl _)
    clear hm5 hB1 hM4 hM2
    go_wp2
    refine bodyPost_ret (results_row_tmp (P := Try.prog) (ty := 38) rfl _ _ w.heap.size _ _ _ _ (by rfl) hB5 Try.underlying38 rfl (by rw [hrs]; kernel_rfl)) rfl ?_
    exact ⟨by rw [HC.out]; rfl, hM5⟩
  · have ho : rootOut es = zeroID := by unfold rootOut; rw [if_neg hc]
    have hc2 : ¬ ((chkE es : Nat) : Int) = 0 := by omega
    have HO := Lib.hid ho
    clear ho hc
    have hrs : (idCells zeroID).size = 32 := by kernel_rfl
    go_upto_region 3 with (fail)
    refine wp_region_seq [0, 3, 1, 3] (fun _ => True) (by rfl) (by rfl) trivial ?_
    simp only [List.zip_cons_cons, List.zip_nil_right]
    refine wpPi_val rfl (fun w' hS => exec_build_of 38 [] [] (idCells zeroID) (by rfl) (by rfl) built_zero) ?_
    simp only [pl, pn, el, ec, sz, ss, gz, gs, if_true, if_false, Bool.false_eq_true, Bool.not_true, Bool.not_false, Nat.add_zero, Nat.zero_add, Nat.reduceAdd]
    refine wpPi_move _ rfl rfl ?_
    simp only [pl, pn, el, ec, sz, ss, gz, gs, if_true, if_false, Bool.false_eq_true, Bool.not_true, Bool.not_false, Nat.add_zero, Nat.zero_add, Nat.reduceAdd]
    refine wpPi_do rfl (fun K hK => ?_)
    refine wp_storeA 38 _ _ w.heap.size 0 (idCells zeroID) (by rfl) (by rfl) (by rfl) (idCells_one _) 32 (by kernel_rfl) hrs _ _ hB1 (by rw [hrs, idCells_size]; simp) (fun w5 hB5 hm5 => ?_)
    rw [putRow_whole (by rw [hrs, idCells_size]; rfl)] at hB5
    refine hK _ _ trivial ?_
    clear hK K
    try simp only [pl, pn, el, ec, sz, ss, gz, gs, if_true, if_false, Bool.false_eq_true, Bool.not_true, Bool.not_false, Nat.add_zero, Nat.zero_add, Nat.reduceAdd]
    refine wpPi_assign _ rfl rfl ?_
    simp only [pl, pn, el, ec, sz, ss, gz, gs, if_true, if_false, Bool.false_eq_true, Bool.not_true, Bool.not_false, Nat.add_zero, Nat.zero_add, Nat.reduceAdd]
    refine wpPi_nil ?_
    have hM5 : Mod NoB w w5 := hM2.transB hm5 (Nat.le_refl _)
    clear hm5 hB1 hM2
    go_wp2
    refine bodyPost_ret (results_row_tmp (P := Try.prog) (ty := 38) rfl _ _ w.heap.size _ _ _ _ (by rfl) hB5 Try.underlying38 rfl (by rw [hrs]; kernel_rfl)) rfl ?_
    exact ⟨by rw [HO.out]; rfl, hM5⟩
theorem pairZ : (Try.prog.info? 61).bind (·.zero) = some (.agg #[.slice none 0 0, .slice none 0 0]) := by kernel_rfl
theorem pairPlaces : placesOf Try.prog 61 = some [(0, 1), (1, 1)] := by kernel_rfl
theorem built_pair (a b : Value) (ha : a.cells.size = 1) (hb : b.cells.size = 1) (ha' : a.cells = #[a]) (hb' : b.cells = #[b]) : Try.prog.built 61 [(0, a), (1, b)] = some #[a, b] := by
  rw [built_struct pairZ pairPlaces, fill_cons (off := 0) (size := 1) rfl ha (by simp), fill_cons (off := 1) (size := 1) rfl hb (by simp [ha', putRow]), fill_nil, ha', hb']
  rfl
set_option maxRecDepth 10000 in
theorem turnedP_any (a1 a2 : Option Addr) (n1 n2 c1 c2 : Nat) (w : World) : Calls Try.prog 53 #[.agg #[.slice a1 n1 c1, .slice a2 n2 c2]] w (RetM (.agg #[.slice a2 n2 c2, .slice a1 n1 c1]) w) := by
  have hb := built_pair (.slice a2 n2 c2) (.slice a1 n1 c1) rfl rfl rfl rfl
  go_enter Try.func53, Try.ntmps53
  go_upto_region 0 with (fail)
  refine wp_region_seq [1, 1] (fun _ => True) (by rfl) (by rfl) trivial ?_
  simp only [List.zip_cons_cons, List.zip_nil_right]
  refine wpPi_do rfl (fun K hK => ?_)
  refine wp_box 61 _ _ (by rfl) (by rfl) (fun w1 hB1 hm1 hs1 => ?_)
  replace hB1 : w1.heap[w.heap.size]? = some (.cells #[.slice a1 n1 c1, .slice a2 n2 c2] 61 (0, 0)) := hB1
  refine hK _ _ trivial ?_
  clear hK K
  try simp only [pl, pn, el, ec, sz, ss, gz, gs, if_true, if_false, Bool.false_eq_true, Bool.not_true, Bool.not_false, Nat.add_zero, Nat.zero_add, Nat.reduceAdd]
  refine wpPi_do rfl (fun K hK => ?_)
  refine wp_alloc 61 _ (by rfl) pairZ (fun w2 hB2 hm2 hs2 => ?_)
  replace hB2 : w2.heap[w1.heap.size]? = some (.cells #[.slice none 0 0, .slice none 0 0] 61 (0, 0)) := hB2
  refine hK _ _ trivial ?_
  clear hK K
  try simp only [pl, pn, el, ec, sz, ss, gz, gs, if_true, if_false, Bool.false_eq_true, Bool.not_true, Bool.not_false, Nat.add_zero, Nat.zero_add, Nat.reduceAdd]
  refine wpPi_nil ?_
  have hcw := CellsAt.whole (hm2.obj id hB1)
  have h0 := hcw.cell (j := 0) (v := .slice a1 n1 c1) rfl
  have h1 := hcw.cell (j := 1) (v := .slice a2 n2 c2) rfl
  have hM2 := hm1.trans0 hm2
  generalize hb1 : w.heap.size = b1 at *
  generalize hb2 : w1.heap.size = b2 at *
  clear hm1 hm2 hcw hB1
  go_upto_region 1 with (fail)
  refine wp_region_seq [3, 1, 3, 1, 0, 1] (fun _ => True) (by rfl) (by rfl) trivial ?_
  simp only [List.zip_cons_cons, List.zip_nil_right]
  refine wpPi_field _ _ _ _ _ _ rfl rfl rfl fo_61_1 ?_
  simp only [pl, pn, el, ec, sz, ss, gz, gs, if_true, if_false, Bool.false_eq_true, Bool.not_true, Bool.not_false, Nat.add_zero, Nat.zero_add, Nat.reduceAdd]
  refine wpPi_do rfl (fun K hK => ?_)
  refine wp_exec (exec_load1 58 _ (by rfl) b1 1 (by rfl) _ h1 _ Try.underlying58 rfl) ?_
  refine hK _ _ trivial ?_
  clear hK K
  try simp only [pl, pn, el, ec, sz, ss, gz, gs, if_true, if_false, Bool.false_eq_true, Bool.not_true, Bool.not_false, Nat.add_zero, Nat.zero_add, Nat.reduceAdd]
  refine wpPi_field _ _ _ _ _ _ rfl rfl rfl fo_61_0 ?_
  simp only [pl, pn, el, ec, sz, ss, gz, gs, if_true, if_false, Bool.false_eq_true, Bool.not_true, Bool.not_false, Nat.add_zero, Nat.zero_add, Nat.reduceAdd]
  refine wpPi_do rfl (fun K hK => ?_)
  refine wp_exec (exec_load1 58 _ (by rfl) b1 0 (by rfl) _ h0 _ Try.underlying58 rfl) ?_
  refine hK _ _ trivial ?_
  clear hK K
  try simp only [pl, pn, el, ec, sz, ss, gz, gs, if_true, if_false, Bool.false_eq_true, Bool.not_true, Bool.not_false, Nat.add_zero, Nat.zero_add, Nat.reduceAdd]
  refine wpPi_val rfl (fun w' hS => exec_build_of 61 [(0, _), (1, _)] [(0, .slice a2 n2 c2), (1, .slice a1 n1 c1)] _ (by rfl) (by rfl) hb) ?_
  simp only [pl, pn, el, ec, sz, ss, gz, gs, if_true, if_false, Bool.false_eq_true, Bool.not_true, Bool.not_false, Nat.add_zero, Nat.zero_add, Nat.reduceAdd]
  refine wpPi_do rfl (fun K hK => ?_)
  refine wp_storeA 61 _ _ b2 0 #[.slice a2 n2 c2, .slice a1 n1 c1] (by rfl) (by rfl) (by rfl) (by simp [Value.oneCell']) 2 (by kernel_rfl) rfl _ _ hB2 (by simp) (fun w3 hB3 hm3 => ?_)
  rw [putRow_whole (by rfl)] at hB3
  refine hK _ _ trivial ?_
  clear hK K
  try simp only [pl, pn, el, ec, sz, ss, gz, gs, if_true, if_false, Bool.false_eq_true, Bool.not_true, Bool.not_false, Nat.add_zero, Nat.zero_add, Nat.reduceAdd]
  refine wpPi_nil ?_
  have hM3 : Mod NoB w w3 := hM2.transB hm3 (by omega)
  clear hm3 hB2
  go_wp2
  refine bodyPost_ret (results_cell_row rfl _ _ b2 _ _ _ _ (by rfl) hB3 Try.underlying61 rfl (by kernel_rfl)) rfl ?_
  exact ⟨rfl, hM3⟩
end Go.Proofs.Ytchkikmmcmjcgaa

/- Leaves compared: slices.Index, slices.Contains; which leaves are lacking. -/
namespace Go.Proofs.Ytchkikmmcmjcgaa
set_option linter.unusedSimpArgs false
set_option linter.unusedVariables false
set_option linter.unnecessarySimpa false
set_option linter.unusedSectionVars false
open Go.RowKit Go.Shelf


theorem isAggStringT (w : World) : (isAgg 9).run Try.prog w = .ok false w := by
  unfold isAgg
  rw [Sem.run_bind, run_underlying Try.underlying9 w]; rfl
theorem isAggIDT (w : World) : (isAgg 38).run Try.prog w = .ok true w := by
  unfold isAgg
  rw [Sem.run_bind, run_underlying Try.underlying38 w]; rfl
theorem sizeIDT (w : World) : (sizeOf 38).run Try.prog w = .ok 32 w := sizeOf_of (by kernel_rfl) w
theorem sizeU8T (w : World) : (sizeOf 5).run Try.prog w = .ok 1 w := sizeOf_of (by kernel_rfl) w
theorem part_key (x : Leaf) (w : World) : (part 9 (leafCells x) 0).run Try.prog w = .ok (.string x.key) w := by
  unfold part
  rw [Sem.run_bind, isAggStringT w]
  have e : (leafCells x)[0]? = some (.string x.key) := by
    rw [← Array.getElem?_toList]; simp [leafCells]
  simp [e]
theorem part_way {x : Leaf} (h : LeafOk x) (w : World) : (part 38 (leafCells x) 1).run Try.prog w = .ok (.agg (idCells x.way)) w := by
  have hx : (leafCells x).extract 1 (1 + 32) = idCells x.way := by
    simp only [leafCells, idCells, List.extract_toArray, List.extract_eq_take_drop]
    congr 1
    simp [h.1]
  unfold part
  rw [Sem.run_bind, isAggIDT w]
  simp [sizeIDT, hx]
theorem part_val {x : Leaf} (h : LeafOk x) (w : World) : (part 38 (leafCells x) 33).run Try.prog w = .ok (.agg (idCells x.val)) w := by
  have hx : (leafCells x).extract 33 (33 + 32) = idCells x.val := by
    simp only [leafCells, idCells, List.extract_toArray, List.extract_eq_take_drop]
    congr 1
    have h1 : (Value.string x.key :: (List.map byteV x.way ++ List.map byteV x.val)).drop 33 = List.map byteV x.val := by
      rw [List.drop_succ_cons, List.drop_append_of_le_length (by simp [h.1]), List.drop_of_length_le (by simp [h.1])]; rfl
    rw [h1, List.take_of_length_le (by simp [h.2])]
  unfold part
  rw [Sem.run_bind, isAggIDT w]
  simp [sizeIDT, hx]
theorem run_eql_leaf {x y : Leaf} (hx : LeafOk x) (hy : LeafOk y) (w : World) : (binOp .eql 63 (.agg (leafCells x)) (.agg (leafCells y))).run Try.prog w = .ok (.bool (decide (x = y))) w := by
  have hp : Try.prog.stoodInHeld 63 = false := by kernel_rfl
  have hS : Try.prog.underlying 63 = some (.struct (Try.prog.fieldsOf 63)) := by kernel_rfl
  rw [run_eql_struct, show (10000 : Nat) = 9999 + 1 from rfl, run_equalIn_struct w 9999 63 _ _ hS hp]
  simp only [Program.fieldsOf, Try.underlying63]
  have he : ∀ (a b : List UInt8), a.length = 32 → b.length = 32 → (Op.equalIn 9999 38 (.agg (idCells a)) (.agg (idCells b))).run Try.prog w = .ok (a == b) w := fun a b ha hb => run_equalIn_bytes w 9997 38 5 32 Try.underlying38 Try.underlying5 (fun w => sizeU8T w) a b ha hb
  have he1 := he x.way y.way hx.1 hy.1
  have he2 := he x.val y.val hx.2 hy.2
  simp [Op.eqFields, part_key, part_way hx, part_way hy, part_val hx, part_val hy, run_equalIn_string w 9998 9 _ _ Try.underlying9, he1, he2]
  have hk : x.key.toList = y.key.toList ↔ x.key = y.key := by
    rw [ByteArray.toList_eq, ByteArray.toList_eq]
    exact ⟨fun h => ByteArray.ext (Array.toList_inj.1 h), fun h => by rw [h]⟩
  have hd : (x = y) ↔ x.key = y.key ∧ x.way = y.way ∧ x.val = y.val := by cases x; cases y; simp
  have e : decide (x = y) = (decide (x.key = y.key) && (decide (x.way = y.way) && decide (x.val = y.val))) := by rw [Bool.eq_iff_iff]; simp [hd]
  rw [e]
  by_cases h1 : x.key = y.key <;> by_cases h2 : x.way = y.way <;> by_cases h3 : x.val = y.val <;> simp [hk, h1, h2, h3]
theorem exec_eql_leaf {w : World} {o : Oper} {a : Act} (x y : Operand) (yt : TypeId) (ho : o.op = .binOp .eql 63 x y yt) (u v : Leaf) (hx : a.eval x = .agg (leafCells u)) (hy : a.eval y = .agg (leafCells v)) (hu : LeafOk u) (hv : LeafOk v) (b : Bool) (hb : decide (u = v) = b) :
    (execOp a.eval o).run Try.prog w = .ok (.value (.bool b)) w := by
  subst hb
  have h1 := run_eqGuard_agg (P := Try.prog) w .eql 63 x y (leafCells u) (leafCells v) (by kernel_rfl)
  unfold execOp
  simp only [ho, hx, hy, Sem.run_bind, h1, Result.andThen_ok, run_eql_leaf hu hv, Sem.run_pure]
def IdxRel (x : Leaf) (l : List Leaf) (w0 : World) (i : Value) (w : World) : Prop := ∃ k : Nat, k ≤ l.length ∧ i = .int .i64 k ∧ (∀ j (_ : j < k) (h : j < l.length), x ≠ l[j]) ∧ Mod NoB w0 w
def IdxR (x : Leaf) (l : List Leaf) (w : World) : Ending → World → Prop := fun e w' => ∃ r : Int, e = .returned (.int .i64 r) ∧ (0 ≤ r ↔ x ∈ l) ∧ Mod NoB w w'
set_option maxRecDepth 10000 in
theorem indexL_any {w : World} {G : Nat → Prop} {v : Value} {l : List Leaf} (h : Ls w G v l) (x : Leaf) (hx : LeafOk x) : Calls Try.prog 101 #[v, .agg (leafCells x)] w (IdxR x l w) := by
  have HS := Lib.hid h
  obtain ⟨ad, cap, rfl, hlm, -⟩ := Sl.at h
  have hxs := leafCells_size hx
  obtain ⟨C, hC⟩ : ∃ C, leafCells x = C := ⟨_, rfl⟩
  have HC := Lib.hid hC
  rw [hC] at hxs ⊢
  clear h hC
  go_enter Try.func101, Try.ntmps101
  go_upto_region 0 with (fail)
  refine wp_region_seq [1, 3] (fun _ => True) (by rfl) (by rfl) trivial ?_
  simp only [List.zip_cons_cons, List.zip_nil_right]
  refine wpPi_do rfl (fun K hK => ?_)
  refine wp_box 63 _ _ (by rfl) (by rfl) (fun w1 hB1 hm1 hs1 => ?_)
  replace hB1 : w1.heap[w.heap.size]? = some (.cells C 63 (0, 0)) := hB1
  refine hK _ _ trivial ?_
  clear hK K
  try simp only [pl, pn, el, ec, sz, ss, gz, gs, if_true, if_false, Bool.false_eq_true, Bool.not_true, Bool.not_false, Nat.add_zero, Nat.zero_add, Nat.reduceAdd]
  refine wpPi_assign _ rfl rfl ?_
  simp only [pl, pn, el, ec, sz, ss, gz, gs, if_true, if_false, Bool.false_eq_true, Bool.not_true, Bool.not_false, Nat.add_zero, Nat.zero_add, Nat.reduceAdd]
  refine wpPi_nil ?_
  have HS1 := Lib.hid (HS.out.keep0 hm1)
  have hcb := CellsAt.whole hB1
  generalize w.heap.size = b3 at *
  clear hB1
  go_wp2
  go_loopw [8] (IdxRel x l w1) (fun i _ => l.length - (intOf i).toNat)
  case atStart => exact ⟨0, by omega, rfl, fun j h1 h2 => by omega, Mod.refl _ _⟩
  case round =>
    rename World => wr
    obtain ⟨k, hk, rfl, hne, hm⟩ := hrel
    have HNE := Lib.hid hne
    clear hne
    by_cases hlt : k < l.length
    · have hz : (k : Int) < (l.length : Int) := by omega
      obtain ⟨_, _, hv, -, hat⟩ := Sl.at (HS1.out.keep0 hm)
      cases hv
      obtain ⟨b, off, rfl, -, -, hc⟩ := hat k hlt
      obtain ⟨_, -, ⟨rfl, hok⟩, hc⟩ := hc k hlt
      have hys := leafCells_size hok
      have hcb' := hcb.keep hm id
      by_cases heq : x = l[k]
      · have hmem : x ∈ l := by rw [heq]; exact List.getElem_mem hlt
        generalize l[k] = y at *
        go_upto_region 4 with (fail)
        have hS : Mod NoB wr wr.drew := (Mod.refl _ _).drew
        refine wp_region_pi [(0, 0), (1, 3), (2, 3), (3, 3), (4, 0), (5, 0)] [] (fun w' => Mod NoB wr w') (by kernel_rfl) (by kernel_rfl) (by kernel_rfl) (by kernel_rfl) (fun _ _ _ _ hd h => ⟨hd.trans h.1, h.2⟩) hS ?_
        simp only [List.map_cons, List.map_nil, List.getD_cons_zero, List.getD_cons_succ]
        refine wpPi_val rfl (fun w' hS => exec_loadA 63 _ (by rfl) b3 0 (by rfl) C (hcb'.keep hS id) _ Try.underlying63 rfl 65 (by kernel_rfl) hxs) ?_
        simp only [pl, pn, el, ec, sz, ss, gz, gs, if_true, if_false, Bool.false_eq_true, Bool.not_true, Bool.not_false, Nat.add_zero, Nat.zero_add, Nat.reduceAdd]
        refine wpPi_move _ rfl rfl ?_
        simp only [pl, pn, el, ec, sz, ss, gz, gs, if_true, if_false, Bool.false_eq_true, Bool.not_true, Bool.not_false, Nat.add_zero, Nat.zero_add, Nat.reduceAdd]
        refine wpPi_move _ rfl rfl ?_
        simp only [pl, pn, el, ec, sz, ss, gz, gs, if_true, if_false, Bool.false_eq_true, Bool.not_true, Bool.not_false, Nat.add_zero, Nat.zero_add, Nat.reduceAdd]
        refine wpPi_index _ _ _ _ _ _ _ _ _ rfl rfl rfl rfl Try.underlying58 (n := 65) (by kernel_rfl) hlt ?_
        simp only [pl, pn, el, ec, sz, ss, gz, gs, if_true, if_false, Bool.false_eq_true, Bool.not_true, Bool.not_false, Nat.add_zero, Nat.zero_add, Nat.reduceAdd]
        refine wpPi_val rfl (fun w' hS => exec_loadA 63 _ (by rfl) b (off + k * 65) (by rfl) (leafCells y) (hc.keep hS id) _ Try.underlying63 rfl 65 (by kernel_rfl) hys) ?_
        simp only [pl, pn, el, ec, sz, ss, gz, gs, if_true, if_false, Bool.false_eq_true, Bool.not_true, Bool.not_false, Nat.add_zero, Nat.zero_add, Nat.reduceAdd]
        refine wpPi_val rfl (fun w' hS => exec_eql_leaf _ _ _ rfl x y (by rw [HC.out]; rfl) rfl hx hok true (decide_eq_true heq)) ?_
        simp only [pl, pn, el, ec, sz, ss, gz, gs, if_true, if_false, Bool.false_eq_true, Bool.not_true, Bool.not_false, Nat.add_zero, Nat.zero_add, Nat.reduceAdd]
        refine wpPi_nil ?_
        have hMq := (hm1.trans0 hm).trans0 hS
        clear hm hS
        go_wp2
        go_ret
        exact ⟨k, rfl, ⟨fun _ => hmem, fun _ => by omega⟩, hMq⟩
      · have hstep : ∀ j (_ : j < k + 1) (h : j < l.length), x ≠ l[j] := fun j h1 h2 => by
          rcases Nat.lt_or_ge j k with h4 | h4
          · exact HNE.out j h4 h2
          · obtain rfl : j = k := by omega
            exact heq
        have HSTEP := Lib.hid hstep
        clear hstep
        generalize l[k] = y at *
        go_upto_region 4 with (fail)
        have hS : Mod NoB wr wr.drew := (Mod.refl _ _).drew
        refine wp_region_pi [(0, 0), (1, 3), (2, 3), (3, 3), (4, 0), (5, 0)] [] (fun w' => Mod NoB wr w') (by kernel_rfl) (by kernel_rfl) (by kernel_rfl) (by kernel_rfl) (fun _ _ _ _ hd h => ⟨hd.trans h.1, h.2⟩) hS ?_
        simp only [List.map_cons, List.map_nil, List.getD_cons_zero, List.getD_cons_succ]
        refine wpPi_val rfl (fun w' hS => exec_loadA 63 _ (by rfl) b3 0 (by rfl) C (hcb'.keep hS id) _ Try.underlying63 rfl 65 (by kernel_rfl) hxs) ?_
        simp only [pl, pn, el, ec, sz, ss, gz, gs, if_true, if_false, Bool.false_eq_true, Bool.not_true, Bool.not_false, Nat.add_zero, Nat.zero_add, Nat.reduceAdd]
        refine wpPi_move _ rfl rfl ?_
        simp only [pl, pn, el, ec, sz, ss, gz, gs, if_true, if_false, Bool.false_eq_true, Bool.not_true, Bool.not_false, Nat.add_zero, Nat.zero_add, Nat.reduceAdd]
        refine wpPi_move _ rfl rfl ?_
        simp only [pl, pn, el, ec, sz, ss, gz, gs, if_true, if_false, Bool.false_eq_true, Bool.not_true, Bool.not_false, Nat.add_zero, Nat.zero_add, Nat.reduceAdd]
        refine wpPi_index _ _ _ _ _ _ _ _ _ rfl rfl rfl rfl Try.underlying58 (n := 65) (by kernel_rfl) hlt ?_
        simp only [pl, pn, el, ec, sz, ss, gz, gs, if_true, if_false, Bool.false_eq_true, Bool.not_true, Bool.not_false, Nat.add_zero, Nat.zero_add, Nat.reduceAdd]
        refine wpPi_val rfl (fun w' hS => exec_loadA 63 _ (by rfl) b (off + k * 65) (by rfl) (leafCells y) (hc.keep hS id) _ Try.underlying63 rfl 65 (by kernel_rfl) hys) ?_
        simp only [pl, pn, el, ec, sz, ss, gz, gs, if_true, if_false, Bool.false_eq_true, Bool.not_true, Bool.not_false, Nat.add_zero, Nat.zero_add, Nat.reduceAdd]
        refine wpPi_val rfl (fun w' hS => exec_eql_leaf _ _ _ rfl x y (by rw [HC.out]; rfl) rfl hx hok false (decide_eq_false heq)) ?_
        simp only [pl, pn, el, ec, sz, ss, gz, gs, if_true, if_false, Bool.false_eq_true, Bool.not_true, Bool.not_false, Nat.add_zero, Nat.zero_add, Nat.reduceAdd]
        refine wpPi_nil ?_
        have hMq := hm.trans0 hS
        clear hm hS
        go_wp2
        go_roundw
        case rel => exact ⟨k + 1, by omega, by go_num, HSTEP.out, hMq⟩
        case measure => simp [intOf]; omega
    · have hz : ¬ (k : Int) < (l.length : Int) := by omega
      have hnm : x ∉ l := fun hm => by
        obtain ⟨j, hj, e⟩ := List.getElem_of_mem hm
        exact HNE.out j (by omega) hj e.symm
      have hMq := hm1.trans0 hm
      clear hm
      go_wp2
      go_ret
      exact ⟨-1, rfl, ⟨fun h => by omega, fun h => absurd h hnm⟩, hMq⟩
set_option maxRecDepth 10000 in
theorem containsL_any {w : World} {G : Nat → Prop} {v : Value} {l : List Leaf} (h : Ls w G v l) (x : Leaf) (hx : LeafOk x) : Calls Try.prog 71 #[v, .agg (leafCells x)] w (RetM (.bool (decide (x ∈ l))) w) := by
  have HS := Lib.hid h
  obtain ⟨ad, cap, rfl, -, -⟩ := Sl.at h
  have hxs := leafCells_size hx
  obtain ⟨C, hC⟩ : ∃ C, leafCells x = C := ⟨_, rfl⟩
  have HC := Lib.hid hC
  rw [hC] at hxs ⊢
  clear h hC
  go_enter Try.func71, Try.ntmps71
  go_upto_region 0 with (fail)
  refine wp_region_seq [1, 3] (fun _ => True) (by rfl) (by rfl) trivial ?_
  simp only [List.zip_cons_cons, List.zip_nil_right]
  refine wpPi_do rfl (fun K hK => ?_)
  refine wp_box 63 _ _ (by rfl) (by rfl) (fun w1 hB1 hm1 hs1 => ?_)
  replace hB1 : w1.heap[w.heap.size]? = some (.cells C 63 (0, 0)) := hB1
  refine hK _ _ trivial ?_
  clear hK K
  try simp only [pl, pn, el, ec, sz, ss, gz, gs, if_true, if_false, Bool.false_eq_true, Bool.not_true, Bool.not_false, Nat.add_zero, Nat.zero_add, Nat.reduceAdd]
  refine wpPi_assign _ rfl rfl ?_
  simp only [pl, pn, el, ec, sz, ss, gz, gs, if_true, if_false, Bool.false_eq_true, Bool.not_true, Bool.not_false, Nat.add_zero, Nat.zero_add, Nat.reduceAdd]
  refine wpPi_nil ?_
  have hcb := CellsAt.whole hB1
  generalize w.heap.size = b3 at *
  clear hB1
  go_upto_region 1 with (fail)
  refine wp_region_seq [3, 1, 1, 3, 3] (fun _ => True) (by rfl) (by rfl) trivial ?_
  simp only [List.zip_cons_cons, List.zip_nil_right]
  refine wpPi_move _ rfl rfl ?_
  simp only [pl, pn, el, ec, sz, ss, gz, gs, if_true, if_false, Bool.false_eq_true, Bool.not_true, Bool.not_false, Nat.add_zero, Nat.zero_add, Nat.reduceAdd]
  refine wpPi_do rfl (fun K hK => ?_)
  refine wp_exec (exec_loadA 63 _ (by rfl) b3 0 (by rfl) C hcb _ Try.underlying63 rfl 65 (by kernel_rfl) hxs) ?_
  refine hK _ _ trivial ?_
  clear hK K
  try simp only [pl, pn, el, ec, sz, ss, gz, gs, if_true, if_false, Bool.false_eq_true, Bool.not_true, Bool.not_false, Nat.add_zero, Nat.zero_add, Nat.reduceAdd]
  refine wpPi_do rfl (fun K hK => ?_)
  refine wp_enterQ (run_call 101 [.tmp 5, .tmp 6] _ rfl _ Try.func101 rfl (by kernel_rfl) [.slice ad l.length cap, .agg C] rfl _) (by rw [← HC.out]; exact indexL_any (HS.out.keep0 hm1) x hx) ?_
  rintro e w2 ⟨r, rfl, hr, hm2⟩
  have hM2 := hm1.trans0 hm2
  refine ⟨_, rfl, hK _ _ trivial ?_⟩
  clear hK K
  try simp only [pl, pn, el, ec, sz, ss, gz, gs, if_true, if_false, Bool.false_eq_true, Bool.not_true, Bool.not_false, Nat.add_zero, Nat.zero_add, Nat.reduceAdd]
  refine wpPi_cmp _ _ _ _ _ _ _ _ rfl rfl rfl rfl rfl (decide (x ∈ l)) (by simp only [cmpB]; rw [decide_eq_decide]; exact hr) ?_
  simp only [pl, pn, el, ec, sz, ss, gz, gs, if_true, if_false, Bool.false_eq_true, Bool.not_true, Bool.not_false, Nat.add_zero, Nat.zero_add, Nat.reduceAdd]
  refine wpPi_assign _ rfl rfl ?_
  simp only [pl, pn, el, ec, sz, ss, gz, gs, if_true, if_false, Bool.false_eq_true, Bool.not_true, Bool.not_false, Nat.add_zero, Nat.zero_add, Nat.reduceAdd]
  refine wpPi_nil ?_
  go_wp2
  go_ret
  exact ⟨rfl, hM2⟩
end Go.Proofs.Ytchkikmmcmjcgaa

/- tree.lacks, tree.differ: which keys differ at a place. -/
namespace Go.Proofs.Ytchkikmmcmjcgaa
set_option linter.unusedSimpArgs false
set_option linter.unusedVariables false
set_option linter.unnecessarySimpa false
set_option linter.unusedSectionVars false
open Go.RowKit Go.Shelf

theorem fo_63_0 : fieldOff Try.prog 63 0 = some 0 := by kernel_rfl
theorem lack_succ {a b : List Leaf} {k : Nat} (h : k < a.length) : lackL (a.take (k + 1)) b = lackL (a.take k) b ++ (if a[k] ∈ b then [] else [a[k].key]) := by
  unfold lackL
  rw [List.take_succ_eq_append_getElem h, List.filter_append, List.map_append]
  by_cases hb : a[k] ∈ b <;> simp [hb]
def LackRel (a b : List Leaf) (base : Nat) (w0 : World) (v i : Value) (w : World) : Prop := ∃ k : Nat, k ≤ a.length ∧ i = .int .i64 k ∧ Gat strEnc 9 1 base w v (lackL (a.take k) b) ∧ Mod NoB w0 w
def KeysR (w : World) (l : List ByteArray) : Ending → World → Prop := fun e w' => ∃ v, e = .returned v ∧ Gat strEnc 9 1 w.heap.size w' v l ∧ Mod NoB w w'
set_option maxRecDepth 10000 in
set_option maxHeartbeats 1000000 in
theorem lacks_any {w : World} {G G' : Nat → Prop} {va vb : Value} {a b : List Leaf} (ha : Ls w G va a) (hb : Ls w G' vb b) (hal : a.length ≤ 1000000) : Calls Try.prog 52 #[.agg #[va, vb]] w (KeysR w (lackL a b)) := by
  have HA := Lib.hid ha
  have HB := Lib.hid hb
  obtain ⟨aa, ca, rfl, -, -⟩ := Sl.at ha
  obtain ⟨ab, cb, rfl, -, -⟩ := Sl.at hb
  have hz32 : (leafCells zeroLeaf).size = 65 := by kernel_rfl
  clear ha hb
  go_enter Try.func52, Try.ntmps52
  go_upto_region 0 with (fail)
  refine wp_region_seq [1, 3] (fun _ => True) (by rfl) (by rfl) trivial ?_
  simp only [List.zip_cons_cons, List.zip_nil_right]
  refine wpPi_do rfl (fun K hK => ?_)
  refine wp_box 61 _ _ (by rfl) (by rfl) (fun w1 hB1 hm1 hs1 => ?_)
  replace hB1 : w1.heap[w.heap.size]? = some (.cells #[.slice aa a.length ca, .slice ab b.length cb] 61 (0, 0)) := hB1
  refine hK _ _ trivial ?_
  clear hK K
  try simp only [pl, pn, el, ec, sz, ss, gz, gs, if_true, if_false, Bool.false_eq_true, Bool.not_true, Bool.not_false, Nat.add_zero, Nat.zero_add, Nat.reduceAdd]
  refine wpPi_assign _ rfl rfl ?_
  simp only [pl, pn, el, ec, sz, ss, gz, gs, if_true, if_false, Bool.false_eq_true, Bool.not_true, Bool.not_false, Nat.add_zero, Nat.zero_add, Nat.reduceAdd]
  refine wpPi_nil ?_
  have hcw := CellsAt.whole hB1
  have h0 := hcw.cell (j := 0) (v := .slice aa a.length ca) rfl
  have h1 := hcw.cell (j := 1) (v := .slice ab b.length cb) rfl
  have hsz0 : w.heap.size ≤ w1.heap.size := hm1.size
  generalize hb1 : w.heap.size = b1 at *
  clear hcw hB1
  go_upto_region 1 with (fail)
  refine wp_region_seq [3, 1, 3, 3] (fun _ => True) (by rfl) (by rfl) trivial ?_
  simp only [List.zip_cons_cons, List.zip_nil_right]
  refine wpPi_field _ _ _ _ _ _ rfl rfl rfl fo_61_0 ?_
  simp only [pl, pn, el, ec, sz, ss, gz, gs, if_true, if_false, Bool.false_eq_true, Bool.not_true, Bool.not_false, Nat.add_zero, Nat.zero_add, Nat.reduceAdd]
  refine wpPi_do rfl (fun K hK => ?_)
  refine wp_exec (exec_load1 58 _ (by rfl) b1 0 (by rfl) _ h0 _ Try.underlying58 rfl) ?_
  refine hK _ _ trivial ?_
  clear hK K
  try simp only [pl, pn, el, ec, sz, ss, gz, gs, if_true, if_false, Bool.false_eq_true, Bool.not_true, Bool.not_false, Nat.add_zero, Nat.zero_add, Nat.reduceAdd]
  refine wpPi_len _ _ _ _ _ rfl rfl rfl (by kernel_rfl) ?_
  simp only [pl, pn, el, ec, sz, ss, gz, gs, if_true, if_false, Bool.false_eq_true, Bool.not_true, Bool.not_false, Nat.add_zero, Nat.zero_add, Nat.reduceAdd]
  refine wpPi_move _ rfl rfl ?_
  simp only [pl, pn, el, ec, sz, ss, gz, gs, if_true, if_false, Bool.false_eq_true, Bool.not_true, Bool.not_false, Nat.add_zero, Nat.zero_add, Nat.reduceAdd]
  refine wpPi_nil ?_
  clear h0
  go_wp2
  go_loopw [2, 8] (LackRel a b w1.heap.size w1) (fun _ i _ => a.length - (intOf i).toNat)
  case atStart => exact ⟨0, by omega, rfl, Gat.nil _ _ _ _ _, Mod.refl _ _⟩
  case round =>
    rename World => wr
    obtain ⟨k, hk, rfl, hg, hm⟩ := hrel
    have HG := Lib.hid hg
    obtain ⟨ad2, cap2, rfl⟩ := hg.slice
    clear hg
    by_cases hlt : k < a.length
    · have hz : (k : Int) < (a.length : Int) := by omega
      obtain ⟨_, _, hv, -, hat⟩ := Sl.at (HA.out.keep0 (hm1.trans0 hm))
      cases hv
      obtain ⟨bq, off, rfl, -, -, hc⟩ := hat k hlt
      obtain ⟨_, -, ⟨rfl, hok⟩, hc⟩ := hc k hlt
      have hxs := leafCells_size hok
      have hls := lack_succ (b := b) hlt
      have hlk := lack_len (a.take k) b
      have hkl : (a.take k).length = k := by simp; omega
      have HLS := Lib.hid hls
      have hnl : (lackL (a.take k) b).length ≤ 1000000 := by omega
      clear hat hls hlk hkl
      generalize a[k] = x at *
      go_upto_region 3 with (fail)
      refine wp_region_seq [3, 1, 1, 1] (fun _ => True) (by rfl) (by rfl) trivial ?_
      simp only [List.zip_cons_cons, List.zip_nil_right]
      refine wpPi_index _ _ _ _ _ _ _ _ _ rfl rfl rfl rfl Try.underlying58 (n := 65) (by kernel_rfl) hlt ?_
      simp only [pl, pn, el, ec, sz, ss, gz, gs, if_true, if_false, Bool.false_eq_true, Bool.not_true, Bool.not_false, Nat.add_zero, Nat.zero_add, Nat.reduceAdd]
      refine wpPi_do rfl (fun K hK => ?_)
      refine wp_exec (exec_loadA 63 _ (by rfl) bq (off + k * 65) (by rfl) (leafCells x) hc _ Try.underlying63 rfl 65 (by kernel_rfl) hxs) ?_
      refine hK _ _ trivial ?_
      clear hK K
      try simp only [pl, pn, el, ec, sz, ss, gz, gs, if_true, if_false, Bool.false_eq_true, Bool.not_true, Bool.not_false, Nat.add_zero, Nat.zero_add, Nat.reduceAdd]
      refine wpPi_do rfl (fun K hK => ?_)
      refine wp_alloc 63 _ (by rfl) leafZ (fun w2 hB2 hm2 hs2 => ?_)
      replace hB2 : w2.heap[wr.heap.size]? = some (.cells (leafCells zeroLeaf) 63 (0, 0)) := hB2
      refine hK _ _ trivial ?_
      clear hK K
      try simp only [pl, pn, el, ec, sz, ss, gz, gs, if_true, if_false, Bool.false_eq_true, Bool.not_true, Bool.not_false, Nat.add_zero, Nat.zero_add, Nat.reduceAdd]
      refine wpPi_do rfl (fun K hK => ?_)
      refine wp_storeA 63 _ _ wr.heap.size 0 (leafCells x) (by rfl) (by rfl) (by rfl) (leafCells_one x) 65 (by kernel_rfl) hxs _ _ hB2 (by rw [hxs, hz32]; exact Nat.le_refl _) (fun w3 hB3 hm3 => ?_)
      rw [putRow_whole (by rw [hxs, hz32])] at hB3
      refine hK _ _ trivial ?_
      clear hK K
      try simp only [pl, pn, el, ec, sz, ss, gz, gs, if_true, if_false, Bool.false_eq_true, Bool.not_true, Bool.not_false, Nat.add_zero, Nat.zero_add, Nat.reduceAdd]
      refine wpPi_nil ?_
      have hM3 := hm2.transB hm3 (Nat.le_refl _)
      have hmw := hm.trans0 hM3
      generalize wr.heap.size = b4 at *
      clear hm2 hm3 hB2 hc
      have hcx := CellsAt.whole hB3
      have hkx := leaf_key hcx
      go_upto_region 4 with (fail)
      by_cases hmem : x ∈ b
      · rw [if_pos hmem, List.append_nil] at HLS
        refine wp_region_seq [3, 1, 1, 1, 3] (fun _ => True) (by rfl) (by rfl) trivial ?_
        simp only [List.zip_cons_cons, List.zip_nil_right]
        refine wpPi_field _ _ _ _ _ _ rfl rfl rfl fo_61_1 ?_
        simp only [pl, pn, el, ec, sz, ss, gz, gs, if_true, if_false, Bool.false_eq_true, Bool.not_true, Bool.not_false, Nat.add_zero, Nat.zero_add, Nat.reduceAdd]
        refine wpPi_do rfl (fun K hK => ?_)
        refine wp_exec (exec_load1 58 _ (by rfl) b1 1 (by rfl) _ (hmw.cell id h1) _ Try.underlying58 rfl) ?_
        refine hK _ _ trivial ?_
        clear hK K
        try simp only [pl, pn, el, ec, sz, ss, gz, gs, if_true, if_false, Bool.false_eq_true, Bool.not_true, Bool.not_false, Nat.add_zero, Nat.zero_add, Nat.reduceAdd]
        refine wpPi_do rfl (fun K hK => ?_)
        refine wp_exec (exec_loadA 63 _ (by rfl) b4 0 (by rfl) (leafCells x) hcx _ Try.underlying63 rfl 65 (by kernel_rfl) hxs) ?_
        refine hK _ _ trivial ?_
        clear hK K
        try simp only [pl, pn, el, ec, sz, ss, gz, gs, if_true, if_false, Bool.false_eq_true, Bool.not_true, Bool.not_false, Nat.add_zero, Nat.zero_add, Nat.reduceAdd]
        refine wpPi_do rfl (fun K hK => ?_)
        refine wp_enterQ (run_call 71 [.tmp 13, .tmp 14] _ rfl _ Try.func71 rfl (by kernel_rfl) [.slice ab b.length cb, .agg (leafCells x)] rfl _) (containsL_any (HB.out.keep0 (hm1.trans0 hmw)) x hok) ?_
        rintro e w4 ⟨rfl, hm4⟩
        rw [decide_eq_true hmem]
        have hM4 := hM3.trans0 hm4
        refine ⟨_, rfl, hK _ _ trivial ?_⟩
        clear hK K
        try simp only [pl, pn, el, ec, sz, ss, gz, gs, if_true, if_false, Bool.false_eq_true, Bool.not_true, Bool.not_false, Nat.add_zero, Nat.zero_add, Nat.reduceAdd]
        refine wpPi_not _ _ _ rfl rfl rfl ?_
        simp only [pl, pn, el, ec, sz, ss, gz, gs, if_true, if_false, Bool.false_eq_true, Bool.not_true, Bool.not_false, Nat.add_zero, Nat.zero_add, Nat.reduceAdd]
        refine wpPi_nil ?_
        have hMr := hm.trans0 hM4
        have hgr := HG.out.keep0 hM4
        clear hm4 hM4 hM3 hmw hm
        go_wp2
        go_roundw
        case rel => exact ⟨k + 1, by omega, by go_num, by rw [HLS.out]; exact hgr, hMr⟩
        case measure => simp [intOf]; omega
      · rw [if_neg hmem] at HLS
        refine wp_region_seq [3, 1, 1, 1, 3] (fun _ => True) (by rfl) (by rfl) trivial ?_
        simp only [List.zip_cons_cons, List.zip_nil_right]
        refine wpPi_field _ _ _ _ _ _ rfl rfl rfl fo_61_1 ?_
        simp only [pl, pn, el, ec, sz, ss, gz, gs, if_true, if_false, Bool.false_eq_true, Bool.not_true, Bool.not_false, Nat.add_zero, Nat.zero_add, Nat.reduceAdd]
        refine wpPi_do rfl (fun K hK => ?_)
        refine wp_exec (exec_load1 58 _ (by rfl) b1 1 (by rfl) _ (hmw.cell id h1) _ Try.underlying58 rfl) ?_
        refine hK _ _ trivial ?_
        clear hK K
        try simp only [pl, pn, el, ec, sz, ss, gz, gs, if_true, if_false, Bool.false_eq_true, Bool.not_true, Bool.not_false, Nat.add_zero, Nat.zero_add, Nat.reduceAdd]
        refine wpPi_do rfl (fun K hK => ?_)
        refine wp_exec (exec_loadA 63 _ (by rfl) b4 0 (by rfl) (leafCells x) hcx _ Try.underlying63 rfl 65 (by kernel_rfl) hxs) ?_
        refine hK _ _ trivial ?_
        clear hK K
        try simp only [pl, pn, el, ec, sz, ss, gz, gs, if_true, if_false, Bool.false_eq_true, Bool.not_true, Bool.not_false, Nat.add_zero, Nat.zero_add, Nat.reduceAdd]
        refine wpPi_do rfl (fun K hK => ?_)
        refine wp_enterQ (run_call 71 [.tmp 13, .tmp 14] _ rfl _ Try.func71 rfl (by kernel_rfl) [.slice ab b.length cb, .agg (leafCells x)] rfl _) (containsL_any (HB.out.keep0 (hm1.trans0 hmw)) x hok) ?_
        rintro e w4 ⟨rfl, hm4⟩
        rw [decide_eq_false hmem]
        have hM4 := hM3.trans0 hm4
        refine ⟨_, rfl, hK _ _ trivial ?_⟩
        clear hK K
        try simp only [pl, pn, el, ec, sz, ss, gz, gs, if_true, if_false, Bool.false_eq_true, Bool.not_true, Bool.not_false, Nat.add_zero, Nat.zero_add, Nat.reduceAdd]
        refine wpPi_not _ _ _ rfl rfl rfl ?_
        simp only [pl, pn, el, ec, sz, ss, gz, gs, if_true, if_false, Bool.false_eq_true, Bool.not_true, Bool.not_false, Nat.add_zero, Nat.zero_add, Nat.reduceAdd]
        refine wpPi_nil ?_
        replace hkx := hm4.cell id hkx
        clear hcx hmw hM3
        go_upto_region 5 with (fail)
        refine wp_region_seq [3, 3, 1, 1, 1, 3] (fun _ => True) (by rfl) (by rfl) trivial ?_
        simp only [List.zip_cons_cons, List.zip_nil_right]
        refine wpPi_move _ rfl rfl ?_
        simp only [pl, pn, el, ec, sz, ss, gz, gs, if_true, if_false, Bool.false_eq_true, Bool.not_true, Bool.not_false, Nat.add_zero, Nat.zero_add, Nat.reduceAdd]
        refine wpPi_field _ _ _ _ _ _ rfl rfl rfl fo_63_0 ?_
        simp only [pl, pn, el, ec, sz, ss, gz, gs, if_true, if_false, Bool.false_eq_true, Bool.not_true, Bool.not_false, Nat.add_zero, Nat.zero_add, Nat.reduceAdd]
        refine wpPi_do rfl (fun K hK => ?_)
        refine wp_exec (exec_load1 9 _ (by rfl) b4 0 (by rfl) (.string x.key) hkx _ Try.underlying9 rfl) ?_
        refine hK _ _ trivial ?_
        clear hK K
        try simp only [pl, pn, el, ec, sz, ss, gz, gs, if_true, if_false, Bool.false_eq_true, Bool.not_true, Bool.not_false, Nat.add_zero, Nat.zero_add, Nat.reduceAdd]
        refine wpPi_do rfl (fun K hK => ?_)
        refine wp_buildSlice1 26 9 _ (.string x.key) (.string ⟨#[]⟩) 1 (by rfl) (by rfl) Try.underlying26 str_i2 (by omega) (by omega) rfl (fun w5 hB5 hm5 hs5 => ?_)
        have hM5 := hM4.trans0 hm5
        refine hK _ _ trivial ?_
        clear hK K
        try simp only [pl, pn, el, ec, sz, ss, gz, gs, if_true, if_false, Bool.false_eq_true, Bool.not_true, Bool.not_false, Nat.add_zero, Nat.zero_add, Nat.reduceAdd]
        refine wpPi_do rfl (fun K hK => ?_)
        refine wp_gat strEnc _ _ 26 9 (.string ⟨#[]⟩) 1 16 (by rfl) Try.underlying26 str_i (by kernel_rfl) (by omega) strEnc_one w1.heap.size _ _ (by rfl) (HG.out.keep0 hM5) (.slice (some ⟨w4.heap.size, 0, none⟩) 1 1) [x.key] (by rfl) (src_lit (enc := strEnc) (x := x.key) (e := 9) (fun _ => rfl) hB5) (by simp only [List.length_singleton]; unfold maxLen; omega) (by simp only [List.length_singleton]; omega) (by have := hm.size; have := hM5.size; omega) (fun v6 w6 hg6 hm6 => ?_)
        rw [← HLS.out] at hg6
        refine hK _ _ trivial ?_
        clear hK K
        try simp only [pl, pn, el, ec, sz, ss, gz, gs, if_true, if_false, Bool.false_eq_true, Bool.not_true, Bool.not_false, Nat.add_zero, Nat.zero_add, Nat.reduceAdd]
        refine wpPi_assign _ rfl rfl ?_
        simp only [pl, pn, el, ec, sz, ss, gz, gs, if_true, if_false, Bool.false_eq_true, Bool.not_true, Bool.not_false, Nat.add_zero, Nat.zero_add, Nat.reduceAdd]
        refine wpPi_nil ?_
        have hMr : Mod NoB w1 w6 := (hm.trans0 hM5).trans hm6 (fun k hk e => by have := (HG.out.lt e).1; omega)
        clear hm6 hm5 hM5 hM4 hm4 hm hB5
        go_wp2
        go_roundw
        case rel => exact ⟨k + 1, by omega, by go_num, hg6, hMr⟩
        case measure => simp [intOf]; omega
    · have hz : ¬ (k : Int) < (a.length : Int) := by omega
      obtain rfl : k = a.length := by omega
      simp only [List.take_length] at HG ⊢
      have hMr := hm1.trans0 hm
      have hgr : Gat strEnc 9 1 w.heap.size wr (.slice ad2 (lackL a b).length cap2) (lackL a b) := HG.out.base (by rw [hb1]; exact hsz0)
      clear hm
      go_wp2
      go_ret
      exact ⟨_, rfl, hgr, hMr⟩
end Go.Proofs.Ytchkikmmcmjcgaa

/- tree.differ: which keys differ at a place, and how many places are compared. -/
namespace Go.Proofs.Ytchkikmmcmjcgaa
set_option linter.unusedSimpArgs false
set_option linter.unusedVariables false
set_option linter.unnecessarySimpa false
set_option linter.unusedSectionVars false
open Go.RowKit Go.Shelf


def DifferR (w : World) (p : List ByteArray × Nat) : Ending → World → Prop := fun e w' => ∃ v, e = .returned (.tuple #[v, .int .i64 (p.2 : Int)]) ∧ Gat strEnc 9 1 w.heap.size w' v p.1 ∧ Mod NoB w w'
set_option maxRecDepth 10000 in
set_option maxHeartbeats 1000000 in
theorem differ_same (f i : Nat) (hi : f + i = 256) {w : World} {G G' : Nat → Prop} {va vb : Value} {a b : List Leaf} (ha : Ls w G va a) (hb : Ls w G' vb b) (hpa : Placed i a) (hpb : Placed i b) (hal : a.length ≤ 65536) (hbl : b.length ≤ 65536) (hd : dig f i a = dig f i b) :
    Calls Try.prog 32 #[.agg #[va, vb], .int .i64 (i : Int)] w (DifferR w (dif f i a b)) := by
  rw [dif_same hd]
  have HA := Lib.hid ha
  have HB := Lib.hid hb
  have hda := dig_len hi hpa.lie
  have hdb := dig_len hi hpb.lie
  have hva := Sl.one ha
  have hvb := Sl.one hb
  have HD := Lib.hid hd
  obtain ⟨aa, ca, rfl, -, -⟩ := Sl.at ha
  obtain ⟨ab, cb, rfl, -, -⟩ := Sl.at hb
  clear ha hb hd
  go_enter Try.func32, Try.ntmps32
  go_upto_region 0 with (fail)
  refine wp_region_seq [1, 3, 3] (fun _ => True) (by rfl) (by rfl) trivial ?_
  simp only [List.zip_cons_cons, List.zip_nil_right]
  refine wpPi_do rfl (fun K hK => ?_)
  refine wp_box 61 _ _ (by rfl) (by rfl) (fun w1 hB1 hm1 hs1 => ?_)
  replace hB1 : w1.heap[w.heap.size]? = some (.cells #[.slice aa a.length ca, .slice ab b.length cb] 61 (0, 0)) := hB1
  refine hK _ _ trivial ?_
  clear hK K
  try simp only [pl, pn, el, ec, sz, ss, gz, gs, if_true, if_false, Bool.false_eq_true, Bool.not_true, Bool.not_false, Nat.add_zero, Nat.zero_add, Nat.reduceAdd]
  refine wpPi_assign _ rfl rfl ?_
  simp only [pl, pn, el, ec, sz, ss, gz, gs, if_true, if_false, Bool.false_eq_true, Bool.not_true, Bool.not_false, Nat.add_zero, Nat.zero_add, Nat.reduceAdd]
  refine wpPi_assign _ rfl rfl ?_
  simp only [pl, pn, el, ec, sz, ss, gz, gs, if_true, if_false, Bool.false_eq_true, Bool.not_true, Bool.not_false, Nat.add_zero, Nat.zero_add, Nat.reduceAdd]
  refine wpPi_nil ?_
  have hcw := CellsAt.whole hB1
  have h0 := hcw.cell (j := 0) (v := .slice aa a.length ca) rfl
  have h1 := hcw.cell (j := 1) (v := .slice ab b.length cb) rfl
  generalize hb1 : w.heap.size = b1 at *
  clear hB1 hcw
  go_upto_region 1 with (fail)
  have hS : Mod NoB w1 w1.drew := (Mod.refl _ _).drew
  refine wp_region_pi [(0, 3), (1, 0), (2, 3), (4, 3), (5, 0), (6, 3), (3, 1), (7, 1), (8, 0), (9, 3)] [] (fun w' => Mod NoB w1 w') (by kernel_rfl) (by kernel_rfl) (by kernel_rfl) (by kernel_rfl) (fun _ _ _ _ hd h => ⟨hd.trans h.1, h.2⟩) hS ?_
  simp only [List.map_cons, List.map_nil, List.getD_cons_zero, List.getD_cons_succ]
  refine wpPi_field _ _ _ _ _ _ rfl rfl rfl fo_61_0 ?_
  simp only [pl, pn, el, ec, sz, ss, gz, gs, if_true, if_false, Bool.false_eq_true, Bool.not_true, Bool.not_false, Nat.add_zero, Nat.zero_add, Nat.reduceAdd]
  refine wpPi_val rfl (fun w' hS => exec_load1 58 _ (by rfl) b1 0 (by rfl) _ (hS.cell id h0) _ Try.underlying58 rfl) ?_
  simp only [pl, pn, el, ec, sz, ss, gz, gs, if_true, if_false, Bool.false_eq_true, Bool.not_true, Bool.not_false, Nat.add_zero, Nat.zero_add, Nat.reduceAdd]
  refine wpPi_move _ rfl rfl ?_
  simp only [pl, pn, el, ec, sz, ss, gz, gs, if_true, if_false, Bool.false_eq_true, Bool.not_true, Bool.not_false, Nat.add_zero, Nat.zero_add, Nat.reduceAdd]
  refine wpPi_field _ _ _ _ _ _ rfl rfl rfl fo_61_1 ?_
  simp only [pl, pn, el, ec, sz, ss, gz, gs, if_true, if_false, Bool.false_eq_true, Bool.not_true, Bool.not_false, Nat.add_zero, Nat.zero_add, Nat.reduceAdd]
  refine wpPi_val rfl (fun w' hS => exec_load1 58 _ (by rfl) b1 1 (by rfl) _ (hS.cell id h1) _ Try.underlying58 rfl) ?_
  simp only [pl, pn, el, ec, sz, ss, gz, gs, if_true, if_false, Bool.false_eq_true, Bool.not_true, Bool.not_false, Nat.add_zero, Nat.zero_add, Nat.reduceAdd]
  refine wpPi_move _ rfl rfl ?_
  simp only [pl, pn, el, ec, sz, ss, gz, gs, if_true, if_false, Bool.false_eq_true, Bool.not_true, Bool.not_false, Nat.add_zero, Nat.zero_add, Nat.reduceAdd]
  refine wpPi_do rfl (fun K hK => ?_)
  refine wp_enterQ (run_call 39 [.tmp 14, .tmp 15] _ rfl _ Try.func39 rfl (by kernel_rfl) [.slice aa a.length ca, .int .i64 (i : Int)] rfl _) (digest_any _ f i a _ _ hi (HA.out.keep0 (hm1.trans0 hS)) hpa (by omega)) ?_
  rintro e w2 ⟨rfl, hm2⟩
  have hS2 := hS.trans0 hm2
  refine ⟨_, rfl, hK _ _ hS2 ?_⟩
  clear hK K
  try simp only [pl, pn, el, ec, sz, ss, gz, gs, if_true, if_false, Bool.false_eq_true, Bool.not_true, Bool.not_false, Nat.add_zero, Nat.zero_add, Nat.reduceAdd]
  refine wpPi_do rfl (fun K hK => ?_)
  refine wp_enterQ (run_call 39 [.tmp 18, .tmp 19] _ rfl _ Try.func39 rfl (by kernel_rfl) [.slice ab b.length cb, .int .i64 (i : Int)] rfl _) (digest_any _ f i b _ _ hi (HB.out.keep0 (hm1.trans0 hS2)) hpb (by omega)) ?_
  rintro e w3 ⟨rfl, hm3⟩
  have hS3 := hS2.trans0 hm3
  refine ⟨_, rfl, hK _ _ hS3 ?_⟩
  clear hK K
  try simp only [pl, pn, el, ec, sz, ss, gz, gs, if_true, if_false, Bool.false_eq_true, Bool.not_true, Bool.not_false, Nat.add_zero, Nat.zero_add, Nat.reduceAdd]
  refine wpPi_val rfl (fun w' hS => exec_eql_id _ _ _ _ rfl (dig f i a) (dig f i b) rfl rfl 32 5 Try.underlying38 Try.underlying5 (by kernel_rfl) (by kernel_rfl) hda hdb true (decide_eq_true HD.out)) ?_
  simp only [pl, pn, el, ec, sz, ss, gz, gs, if_true, if_false, Bool.false_eq_true, Bool.not_true, Bool.not_false, Nat.add_zero, Nat.zero_add, Nat.reduceAdd]
  refine wpPi_assign _ rfl rfl ?_
  simp only [pl, pn, el, ec, sz, ss, gz, gs, if_true, if_false, Bool.false_eq_true, Bool.not_true, Bool.not_false, Nat.add_zero, Nat.zero_add, Nat.reduceAdd]
  refine wpPi_nil ?_
  have hM3 := hm1.trans0 hS3
  clear hm1 hm2 hm3 hS hS2 hS3 h0 h1
  go_wp2
  go_ret2
  exact ⟨_, rfl, Gat.nil _ _ _ _ _, hM3⟩
set_option maxRecDepth 10000 in
set_option maxHeartbeats 1000000 in
theorem differ_few (f i : Nat) (hi : f + i = 256) {w : World} {G G' : Nat → Prop} {va vb : Value} {a b : List Leaf} (ha : Ls w G va a) (hb : Ls w G' vb b) (hpa : Placed i a) (hpb : Placed i b) (hal : a.length ≤ 65536) (hbl : b.length ≤ 65536) (hd : dig f i a ≠ dig f i b) (h2 : a.length < 2 ∨ b.length < 2) :
    Calls Try.prog 32 #[.agg #[va, vb], .int .i64 (i : Int)] w (DifferR w (dif f i a b)) := by
  rw [dif_few hd h2]
  have HA := Lib.hid ha
  have HB := Lib.hid hb
  have hda := dig_len hi hpa.lie
  have hdb := dig_len hi hpb.lie
  have hla := lack_len a b
  have hlb := lack_len b a
  have HD := Lib.hid hd
  obtain ⟨aa, ca, rfl, -, -⟩ := Sl.at ha
  obtain ⟨ab, cb, rfl, -, -⟩ := Sl.at hb
  clear ha hb hd
  go_enter Try.func32, Try.ntmps32
  go_upto_region 0 with (fail)
  refine wp_region_seq [1, 3, 3] (fun _ => True) (by rfl) (by rfl) trivial ?_
  simp only [List.zip_cons_cons, List.zip_nil_right]
  refine wpPi_do rfl (fun K hK => ?_)
  refine wp_box 61 _ _ (by rfl) (by rfl) (fun w1 hB1 hm1 hs1 => ?_)
  replace hB1 : w1.heap[w.heap.size]? = some (.cells #[.slice aa a.length ca, .slice ab b.length cb] 61 (0, 0)) := hB1
  refine hK _ _ trivial ?_
  clear hK K
  try simp only [pl, pn, el, ec, sz, ss, gz, gs, if_true, if_false, Bool.false_eq_true, Bool.not_true, Bool.not_false, Nat.add_zero, Nat.zero_add, Nat.reduceAdd]
  refine wpPi_assign _ rfl rfl ?_
  simp only [pl, pn, el, ec, sz, ss, gz, gs, if_true, if_false, Bool.false_eq_true, Bool.not_true, Bool.not_false, Nat.add_zero, Nat.zero_add, Nat.reduceAdd]
  refine wpPi_assign _ rfl rfl ?_
  simp only [pl, pn, el, ec, sz, ss, gz, gs, if_true, if_false, Bool.false_eq_true, Bool.not_true, Bool.not_false, Nat.add_zero, Nat.zero_add, Nat.reduceAdd]
  refine wpPi_nil ?_
  have hcw := CellsAt.whole hB1
  have h0 := hcw.cell (j := 0) (v := .slice aa a.length ca) rfl
  have h1 := hcw.cell (j := 1) (v := .slice ab b.length cb) rfl
  have hsz1 : w.heap.size ≤ w1.heap.size := hm1.size
  generalize hb1 : w.heap.size = b1 at *
  clear hB1
  go_upto_region 1 with (fail)
  have hS : Mod NoB w1 w1.drew := (Mod.refl _ _).drew
  refine wp_region_pi [(0, 3), (1, 0), (2, 3), (4, 3), (5, 0), (6, 3), (3, 1), (7, 1), (8, 0), (9, 3)] [] (fun w' => Mod NoB w1 w') (by kernel_rfl) (by kernel_rfl) (by kernel_rfl) (by kernel_rfl) (fun _ _ _ _ hd h => ⟨hd.trans h.1, h.2⟩) hS ?_
  simp only [List.map_cons, List.map_nil, List.getD_cons_zero, List.getD_cons_succ]
  refine wpPi_field _ _ _ _ _ _ rfl rfl rfl fo_61_0 ?_
  simp only [pl, pn, el, ec, sz, ss, gz, gs, if_true, if_false, Bool.false_eq_true, Bool.not_true, Bool.not_false, Nat.add_zero, Nat.zero_add, Nat.reduceAdd]
  refine wpPi_val rfl (fun w' hS => exec_load1 58 _ (by rfl) b1 0 (by rfl) _ (hS.cell id h0) _ Try.underlying58 rfl) ?_
  simp only [pl, pn, el, ec, sz, ss, gz, gs, if_true, if_false, Bool.false_eq_true, Bool.not_true, Bool.not_false, Nat.add_zero, Nat.zero_add, Nat.reduceAdd]
  refine wpPi_move _ rfl rfl ?_
  simp only [pl, pn, el, ec, sz, ss, gz, gs, if_true, if_false, Bool.false_eq_true, Bool.not_true, Bool.not_false, Nat.add_zero, Nat.zero_add, Nat.reduceAdd]
  refine wpPi_field _ _ _ _ _ _ rfl rfl rfl fo_61_1 ?_
  simp only [pl, pn, el, ec, sz, ss, gz, gs, if_true, if_false, Bool.false_eq_true, Bool.not_true, Bool.not_false, Nat.add_zero, Nat.zero_add, Nat.reduceAdd]
  refine wpPi_val rfl (fun w' hS => exec_load1 58 _ (by rfl) b1 1 (by rfl) _ (hS.cell id h1) _ Try.underlying58 rfl) ?_
  simp only [pl, pn, el, ec, sz, ss, gz, gs, if_true, if_false, Bool.false_eq_true, Bool.not_true, Bool.not_false, Nat.add_zero, Nat.zero_add, Nat.reduceAdd]
  refine wpPi_move _ rfl rfl ?_
  simp only [pl, pn, el, ec, sz, ss, gz, gs, if_true, if_false, Bool.false_eq_true, Bool.not_true, Bool.not_false, Nat.add_zero, Nat.zero_add, Nat.reduceAdd]
  refine wpPi_do rfl (fun K hK => ?_)
  refine wp_enterQ (run_call 39 [.tmp 14, .tmp 15] _ rfl _ Try.func39 rfl (by kernel_rfl) [.slice aa a.length ca, .int .i64 (i : Int)] rfl _) (digest_any _ f i a _ _ hi (HA.out.keep0 (hm1.trans0 hS)) hpa (by omega)) ?_
  rintro e w2 ⟨rfl, hm2⟩
  have hS2 := hS.trans0 hm2
  refine ⟨_, rfl, hK _ _ hS2 ?_⟩
  clear hK K
  try simp only [pl, pn, el, ec, sz, ss, gz, gs, if_true, if_false, Bool.false_eq_true, Bool.not_true, Bool.not_false, Nat.add_zero, Nat.zero_add, Nat.reduceAdd]
  refine wpPi_do rfl (fun K hK => ?_)
  refine wp_enterQ (run_call 39 [.tmp 18, .tmp 19] _ rfl _ Try.func39 rfl (by kernel_rfl) [.slice ab b.length cb, .int .i64 (i : Int)] rfl _) (digest_any _ f i b _ _ hi (HB.out.keep0 (hm1.trans0 hS2)) hpb (by omega)) ?_
  rintro e w3 ⟨rfl, hm3⟩
  have hS3 := hS2.trans0 hm3
  refine ⟨_, rfl, hK _ _ hS3 ?_⟩
  clear hK K
  try simp only [pl, pn, el, ec, sz, ss, gz, gs, if_true, if_false, Bool.false_eq_true, Bool.not_true, Bool.not_false, Nat.add_zero, Nat.zero_add, Nat.reduceAdd]
  refine wpPi_val rfl (fun w' hS => exec_eql_id _ _ _ _ rfl (dig f i a) (dig f i b) rfl rfl 32 5 Try.underlying38 Try.underlying5 (by kernel_rfl) (by kernel_rfl) hda hdb false (decide_eq_false HD.out)) ?_
  simp only [pl, pn, el, ec, sz, ss, gz, gs, if_true, if_false, Bool.false_eq_true, Bool.not_true, Bool.not_false, Nat.add_zero, Nat.zero_add, Nat.reduceAdd]
  refine wpPi_assign _ rfl rfl ?_
  simp only [pl, pn, el, ec, sz, ss, gz, gs, if_true, if_false, Bool.false_eq_true, Bool.not_true, Bool.not_false, Nat.add_zero, Nat.zero_add, Nat.reduceAdd]
  refine wpPi_nil ?_
  have hM3 := hm1.trans0 hS3
  replace hcw := hcw.keep hS3 id
  replace h0 := hS3.cell id h0
  replace h1 := hS3.cell id h1
  have hsz3 := hS3.size
  clear hm1 hm2 hm3 hS hS2 hS3
  generalize dig f i a = da at *
  generalize dig f i b = db at *
  have HN : Hid (2 ≤ a.length → b.length < 2) := fun h => by omega
  clear h2
  by_cases ha2 : (a.length : Int) < 2
  · go_upto_region 3 with (fail)
    refine wp_region_seq [3, 1, 3, 3, 3, 3, 0, 3, 3, 3, 3] (fun _ => True) (by rfl) (by rfl) trivial ?_
    simp only [List.zip_cons_cons, List.zip_nil_right]
    refine wpPi_field _ _ _ _ _ _ rfl rfl rfl fo_61_0 ?_
    simp only [pl, pn, el, ec, sz, ss, gz, gs, if_true, if_false, Bool.false_eq_true, Bool.not_true, Bool.not_false, Nat.add_zero, Nat.zero_add, Nat.reduceAdd]
    refine wpPi_do rfl (fun K hK => ?_)
    refine wp_exec (exec_load1 58 _ (by rfl) b1 0 (by rfl) _ h0 _ Try.underlying58 rfl) ?_
    refine hK _ _ trivial ?_
    clear hK K
    try simp only [pl, pn, el, ec, sz, ss, gz, gs, if_true, if_false, Bool.false_eq_true, Bool.not_true, Bool.not_false, Nat.add_zero, Nat.zero_add, Nat.reduceAdd]
    refine wpPi_len _ _ _ _ _ rfl rfl rfl (by kernel_rfl) ?_
    simp only [pl, pn, el, ec, sz, ss, gz, gs, if_true, if_false, Bool.false_eq_true, Bool.not_true, Bool.not_false, Nat.add_zero, Nat.zero_add, Nat.reduceAdd]
    refine wpPi_any (v := ?_) rfl (fun w' => ?_) ?_; rotate_left; · (go_simp; try with_reducible rfl)
    simp only [pl, pn, el, ec, sz, ss, gz, gs, if_true, if_false, Bool.false_eq_true, Bool.not_true, Bool.not_false, Nat.add_zero, Nat.zero_add, Nat.reduceAdd]
    refine wpPi_move _ rfl rfl ?_
    simp only [pl, pn, el, ec, sz, ss, gz, gs, if_true, if_false, Bool.false_eq_true, Bool.not_true, Bool.not_false, Nat.add_zero, Nat.zero_add, Nat.reduceAdd]
    refine wpPi_skip rfl ?_
    simp only [pl, pn, el, ec, sz, ss, gz, gs, if_true, if_false, Bool.false_eq_true, Bool.not_true, Bool.not_false, Nat.add_zero, Nat.zero_add, Nat.reduceAdd]
    refine wpPi_skip0 rfl ?_
    simp only [pl, pn, el, ec, sz, ss, gz, gs, if_true, if_false, Bool.false_eq_true, Bool.not_true, Bool.not_false, Nat.add_zero, Nat.zero_add, Nat.reduceAdd]
    refine wpPi_skip rfl ?_
    simp only [pl, pn, el, ec, sz, ss, gz, gs, if_true, if_false, Bool.false_eq_true, Bool.not_true, Bool.not_false, Nat.add_zero, Nat.zero_add, Nat.reduceAdd]
    refine wpPi_skip rfl ?_
    simp only [pl, pn, el, ec, sz, ss, gz, gs, if_true, if_false, Bool.false_eq_true, Bool.not_true, Bool.not_false, Nat.add_zero, Nat.zero_add, Nat.reduceAdd]
    refine wpPi_pick _ _ _ _ rfl rfl rfl ?_
    simp only [pl, pn, el, ec, sz, ss, gz, gs, if_true, if_false, Bool.false_eq_true, Bool.not_true, Bool.not_false, Nat.add_zero, Nat.zero_add, Nat.reduceAdd]
    refine wpPi_assign _ rfl rfl ?_
    simp only [pl, pn, el, ec, sz, ss, gz, gs, if_true, if_false, Bool.false_eq_true, Bool.not_true, Bool.not_false, Nat.add_zero, Nat.zero_add, Nat.reduceAdd]
    refine wpPi_nil ?_
    go_upto_region 4 with (fail)
    have hS : Mod NoB w3 w3.drew := (Mod.refl _ _).drew
    refine wp_region_pi [(0, 0), (2, 0), (1, 1), (3, 1), (4, 1), (5, 1), (6, 3), (7, 3)] [] (fun w' => Mod NoB w3 w') (by kernel_rfl) (by kernel_rfl) (by kernel_rfl) (by kernel_rfl) (fun _ _ _ _ hd h => ⟨hd.trans h.1, h.2⟩) hS ?_
    simp only [List.map_cons, List.map_nil, List.getD_cons_zero, List.getD_cons_succ]
    refine wpPi_val rfl (fun w' hS => exec_loadA 61 _ (by rfl) b1 0 (by rfl) _ (hcw.keep hS id) _ Try.underlying61 rfl 2 (by kernel_rfl) rfl) ?_
    simp only [pl, pn, el, ec, sz, ss, gz, gs, if_true, if_false, Bool.false_eq_true, Bool.not_true, Bool.not_false, Nat.add_zero, Nat.zero_add, Nat.reduceAdd]
    refine wpPi_val rfl (fun w' hS => exec_loadA 61 _ (by rfl) b1 0 (by rfl) _ (hcw.keep hS id) _ Try.underlying61 rfl 2 (by kernel_rfl) rfl) ?_
    simp only [pl, pn, el, ec, sz, ss, gz, gs, if_true, if_false, Bool.false_eq_true, Bool.not_true, Bool.not_false, Nat.add_zero, Nat.zero_add, Nat.reduceAdd]
    refine wpPi_do rfl (fun K hK => ?_)
    refine wp_enterQ (run_call 52 [.tmp 33] _ rfl _ Try.func52 rfl (by kernel_rfl) [.agg #[.slice aa a.length ca, .slice ab b.length cb]] rfl _) (lacks_any (HA.out.keep0 (hM3.trans0 hS)) (HB.out.keep0 (hM3.trans0 hS)) (by omega)) ?_
    rintro e w4 ⟨v4, rfl, hg4, hm4⟩
    have hS4 := hS.trans0 hm4
    refine ⟨_, rfl, hK _ _ hS4 ?_⟩
    clear hK K
    try simp only [pl, pn, el, ec, sz, ss, gz, gs, if_true, if_false, Bool.false_eq_true, Bool.not_true, Bool.not_false, Nat.add_zero, Nat.zero_add, Nat.reduceAdd]
    refine wpPi_do rfl (fun K hK => ?_)
    refine wp_enterQ (run_call 53 [.tmp 35] _ rfl _ Try.func53 rfl (by kernel_rfl) [.agg #[.slice aa a.length ca, .slice ab b.length cb]] rfl _) (turnedP_any aa ab a.length b.length ca cb _) ?_
    rintro e w5 ⟨rfl, hm5⟩
    have hS5 := hS4.trans0 hm5
    refine ⟨_, rfl, hK _ _ hS5 ?_⟩
    clear hK K
    try simp only [pl, pn, el, ec, sz, ss, gz, gs, if_true, if_false, Bool.false_eq_true, Bool.not_true, Bool.not_false, Nat.add_zero, Nat.zero_add, Nat.reduceAdd]
    refine wpPi_do rfl (fun K hK => ?_)
    refine wp_enterQ (run_call 52 [.tmp 36] _ rfl _ Try.func52 rfl (by kernel_rfl) [.agg #[.slice ab b.length cb, .slice aa a.length ca]] rfl _) (lacks_any (HB.out.keep0 (hM3.trans0 hS5)) (HA.out.keep0 (hM3.trans0 hS5)) (by omega)) ?_
    rintro e w6 ⟨v6, rfl, hg6, hm6⟩
    have hS6 := hS5.trans0 hm6
    replace hg4 := hg4.keep0 (hm5.trans0 hm6)
    have hs34 := hS.size
    refine ⟨_, rfl, hK _ _ hS6 ?_⟩
    clear hK K
    try simp only [pl, pn, el, ec, sz, ss, gz, gs, if_true, if_false, Bool.false_eq_true, Bool.not_true, Bool.not_false, Nat.add_zero, Nat.zero_add, Nat.reduceAdd]
    refine wpPi_do rfl (fun K hK => ?_)
    have hsz6 := hS6.size
    refine wp_gat strEnc _ _ 26 9 (.string ⟨#[]⟩) 1 16 (by rfl) Try.underlying26 str_i (by kernel_rfl) (by omega) strEnc_one w3.heap.size _ _ (by rfl) (hg4.base hs34) v6 _ (by rfl) hg6.src (by unfold maxLen; omega) (by omega) hsz6 (fun v7 w7 hg7 hm7 => ?_)
    have hM7 : Mod NoB w3 w7 := hS6.trans hm7 (fun k hk e => by have := (hg4.lt e).1; omega)
    refine hK _ _ hM7 ?_
    clear hK K
    try simp only [pl, pn, el, ec, sz, ss, gz, gs, if_true, if_false, Bool.false_eq_true, Bool.not_true, Bool.not_false, Nat.add_zero, Nat.zero_add, Nat.reduceAdd]
    refine wpPi_assign _ rfl rfl ?_
    simp only [pl, pn, el, ec, sz, ss, gz, gs, if_true, if_false, Bool.false_eq_true, Bool.not_true, Bool.not_false, Nat.add_zero, Nat.zero_add, Nat.reduceAdd]
    refine wpPi_assign _ rfl rfl ?_
    simp only [pl, pn, el, ec, sz, ss, gz, gs, if_true, if_false, Bool.false_eq_true, Bool.not_true, Bool.not_false, Nat.add_zero, Nat.zero_add, Nat.reduceAdd]
    refine wpPi_nil ?_
    have hMr := hM3.trans0 hM7
    have hgr := hg7.base (b' := w.heap.size) (by omega)
    clear hm7 hM7 hS6 hS5 hS4 hS hm4 hm5 hm6 hg4 hg6 hM3
    go_wp2
    go_ret2
    exact ⟨_, rfl, hgr, hMr⟩
  · have hb2 : (b.length : Int) < 2 := by have := HN.out (by omega); omega
    go_upto_region 3 with (fail)
    refine wp_region_seq [3, 1, 3, 3, 3, 3, 1, 3, 3, 3, 3] (fun _ => True) (by rfl) (by rfl) trivial ?_
    simp only [List.zip_cons_cons, List.zip_nil_right]
    refine wpPi_field _ _ _ _ _ _ rfl rfl rfl fo_61_0 ?_
    simp only [pl, pn, el, ec, sz, ss, gz, gs, if_true, if_false, Bool.false_eq_true, Bool.not_true, Bool.not_false, Nat.add_zero, Nat.zero_add, Nat.reduceAdd]
    refine wpPi_do rfl (fun K hK => ?_)
    refine wp_exec (exec_load1 58 _ (by rfl) b1 0 (by rfl) _ h0 _ Try.underlying58 rfl) ?_
    refine hK _ _ trivial ?_
    clear hK K
    try simp only [pl, pn, el, ec, sz, ss, gz, gs, if_true, if_false, Bool.false_eq_true, Bool.not_true, Bool.not_false, Nat.add_zero, Nat.zero_add, Nat.reduceAdd]
    refine wpPi_len _ _ _ _ _ rfl rfl rfl (by kernel_rfl) ?_
    simp only [pl, pn, el, ec, sz, ss, gz, gs, if_true, if_false, Bool.false_eq_true, Bool.not_true, Bool.not_false, Nat.add_zero, Nat.zero_add, Nat.reduceAdd]
    refine wpPi_any (v := ?_) rfl (fun w' => ?_) ?_; rotate_left; · (go_simp; try with_reducible rfl)
    simp only [pl, pn, el, ec, sz, ss, gz, gs, if_true, if_false, Bool.false_eq_true, Bool.not_true, Bool.not_false, Nat.add_zero, Nat.zero_add, Nat.reduceAdd]
    refine wpPi_move _ rfl rfl ?_
    simp only [pl, pn, el, ec, sz, ss, gz, gs, if_true, if_false, Bool.false_eq_true, Bool.not_true, Bool.not_false, Nat.add_zero, Nat.zero_add, Nat.reduceAdd]
    refine wpPi_field _ _ _ _ _ _ rfl rfl rfl fo_61_1 ?_
    simp only [pl, pn, el, ec, sz, ss, gz, gs, if_true, if_false, Bool.false_eq_true, Bool.not_true, Bool.not_false, Nat.add_zero, Nat.zero_add, Nat.reduceAdd]
    refine wpPi_do rfl (fun K hK => ?_)
    refine wp_exec (exec_load1 58 _ (by rfl) b1 1 (by rfl) _ h1 _ Try.underlying58 rfl) ?_
    refine hK _ _ trivial ?_
    clear hK K
    try simp only [pl, pn, el, ec, sz, ss, gz, gs, if_true, if_false, Bool.false_eq_true, Bool.not_true, Bool.not_false, Nat.add_zero, Nat.zero_add, Nat.reduceAdd]
    refine wpPi_len _ _ _ _ _ rfl rfl rfl (by kernel_rfl) ?_
    simp only [pl, pn, el, ec, sz, ss, gz, gs, if_true, if_false, Bool.false_eq_true, Bool.not_true, Bool.not_false, Nat.add_zero, Nat.zero_add, Nat.reduceAdd]
    refine wpPi_any (v := ?_) rfl (fun w' => ?_) ?_; rotate_left; · (go_simp; try with_reducible rfl)
    simp only [pl, pn, el, ec, sz, ss, gz, gs, if_true, if_false, Bool.false_eq_true, Bool.not_true, Bool.not_false, Nat.add_zero, Nat.zero_add, Nat.reduceAdd]
    refine wpPi_pick _ _ _ _ rfl rfl rfl ?_
    simp only [pl, pn, el, ec, sz, ss, gz, gs, if_true, if_false, Bool.false_eq_true, Bool.not_true, Bool.not_false, Nat.add_zero, Nat.zero_add, Nat.reduceAdd]
    refine wpPi_assign _ rfl rfl ?_
    simp only [pl, pn, el, ec, sz, ss, gz, gs, if_true, if_false, Bool.false_eq_true, Bool.not_true, Bool.not_false, Nat.add_zero, Nat.zero_add, Nat.reduceAdd]
    refine wpPi_nil ?_
    go_upto_region 4 with (fail)
    have hS : Mod NoB w3 w3.drew := (Mod.refl _ _).drew
    refine wp_region_pi [(0, 0), (2, 0), (1, 1), (3, 1), (4, 1), (5, 1), (6, 3), (7, 3)] [] (fun w' => Mod NoB w3 w') (by kernel_rfl) (by kernel_rfl) (by kernel_rfl) (by kernel_rfl) (fun _ _ _ _ hd h => ⟨hd.trans h.1, h.2⟩) hS ?_
    simp only [List.map_cons, List.map_nil, List.getD_cons_zero, List.getD_cons_succ]
    refine wpPi_val rfl (fun w' hS => exec_loadA 61 _ (by rfl) b1 0 (by rfl) _ (hcw.keep hS id) _ Try.underlying61 rfl 2 (by kernel_rfl) rfl) ?_
    simp only [pl, pn, el, ec, sz, ss, gz, gs, if_true, if_false, Bool.false_eq_true, Bool.not_true, Bool.not_false, Nat.add_zero, Nat.zero_add, Nat.reduceAdd]
    refine wpPi_val rfl (fun w' hS => exec_loadA 61 _ (by rfl) b1 0 (by rfl) _ (hcw.keep hS id) _ Try.underlying61 rfl 2 (by kernel_rfl) rfl) ?_
    simp only [pl, pn, el, ec, sz, ss, gz, gs, if_true, if_false, Bool.false_eq_true, Bool.not_true, Bool.not_false, Nat.add_zero, Nat.zero_add, Nat.reduceAdd]
    refine wpPi_do rfl (fun K hK => ?_)
    refine wp_enterQ (run_call 52 [.tmp 33] _ rfl _ Try.func52 rfl (by kernel_rfl) [.agg #[.slice aa a.length ca, .slice ab b.length cb]] rfl _) (lacks_any (HA.out.keep0 (hM3.trans0 hS)) (HB.out.keep0 (hM3.trans0 hS)) (by omega)) ?_
    rintro e w4 ⟨v4, rfl, hg4, hm4⟩
    have hS4 := hS.trans0 hm4
    refine ⟨_, rfl, hK _ _ hS4 ?_⟩
    clear hK K
    try simp only [pl, pn, el, ec, sz, ss, gz, gs, if_true, if_false, Bool.false_eq_true, Bool.not_true, Bool.not_false, Nat.add_zero, Nat.zero_add, Nat.reduceAdd]
    refine wpPi_do rfl (fun K hK => ?_)
    refine wp_enterQ (run_call 53 [.tmp 35] _ rfl _ Try.func53 rfl (by kernel_rfl) [.agg #[.slice aa a.length ca, .slice ab b.length cb]] rfl _) (turnedP_any aa ab a.length b.length ca cb _) ?_
    rintro e w5 ⟨rfl, hm5⟩
    have hS5 := hS4.trans0 hm5
    refine ⟨_, rfl, hK _ _ hS5 ?_⟩
    clear hK K
    try simp only [pl, pn, el, ec, sz, ss, gz, gs, if_true, if_false, Bool.false_eq_true, Bool.not_true, Bool.not_false, Nat.add_zero, Nat.zero_add, Nat.reduceAdd]
    refine wpPi_do rfl (fun K hK => ?_)
    refine wp_enterQ (run_call 52 [.tmp 36] _ rfl _ Try.func52 rfl (by kernel_rfl) [.agg #[.slice ab b.length cb, .slice aa a.length ca]] rfl _) (lacks_any (HB.out.keep0 (hM3.trans0 hS5)) (HA.out.keep0 (hM3.trans0 hS5)) (by omega)) ?_
    rintro e w6 ⟨v6, rfl, hg6, hm6⟩
    have hS6 := hS5.trans0 hm6
    replace hg4 := hg4.keep0 (hm5.trans0 hm6)
    have hs34 := hS.size
    refine ⟨_, rfl, hK _ _ hS6 ?_⟩
    clear hK K
    try simp only [pl, pn, el, ec, sz, ss, gz, gs, if_true, if_false, Bool.false_eq_true, Bool.not_true, Bool.not_false, Nat.add_zero, Nat.zero_add, Nat.reduceAdd]
    refine wpPi_do rfl (fun K hK => ?_)
    have hsz6 := hS6.size
    refine wp_gat strEnc _ _ 26 9 (.string ⟨#[]⟩) 1 16 (by rfl) Try.underlying26 str_i (by kernel_rfl) (by omega) strEnc_one w3.heap.size _ _ (by rfl) (hg4.base hs34) v6 _ (by rfl) hg6.src (by unfold maxLen; omega) (by omega) hsz6 (fun v7 w7 hg7 hm7 => ?_)
    have hM7 : Mod NoB w3 w7 := hS6.trans hm7 (fun k hk e => by have := (hg4.lt e).1; omega)
    refine hK _ _ hM7 ?_
    clear hK K
    try simp only [pl, pn, el, ec, sz, ss, gz, gs, if_true, if_false, Bool.false_eq_true, Bool.not_true, Bool.not_false, Nat.add_zero, Nat.zero_add, Nat.reduceAdd]
    refine wpPi_assign _ rfl rfl ?_
    simp only [pl, pn, el, ec, sz, ss, gz, gs, if_true, if_false, Bool.false_eq_true, Bool.not_true, Bool.not_false, Nat.add_zero, Nat.zero_add, Nat.reduceAdd]
    refine wpPi_assign _ rfl rfl ?_
    simp only [pl, pn, el, ec, sz, ss, gz, gs, if_true, if_false, Bool.false_eq_true, Bool.not_true, Bool.not_false, Nat.add_zero, Nat.zero_add, Nat.reduceAdd]
    refine wpPi_nil ?_
    have hMr := hM3.trans0 hM7
    have hgr := hg7.base (b' := w.heap.size) (by omega)
    clear hm7 hM7 hS6 hS5 hS4 hS hm4 hm5 hm6 hg4 hg6 hM3
    go_wp2
    go_ret2
    exact ⟨_, rfl, hgr, hMr⟩
end Go.Proofs.Ytchkikmmcmjcgaa

/- tree.differ: two sides. -/
namespace Go.Proofs.Ytchkikmmcmjcgaa
set_option linter.unusedSimpArgs false
set_option linter.unusedVariables false
set_option linter.unnecessarySimpa false
set_option linter.unusedSectionVars false
open Go.RowKit Go.Shelf


theorem Ls.bound {w : World} {G : Nat → Prop} {v : Value} {l : List Leaf} (h : Ls w G v l) : Ls w (fun k => k < w.heap.size) v l := by
  obtain ⟨ad, cap, e, h1, h2, h3⟩ := h
  refine ⟨ad, cap, e, h1, h2, fun hne => ?_⟩
  obtain ⟨b, off, ha, hG, ho, hc⟩ := h3 hne
  refine ⟨b, off, ha, ?_, ho, hc⟩
  cases l with
  | nil => exact absurd rfl hne
  | cons x l =>
    obtain ⟨cs, hs, ⟨rfl, hok⟩, hcs⟩ := hc 0 (by simp)
    exact block_lt_of_cell (leaf_key hcs)
theorem Ls.keepB {w w' : World} {G : Nat → Prop} {B : Nat} {v : Value} {l : List Leaf} (h : Ls w G v l) (hm : Mod (fun k => k = B) w w') (hd : ∀ k, G k → k ≠ B) : Ls w' G v l := Sl.keepB h hm hd
theorem Ls.keep0 {w w' : World} {G : Nat → Prop} {v : Value} {l : List Leaf} (h : Ls w G v l) (hm : Mod NoB w w') : Ls w' G v l := Sl.keep0 h hm
theorem Ls.all {w : World} {G : Nat → Prop} {v : Value} {l : List Leaf} (h : Ls w G v l) : Ls w (fun _ => True) v l := Sl.mono h (fun _ _ => trivial) (fun _ _ h => h)
set_option maxRecDepth 10000 in
set_option maxHeartbeats 2000000 in
theorem differ_more (f i : Nat) (hi : f + 1 + i = 256) {w : World} {G G' : Nat → Prop} {va vb : Value} {a b : List Leaf} (ha : Ls w G va a) (hb : Ls w G' vb b) (hpa : Placed i a) (hpb : Placed i b) (hal : a.length ≤ 65536) (hbl : b.length ≤ 65536) (hd : dig (f + 1) i a ≠ dig (f + 1) i b) (h2 : 2 ≤ a.length) (h3 : 2 ≤ b.length)
    (ih : ∀ (a' b' : List Leaf) (va vb : Value) (w : World), Ls w (fun _ => True) va a' → Ls w (fun _ => True) vb b' → Placed (i + 1) a' → Placed (i + 1) b' → a'.length ≤ 65536 → b'.length ≤ 65536 → Calls Try.prog 32 #[.agg #[va, vb], .int .i64 ((i + 1 : Nat) : Int)] w (DifferR w (dif f (i + 1) a' b'))) :
    Calls Try.prog 32 #[.agg #[va, vb], .int .i64 (i : Int)] w (DifferR w (dif (f + 1) i a b)) := by
  have hcnt := dif_count (f + 1) i a b
  rw [dif_more hd h2 h3] at hcnt ⊢
  have HA := Lib.hid ha.bound
  have HB := Lib.hid hb.bound
  have IH := Lib.hid ih
  have hda := dig_len hi hpa.lie
  have hdb := dig_len hi hpb.lie
  have HD := Lib.hid hd
  have hsa := side_len i a
  have hsb := side_len i b
  have hal1 := hpa.side false
  have hal2 := hpa.side true
  have hbl1 := hpb.side false
  have hbl2 := hpb.side true
  have hk1 := dif_keys f (i + 1) (sideL false i a) (sideL false i b)
  have hk2 := dif_keys f (i + 1) (sideL true i a) (sideL true i b)
  have ha2 : ¬ (a.length : Int) < 2 := by omega
  have hb2 : ¬ (b.length : Int) < 2 := by omega
  have hfa : 2 * (f + 1) * a.length ≤ 512 * 65536 := Nat.mul_le_mul (by omega) hal
  obtain ⟨aa, ca, rfl, -, -⟩ := Sl.at ha
  obtain ⟨ab, cb, rfl, -, -⟩ := Sl.at hb
  have HP := Lib.hid hpa
  have HQ := Lib.hid hpb
  clear ha hb hd ih
  go_enter Try.func32, Try.ntmps32
  go_upto_region 0 with (fail)
  refine wp_region_seq [1, 3, 3] (fun _ => True) (by rfl) (by rfl) trivial ?_
  simp only [List.zip_cons_cons, List.zip_nil_right]
  refine wpPi_do rfl (fun K hK => ?_)
  refine wp_box 61 _ _ (by rfl) (by rfl) (fun w1 hB1 hm1 hs1 => ?_)
  replace hB1 : w1.heap[w.heap.size]? = some (.cells #[.slice aa a.length ca, .slice ab b.length cb] 61 (0, 0)) := hB1
  refine hK _ _ trivial ?_
  clear hK K
  try simp only [pl, pn, el, ec, sz, ss, gz, gs, if_true, if_false, Bool.false_eq_true, Bool.not_true, Bool.not_false, Nat.add_zero, Nat.zero_add, Nat.reduceAdd]
  refine wpPi_assign _ rfl rfl ?_
  simp only [pl, pn, el, ec, sz, ss, gz, gs, if_true, if_false, Bool.false_eq_true, Bool.not_true, Bool.not_false, Nat.add_zero, Nat.zero_add, Nat.reduceAdd]
  refine wpPi_assign _ rfl rfl ?_
  simp only [pl, pn, el, ec, sz, ss, gz, gs, if_true, if_false, Bool.false_eq_true, Bool.not_true, Bool.not_false, Nat.add_zero, Nat.zero_add, Nat.reduceAdd]
  refine wpPi_nil ?_
  have hcw := CellsAt.whole hB1
  have h0 := hcw.cell (j := 0) (v := .slice aa a.length ca) rfl
  have h1 := hcw.cell (j := 1) (v := .slice ab b.length cb) rfl
  have hsz1 : w.heap.size ≤ w1.heap.size := hm1.size
  generalize hb1 : w.heap.size = b1 at *
  clear hB1 hcw
  go_upto_region 1 with (fail)
  have hS : Mod NoB w1 w1.drew := (Mod.refl _ _).drew
  refine wp_region_pi [(0, 3), (1, 0), (2, 3), (4, 3), (5, 0), (6, 3), (3, 1), (7, 1), (8, 0), (9, 3)] [] (fun w' => Mod NoB w1 w') (by kernel_rfl) (by kernel_rfl) (by kernel_rfl) (by kernel_rfl) (fun _ _ _ _ hd h => ⟨hd.trans h.1, h.2⟩) hS ?_
  simp only [List.map_cons, List.map_nil, List.getD_cons_zero, List.getD_cons_succ]
  refine wpPi_field _ _ _ _ _ _ rfl rfl rfl fo_61_0 ?_
  simp only [pl, pn, el, ec, sz, ss, gz, gs, if_true, if_false, Bool.false_eq_true, Bool.not_true, Bool.not_false, Nat.add_zero, Nat.zero_add, Nat.reduceAdd]
  refine wpPi_val rfl (fun w' hS => exec_load1 58 _ (by rfl) b1 0 (by rfl) _ (hS.cell id h0) _ Try.underlying58 rfl) ?_
  simp only [pl, pn, el, ec, sz, ss, gz, gs, if_true, if_false, Bool.false_eq_true, Bool.not_true, Bool.not_false, Nat.add_zero, Nat.zero_add, Nat.reduceAdd]
  refine wpPi_move _ rfl rfl ?_
  simp only [pl, pn, el, ec, sz, ss, gz, gs, if_true, if_false, Bool.false_eq_true, Bool.not_true, Bool.not_false, Nat.add_zero, Nat.zero_add, Nat.reduceAdd]
  refine wpPi_field _ _ _ _ _ _ rfl rfl rfl fo_61_1 ?_
  simp only [pl, pn, el, ec, sz, ss, gz, gs, if_true, if_false, Bool.false_eq_true, Bool.not_true, Bool.not_false, Nat.add_zero, Nat.zero_add, Nat.reduceAdd]
  refine wpPi_val rfl (fun w' hS => exec_load1 58 _ (by rfl) b1 1 (by rfl) _ (hS.cell id h1) _ Try.underlying58 rfl) ?_
  simp only [pl, pn, el, ec, sz, ss, gz, gs, if_true, if_false, Bool.false_eq_true, Bool.not_true, Bool.not_false, Nat.add_zero, Nat.zero_add, Nat.reduceAdd]
  refine wpPi_move _ rfl rfl ?_
  simp only [pl, pn, el, ec, sz, ss, gz, gs, if_true, if_false, Bool.false_eq_true, Bool.not_true, Bool.not_false, Nat.add_zero, Nat.zero_add, Nat.reduceAdd]
  refine wpPi_do rfl (fun K hK => ?_)
  refine wp_enterQ (run_call 39 [.tmp 14, .tmp 15] _ rfl _ Try.func39 rfl (by kernel_rfl) [.slice aa a.length ca, .int .i64 (i : Int)] rfl _) (digest_any _ (f + 1) i a _ _ hi (HA.out.keep0 (hm1.trans0 hS)) HP.out (by omega)) ?_
  rintro e w2 ⟨rfl, hm2⟩
  have hS2 := hS.trans0 hm2
  refine ⟨_, rfl, hK _ _ hS2 ?_⟩
  clear hK K
  try simp only [pl, pn, el, ec, sz, ss, gz, gs, if_true, if_false, Bool.false_eq_true, Bool.not_true, Bool.not_false, Nat.add_zero, Nat.zero_add, Nat.reduceAdd]
  refine wpPi_do rfl (fun K hK => ?_)
  refine wp_enterQ (run_call 39 [.tmp 18, .tmp 19] _ rfl _ Try.func39 rfl (by kernel_rfl) [.slice ab b.length cb, .int .i64 (i : Int)] rfl _) (digest_any _ (f + 1) i b _ _ hi (HB.out.keep0 (hm1.trans0 hS2)) HQ.out (by omega)) ?_
  rintro e w3 ⟨rfl, hm3⟩
  have hS3 := hS2.trans0 hm3
  refine ⟨_, rfl, hK _ _ hS3 ?_⟩
  clear hK K
  try simp only [pl, pn, el, ec, sz, ss, gz, gs, if_true, if_false, Bool.false_eq_true, Bool.not_true, Bool.not_false, Nat.add_zero, Nat.zero_add, Nat.reduceAdd]
  refine wpPi_val rfl (fun w' hS => exec_eql_id _ _ _ _ rfl (dig (f + 1) i a) (dig (f + 1) i b) rfl rfl 32 5 Try.underlying38 Try.underlying5 (by kernel_rfl) (by kernel_rfl) hda hdb false (decide_eq_false HD.out)) ?_
  simp only [pl, pn, el, ec, sz, ss, gz, gs, if_true, if_false, Bool.false_eq_true, Bool.not_true, Bool.not_false, Nat.add_zero, Nat.zero_add, Nat.reduceAdd]
  refine wpPi_assign _ rfl rfl ?_
  simp only [pl, pn, el, ec, sz, ss, gz, gs, if_true, if_false, Bool.false_eq_true, Bool.not_true, Bool.not_false, Nat.add_zero, Nat.zero_add, Nat.reduceAdd]
  refine wpPi_nil ?_
  have hM3 := hm1.trans0 hS3
  replace h0 := hS3.cell id h0
  replace h1 := hS3.cell id h1
  have hsz3 := hS3.size
  clear hm1 hm2 hm3 hS hS2 hS3 HD
  generalize dig (f + 1) i a = da at *
  generalize dig (f + 1) i b = db at *
  clear hpa hpb
  go_upto_region 3 with (fail)
  refine wp_region_seq [3, 1, 3, 3, 3, 3, 1, 3, 3, 3, 3] (fun _ => True) (by rfl) (by rfl) trivial ?_
  simp only [List.zip_cons_cons, List.zip_nil_right]
  refine wpPi_field _ _ _ _ _ _ rfl rfl rfl fo_61_0 ?_
  simp only [pl, pn, el, ec, sz, ss, gz, gs, if_true, if_false, Bool.false_eq_true, Bool.not_true, Bool.not_false, Nat.add_zero, Nat.zero_add, Nat.reduceAdd]
  refine wpPi_do rfl (fun K hK => ?_)
  refine wp_exec (exec_load1 58 _ (by rfl) b1 0 (by rfl) _ h0 _ Try.underlying58 rfl) ?_
  refine hK _ _ trivial ?_
  clear hK K
  try simp only [pl, pn, el, ec, sz, ss, gz, gs, if_true, if_false, Bool.false_eq_true, Bool.not_true, Bool.not_false, Nat.add_zero, Nat.zero_add, Nat.reduceAdd]
  refine wpPi_len _ _ _ _ _ rfl rfl rfl (by kernel_rfl) ?_
  simp only [pl, pn, el, ec, sz, ss, gz, gs, if_true, if_false, Bool.false_eq_true, Bool.not_true, Bool.not_false, Nat.add_zero, Nat.zero_add, Nat.reduceAdd]
  refine wpPi_any (v := ?_) rfl (fun w' => ?_) ?_; rotate_left; · (go_simp; try with_reducible rfl)
  simp only [pl, pn, el, ec, sz, ss, gz, gs, if_true, if_false, Bool.false_eq_true, Bool.not_true, Bool.not_false, Nat.add_zero, Nat.zero_add, Nat.reduceAdd]
  refine wpPi_move _ rfl rfl ?_
  simp only [pl, pn, el, ec, sz, ss, gz, gs, if_true, if_false, Bool.false_eq_true, Bool.not_true, Bool.not_false, Nat.add_zero, Nat.zero_add, Nat.reduceAdd]
  refine wpPi_field _ _ _ _ _ _ rfl rfl rfl fo_61_1 ?_
  simp only [pl, pn, el, ec, sz, ss, gz, gs, if_true, if_false, Bool.false_eq_true, Bool.not_true, Bool.not_false, Nat.add_zero, Nat.zero_add, Nat.reduceAdd]
  refine wpPi_do rfl (fun K hK => ?_)
  refine wp_exec (exec_load1 58 _ (by rfl) b1 1 (by rfl) _ h1 _ Try.underlying58 rfl) ?_
  refine hK _ _ trivial ?_
  clear hK K
  try simp only [pl, pn, el, ec, sz, ss, gz, gs, if_true, if_false, Bool.false_eq_true, Bool.not_true, Bool.not_false, Nat.add_zero, Nat.zero_add, Nat.reduceAdd]
  refine wpPi_len _ _ _ _ _ rfl rfl rfl (by kernel_rfl) ?_
  simp only [pl, pn, el, ec, sz, ss, gz, gs, if_true, if_false, Bool.false_eq_true, Bool.not_true, Bool.not_false, Nat.add_zero, Nat.zero_add, Nat.reduceAdd]
  refine wpPi_any (v := ?_) rfl (fun w' => ?_) ?_; rotate_left; · (go_simp; try with_reducible rfl)
  simp only [pl, pn, el, ec, sz, ss, gz, gs, if_true, if_false, Bool.false_eq_true, Bool.not_true, Bool.not_false, Nat.add_zero, Nat.zero_add, Nat.reduceAdd]
  refine wpPi_pick _ _ _ _ rfl rfl rfl ?_
  simp only [pl, pn, el, ec, sz, ss, gz, gs, if_true, if_false, Bool.false_eq_true, Bool.not_true, Bool.not_false, Nat.add_zero, Nat.zero_add, Nat.reduceAdd]
  refine wpPi_assign _ rfl rfl ?_
  simp only [pl, pn, el, ec, sz, ss, gz, gs, if_true, if_false, Bool.false_eq_true, Bool.not_true, Bool.not_false, Nat.add_zero, Nat.zero_add, Nat.reduceAdd]
  refine wpPi_nil ?_
  go_upto_region 5 with (fail)
  refine wp_region_seq [1, 1] (fun _ => True) (by rfl) (by rfl) trivial ?_
  simp only [List.zip_cons_cons, List.zip_nil_right]
  refine wpPi_do rfl (fun K hK => ?_)
  refine wp_alloc 61 _ (by rfl) pairZ (fun w4 hB4 hm4 hs4 => ?_)
  replace hB4 : w4.heap[w3.heap.size]? = some (.cells #[.slice none 0 0, .slice none 0 0] 61 (0, 0)) := hB4
  refine hK _ _ trivial ?_
  clear hK K
  try simp only [pl, pn, el, ec, sz, ss, gz, gs, if_true, if_false, Bool.false_eq_true, Bool.not_true, Bool.not_false, Nat.add_zero, Nat.zero_add, Nat.reduceAdd]
  refine wpPi_do rfl (fun K hK => ?_)
  refine wp_alloc 61 _ (by rfl) pairZ (fun w5 hB5 hm5 hs5 => ?_)
  replace hB5 : w5.heap[w4.heap.size]? = some (.cells #[.slice none 0 0, .slice none 0 0] 61 (0, 0)) := hB5
  refine hK _ _ trivial ?_
  clear hK K
  try simp only [pl, pn, el, ec, sz, ss, gz, gs, if_true, if_false, Bool.false_eq_true, Bool.not_true, Bool.not_false, Nat.add_zero, Nat.zero_add, Nat.reduceAdd]
  refine wpPi_nil ?_
  replace hB4 := hm5.obj id hB4
  have hM5 := (hm4.trans0 hm5)
  have hs35 : w3.heap.size < w4.heap.size := hs4
  generalize hb6 : w3.heap.size = b6 at *
  generalize hb7 : w4.heap.size = b7 at *
  clear hm4 hm5
  go_upto_region 6 with (fail)
  refine wp_region_seq [3, 1, 3, 1, 3, 3, 3, 3, 1, 3, 1] (fun _ => True) (by rfl) (by rfl) trivial ?_
  simp only [List.zip_cons_cons, List.zip_nil_right]
  refine wpPi_field _ _ _ _ _ _ rfl rfl rfl fo_61_0 ?_
  simp only [pl, pn, el, ec, sz, ss, gz, gs, if_true, if_false, Bool.false_eq_true, Bool.not_true, Bool.not_false, Nat.add_zero, Nat.zero_add, Nat.reduceAdd]
  refine wpPi_do rfl (fun K hK => ?_)
  refine wp_exec (exec_load1 58 _ (by rfl) b1 0 (by rfl) _ (hM5.cell id h0) _ Try.underlying58 rfl) ?_
  refine hK _ _ trivial ?_
  clear hK K
  try simp only [pl, pn, el, ec, sz, ss, gz, gs, if_true, if_false, Bool.false_eq_true, Bool.not_true, Bool.not_false, Nat.add_zero, Nat.zero_add, Nat.reduceAdd]
  refine wpPi_move _ rfl rfl ?_
  simp only [pl, pn, el, ec, sz, ss, gz, gs, if_true, if_false, Bool.false_eq_true, Bool.not_true, Bool.not_false, Nat.add_zero, Nat.zero_add, Nat.reduceAdd]
  refine wpPi_do rfl (fun K hK => ?_)
  refine wp_enterQ (run_call 54 [.tmp 41, .tmp 42] _ rfl _ Try.func54 rfl (by kernel_rfl) [.slice aa a.length ca, .int .i64 (i : Int)] rfl _) (cut_any (HA.out.keep0 (hM3.trans0 hM5)) i (by omega) HP.out (by omega)) ?_
  rintro e w6 ⟨v1, v2, rfl, hc1, hc2, hm6⟩
  replace hB4 := hm6.obj id hB4
  replace hB5 := hm6.obj id hB5
  have hv1 := Sl.one hc1
  have hv2 := Sl.one hc2
  refine ⟨_, rfl, hK _ _ trivial ?_⟩
  clear hK K
  try simp only [pl, pn, el, ec, sz, ss, gz, gs, if_true, if_false, Bool.false_eq_true, Bool.not_true, Bool.not_false, Nat.add_zero, Nat.zero_add, Nat.reduceAdd]
  refine wpPi_move _ rfl rfl ?_
  simp only [pl, pn, el, ec, sz, ss, gz, gs, if_true, if_false, Bool.false_eq_true, Bool.not_true, Bool.not_false, Nat.add_zero, Nat.zero_add, Nat.reduceAdd]
  refine wpPi_any (v := ?_) rfl (fun w' => ?_) ?_; rotate_left; · (go_simp; try with_reducible rfl)
  simp only [pl, pn, el, ec, sz, ss, gz, gs, if_true, if_false, Bool.false_eq_true, Bool.not_true, Bool.not_false, Nat.add_zero, Nat.zero_add, Nat.reduceAdd]
  refine wpPi_any (v := ?_) rfl (fun w' => ?_) ?_; rotate_left; · (go_simp; try with_reducible rfl)
  simp only [pl, pn, el, ec, sz, ss, gz, gs, if_true, if_false, Bool.false_eq_true, Bool.not_true, Bool.not_false, Nat.add_zero, Nat.zero_add, Nat.reduceAdd]
  refine wpPi_field _ _ _ _ _ _ rfl rfl rfl fo_61_0 ?_
  simp only [pl, pn, el, ec, sz, ss, gz, gs, if_true, if_false, Bool.false_eq_true, Bool.not_true, Bool.not_false, Nat.add_zero, Nat.zero_add, Nat.reduceAdd]
  refine wpPi_do rfl (fun K hK => ?_)
  refine wp_store1 58 _ _ b6 0 v1 (by rfl) (by rfl) (by rfl) hv1 (by kernel_rfl) _ _ hB4 (by simp) (fun w7 hB7 hm7 => ?_)
  replace hB7 : w7.heap[b6]? = some (.cells #[v1, .slice none 0 0] 61 (0, 0)) := hB7
  replace hB5 := hm7.objB (by omega) hB5
  refine hK _ _ trivial ?_
  clear hK K
  try simp only [pl, pn, el, ec, sz, ss, gz, gs, if_true, if_false, Bool.false_eq_true, Bool.not_true, Bool.not_false, Nat.add_zero, Nat.zero_add, Nat.reduceAdd]
  refine wpPi_field _ _ _ _ _ _ rfl rfl rfl fo_61_0 ?_
  simp only [pl, pn, el, ec, sz, ss, gz, gs, if_true, if_false, Bool.false_eq_true, Bool.not_true, Bool.not_false, Nat.add_zero, Nat.zero_add, Nat.reduceAdd]
  refine wpPi_do rfl (fun K hK => ?_)
  refine wp_store1 58 _ _ b7 0 v2 (by rfl) (by rfl) (by rfl) hv2 (by kernel_rfl) _ _ hB5 (by simp) (fun w8 hB8 hm8 => ?_)
  replace hB8 : w8.heap[b7]? = some (.cells #[v2, .slice none 0 0] 61 (0, 0)) := hB8
  replace hB7 := hm8.objB (by omega) hB7
  refine hK _ _ trivial ?_
  clear hK K
  try simp only [pl, pn, el, ec, sz, ss, gz, gs, if_true, if_false, Bool.false_eq_true, Bool.not_true, Bool.not_false, Nat.add_zero, Nat.zero_add, Nat.reduceAdd]
  refine wpPi_nil ?_
  have hM8 : Mod NoB w3 w8 := ((hM5.trans0 hm6).transB hm7 (by omega)).transB hm8 (by omega)
  replace hc1 := (hc1.keepB hm7 (fun k hk => by omega)).keepB hm8 (fun k hk => by omega)
  replace hc2 := (hc2.keepB hm7 (fun k hk => by omega)).keepB hm8 (fun k hk => by omega)
  clear hM5 hm6 hm7 hm8 hB4 hB5
  go_upto_region 7 with (fail)
  refine wp_region_seq [3, 1, 3, 1, 3, 3, 3, 3, 1, 3, 1] (fun _ => True) (by rfl) (by rfl) trivial ?_
  simp only [List.zip_cons_cons, List.zip_nil_right]
  refine wpPi_field _ _ _ _ _ _ rfl rfl rfl fo_61_1 ?_
  simp only [pl, pn, el, ec, sz, ss, gz, gs, if_true, if_false, Bool.false_eq_true, Bool.not_true, Bool.not_false, Nat.add_zero, Nat.zero_add, Nat.reduceAdd]
  refine wpPi_do rfl (fun K hK => ?_)
  refine wp_exec (exec_load1 58 _ (by rfl) b1 1 (by rfl) _ (hM8.cell id h1) _ Try.underlying58 rfl) ?_
  refine hK _ _ trivial ?_
  clear hK K
  try simp only [pl, pn, el, ec, sz, ss, gz, gs, if_true, if_false, Bool.false_eq_true, Bool.not_true, Bool.not_false, Nat.add_zero, Nat.zero_add, Nat.reduceAdd]
  refine wpPi_move _ rfl rfl ?_
  simp only [pl, pn, el, ec, sz, ss, gz, gs, if_true, if_false, Bool.false_eq_true, Bool.not_true, Bool.not_false, Nat.add_zero, Nat.zero_add, Nat.reduceAdd]
  refine wpPi_do rfl (fun K hK => ?_)
  refine wp_enterQ (run_call 54 [.tmp 50, .tmp 51] _ rfl _ Try.func54 rfl (by kernel_rfl) [.slice ab b.length cb, .int .i64 (i : Int)] rfl _) (cut_any (HB.out.keep0 (hM3.trans0 hM8)) i (by omega) HQ.out (by omega)) ?_
  rintro e w9 ⟨u1, u2, rfl, hd1, hd2, hm9⟩
  replace hB7 := hm9.obj id hB7
  replace hB8 := hm9.obj id hB8
  have hu1 := Sl.one hd1
  have hu2 := Sl.one hd2
  refine ⟨_, rfl, hK _ _ trivial ?_⟩
  clear hK K
  try simp only [pl, pn, el, ec, sz, ss, gz, gs, if_true, if_false, Bool.false_eq_true, Bool.not_true, Bool.not_false, Nat.add_zero, Nat.zero_add, Nat.reduceAdd]
  refine wpPi_move _ rfl rfl ?_
  simp only [pl, pn, el, ec, sz, ss, gz, gs, if_true, if_false, Bool.false_eq_true, Bool.not_true, Bool.not_false, Nat.add_zero, Nat.zero_add, Nat.reduceAdd]
  refine wpPi_any (v := ?_) rfl (fun w' => ?_) ?_; rotate_left; · (go_simp; try with_reducible rfl)
  simp only [pl, pn, el, ec, sz, ss, gz, gs, if_true, if_false, Bool.false_eq_true, Bool.not_true, Bool.not_false, Nat.add_zero, Nat.zero_add, Nat.reduceAdd]
  refine wpPi_any (v := ?_) rfl (fun w' => ?_) ?_; rotate_left; · (go_simp; try with_reducible rfl)
  simp only [pl, pn, el, ec, sz, ss, gz, gs, if_true, if_false, Bool.false_eq_true, Bool.not_true, Bool.not_false, Nat.add_zero, Nat.zero_add, Nat.reduceAdd]
  refine wpPi_field _ _ _ _ _ _ rfl rfl rfl fo_61_1 ?_
  simp only [pl, pn, el, ec, sz, ss, gz, gs, if_true, if_false, Bool.false_eq_true, Bool.not_true, Bool.not_false, Nat.add_zero, Nat.zero_add, Nat.reduceAdd]
  refine wpPi_do rfl (fun K hK => ?_)
  refine wp_store1 58 _ _ b6 1 u1 (by rfl) (by rfl) (by rfl) hu1 (by kernel_rfl) _ _ hB7 (by simp) (fun w10 hB10 hm10 => ?_)
  replace hB10 : w10.heap[b6]? = some (.cells #[v1, u1] 61 (0, 0)) := hB10
  replace hB8 := hm10.objB (by omega) hB8
  refine hK _ _ trivial ?_
  clear hK K
  try simp only [pl, pn, el, ec, sz, ss, gz, gs, if_true, if_false, Bool.false_eq_true, Bool.not_true, Bool.not_false, Nat.add_zero, Nat.zero_add, Nat.reduceAdd]
  refine wpPi_field _ _ _ _ _ _ rfl rfl rfl fo_61_1 ?_
  simp only [pl, pn, el, ec, sz, ss, gz, gs, if_true, if_false, Bool.false_eq_true, Bool.not_true, Bool.not_false, Nat.add_zero, Nat.zero_add, Nat.reduceAdd]
  refine wpPi_do rfl (fun K hK => ?_)
  refine wp_store1 58 _ _ b7 1 u2 (by rfl) (by rfl) (by rfl) hu2 (by kernel_rfl) _ _ hB8 (by simp) (fun w11 hB11 hm11 => ?_)
  replace hB11 : w11.heap[b7]? = some (.cells #[v2, u2] 61 (0, 0)) := hB11
  replace hB10 := hm11.objB (by omega) hB10
  refine hK _ _ trivial ?_
  clear hK K
  try simp only [pl, pn, el, ec, sz, ss, gz, gs, if_true, if_false, Bool.false_eq_true, Bool.not_true, Bool.not_false, Nat.add_zero, Nat.zero_add, Nat.reduceAdd]
  refine wpPi_nil ?_
  have hM11 : Mod NoB w3 w11 := ((hM8.trans0 hm9).transB hm10 (by omega)).transB hm11 (by omega)
  replace hc1 := ((hc1.keep0 hm9).keepB hm10 (fun k hk => by omega)).keepB hm11 (fun k hk => by omega)
  replace hc2 := ((hc2.keep0 hm9).keepB hm10 (fun k hk => by omega)).keepB hm11 (fun k hk => by omega)
  replace hd1 := (hd1.keepB hm10 (fun k hk => by omega)).keepB hm11 (fun k hk => by omega)
  replace hd2 := (hd2.keepB hm10 (fun k hk => by omega)).keepB hm11 (fun k hk => by omega)
  clear hM8 hm9 hm10 hm11 hB7 hB8
  generalize hA1 : sideL false i a = a1 at *
  generalize hA2 : sideL true i a = a2 at *
  generalize hE1 : sideL false i b = e1 at *
  generalize hE2 : sideL true i b = e2 at *
  clear hA1 hA2 hE1 hE2
  have hM11s := hM11.size
  go_upto_region 8 with (fail)
  refine wp_region_seq [1, 3, 3, 1, 3, 3, 3, 3, 3] (fun _ => True) (by rfl) (by rfl) trivial ?_
  simp only [List.zip_cons_cons, List.zip_nil_right]
  refine wpPi_do rfl (fun K hK => ?_)
  refine wp_exec (exec_loadA 61 _ (by rfl) b6 0 (by rfl) _ (CellsAt.whole hB10) _ Try.underlying61 rfl 2 (by kernel_rfl) rfl) ?_
  refine hK _ _ trivial ?_
  clear hK K
  try simp only [pl, pn, el, ec, sz, ss, gz, gs, if_true, if_false, Bool.false_eq_true, Bool.not_true, Bool.not_false, Nat.add_zero, Nat.zero_add, Nat.reduceAdd]
  refine wpPi_move _ rfl rfl ?_
  simp only [pl, pn, el, ec, sz, ss, gz, gs, if_true, if_false, Bool.false_eq_true, Bool.not_true, Bool.not_false, Nat.add_zero, Nat.zero_add, Nat.reduceAdd]
  refine wpPi_addR _ _ _ _ (i : Int) 1 ((i + 1 : Nat) : Int) rfl rfl rfl rfl (by omega) (by omega) (by omega) ?_
  simp only [pl, pn, el, ec, sz, ss, gz, gs, if_true, if_false, Bool.false_eq_true, Bool.not_true, Bool.not_false, Nat.add_zero, Nat.zero_add, Nat.reduceAdd]
  refine wpPi_do rfl (fun K hK => ?_)
  refine wp_enterQ (run_call 32 [.tmp 58, .tmp 60] _ rfl _ Try.func32 rfl (by kernel_rfl) [.agg #[v1, u1], .int .i64 ((i + 1 : Nat) : Int)] rfl _) (IH.out a1 e1 v1 u1 _ hc1.all hd1.all hal1 hbl1 (by omega) (by omega)) ?_
  rintro e w12 ⟨vl, rfl, hg12, hm12⟩
  generalize dif f (i + 1) a1 e1 = p1 at *
  refine ⟨_, rfl, hK _ _ trivial ?_⟩
  clear hK K
  try simp only [pl, pn, el, ec, sz, ss, gz, gs, if_true, if_false, Bool.false_eq_true, Bool.not_true, Bool.not_false, Nat.add_zero, Nat.zero_add, Nat.reduceAdd]
  refine wpPi_move _ rfl rfl ?_
  simp only [pl, pn, el, ec, sz, ss, gz, gs, if_true, if_false, Bool.false_eq_true, Bool.not_true, Bool.not_false, Nat.add_zero, Nat.zero_add, Nat.reduceAdd]
  refine wpPi_any (v := ?_) rfl (fun w' => ?_) ?_; rotate_left; · (go_simp; try with_reducible rfl)
  simp only [pl, pn, el, ec, sz, ss, gz, gs, if_true, if_false, Bool.false_eq_true, Bool.not_true, Bool.not_false, Nat.add_zero, Nat.zero_add, Nat.reduceAdd]
  refine wpPi_any (v := ?_) rfl (fun w' => ?_) ?_; rotate_left; · (go_simp; try with_reducible rfl)
  simp only [pl, pn, el, ec, sz, ss, gz, gs, if_true, if_false, Bool.false_eq_true, Bool.not_true, Bool.not_false, Nat.add_zero, Nat.zero_add, Nat.reduceAdd]
  refine wpPi_assign _ rfl rfl ?_
  simp only [pl, pn, el, ec, sz, ss, gz, gs, if_true, if_false, Bool.false_eq_true, Bool.not_true, Bool.not_false, Nat.add_zero, Nat.zero_add, Nat.reduceAdd]
  refine wpPi_assign _ rfl rfl ?_
  simp only [pl, pn, el, ec, sz, ss, gz, gs, if_true, if_false, Bool.false_eq_true, Bool.not_true, Bool.not_false, Nat.add_zero, Nat.zero_add, Nat.reduceAdd]
  refine wpPi_nil ?_
  replace hB11 := hm12.obj id hB11
  go_upto_region 9 with (fail)
  refine wp_region_seq [1, 3, 3, 1, 3, 3, 3, 3, 3] (fun _ => True) (by rfl) (by rfl) trivial ?_
  simp only [List.zip_cons_cons, List.zip_nil_right]
  refine wpPi_do rfl (fun K hK => ?_)
  refine wp_exec (exec_loadA 61 _ (by rfl) b7 0 (by rfl) _ (CellsAt.whole hB11) _ Try.underlying61 rfl 2 (by kernel_rfl) rfl) ?_
  refine hK _ _ trivial ?_
  clear hK K
  try simp only [pl, pn, el, ec, sz, ss, gz, gs, if_true, if_false, Bool.false_eq_true, Bool.not_true, Bool.not_false, Nat.add_zero, Nat.zero_add, Nat.reduceAdd]
  refine wpPi_move _ rfl rfl ?_
  simp only [pl, pn, el, ec, sz, ss, gz, gs, if_true, if_false, Bool.false_eq_true, Bool.not_true, Bool.not_false, Nat.add_zero, Nat.zero_add, Nat.reduceAdd]
  refine wpPi_addR _ _ _ _ (i : Int) 1 ((i + 1 : Nat) : Int) rfl rfl rfl rfl (by omega) (by omega) (by omega) ?_
  simp only [pl, pn, el, ec, sz, ss, gz, gs, if_true, if_false, Bool.false_eq_true, Bool.not_true, Bool.not_false, Nat.add_zero, Nat.zero_add, Nat.reduceAdd]
  refine wpPi_do rfl (fun K hK => ?_)
  refine wp_enterQ (run_call 32 [.tmp 65, .tmp 67] _ rfl _ Try.func32 rfl (by kernel_rfl) [.agg #[v2, u2], .int .i64 ((i + 1 : Nat) : Int)] rfl _) (IH.out a2 e2 v2 u2 _ (hc2.keep0 hm12).all (hd2.keep0 hm12).all hal2 hbl2 (by omega) (by omega)) ?_
  rintro e w13 ⟨vr, rfl, hg13, hm13⟩
  generalize dif f (i + 1) a2 e2 = p2 at *
  replace hg12 := hg12.keep0 hm13
  refine ⟨_, rfl, hK _ _ trivial ?_⟩
  clear hK K
  try simp only [pl, pn, el, ec, sz, ss, gz, gs, if_true, if_false, Bool.false_eq_true, Bool.not_true, Bool.not_false, Nat.add_zero, Nat.zero_add, Nat.reduceAdd]
  refine wpPi_move _ rfl rfl ?_
  simp only [pl, pn, el, ec, sz, ss, gz, gs, if_true, if_false, Bool.false_eq_true, Bool.not_true, Bool.not_false, Nat.add_zero, Nat.zero_add, Nat.reduceAdd]
  refine wpPi_any (v := ?_) rfl (fun w' => ?_) ?_; rotate_left; · (go_simp; try with_reducible rfl)
  simp only [pl, pn, el, ec, sz, ss, gz, gs, if_true, if_false, Bool.false_eq_true, Bool.not_true, Bool.not_false, Nat.add_zero, Nat.zero_add, Nat.reduceAdd]
  refine wpPi_any (v := ?_) rfl (fun w' => ?_) ?_; rotate_left; · (go_simp; try with_reducible rfl)
  simp only [pl, pn, el, ec, sz, ss, gz, gs, if_true, if_false, Bool.false_eq_true, Bool.not_true, Bool.not_false, Nat.add_zero, Nat.zero_add, Nat.reduceAdd]
  refine wpPi_assign _ rfl rfl ?_
  simp only [pl, pn, el, ec, sz, ss, gz, gs, if_true, if_false, Bool.false_eq_true, Bool.not_true, Bool.not_false, Nat.add_zero, Nat.zero_add, Nat.reduceAdd]
  refine wpPi_assign _ rfl rfl ?_
  simp only [pl, pn, el, ec, sz, ss, gz, gs, if_true, if_false, Bool.false_eq_true, Bool.not_true, Bool.not_false, Nat.add_zero, Nat.zero_add, Nat.reduceAdd]
  refine wpPi_nil ?_
  have hM13 := (hM11.trans0 hm12).trans0 hm13
  have hM13s := hM13.size
  have hM12s := hm12.size
  have hM13t := hm13.size
  clear hm12 hm13 hM11 hB10 hB11 hc1 hc2 hd1 hd2
  go_upto_region 10 with (fail)
  refine wp_region_seq [3, 3, 1, 3, 3, 3, 3, 3, 3] (fun _ => True) (by rfl) (by rfl) trivial ?_
  simp only [List.zip_cons_cons, List.zip_nil_right]
  refine wpPi_move _ rfl rfl ?_
  simp only [pl, pn, el, ec, sz, ss, gz, gs, if_true, if_false, Bool.false_eq_true, Bool.not_true, Bool.not_false, Nat.add_zero, Nat.zero_add, Nat.reduceAdd]
  refine wpPi_move _ rfl rfl ?_
  simp only [pl, pn, el, ec, sz, ss, gz, gs, if_true, if_false, Bool.false_eq_true, Bool.not_true, Bool.not_false, Nat.add_zero, Nat.zero_add, Nat.reduceAdd]
  refine wpPi_do rfl (fun K hK => ?_)
  refine wp_gat strEnc _ _ 26 9 (.string ⟨#[]⟩) 1 16 (by rfl) Try.underlying26 str_i (by kernel_rfl) (by omega) strEnc_one b6 _ _ (by rfl) (hg12.base (by omega)) vr _ (by rfl) hg13.src (by unfold maxLen; omega) (by omega) (by omega) (fun v14 w14 hg14 hm14 => ?_)
  have hM14 : Mod NoB w3 w14 := hM13.trans hm14 (fun k hk e => by have := (hg12.lt e).1; omega)
  refine hK _ _ trivial ?_
  clear hK K
  try simp only [pl, pn, el, ec, sz, ss, gz, gs, if_true, if_false, Bool.false_eq_true, Bool.not_true, Bool.not_false, Nat.add_zero, Nat.zero_add, Nat.reduceAdd]
  refine wpPi_move _ rfl rfl ?_
  simp only [pl, pn, el, ec, sz, ss, gz, gs, if_true, if_false, Bool.false_eq_true, Bool.not_true, Bool.not_false, Nat.add_zero, Nat.zero_add, Nat.reduceAdd]
  refine wpPi_move _ rfl rfl ?_
  simp only [pl, pn, el, ec, sz, ss, gz, gs, if_true, if_false, Bool.false_eq_true, Bool.not_true, Bool.not_false, Nat.add_zero, Nat.zero_add, Nat.reduceAdd]
  refine wpPi_addR _ _ _ _ (p1.2 : Int) (p2.2 : Int) ((p1.2 + p2.2 : Nat) : Int) rfl rfl rfl rfl (by omega) (by omega) (by omega) ?_
  simp only [pl, pn, el, ec, sz, ss, gz, gs, if_true, if_false, Bool.false_eq_true, Bool.not_true, Bool.not_false, Nat.add_zero, Nat.zero_add, Nat.reduceAdd]
  refine wpPi_addR _ _ _ _ ((p1.2 + p2.2 : Nat) : Int) 1 ((p1.2 + p2.2 + 1 : Nat) : Int) rfl rfl rfl rfl (by omega) (by omega) (by omega) ?_
  simp only [pl, pn, el, ec, sz, ss, gz, gs, if_true, if_false, Bool.false_eq_true, Bool.not_true, Bool.not_false, Nat.add_zero, Nat.zero_add, Nat.reduceAdd]
  refine wpPi_assign _ rfl rfl ?_
  simp only [pl, pn, el, ec, sz, ss, gz, gs, if_true, if_false, Bool.false_eq_true, Bool.not_true, Bool.not_false, Nat.add_zero, Nat.zero_add, Nat.reduceAdd]
  refine wpPi_assign _ rfl rfl ?_
  simp only [pl, pn, el, ec, sz, ss, gz, gs, if_true, if_false, Bool.false_eq_true, Bool.not_true, Bool.not_false, Nat.add_zero, Nat.zero_add, Nat.reduceAdd]
  refine wpPi_nil ?_
  have hMr := hM3.trans0 hM14
  have hgr := hg14.base (b' := w.heap.size) (by omega)
  clear hm14 hM14 hM13 hg12 hg13 hM3
  go_wp2
  go_ret2
  exact ⟨_, rfl, hgr, hMr⟩
theorem differ_any : ∀ (f i : Nat) (a b : List Leaf) (va vb : Value) (w : World), f + i = 256 → Ls w (fun _ => True) va a → Ls w (fun _ => True) vb b → Placed i a → Placed i b → a.length ≤ 65536 → b.length ≤ 65536 → Calls Try.prog 32 #[.agg #[va, vb], .int .i64 (i : Int)] w (DifferR w (dif f i a b)) := by
  intro f
  induction f with
  | zero =>
    intro i a b va vb w hi ha hb hpa hpb hal hbl
    rcases dif_ways 0 i a b with h | ⟨h, h2⟩ | ⟨g, hg, -⟩
    · exact differ_same 0 i hi ha hb hpa hpb hal hbl h
    · exact differ_few 0 i hi ha hb hpa hpb hal hbl h h2
    · cases hg
  | succ f ih =>
    intro i a b va vb w hi ha hb hpa hpb hal hbl
    rcases dif_ways (f + 1) i a b with h | ⟨h, h2⟩ | ⟨g, hg, h, h2, h3⟩
    · exact differ_same _ i hi ha hb hpa hpb hal hbl h
    · exact differ_few _ i hi ha hb hpa hpb hal hbl h h2
    · exact differ_more f i hi ha hb hpa hpb hal hbl h h2 h3 (fun a' b' va vb w h1 h2 h3 h4 h5 h6 => ih (i + 1) a' b' va vb w (by omega) h1 h2 h3 h4 h5 h6)
end Go.Proofs.Ytchkikmmcmjcgaa

/- slices.BinarySearchFunc over leaves. -/
namespace Go.Proofs.Ytchkikmmcmjcgaa
set_option linter.unusedSimpArgs false
set_option linter.unusedVariables false
set_option linter.unnecessarySimpa false
set_option linter.unusedSectionVars false
open Go.RowKit Go.Shelf


set_option maxRecDepth 10000 in
theorem differF_any (x : Leaf) (t : List UInt8) (hx : LeafOk x) (ht : t.length = 32) (w : World) : Calls Try.prog 30 #[.agg (leafCells x), .agg (idCells t)] w (RetM (.int .i64 (cmpI x.way t)) w) := by
  have hxw := hx.1
  have h1 : (idCells x.way).size = 32 := by rw [idCells_size, hxw]
  have h2 : (idCells t).size = 32 := by rw [idCells_size, ht]
  obtain ⟨C, hC⟩ : ∃ C, leafCells x = C := ⟨_, rfl⟩
  have HC := Lib.hid hC
  rw [hC]
  clear hC
  go_enter Try.func30, Try.ntmps30
  go_upto_region 0 with (fail)
  refine wp_region_seq [1, 1, 3] (fun _ => True) (by rfl) (by rfl) trivial ?_
  simp only [List.zip_cons_cons, List.zip_nil_right]
  refine wpPi_do rfl (fun K hK => ?_)
  refine wp_box 63 _ _ (by rfl) (by rfl) (fun w1 hB1 hm1 hs1 => ?_)
  replace hB1 : w1.heap[w.heap.size]? = some (.cells C 63 (0, 0)) := hB1
  refine hK _ _ trivial ?_
  clear hK K
  try simp only [pl, pn, el, ec, sz, ss, gz, gs, if_true, if_false, Bool.false_eq_true, Bool.not_true, Bool.not_false, Nat.add_zero, Nat.zero_add, Nat.reduceAdd]
  refine wpPi_do rfl (fun K hK => ?_)
  refine wp_box 38 _ _ (by rfl) (by rfl) (fun w2 hB2 hm2 hs2 => ?_)
  replace hB2 : w2.heap[w1.heap.size]? = some (.cells (idCells t) 38 (0, 0)) := hB2
  refine hK _ _ trivial ?_
  clear hK K
  try simp only [pl, pn, el, ec, sz, ss, gz, gs, if_true, if_false, Bool.false_eq_true, Bool.not_true, Bool.not_false, Nat.add_zero, Nat.zero_add, Nat.reduceAdd]
  refine wpPi_assign _ rfl rfl ?_
  simp only [pl, pn, el, ec, sz, ss, gz, gs, if_true, if_false, Bool.false_eq_true, Bool.not_true, Bool.not_false, Nat.add_zero, Nat.zero_add, Nat.reduceAdd]
  refine wpPi_nil ?_
  have hc1 := CellsAt.whole (hm2.obj id hB1)
  have hc2 := CellsAt.whole hB2
  rw [← HC.out] at hc1
  replace hc1 := leaf_way hx hc1
  rw [Nat.zero_add] at hc1
  have hG := hm1.trans0 hm2
  generalize w.heap.size = b1 at *
  generalize w1.heap.size = b2 at *
  clear hB1 hB2 hm1 hm2
  go_upto_region 1 with (fail)
  refine wp_region_seq [3, 1, 1, 1, 3] (fun _ => True) (by rfl) (by rfl) trivial ?_
  simp only [List.zip_cons_cons, List.zip_nil_right]
  refine wpPi_field _ _ _ _ _ _ rfl rfl rfl fo_63_1 ?_
  simp only [pl, pn, el, ec, sz, ss, gz, gs, if_true, if_false, Bool.false_eq_true, Bool.not_true, Bool.not_false, Nat.add_zero, Nat.zero_add, Nat.reduceAdd]
  refine wpPi_do rfl (fun K hK => ?_)
  refine wp_exec (exec_loadA 38 _ (by rfl) b1 1 (by rfl) (idCells x.way) hc1 _ Try.underlying38 rfl 32 (by kernel_rfl) h1) ?_
  refine hK _ _ trivial ?_
  clear hK K
  try simp only [pl, pn, el, ec, sz, ss, gz, gs, if_true, if_false, Bool.false_eq_true, Bool.not_true, Bool.not_false, Nat.add_zero, Nat.zero_add, Nat.reduceAdd]
  refine wpPi_do rfl (fun K hK => ?_)
  refine wp_exec (exec_loadA 38 _ (by rfl) b2 0 (by rfl) (idCells t) hc2 _ Try.underlying38 rfl 32 (by kernel_rfl) h2) ?_
  refine hK _ _ trivial ?_
  clear hK K
  try simp only [pl, pn, el, ec, sz, ss, gz, gs, if_true, if_false, Bool.false_eq_true, Bool.not_true, Bool.not_false, Nat.add_zero, Nat.zero_add, Nat.reduceAdd]
  refine wpPi_do rfl (fun K hK => ?_)
  refine wp_enterQ (run_call 31 [.tmp 6, .tmp 7] _ rfl _ Try.func31 rfl (by kernel_rfl) [.agg (idCells x.way), .agg (idCells t)] rfl _) (shaCompare_any x.way t hxw ht _) ?_
  rintro e w3 ⟨rfl, hm3⟩
  have hG3 := hG.trans0 hm3.mod
  refine ⟨_, rfl, hK _ _ trivial ?_⟩
  clear hK K
  try simp only [pl, pn, el, ec, sz, ss, gz, gs, if_true, if_false, Bool.false_eq_true, Bool.not_true, Bool.not_false, Nat.add_zero, Nat.zero_add, Nat.reduceAdd]
  refine wpPi_assign _ rfl rfl ?_
  simp only [pl, pn, el, ec, sz, ss, gz, gs, if_true, if_false, Bool.false_eq_true, Bool.not_true, Bool.not_false, Nat.add_zero, Nat.zero_add, Nat.reduceAdd]
  refine wpPi_nil ?_
  go_wp2
  go_ret
  exact ⟨rfl, hG3⟩
theorem eg_differF : ∀ args w, (callFunc 30 args).run Try.prog w = .ok (.enter 30 args) w := enters_of Try.func30 (by kernel_rfl) rfl
def BinRel (l : List Leaf) (t : List UInt8) (w0 : World) (iv jv : Value) (w : World) : Prop := ∃ i j : Nat, iv = .int .i64 i ∧ jv = .int .i64 j ∧ i ≤ j ∧ j ≤ l.length ∧ (∀ q (_ : q < i) (h : q < l.length), l[q].way < t) ∧ (∀ h : j < l.length, ¬ l[j].way < t) ∧ Mod NoB w0 w
def BinR (l : List Leaf) (t : List UInt8) (w : World) : Ending → World → Prop := fun e w' => ∃ (k : Nat) (b : Bool), e = .returned (.tuple #[.int .i64 k, .bool b]) ∧ (b = true → ∃ h : k < l.length, l[k].way = t) ∧ (b = false → ∀ x ∈ l, x.way ≠ t) ∧ Mod NoB w w'
set_option maxRecDepth 10000 in
set_option maxHeartbeats 1000000 in
theorem binSearch_any {w : World} {G : Nat → Prop} {v : Value} {l : List Leaf} (h : Ls w G v l) (hp : Placed 0 l) (hlen : l.length ≤ 65536) (t : List UInt8) (ht : t.length = 32) :
    Calls Try.prog 29 #[v, .agg (idCells t), .func (.func 30) #[] #[]] w (BinR l t w) := by
  have HS := Lib.hid h
  have HP := Lib.hid hp
  obtain ⟨ad, cap, rfl, hlm, -⟩ := Sl.at h
  have h2 : (idCells t).size = 32 := by rw [idCells_size, ht]
  obtain ⟨C, hC⟩ : ∃ C, idCells t = C := ⟨_, rfl⟩
  have HC := Lib.hid hC
  rw [hC] at h2 ⊢
  clear h hC hp
  go_enter Try.func29, Try.ntmps29
  go_upto_region 0 with (fail)
  refine wp_region_seq [1, 3, 3] (fun _ => True) (by rfl) (by rfl) trivial ?_
  simp only [List.zip_cons_cons, List.zip_nil_right]
  refine wpPi_do rfl (fun K hK => ?_)
  refine wp_box 38 _ _ (by rfl) (by rfl) (fun w1 hB1 hm1 hs1 => ?_)
  replace hB1 : w1.heap[w.heap.size]? = some (.cells C 38 (0, 0)) := hB1
  refine hK _ _ trivial ?_
  clear hK K
  try simp only [pl, pn, el, ec, sz, ss, gz, gs, if_true, if_false, Bool.false_eq_true, Bool.not_true, Bool.not_false, Nat.add_zero, Nat.zero_add, Nat.reduceAdd]
  refine wpPi_assign _ rfl rfl ?_
  simp only [pl, pn, el, ec, sz, ss, gz, gs, if_true, if_false, Bool.false_eq_true, Bool.not_true, Bool.not_false, Nat.add_zero, Nat.zero_add, Nat.reduceAdd]
  refine wpPi_assign _ rfl rfl ?_
  simp only [pl, pn, el, ec, sz, ss, gz, gs, if_true, if_false, Bool.false_eq_true, Bool.not_true, Bool.not_false, Nat.add_zero, Nat.zero_add, Nat.reduceAdd]
  refine wpPi_nil ?_
  have hcb := CellsAt.whole hB1
  have HS1 := Lib.hid (HS.out.keep0 hm1)
  generalize w.heap.size = b4 at *
  clear hB1
  go_wp2
  go_loopw [9, 10] (BinRel l t w1) (fun i j _ => (intOf j).toNat - (intOf i).toNat)
  case atStart => exact ⟨0, l.length, rfl, rfl, by omega, by omega, fun q h1 h2 => by omega, fun h => by omega, Mod.refl _ _⟩
  case round =>
    rename World => wr
    obtain ⟨i, j, rfl, rfl, hij, hjn, hlo, hhi, hm⟩ := hrel
    have HLO := Lib.hid hlo
    have HHI := Lib.hid hhi
    clear hlo hhi
    have hcr := hcb.keep hm id
    by_cases hlt : i < j
    · have hz : (i : Int) < (j : Int) := by omega
      obtain ⟨q, hh⟩ : ∃ q, (i + j) / 2 = q := ⟨_, rfl⟩
      have hil : i ≤ q := by omega
      have hhj : q < j := by omega
      have hql : q < l.length := by omega
      have hcv1 : IntKind.u64.wrap ((i : Int) + (j : Int)) = ((i + j : Nat) : Int) := by simp [IntKind.wrap, IntKind.bits, IntKind.signed]; omega
      have HCV1 := Lib.hid hcv1
      clear hcv1
      go_upto_region 4 with (fail)
      refine wp_region_seq [3, 3, 3, 3, 3, 3, 3] (fun _ => True) (by rfl) (by rfl) trivial ?_
      simp only [List.zip_cons_cons, List.zip_nil_right]
      refine wpPi_move _ rfl rfl ?_
      simp only [pl, pn, el, ec, sz, ss, gz, gs, if_true, if_false, Bool.false_eq_true, Bool.not_true, Bool.not_false, Nat.add_zero, Nat.zero_add, Nat.reduceAdd]
      refine wpPi_move _ rfl rfl ?_
      simp only [pl, pn, el, ec, sz, ss, gz, gs, if_true, if_false, Bool.false_eq_true, Bool.not_true, Bool.not_false, Nat.add_zero, Nat.zero_add, Nat.reduceAdd]
      refine wpPi_addR _ _ _ _ (i : Int) (j : Int) ((i + j : Nat) : Int) rfl rfl rfl rfl (by omega) (by omega) (by omega) ?_
      simp only [pl, pn, el, ec, sz, ss, gz, gs, if_true, if_false, Bool.false_eq_true, Bool.not_true, Bool.not_false, Nat.add_zero, Nat.zero_add, Nat.reduceAdd]
      refine wpPi_any (v := .int .u64 ((i + j : Nat) : Int)) rfl (fun w' => exec_conv_uint 3 92 _ _ rfl rfl (by kernel_rfl) Try.underlying92 _ (by rw [Int.natCast_add]; exact HCV1.out)) ?_
      simp only [pl, pn, el, ec, sz, ss, gz, gs, if_true, if_false, Bool.false_eq_true, Bool.not_true, Bool.not_false, Nat.add_zero, Nat.zero_add, Nat.reduceAdd]
      refine wpPi_any (v := .int .u64 (q : Int)) rfl (fun w' => by rw [← hh]; exact exec_shr64 _ _ _ _ (i + j) .u64 1 rfl rfl rfl (by omega) (by omega)) ?_
      simp only [pl, pn, el, ec, sz, ss, gz, gs, if_true, if_false, Bool.false_eq_true, Bool.not_true, Bool.not_false, Nat.add_zero, Nat.zero_add, Nat.reduceAdd]
      refine wpPi_any (v := .int .i64 (q : Int)) rfl (fun w' => exec_conv_int 92 3 _ _ rfl rfl (by kernel_rfl) Try.underlying3 _ (wrap_in (by omega) (by omega))) ?_
      simp only [pl, pn, el, ec, sz, ss, gz, gs, if_true, if_false, Bool.false_eq_true, Bool.not_true, Bool.not_false, Nat.add_zero, Nat.zero_add, Nat.reduceAdd]
      refine wpPi_assign _ rfl rfl ?_
      simp only [pl, pn, el, ec, sz, ss, gz, gs, if_true, if_false, Bool.false_eq_true, Bool.not_true, Bool.not_false, Nat.add_zero, Nat.zero_add, Nat.reduceAdd]
      refine wpPi_nil ?_
      obtain ⟨_, _, hv, -, hat⟩ := Sl.at (HS1.out.keep0 hm)
      cases hv
      obtain ⟨b, off, rfl, -, -, hc⟩ := hat q hql
      obtain ⟨_, -, ⟨rfl, hok⟩, hc⟩ := hc q hql
      have hys := leafCells_size hok
      clear hat
      by_cases hless : l[q].way < t
      · have hcm : cmpI l[q].way t < 0 := (cmpI_neg _ _).2 hless
        have hstep : ∀ q' (_ : q' < q + 1) (h : q' < l.length), l[q'].way < t := fun q' h1 h2 => by
          rcases Nat.lt_or_ge q' q with h3 | h3
          · have := List.pairwise_iff_getElem.1 HP.out.rise q' q h2 hql h3
            exact List.lt_trans this hless
          · obtain rfl : q' = q := by omega
            exact hless
        have HST := Lib.hid hstep
        clear hstep hless
        generalize l[q] = y at *
        go_upto_region 5 with (fail)
        have hS : Mod NoB wr wr.drew := (Mod.refl _ _).drew
        refine wp_region_pi [(0, 3), (1, 3), (2, 3), (3, 3), (4, 0), (5, 0), (6, 1), (7, 3)] [] (fun w' => Mod NoB wr w') (by kernel_rfl) (by kernel_rfl) (by kernel_rfl) (by kernel_rfl) (fun _ _ _ _ hd h => ⟨hd.trans h.1, h.2⟩) hS ?_
        simp only [List.map_cons, List.map_nil, List.getD_cons_zero, List.getD_cons_succ]
        refine wpPi_move _ rfl rfl ?_
        simp only [pl, pn, el, ec, sz, ss, gz, gs, if_true, if_false, Bool.false_eq_true, Bool.not_true, Bool.not_false, Nat.add_zero, Nat.zero_add, Nat.reduceAdd]
        refine wpPi_move _ rfl rfl ?_
        simp only [pl, pn, el, ec, sz, ss, gz, gs, if_true, if_false, Bool.false_eq_true, Bool.not_true, Bool.not_false, Nat.add_zero, Nat.zero_add, Nat.reduceAdd]
        refine wpPi_move _ rfl rfl ?_
        simp only [pl, pn, el, ec, sz, ss, gz, gs, if_true, if_false, Bool.false_eq_true, Bool.not_true, Bool.not_false, Nat.add_zero, Nat.zero_add, Nat.reduceAdd]
        refine wpPi_index _ _ _ _ _ _ _ _ _ rfl rfl rfl rfl Try.underlying58 (n := 65) (by kernel_rfl) hql ?_
        simp only [pl, pn, el, ec, sz, ss, gz, gs, if_true, if_false, Bool.false_eq_true, Bool.not_true, Bool.not_false, Nat.add_zero, Nat.zero_add, Nat.reduceAdd]
        refine wpPi_val rfl (fun w' hS => exec_loadA 63 _ (by rfl) b (off + q * 65) (by rfl) (leafCells y) (hc.keep hS id) _ Try.underlying63 rfl 65 (by kernel_rfl) hys) ?_
        simp only [pl, pn, el, ec, sz, ss, gz, gs, if_true, if_false, Bool.false_eq_true, Bool.not_true, Bool.not_false, Nat.add_zero, Nat.zero_add, Nat.reduceAdd]
        refine wpPi_val rfl (fun w' hS => exec_loadA 38 _ (by rfl) b4 0 (by rfl) C (hcr.keep hS id) _ Try.underlying38 rfl 32 (by kernel_rfl) h2) ?_
        simp only [pl, pn, el, ec, sz, ss, gz, gs, if_true, if_false, Bool.false_eq_true, Bool.not_true, Bool.not_false, Nat.add_zero, Nat.zero_add, Nat.reduceAdd]
        refine wpPi_do rfl (fun K hK => ?_)
        refine wp_enterQ (run_callV 30 _ [.tmp 28, .tmp 29] _ #[] rfl rfl eg_differF [.agg (leafCells y), .agg C] rfl _) (by rw [← HC.out]; exact differF_any y t hok ht _) ?_
        rintro e w2 ⟨rfl, hm2⟩
        have hS2 := hS.trans0 hm2
        refine ⟨_, rfl, hK _ _ hS2 ?_⟩
        clear hK K
        try simp only [pl, pn, el, ec, sz, ss, gz, gs, if_true, if_false, Bool.false_eq_true, Bool.not_true, Bool.not_false, Nat.add_zero, Nat.zero_add, Nat.reduceAdd]
        refine wpPi_cmp _ _ _ _ _ _ _ _ rfl rfl rfl rfl rfl true (decide_eq_true hcm) ?_
        simp only [pl, pn, el, ec, sz, ss, gz, gs, if_true, if_false, Bool.false_eq_true, Bool.not_true, Bool.not_false, Nat.add_zero, Nat.zero_add, Nat.reduceAdd]
        refine wpPi_nil ?_
        have hMr := hm.trans0 hS2
        clear hm hS hS2 hm2 hc
        go_wp2
        go_roundw
        case rel => exact ⟨q + 1, j, by go_num, rfl, by omega, hjn, HST.out, HHI.out, hMr⟩
        case measure => simp [intOf]; omega
      · have hcm : ¬ cmpI l[q].way t < 0 := fun h => hless ((cmpI_neg _ _).1 h)
        have hstep : ∀ h : q < l.length, ¬ l[q].way < t := fun _ => hless
        have HST := Lib.hid hstep
        clear hstep hless
        generalize l[q] = y at hcm hok hc hys
        go_upto_region 5 with (fail)
        have hS : Mod NoB wr wr.drew := (Mod.refl _ _).drew
        refine wp_region_pi [(0, 3), (1, 3), (2, 3), (3, 3), (4, 0), (5, 0), (6, 1), (7, 3)] [] (fun w' => Mod NoB wr w') (by kernel_rfl) (by kernel_rfl) (by kernel_rfl) (by kernel_rfl) (fun _ _ _ _ hd h => ⟨hd.trans h.1, h.2⟩) hS ?_
        simp only [List.map_cons, List.map_nil, List.getD_cons_zero, List.getD_cons_succ]
        refine wpPi_move _ rfl rfl ?_
        simp only [pl, pn, el, ec, sz, ss, gz, gs, if_true, if_false, Bool.false_eq_true, Bool.not_true, Bool.not_false, Nat.add_zero, Nat.zero_add, Nat.reduceAdd]
        refine wpPi_move _ rfl rfl ?_
        simp only [pl, pn, el, ec, sz, ss, gz, gs, if_true, if_false, Bool.false_eq_true, Bool.not_true, Bool.not_false, Nat.add_zero, Nat.zero_add, Nat.reduceAdd]
        refine wpPi_move _ rfl rfl ?_
        simp only [pl, pn, el, ec, sz, ss, gz, gs, if_true, if_false, Bool.false_eq_true, Bool.not_true, Bool.not_false, Nat.add_zero, Nat.zero_add, Nat.reduceAdd]
        refine wpPi_index _ _ _ _ _ _ _ _ _ rfl rfl rfl rfl Try.underlying58 (n := 65) (by kernel_rfl) hql ?_
        simp only [pl, pn, el, ec, sz, ss, gz, gs, if_true, if_false, Bool.false_eq_true, Bool.not_true, Bool.not_false, Nat.add_zero, Nat.zero_add, Nat.reduceAdd]
        refine wpPi_val rfl (fun w' hS => exec_loadA 63 _ (by rfl) b (off + q * 65) (by rfl) (leafCells y) (hc.keep hS id) _ Try.underlying63 rfl 65 (by kernel_rfl) hys) ?_
        simp only [pl, pn, el, ec, sz, ss, gz, gs, if_true, if_false, Bool.false_eq_true, Bool.not_true, Bool.not_false, Nat.add_zero, Nat.zero_add, Nat.reduceAdd]
        refine wpPi_val rfl (fun w' hS => exec_loadA 38 _ (by rfl) b4 0 (by rfl) C (hcr.keep hS id) _ Try.underlying38 rfl 32 (by kernel_rfl) h2) ?_
        simp only [pl, pn, el, ec, sz, ss, gz, gs, if_true, if_false, Bool.false_eq_true, Bool.not_true, Bool.not_false, Nat.add_zero, Nat.zero_add, Nat.reduceAdd]
        refine wpPi_do rfl (fun K hK => ?_)
        refine wp_enterQ (run_callV 30 _ [.tmp 28, .tmp 29] _ #[] rfl rfl eg_differF [.agg (leafCells y), .agg C] rfl _) (by rw [← HC.out]; exact differF_any y t hok ht _) ?_
        rintro e w2 ⟨rfl, hm2⟩
        have hS2 := hS.trans0 hm2
        refine ⟨_, rfl, hK _ _ hS2 ?_⟩
        clear hK K
        try simp only [pl, pn, el, ec, sz, ss, gz, gs, if_true, if_false, Bool.false_eq_true, Bool.not_true, Bool.not_false, Nat.add_zero, Nat.zero_add, Nat.reduceAdd]
        refine wpPi_cmp _ _ _ _ _ _ _ _ rfl rfl rfl rfl rfl false (decide_eq_false hcm) ?_
        simp only [pl, pn, el, ec, sz, ss, gz, gs, if_true, if_false, Bool.false_eq_true, Bool.not_true, Bool.not_false, Nat.add_zero, Nat.zero_add, Nat.reduceAdd]
        refine wpPi_nil ?_
        have hMr := hm.trans0 hS2
        clear hm hS hS2 hm2 hc
        go_wp2
        go_roundw
        case rel => exact ⟨i, q, rfl, rfl, hil, by omega, HLO.out, HST.out, hMr⟩
        case measure => simp [intOf]; omega
    · have hz : ¬ (i : Int) < (j : Int) := by omega
      obtain rfl : i = j := by omega
      by_cases hil : i < l.length
      · have hz2 : (i : Int) < (l.length : Int) := by omega
        obtain ⟨_, _, hv, -, hat⟩ := Sl.at (HS1.out.keep0 hm)
        cases hv
        obtain ⟨b, off, rfl, -, -, hc⟩ := hat i hil
        obtain ⟨_, -, ⟨rfl, hok⟩, hc⟩ := hc i hil
        have hys := leafCells_size hok
        clear hat
        by_cases heq : l[i].way = t
        · have hcm : cmpI l[i].way t = 0 := (cmpI_zero _ _).2 heq
          have hout : ∃ h : i < l.length, l[i].way = t := ⟨hil, heq⟩
          have HO := Lib.hid hout
          clear heq hout
          generalize l[i] = y at hcm hok hc hys
          go_upto_region 8 with (fail)
          have hS : Mod NoB wr wr.drew := (Mod.refl _ _).drew
          refine wp_region_pi [(0, 3), (1, 3), (2, 3), (3, 3), (4, 3), (5, 3), (6, 3), (7, 3), (8, 3), (9, 0), (10, 0), (11, 1), (12, 3), (13, 3), (14, 3), (15, 3)] [] (fun w' => Mod NoB wr w') (by kernel_rfl) (by kernel_rfl) (by kernel_rfl) (by kernel_rfl) (fun _ _ _ _ hd h => ⟨hd.trans h.1, h.2⟩) hS ?_
          simp only [List.map_cons, List.map_nil, List.getD_cons_zero, List.getD_cons_succ]
          refine wpPi_move _ rfl rfl ?_
          simp only [pl, pn, el, ec, sz, ss, gz, gs, if_true, if_false, Bool.false_eq_true, Bool.not_true, Bool.not_false, Nat.add_zero, Nat.zero_add, Nat.reduceAdd]
          refine wpPi_move _ rfl rfl ?_
          simp only [pl, pn, el, ec, sz, ss, gz, gs, if_true, if_false, Bool.false_eq_true, Bool.not_true, Bool.not_false, Nat.add_zero, Nat.zero_add, Nat.reduceAdd]
          refine wpPi_move _ rfl rfl ?_
          simp only [pl, pn, el, ec, sz, ss, gz, gs, if_true, if_false, Bool.false_eq_true, Bool.not_true, Bool.not_false, Nat.add_zero, Nat.zero_add, Nat.reduceAdd]
          refine wpPi_cmp _ _ _ _ _ _ _ _ rfl rfl rfl rfl rfl true (decide_eq_true hz2) ?_
          simp only [pl, pn, el, ec, sz, ss, gz, gs, if_true, if_false, Bool.false_eq_true, Bool.not_true, Bool.not_false, Nat.add_zero, Nat.zero_add, Nat.reduceAdd]
          refine wpPi_move _ rfl rfl ?_
          simp only [pl, pn, el, ec, sz, ss, gz, gs, if_true, if_false, Bool.false_eq_true, Bool.not_true, Bool.not_false, Nat.add_zero, Nat.zero_add, Nat.reduceAdd]
          refine wpPi_move _ rfl rfl ?_
          simp only [pl, pn, el, ec, sz, ss, gz, gs, if_true, if_false, Bool.false_eq_true, Bool.not_true, Bool.not_false, Nat.add_zero, Nat.zero_add, Nat.reduceAdd]
          refine wpPi_move _ rfl rfl ?_
          simp only [pl, pn, el, ec, sz, ss, gz, gs, if_true, if_false, Bool.false_eq_true, Bool.not_true, Bool.not_false, Nat.add_zero, Nat.zero_add, Nat.reduceAdd]
          refine wpPi_move _ rfl rfl ?_
          simp only [pl, pn, el, ec, sz, ss, gz, gs, if_true, if_false, Bool.false_eq_true, Bool.not_true, Bool.not_false, Nat.add_zero, Nat.zero_add, Nat.reduceAdd]
          refine wpPi_index _ _ _ _ _ _ _ _ _ rfl rfl rfl rfl Try.underlying58 (n := 65) (by kernel_rfl) hil ?_
          simp only [pl, pn, el, ec, sz, ss, gz, gs, if_true, if_false, Bool.false_eq_true, Bool.not_true, Bool.not_false, Nat.add_zero, Nat.zero_add, Nat.reduceAdd]
          refine wpPi_val rfl (fun w' hS => exec_loadA 63 _ (by rfl) b (off + i * 65) (by rfl) (leafCells y) (hc.keep hS id) _ Try.underlying63 rfl 65 (by kernel_rfl) hys) ?_
          simp only [pl, pn, el, ec, sz, ss, gz, gs, if_true, if_false, Bool.false_eq_true, Bool.not_true, Bool.not_false, Nat.add_zero, Nat.zero_add, Nat.reduceAdd]
          refine wpPi_val rfl (fun w' hS => exec_loadA 38 _ (by rfl) b4 0 (by rfl) C (hcr.keep hS id) _ Try.underlying38 rfl 32 (by kernel_rfl) h2) ?_
          simp only [pl, pn, el, ec, sz, ss, gz, gs, if_true, if_false, Bool.false_eq_true, Bool.not_true, Bool.not_false, Nat.add_zero, Nat.zero_add, Nat.reduceAdd]
          refine wpPi_do rfl (fun K hK => ?_)
          refine wp_enterQ (run_callV 30 _ [.tmp 44, .tmp 45] _ #[] rfl rfl eg_differF [.agg (leafCells y), .agg C] rfl _) (by rw [← HC.out]; exact differF_any y t hok ht _) ?_
          rintro e w2 ⟨rfl, hm2⟩
          have hS2 := hS.trans0 hm2
          refine ⟨_, rfl, hK _ _ hS2 ?_⟩
          clear hK K
          try simp only [pl, pn, el, ec, sz, ss, gz, gs, if_true, if_false, Bool.false_eq_true, Bool.not_true, Bool.not_false, Nat.add_zero, Nat.zero_add, Nat.reduceAdd]
          refine wpPi_cmp _ _ _ _ _ _ _ _ rfl rfl rfl rfl rfl true (decide_eq_true hcm) ?_
          simp only [pl, pn, el, ec, sz, ss, gz, gs, if_true, if_false, Bool.false_eq_true, Bool.not_true, Bool.not_false, Nat.add_zero, Nat.zero_add, Nat.reduceAdd]
          refine wpPi_pick _ _ _ _ rfl rfl rfl ?_
          simp only [pl, pn, el, ec, sz, ss, gz, gs, if_true, if_false, Bool.false_eq_true, Bool.not_true, Bool.not_false, Nat.add_zero, Nat.zero_add, Nat.reduceAdd]
          refine wpPi_assign _ rfl rfl ?_
          simp only [pl, pn, el, ec, sz, ss, gz, gs, if_true, if_false, Bool.false_eq_true, Bool.not_true, Bool.not_false, Nat.add_zero, Nat.zero_add, Nat.reduceAdd]
          refine wpPi_assign _ rfl rfl ?_
          simp only [pl, pn, el, ec, sz, ss, gz, gs, if_true, if_false, Bool.false_eq_true, Bool.not_true, Bool.not_false, Nat.add_zero, Nat.zero_add, Nat.reduceAdd]
          refine wpPi_nil ?_
          have hMr := hm1.trans0 (hm.trans0 hS2)
          clear hm hS hS2 hm2 hc
          go_wp2
          go_ret2
          exact ⟨i, true, rfl, fun _ => HO.out, (fun h => by cases h), hMr⟩
        · have hcm : ¬ cmpI l[i].way t = 0 := fun h => heq ((cmpI_zero _ _).1 h)
          have hout : ∀ x ∈ l, x.way ≠ t := fun x hx e => by
            obtain ⟨q, hq, rfl⟩ := List.getElem_of_mem hx
            rcases Nat.lt_trichotomy q i with h3 | h3 | h3
            · have := HLO.out q h3 hq
              rw [e] at this; exact List.lt_irrefl _ this
            · subst h3; exact heq e
            · have h4 := List.pairwise_iff_getElem.1 HP.out.rise i q hil hq h3
              rw [e] at h4
              exact HHI.out hil h4
          have HO := Lib.hid hout
          clear heq hout
          generalize l[i] = y at hcm hok hc hys
          go_upto_region 8 with (fail)
          have hS : Mod NoB wr wr.drew := (Mod.refl _ _).drew
          refine wp_region_pi [(0, 3), (1, 3), (2, 3), (3, 3), (4, 3), (5, 3), (6, 3), (7, 3), (8, 3), (9, 0), (10, 0), (11, 1), (12, 3), (13, 3), (14, 3), (15, 3)] [] (fun w' => Mod NoB wr w') (by kernel_rfl) (by kernel_rfl) (by kernel_rfl) (by kernel_rfl) (fun _ _ _ _ hd h => ⟨hd.trans h.1, h.2⟩) hS ?_
          simp only [List.map_cons, List.map_nil, List.getD_cons_zero, List.getD_cons_succ]
          refine wpPi_move _ rfl rfl ?_
          simp only [pl, pn, el, ec, sz, ss, gz, gs, if_true, if_false, Bool.false_eq_true, Bool.not_true, Bool.not_false, Nat.add_zero, Nat.zero_add, Nat.reduceAdd]
          refine wpPi_move _ rfl rfl ?_
          simp only [pl, pn, el, ec, sz, ss, gz, gs, if_true, if_false, Bool.false_eq_true, Bool.not_true, Bool.not_false, Nat.add_zero, Nat.zero_add, Nat.reduceAdd]
          refine wpPi_move _ rfl rfl ?_
          simp only [pl, pn, el, ec, sz, ss, gz, gs, if_true, if_false, Bool.false_eq_true, Bool.not_true, Bool.not_false, Nat.add_zero, Nat.zero_add, Nat.reduceAdd]
          refine wpPi_cmp _ _ _ _ _ _ _ _ rfl rfl rfl rfl rfl true (decide_eq_true hz2) ?_
          simp only [pl, pn, el, ec, sz, ss, gz, gs, if_true, if_false, Bool.false_eq_true, Bool.not_true, Bool.not_false, Nat.add_zero, Nat.zero_add, Nat.reduceAdd]
          refine wpPi_move _ rfl rfl ?_
          simp only [pl, pn, el, ec, sz, ss, gz, gs, if_true, if_false, Bool.false_eq_true, Bool.not_true, Bool.not_false, Nat.add_zero, Nat.zero_add, Nat.reduceAdd]
          refine wpPi_move _ rfl rfl ?_
          simp only [pl, pn, el, ec, sz, ss, gz, gs, if_true, if_false, Bool.false_eq_true, Bool.not_true, Bool.not_false, Nat.add_zero, Nat.zero_add, Nat.reduceAdd]
          refine wpPi_move _ rfl rfl ?_
          simp only [pl, pn, el, ec, sz, ss, gz, gs, if_true, if_false, Bool.false_eq_true, Bool.not_true, Bool.not_false, Nat.add_zero, Nat.zero_add, Nat.reduceAdd]
          refine wpPi_move _ rfl rfl ?_
          simp only [pl, pn, el, ec, sz, ss, gz, gs, if_true, if_false, Bool.false_eq_true, Bool.not_true, Bool.not_false, Nat.add_zero, Nat.zero_add, Nat.reduceAdd]
          refine wpPi_index _ _ _ _ _ _ _ _ _ rfl rfl rfl rfl Try.underlying58 (n := 65) (by kernel_rfl) hil ?_
          simp only [pl, pn, el, ec, sz, ss, gz, gs, if_true, if_false, Bool.false_eq_true, Bool.not_true, Bool.not_false, Nat.add_zero, Nat.zero_add, Nat.reduceAdd]
          refine wpPi_val rfl (fun w' hS => exec_loadA 63 _ (by rfl) b (off + i * 65) (by rfl) (leafCells y) (hc.keep hS id) _ Try.underlying63 rfl 65 (by kernel_rfl) hys) ?_
          simp only [pl, pn, el, ec, sz, ss, gz, gs, if_true, if_false, Bool.false_eq_true, Bool.not_true, Bool.not_false, Nat.add_zero, Nat.zero_add, Nat.reduceAdd]
          refine wpPi_val rfl (fun w' hS => exec_loadA 38 _ (by rfl) b4 0 (by rfl) C (hcr.keep hS id) _ Try.underlying38 rfl 32 (by kernel_rfl) h2) ?_
          simp only [pl, pn, el, ec, sz, ss, gz, gs, if_true, if_false, Bool.false_eq_true, Bool.not_true, Bool.not_false, Nat.add_zero, Nat.zero_add, Nat.reduceAdd]
          refine wpPi_do rfl (fun K hK => ?_)
          refine wp_enterQ (run_callV 30 _ [.tmp 44, .tmp 45] _ #[] rfl rfl eg_differF [.agg (leafCells y), .agg C] rfl _) (by rw [← HC.out]; exact differF_any y t hok ht _) ?_
          rintro e w2 ⟨rfl, hm2⟩
          have hS2 := hS.trans0 hm2
          refine ⟨_, rfl, hK _ _ hS2 ?_⟩
          clear hK K
          try simp only [pl, pn, el, ec, sz, ss, gz, gs, if_true, if_false, Bool.false_eq_true, Bool.not_true, Bool.not_false, Nat.add_zero, Nat.zero_add, Nat.reduceAdd]
          refine wpPi_cmp _ _ _ _ _ _ _ _ rfl rfl rfl rfl rfl false (decide_eq_false hcm) ?_
          simp only [pl, pn, el, ec, sz, ss, gz, gs, if_true, if_false, Bool.false_eq_true, Bool.not_true, Bool.not_false, Nat.add_zero, Nat.zero_add, Nat.reduceAdd]
          refine wpPi_pick _ _ _ _ rfl rfl rfl ?_
          simp only [pl, pn, el, ec, sz, ss, gz, gs, if_true, if_false, Bool.false_eq_true, Bool.not_true, Bool.not_false, Nat.add_zero, Nat.zero_add, Nat.reduceAdd]
          refine wpPi_assign _ rfl rfl ?_
          simp only [pl, pn, el, ec, sz, ss, gz, gs, if_true, if_false, Bool.false_eq_true, Bool.not_true, Bool.not_false, Nat.add_zero, Nat.zero_add, Nat.reduceAdd]
          refine wpPi_assign _ rfl rfl ?_
          simp only [pl, pn, el, ec, sz, ss, gz, gs, if_true, if_false, Bool.false_eq_true, Bool.not_true, Bool.not_false, Nat.add_zero, Nat.zero_add, Nat.reduceAdd]
          refine wpPi_nil ?_
          have hMr := hm1.trans0 (hm.trans0 hS2)
          clear hm hS hS2 hm2 hc
          go_wp2
          go_ret2
          exact ⟨i, false, rfl, (fun h => by cases h), fun _ => HO.out, hMr⟩
      · have hz2 : ¬ (i : Int) < (l.length : Int) := by omega
        have hout : ∀ x ∈ l, x.way ≠ t := fun x hx e => by
          obtain ⟨q, hq, rfl⟩ := List.getElem_of_mem hx
          have := HLO.out q (by omega) hq
          rw [e] at this; exact List.lt_irrefl _ this
        have HO := Lib.hid hout
        clear hout
        go_upto_region 8 with (fail)
        have hS : Mod NoB wr wr.drew := (Mod.refl _ _).drew
        refine wp_region_pi [(0, 3), (1, 3), (2, 3), (3, 3), (4, 3), (5, 3), (6, 3), (7, 3), (8, 3), (9, 0), (10, 0), (11, 1), (12, 3), (13, 3), (14, 3), (15, 3)] [] (fun w' => Mod NoB wr w') (by kernel_rfl) (by kernel_rfl) (by kernel_rfl) (by kernel_rfl) (fun _ _ _ _ hd h => ⟨hd.trans h.1, h.2⟩) hS ?_
        simp only [List.map_cons, List.map_nil, List.getD_cons_zero, List.getD_cons_succ]
        refine wpPi_move _ rfl rfl ?_
        simp only [pl, pn, el, ec, sz, ss, gz, gs, if_true, if_false, Bool.false_eq_true, Bool.not_true, Bool.not_false, Nat.add_zero, Nat.zero_add, Nat.reduceAdd]
        refine wpPi_move _ rfl rfl ?_
        simp only [pl, pn, el, ec, sz, ss, gz, gs, if_true, if_false, Bool.false_eq_true, Bool.not_true, Bool.not_false, Nat.add_zero, Nat.zero_add, Nat.reduceAdd]
        refine wpPi_move _ rfl rfl ?_
        simp only [pl, pn, el, ec, sz, ss, gz, gs, if_true, if_false, Bool.false_eq_true, Bool.not_true, Bool.not_false, Nat.add_zero, Nat.zero_add, Nat.reduceAdd]
        refine wpPi_cmp _ _ _ _ _ _ _ _ rfl rfl rfl rfl rfl false (decide_eq_false hz2) ?_
        simp only [pl, pn, el, ec, sz, ss, gz, gs, if_true, if_false, Bool.false_eq_true, Bool.not_true, Bool.not_false, Nat.add_zero, Nat.zero_add, Nat.reduceAdd]
        refine wpPi_move _ rfl rfl ?_
        simp only [pl, pn, el, ec, sz, ss, gz, gs, if_true, if_false, Bool.false_eq_true, Bool.not_true, Bool.not_false, Nat.add_zero, Nat.zero_add, Nat.reduceAdd]
        refine wpPi_skip rfl ?_
        simp only [pl, pn, el, ec, sz, ss, gz, gs, if_true, if_false, Bool.false_eq_true, Bool.not_true, Bool.not_false, Nat.add_zero, Nat.zero_add, Nat.reduceAdd]
        refine wpPi_skip rfl ?_
        simp only [pl, pn, el, ec, sz, ss, gz, gs, if_true, if_false, Bool.false_eq_true, Bool.not_true, Bool.not_false, Nat.add_zero, Nat.zero_add, Nat.reduceAdd]
        refine wpPi_skip rfl ?_
        simp only [pl, pn, el, ec, sz, ss, gz, gs, if_true, if_false, Bool.false_eq_true, Bool.not_true, Bool.not_false, Nat.add_zero, Nat.zero_add, Nat.reduceAdd]
        refine wpPi_skip rfl ?_
        simp only [pl, pn, el, ec, sz, ss, gz, gs, if_true, if_false, Bool.false_eq_true, Bool.not_true, Bool.not_false, Nat.add_zero, Nat.zero_add, Nat.reduceAdd]
        refine wpPi_skip0 rfl ?_
        simp only [pl, pn, el, ec, sz, ss, gz, gs, if_true, if_false, Bool.false_eq_true, Bool.not_true, Bool.not_false, Nat.add_zero, Nat.zero_add, Nat.reduceAdd]
        refine wpPi_skip0 rfl ?_
        simp only [pl, pn, el, ec, sz, ss, gz, gs, if_true, if_false, Bool.false_eq_true, Bool.not_true, Bool.not_false, Nat.add_zero, Nat.zero_add, Nat.reduceAdd]
        refine wpPi_do_skip rfl hS ?_
        simp only [pl, pn, el, ec, sz, ss, gz, gs, if_true, if_false, Bool.false_eq_true, Bool.not_true, Bool.not_false, Nat.add_zero, Nat.zero_add, Nat.reduceAdd]
        refine wpPi_skip rfl ?_
        simp only [pl, pn, el, ec, sz, ss, gz, gs, if_true, if_false, Bool.false_eq_true, Bool.not_true, Bool.not_false, Nat.add_zero, Nat.zero_add, Nat.reduceAdd]
        refine wpPi_pick _ _ _ _ rfl rfl rfl ?_
        simp only [pl, pn, el, ec, sz, ss, gz, gs, if_true, if_false, Bool.false_eq_true, Bool.not_true, Bool.not_false, Nat.add_zero, Nat.zero_add, Nat.reduceAdd]
        refine wpPi_assign _ rfl rfl ?_
        simp only [pl, pn, el, ec, sz, ss, gz, gs, if_true, if_false, Bool.false_eq_true, Bool.not_true, Bool.not_false, Nat.add_zero, Nat.zero_add, Nat.reduceAdd]
        refine wpPi_assign _ rfl rfl ?_
        simp only [pl, pn, el, ec, sz, ss, gz, gs, if_true, if_false, Bool.false_eq_true, Bool.not_true, Bool.not_false, Nat.add_zero, Nat.zero_add, Nat.reduceAdd]
        refine wpPi_nil ?_
        have hMr := hm1.trans0 (hm.trans0 hS)
        clear hm hS
        go_wp2
        go_ret2
        exact ⟨i, false, rfl, (fun h => by cases h), fun _ => HO.out, hMr⟩
end Go.Proofs.Ytchkikmmcmjcgaa
