/- What the statement TreeRoots needs, part 7. -/
import Derived.Test.YtchkikmmcmjcgaaGreatTreeRootsP6
/- The document's tree: Check. (Printed by RtrG.gen.py.) -/
namespace Go.Proofs.YtchkikmmcmjcgaaGreat
set_option linter.unusedSimpArgs false
set_option linter.unusedVariables false
set_option linter.unnecessarySimpa false
set_option linter.unusedSectionVars false
open Go.RowKit Go.Shelf

theorem fo_63_0 : fieldOff Tryz.prog 63 0 = some 0 := by kernel_rfl
def ChkOut {β : Type} (F : Leaf → β) (ls : List Leaf) (w0 : World) (i : Value) (w : World) : Prop := ∃ k : Nat, k ≤ ls.length ∧ i = .int .i64 k ∧ (∀ p q (hp : p < ls.length) (hq : q < ls.length), q < k → p < q → F ls[p] ≠ F ls[q]) ∧ Mod NoB w0 w
def ChkIn {β : Type} (F : Leaf → β) (ls : List Leaf) (k : Nat) (w0 : World) (i : Value) (w : World) : Prop := ∃ j : Nat, j ≤ k ∧ i = .int .i64 j ∧ (∀ p (hp : p < ls.length) (hk : k < ls.length), p < j → F ls[p] ≠ F ls[k]) ∧ Mod NoB w0 w
theorem chkIn_succ {β : Type} {F : Leaf → β} {ls : List Leaf} {k j : Nat} (hk : k < ls.length) (h : ∀ p (hp : p < ls.length) (hk : k < ls.length), p < j → F ls[p] ≠ F ls[k]) (hj : j < ls.length) (e : ¬ F ls[j] = F ls[k]) : ∀ p (hp : p < ls.length) (hk : k < ls.length), p < j + 1 → F ls[p] ≠ F ls[k] := fun p hp hk' h1 => by
  rcases Nat.lt_or_ge p j with h2 | h2
  · exact h p hp hk' h2
  · obtain rfl : p = j := by omega
    exact e
theorem chkOut_succ {β : Type} {F : Leaf → β} {ls : List Leaf} {k : Nat} (h : ∀ p q (hp : p < ls.length) (hq : q < ls.length), q < k → p < q → F ls[p] ≠ F ls[q]) (hk : k < ls.length) (h2 : ∀ p (hp : p < ls.length) (hk : k < ls.length), p < k → F ls[p] ≠ F ls[k]) : ∀ p q (hp : p < ls.length) (hq : q < ls.length), q < k + 1 → p < q → F ls[p] ≠ F ls[q] := fun p q hp hq h1 h3 => by
  rcases Nat.lt_or_ge q k with h4 | h4
  · exact h p q hp hq h4 h3
  · obtain rfl : q = k := by omega
    exact h2 p hp hk h3
theorem nodup_all {β : Type} {F : Leaf → β} {ls : List Leaf} (h : ∀ p q (hp : p < ls.length) (hq : q < ls.length), q < ls.length → p < q → F ls[p] ≠ F ls[q]) : (ls.map F).Nodup := by
  unfold List.Nodup
  rw [List.pairwise_map, List.pairwise_iff_getElem]
  exact fun i j hi hj hij => h i j hi hj hj hij
theorem not_nodup {β : Type} {F : Leaf → β} {ls : List Leaf} {p q : Nat} (hp : p < ls.length) (hq : q < ls.length) (h : p < q) (e : F ls[p] = F ls[q]) : ¬ (ls.map F).Nodup := by
  unfold List.Nodup
  rw [List.pairwise_map, List.pairwise_iff_getElem]
  exact fun k => k p q hp hq h e
theorem keys_leaves (l : List Ent) : (leavesE l).map (fun z => z.key) = l.map (·.1) := by simp [leavesE, leafOf, List.map_map, Function.comp_def]
section
variable {l : List Ent} {ls : List Leaf}
theorem chk_key (hlen : l.length ≤ 4096) (hls : ls = leavesE l) {p q : Nat} (hp : p < ls.length) (hq : q < ls.length) (h : p < q) (e : ls[p].key = ls[q].key) : chkE l = 19 := by
  subst hls
  have := not_nodup (F := fun z : Leaf => z.key) hp hq h e
  rw [keys_leaves] at this
  unfold chkE
  rw [if_neg (by omega), if_pos this]
theorem chk_way (hlen : l.length ≤ 4096) (hls : ls = leavesE l) (hk : (ls.map (fun z => z.key)).Nodup) {p q : Nat} (hp : p < ls.length) (hq : q < ls.length) (h : p < q) (e : ls[p].way = ls[q].way) : chkE l = 9 := by
  subst hls
  have := not_nodup (F := fun z : Leaf => z.way) hp hq h e
  rw [keys_leaves] at hk
  unfold chkE
  rw [if_neg (by omega), if_neg (fun h => h hk), if_pos this]
theorem chk_ok (hlen : l.length ≤ 4096) (hls : ls = leavesE l) (hk : (ls.map (fun z => z.key)).Nodup) (hw : (ls.map (fun z => z.way)).Nodup) : chkE l = 0 := by
  subst hls
  rw [keys_leaves] at hk
  exact chkE_of hlen hk hw
end
set_option maxRecDepth 10000 in
set_option maxHeartbeats 1000000 in
theorem refCheck_any {own : Bool} {w : World} {G : Nat → Prop} {v : Value} {l : List Ent} (h : Es own w G v l) (hs : Short l) (hlen : l.length ≤ 4096) : Calls Tryz.prog 13 #[v] w (RetM (.int .i64 ((chkE l : Nat) : Int)) w) := by
  have HE := Lib.hid h
  obtain ⟨ad, cap, rfl, hlm, -⟩ := Sl.at h
  clear h
  have hz0 : ¬ ((l.length : Nat) : Int) > 4096 := by omega
  go_enter Tryz.func13, Tryz.ntmps13
  go_upto_region 3 with (fail)
  refine wp_region_seq [3, 1, 3] (fun _ => True) (by rfl) (by rfl) trivial ?_
  simp only [List.zip_cons_cons, List.zip_nil_right]
  refine wpPi_move _ rfl rfl ?_
  simp only [pl, pn, el, ec, sz, ss, gz, gs, if_true, if_false, Bool.false_eq_true, Bool.not_true, Bool.not_false, Nat.add_zero, Nat.zero_add, Nat.reduceAdd]
  refine wpPi_do rfl (fun K hK => ?_)
  refine wp_enterQ (run_call 24 [.tmp 11] _ rfl _ Tryz.func24 rfl (by kernel_rfl) [.slice ad l.length cap] rfl _) (refLeaves_any HE.out hs hlen) ?_
  rintro e w3 ⟨v3, rfl, hg3, hM3⟩
  refine ⟨_, rfl, hK _ _ trivial ?_⟩
  clear hK K
  try simp only [pl, pn, el, ec, sz, ss, gz, gs, if_true, if_false, Bool.false_eq_true, Bool.not_true, Bool.not_false, Nat.add_zero, Nat.zero_add, Nat.reduceAdd]
  refine wpPi_assign _ rfl rfl ?_
  simp only [pl, pn, el, ec, sz, ss, gz, gs, if_true, if_false, Bool.false_eq_true, Bool.not_true, Bool.not_false, Nat.add_zero, Nat.zero_add, Nat.reduceAdd]
  refine wpPi_nil ?_
  have hl3 := gat_ls hg3
  rw [leafS_leaves] at hl3
  have hln : (leavesE l).length = l.length := by simp [leavesE]
  obtain ⟨ls, hls⟩ : ∃ q, q = leavesE l := ⟨_, rfl⟩
  rw [← hls] at hl3 hln
  obtain ⟨ad3, cap3, rfl, hlsm, -⟩ := Sl.at hl3
  have HS := Lib.hid hl3
  have HLS := Lib.hid hls
  clear hg3 hl3 hls HE hz0 hln
  go_wp2
  go_loopw [4] (ChkOut (fun z : Leaf => z.key) ls w3) (fun i _ => ls.length - (intOf i).toNat)
  case atStart => exact ⟨0, by omega, rfl, fun p q _ _ h => by omega, Mod.refl _ _⟩
  case round =>
    rename World => wo
    obtain ⟨k, hk, rfl, hall, hmo⟩ := hrel
    have HALL := Lib.hid hall
    clear hall
    by_cases hlt : k < ls.length
    · have hz : (k : Int) < (ls.length : Int) := by omega
      go_wp2
      go_loopw [5] (ChkIn (fun z : Leaf => z.key) ls k wo) (fun i _ => k - (intOf i).toNat)
      case atStart => exact ⟨0, by omega, rfl, fun p _ _ h => by omega, Mod.refl _ _⟩
      case round =>
        rename World => wq
        obtain ⟨j, hj, rfl, hin, hmi⟩ := hrel
        have HIN := Lib.hid hin
        clear hin
        by_cases hlj0 : j < k
        · have hz2 : (j : Int) < (k : Int) := by omega
          have hlj : j < ls.length := by omega
          obtain ⟨_, _, hv, -, hat⟩ := Sl.at (HS.out.keep0 (hmo.trans0 hmi))
          cases hv
          obtain ⟨b, off, rfl, -, -, hc⟩ := hat k hlt
          obtain ⟨_, -, ⟨rfl, hok1⟩, hc1⟩ := hc j hlj
          obtain ⟨_, -, ⟨rfl, hok2⟩, hc2⟩ := hc k hlt
          have hk1 := leaf_key hc1
          have hk2 := leaf_key hc2
          have hw1 := leaf_way hok1 hc1
          have hw2 := leaf_way hok2 hc2
          have hxl := hok1.1
          have hyl := hok2.1
          rw [Nat.add_zero] at hk1 hk2
          have hxr : (idCells ls[j].way).size = 32 := by rw [idCells_size, hxl]
          have hyr : (idCells ls[k].way).size = 32 := by rw [idCells_size, hyl]
          have HBAD := Lib.hid (fun (e : (fun z : Leaf => z.key) ls[j] = (fun z : Leaf => z.key) ls[k]) => chk_key hlen HLS.out hlj hlt hlj0 e)
          have HNX := Lib.hid (fun (e : ¬ (fun z : Leaf => z.key) ls[j] = (fun z : Leaf => z.key) ls[k]) => chkIn_succ (F := fun z : Leaf => z.key) hlt HIN.out hlj e)
          generalize ls[j] = x at *
          generalize ls[k] = y at *
          clear hat hc hok1 hok2 hc1 hc2
          go_upto_region 10 with (fail)
          have hS : Mod NoB wq wq.drew := (Mod.refl _ _).drew
          by_cases hxy : (fun z : Leaf => z.key) x = (fun z : Leaf => z.key) y
          · have hres := HBAD.out hxy
            have HRES := Lib.hid hres
            simp only at hxy
            clear hres HNX HBAD HIN HALL
            refine wp_region_pi [(0, 3), (1, 3), (2, 3), (3, 3), (4, 0), (5, 3), (6, 3), (7, 3), (8, 3), (9, 0), (10, 0)] [] (fun w' => Mod NoB wq w') (by kernel_rfl) (by kernel_rfl) (by kernel_rfl) (by kernel_rfl) (fun _ _ _ _ hd h => ⟨hd.trans h.1, h.2⟩) hS ?_
            simp only [List.map_cons, List.map_nil, List.getD_cons_zero, List.getD_cons_succ]
            refine wpPi_move _ rfl rfl ?_
            simp only [pl, pn, el, ec, sz, ss, gz, gs, if_true, if_false, Bool.false_eq_true, Bool.not_true, Bool.not_false, Nat.add_zero, Nat.zero_add, Nat.reduceAdd]
            refine wpPi_move _ rfl rfl ?_
            simp only [pl, pn, el, ec, sz, ss, gz, gs, if_true, if_false, Bool.false_eq_true, Bool.not_true, Bool.not_false, Nat.add_zero, Nat.zero_add, Nat.reduceAdd]
            refine wpPi_index _ _ _ _ _ _ _ _ _ rfl rfl rfl rfl Tryz.underlying53 (n := 65) (by kernel_rfl) hlj ?_
            simp only [pl, pn, el, ec, sz, ss, gz, gs, if_true, if_false, Bool.false_eq_true, Bool.not_true, Bool.not_false, Nat.add_zero, Nat.zero_add, Nat.reduceAdd]
            refine wpPi_field _ _ _ _ _ _ rfl rfl rfl fo_63_0 ?_
            simp only [pl, pn, el, ec, sz, ss, gz, gs, if_true, if_false, Bool.false_eq_true, Bool.not_true, Bool.not_false, Nat.add_zero, Nat.zero_add, Nat.reduceAdd]
            refine wpPi_val rfl (fun w' hS => exec_load1 9 _ (by rfl) b (off + j * 65) (by rfl) (.string x.key) (hS.cell id hk1) _ Tryz.underlying9 rfl) ?_
            simp only [pl, pn, el, ec, sz, ss, gz, gs, if_true, if_false, Bool.false_eq_true, Bool.not_true, Bool.not_false, Nat.add_zero, Nat.zero_add, Nat.reduceAdd]
            refine wpPi_move _ rfl rfl ?_
            simp only [pl, pn, el, ec, sz, ss, gz, gs, if_true, if_false, Bool.false_eq_true, Bool.not_true, Bool.not_false, Nat.add_zero, Nat.zero_add, Nat.reduceAdd]
            refine wpPi_move _ rfl rfl ?_
            simp only [pl, pn, el, ec, sz, ss, gz, gs, if_true, if_false, Bool.false_eq_true, Bool.not_true, Bool.not_false, Nat.add_zero, Nat.zero_add, Nat.reduceAdd]
            refine wpPi_index _ _ _ _ _ _ _ _ _ rfl rfl rfl rfl Tryz.underlying53 (n := 65) (by kernel_rfl) hlt ?_
            simp only [pl, pn, el, ec, sz, ss, gz, gs, if_true, if_false, Bool.false_eq_true, Bool.not_true, Bool.not_false, Nat.add_zero, Nat.zero_add, Nat.reduceAdd]
            refine wpPi_field _ _ _ _ _ _ rfl rfl rfl fo_63_0 ?_
            simp only [pl, pn, el, ec, sz, ss, gz, gs, if_true, if_false, Bool.false_eq_true, Bool.not_true, Bool.not_false, Nat.add_zero, Nat.zero_add, Nat.reduceAdd]
            refine wpPi_val rfl (fun w' hS => exec_load1 9 _ (by rfl) b (off + k * 65) (by rfl) (.string y.key) (hS.cell id hk2) _ Tryz.underlying9 rfl) ?_
            simp only [pl, pn, el, ec, sz, ss, gz, gs, if_true, if_false, Bool.false_eq_true, Bool.not_true, Bool.not_false, Nat.add_zero, Nat.zero_add, Nat.reduceAdd]
            refine wpPi_val rfl (fun w' hS => exec_eql_str _ _ _ _ rfl x.key y.key rfl rfl true (decide_eq_true hxy)) ?_
            simp only [pl, pn, el, ec, sz, ss, gz, gs, if_true, if_false, Bool.false_eq_true, Bool.not_true, Bool.not_false, Nat.add_zero, Nat.zero_add, Nat.reduceAdd]
            refine wpPi_nil ?_
            have hMr := (((hM3.trans0 hmo).trans0 hmi).trans0 hS)
            clear hS hmi hmo
            go_wp2
            go_ret
            exact ⟨by rw [HRES.out]; rfl, hMr⟩
          · have hnx := HNX.out hxy
            have HN := Lib.hid hnx
            simp only at hxy
            clear hnx HNX HBAD HIN
            refine wp_region_pi [(0, 3), (1, 3), (2, 3), (3, 3), (4, 0), (5, 3), (6, 3), (7, 3), (8, 3), (9, 0), (10, 0)] [] (fun w' => Mod NoB wq w') (by kernel_rfl) (by kernel_rfl) (by kernel_rfl) (by kernel_rfl) (fun _ _ _ _ hd h => ⟨hd.trans h.1, h.2⟩) hS ?_
            simp only [List.map_cons, List.map_nil, List.getD_cons_zero, List.getD_cons_succ]
            refine wpPi_move _ rfl rfl ?_
            simp only [pl, pn, el, ec, sz, ss, gz, gs, if_true, if_false, Bool.false_eq_true, Bool.not_true, Bool.not_false, Nat.add_zero, Nat.zero_add, Nat.reduceAdd]
            refine wpPi_move _ rfl rfl ?_
            simp only [pl, pn, el, ec, sz, ss, gz, gs, if_true, if_false, Bool.false_eq_true, Bool.not_true, Bool.not_false, Nat.add_zero, Nat.zero_add, Nat.reduceAdd]
            refine wpPi_index _ _ _ _ _ _ _ _ _ rfl rfl rfl rfl Tryz.underlying53 (n := 65) (by kernel_rfl) hlj ?_
            simp only [pl, pn, el, ec, sz, ss, gz, gs, if_true, if_false, Bool.false_eq_true, Bool.not_true, Bool.not_false, Nat.add_zero, Nat.zero_add, Nat.reduceAdd]
            refine wpPi_field _ _ _ _ _ _ rfl rfl rfl fo_63_0 ?_
            simp only [pl, pn, el, ec, sz, ss, gz, gs, if_true, if_false, Bool.false_eq_true, Bool.not_true, Bool.not_false, Nat.add_zero, Nat.zero_add, Nat.reduceAdd]
            refine wpPi_val rfl (fun w' hS => exec_load1 9 _ (by rfl) b (off + j * 65) (by rfl) (.string x.key) (hS.cell id hk1) _ Tryz.underlying9 rfl) ?_
            simp only [pl, pn, el, ec, sz, ss, gz, gs, if_true, if_false, Bool.false_eq_true, Bool.not_true, Bool.not_false, Nat.add_zero, Nat.zero_add, Nat.reduceAdd]
            refine wpPi_move _ rfl rfl ?_
            simp only [pl, pn, el, ec, sz, ss, gz, gs, if_true, if_false, Bool.false_eq_true, Bool.not_true, Bool.not_false, Nat.add_zero, Nat.zero_add, Nat.reduceAdd]
            refine wpPi_move _ rfl rfl ?_
            simp only [pl, pn, el, ec, sz, ss, gz, gs, if_true, if_false, Bool.false_eq_true, Bool.not_true, Bool.not_false, Nat.add_zero, Nat.zero_add, Nat.reduceAdd]
            refine wpPi_index _ _ _ _ _ _ _ _ _ rfl rfl rfl rfl Tryz.underlying53 (n := 65) (by kernel_rfl) hlt ?_
            simp only [pl, pn, el, ec, sz, ss, gz, gs, if_true, if_false, Bool.false_eq_true, Bool.not_true, Bool.not_false, Nat.add_zero, Nat.zero_add, Nat.reduceAdd]
            refine wpPi_field _ _ _ _ _ _ rfl rfl rfl fo_63_0 ?_
            simp only [pl, pn, el, ec, sz, ss, gz, gs, if_true, if_false, Bool.false_eq_true, Bool.not_true, Bool.not_false, Nat.add_zero, Nat.zero_add, Nat.reduceAdd]
            refine wpPi_val rfl (fun w' hS => exec_load1 9 _ (by rfl) b (off + k * 65) (by rfl) (.string y.key) (hS.cell id hk2) _ Tryz.underlying9 rfl) ?_
            simp only [pl, pn, el, ec, sz, ss, gz, gs, if_true, if_false, Bool.false_eq_true, Bool.not_true, Bool.not_false, Nat.add_zero, Nat.zero_add, Nat.reduceAdd]
            refine wpPi_val rfl (fun w' hS => exec_eql_str _ _ _ _ rfl x.key y.key rfl rfl false (decide_eq_false hxy)) ?_
            simp only [pl, pn, el, ec, sz, ss, gz, gs, if_true, if_false, Bool.false_eq_true, Bool.not_true, Bool.not_false, Nat.add_zero, Nat.zero_add, Nat.reduceAdd]
            refine wpPi_nil ?_
            go_wp2
            go_roundw
            case rel => exact ⟨j + 1, by omega, by go_num, HN.out, hmi.trans0 hS⟩
            case measure => simp [intOf]; omega
        · have hz2 : ¬ (j : Int) < (k : Int) := by omega
          obtain rfl : j = k := by omega
          have HN := Lib.hid (chkOut_succ (F := fun z : Leaf => z.key) HALL.out hlt HIN.out)
          clear HALL HIN
          go_wp2
          go_roundw
          case rel => exact ⟨j + 1, by omega, by go_num, HN.out, hmo.trans0 hmi⟩
          case measure => simp [intOf]; omega
    · have hz : ¬ (k : Int) < (ls.length : Int) := by omega
      obtain rfl : k = ls.length := by omega
      have HKND := Lib.hid (nodup_all (F := fun z : Leaf => z.key) HALL.out)
      have hM3o := hM3.trans0 hmo
      replace HS := Lib.hid (HS.out.keep0 hmo)
      clear hM3 HALL hmo hk hlt hz
      have hM3 := hM3o
      clear hM3o
      obtain ⟨w3x, hw3x⟩ : ∃ q, q = wo := ⟨_, rfl⟩
      rw [← hw3x] at HS hM3 ⊢
      clear hw3x
      go_wp2

      go_loopw [6] (ChkOut (fun z : Leaf => z.way) ls w3x) (fun i _ => ls.length - (intOf i).toNat)
      case atStart => exact ⟨0, by omega, rfl, fun p q _ _ h => by omega, Mod.refl _ _⟩
      case round =>
        rename World => wo
        obtain ⟨k, hk, rfl, hall, hmo⟩ := hrel
        have HALL := Lib.hid hall
        clear hall
        by_cases hlt : k < ls.length
        · have hz : (k : Int) < (ls.length : Int) := by omega
          go_wp2
          go_loopw [7] (ChkIn (fun z : Leaf => z.way) ls k wo) (fun i _ => k - (intOf i).toNat)
          case atStart => exact ⟨0, by omega, rfl, fun p _ _ h => by omega, Mod.refl _ _⟩
          case round =>
            rename World => wq
            obtain ⟨j, hj, rfl, hin, hmi⟩ := hrel
            have HIN := Lib.hid hin
            clear hin
            by_cases hlj0 : j < k
            · have hz2 : (j : Int) < (k : Int) := by omega
              have hlj : j < ls.length := by omega
              obtain ⟨_, _, hv, -, hat⟩ := Sl.at (HS.out.keep0 (hmo.trans0 hmi))
              cases hv
              obtain ⟨b, off, rfl, -, -, hc⟩ := hat k hlt
              obtain ⟨_, -, ⟨rfl, hok1⟩, hc1⟩ := hc j hlj
              obtain ⟨_, -, ⟨rfl, hok2⟩, hc2⟩ := hc k hlt
              have hk1 := leaf_key hc1
              have hk2 := leaf_key hc2
              have hw1 := leaf_way hok1 hc1
              have hw2 := leaf_way hok2 hc2
              have hxl := hok1.1
              have hyl := hok2.1
              rw [Nat.add_zero] at hk1 hk2
              have hxr : (idCells ls[j].way).size = 32 := by rw [idCells_size, hxl]
              have hyr : (idCells ls[k].way).size = 32 := by rw [idCells_size, hyl]
              have HBAD := Lib.hid (fun (e : (fun z : Leaf => z.way) ls[j] = (fun z : Leaf => z.way) ls[k]) => chk_way hlen HLS.out HKND.out hlj hlt hlj0 e)
              have HNX := Lib.hid (fun (e : ¬ (fun z : Leaf => z.way) ls[j] = (fun z : Leaf => z.way) ls[k]) => chkIn_succ (F := fun z : Leaf => z.way) hlt HIN.out hlj e)
              generalize ls[j] = x at *
              generalize ls[k] = y at *
              clear hat hc hok1 hok2 hc1 hc2
              go_upto_region 18 with (fail)
              have hS : Mod NoB wq wq.drew := (Mod.refl _ _).drew
              by_cases hxy : (fun z : Leaf => z.way) x = (fun z : Leaf => z.way) y
              · have hres := HBAD.out hxy
                have HRES := Lib.hid hres
                simp only at hxy
                clear hres HNX HBAD HIN HALL
                refine wp_region_pi [(0, 3), (1, 3), (2, 3), (3, 3), (4, 0), (5, 3), (6, 3), (7, 3), (8, 3), (9, 0), (10, 0)] [] (fun w' => Mod NoB wq w') (by kernel_rfl) (by kernel_rfl) (by kernel_rfl) (by kernel_rfl) (fun _ _ _ _ hd h => ⟨hd.trans h.1, h.2⟩) hS ?_
                simp only [List.map_cons, List.map_nil, List.getD_cons_zero, List.getD_cons_succ]
                refine wpPi_move _ rfl rfl ?_
                simp only [pl, pn, el, ec, sz, ss, gz, gs, if_true, if_false, Bool.false_eq_true, Bool.not_true, Bool.not_false, Nat.add_zero, Nat.zero_add, Nat.reduceAdd]
                refine wpPi_move _ rfl rfl ?_
                simp only [pl, pn, el, ec, sz, ss, gz, gs, if_true, if_false, Bool.false_eq_true, Bool.not_true, Bool.not_false, Nat.add_zero, Nat.zero_add, Nat.reduceAdd]
                refine wpPi_index _ _ _ _ _ _ _ _ _ rfl rfl rfl rfl Tryz.underlying53 (n := 65) (by kernel_rfl) hlj ?_
                simp only [pl, pn, el, ec, sz, ss, gz, gs, if_true, if_false, Bool.false_eq_true, Bool.not_true, Bool.not_false, Nat.add_zero, Nat.zero_add, Nat.reduceAdd]
                refine wpPi_field _ _ _ _ _ _ rfl rfl rfl fo_63_1 ?_
                simp only [pl, pn, el, ec, sz, ss, gz, gs, if_true, if_false, Bool.false_eq_true, Bool.not_true, Bool.not_false, Nat.add_zero, Nat.zero_add, Nat.reduceAdd]
                refine wpPi_val rfl (fun w' hS => exec_loadA 24 _ (by rfl) b (off + j * 65 + 1) (by rfl) (idCells x.way) (hw1.keep hS id) _ Tryz.underlying24 rfl 32 (by kernel_rfl) hxr) ?_
                simp only [pl, pn, el, ec, sz, ss, gz, gs, if_true, if_false, Bool.false_eq_true, Bool.not_true, Bool.not_false, Nat.add_zero, Nat.zero_add, Nat.reduceAdd]
                refine wpPi_move _ rfl rfl ?_
                simp only [pl, pn, el, ec, sz, ss, gz, gs, if_true, if_false, Bool.false_eq_true, Bool.not_true, Bool.not_false, Nat.add_zero, Nat.zero_add, Nat.reduceAdd]
                refine wpPi_move _ rfl rfl ?_
                simp only [pl, pn, el, ec, sz, ss, gz, gs, if_true, if_false, Bool.false_eq_true, Bool.not_true, Bool.not_false, Nat.add_zero, Nat.zero_add, Nat.reduceAdd]
                refine wpPi_index _ _ _ _ _ _ _ _ _ rfl rfl rfl rfl Tryz.underlying53 (n := 65) (by kernel_rfl) hlt ?_
                simp only [pl, pn, el, ec, sz, ss, gz, gs, if_true, if_false, Bool.false_eq_true, Bool.not_true, Bool.not_false, Nat.add_zero, Nat.zero_add, Nat.reduceAdd]
                refine wpPi_field _ _ _ _ _ _ rfl rfl rfl fo_63_1 ?_
                simp only [pl, pn, el, ec, sz, ss, gz, gs, if_true, if_false, Bool.false_eq_true, Bool.not_true, Bool.not_false, Nat.add_zero, Nat.zero_add, Nat.reduceAdd]
                refine wpPi_val rfl (fun w' hS => exec_loadA 24 _ (by rfl) b (off + k * 65 + 1) (by rfl) (idCells y.way) (hw2.keep hS id) _ Tryz.underlying24 rfl 32 (by kernel_rfl) hyr) ?_
                simp only [pl, pn, el, ec, sz, ss, gz, gs, if_true, if_false, Bool.false_eq_true, Bool.not_true, Bool.not_false, Nat.add_zero, Nat.zero_add, Nat.reduceAdd]
                refine wpPi_val rfl (fun w' hS => exec_eql_id _ _ _ _ rfl x.way y.way rfl rfl 32 5 Tryz.underlying24 Tryz.underlying5 (by kernel_rfl) (by kernel_rfl) hxl hyl true (decide_eq_true hxy)) ?_
                simp only [pl, pn, el, ec, sz, ss, gz, gs, if_true, if_false, Bool.false_eq_true, Bool.not_true, Bool.not_false, Nat.add_zero, Nat.zero_add, Nat.reduceAdd]
                refine wpPi_nil ?_
                have hMr := (((hM3.trans0 hmo).trans0 hmi).trans0 hS)
                clear hS hmi hmo
                go_wp2
                go_ret
                exact ⟨by rw [HRES.out]; rfl, hMr⟩
              · have hnx := HNX.out hxy
                have HN := Lib.hid hnx
                simp only at hxy
                clear hnx HNX HBAD HIN
                refine wp_region_pi [(0, 3), (1, 3), (2, 3), (3, 3), (4, 0), (5, 3), (6, 3), (7, 3), (8, 3), (9, 0), (10, 0)] [] (fun w' => Mod NoB wq w') (by kernel_rfl) (by kernel_rfl) (by kernel_rfl) (by kernel_rfl) (fun _ _ _ _ hd h => ⟨hd.trans h.1, h.2⟩) hS ?_
                simp only [List.map_cons, List.map_nil, List.getD_cons_zero, List.getD_cons_succ]
                refine wpPi_move _ rfl rfl ?_
                simp only [pl, pn, el, ec, sz, ss, gz, gs, if_true, if_false, Bool.false_eq_true, Bool.not_true, Bool.not_false, Nat.add_zero, Nat.zero_add, Nat.reduceAdd]
                refine wpPi_move _ rfl rfl ?_
                simp only [pl, pn, el, ec, sz, ss, gz, gs, if_true, if_false, Bool.false_eq_true, Bool.not_true, Bool.not_false, Nat.add_zero, Nat.zero_add, Nat.reduceAdd]
                refine wpPi_index _ _ _ _ _ _ _ _ _ rfl rfl rfl rfl Tryz.underlying53 (n := 65) (by kernel_rfl) hlj ?_
                simp only [pl, pn, el, ec, sz, ss, gz, gs, if_true, if_false, Bool.false_eq_true, Bool.not_true, Bool.not_false, Nat.add_zero, Nat.zero_add, Nat.reduceAdd]
                refine wpPi_field _ _ _ _ _ _ rfl rfl rfl fo_63_1 ?_
                simp only [pl, pn, el, ec, sz, ss, gz, gs, if_true, if_false, Bool.false_eq_true, Bool.not_true, Bool.not_false, Nat.add_zero, Nat.zero_add, Nat.reduceAdd]
                refine wpPi_val rfl (fun w' hS => exec_loadA 24 _ (by rfl) b (off + j * 65 + 1) (by rfl) (idCells x.way) (hw1.keep hS id) _ Tryz.underlying24 rfl 32 (by kernel_rfl) hxr) ?_
                simp only [pl, pn, el, ec, sz, ss, gz, gs, if_true, if_false, Bool.false_eq_true, Bool.not_true, Bool.not_false, Nat.add_zero, Nat.zero_add, Nat.reduceAdd]
                refine wpPi_move _ rfl rfl ?_
                simp only [pl, pn, el, ec, sz, ss, gz, gs, if_true, if_false, Bool.false_eq_true, Bool.not_true, Bool.not_false, Nat.add_zero, Nat.zero_add, Nat.reduceAdd]
                refine wpPi_move _ rfl rfl ?_
                simp only [pl, pn, el, ec, sz, ss, gz, gs, if_true, if_false, Bool.false_eq_true, Bool.not_true, Bool.not_false, Nat.add_zero, Nat.zero_add, Nat.reduceAdd]
                refine wpPi_index _ _ _ _ _ _ _ _ _ rfl rfl rfl rfl Tryz.underlying53 (n := 65) (by kernel_rfl) hlt ?_
                simp only [pl, pn, el, ec, sz, ss, gz, gs, if_true, if_false, Bool.false_eq_true, Bool.not_true, Bool.not_false, Nat.add_zero, Nat.zero_add, Nat.reduceAdd]
                refine wpPi_field _ _ _ _ _ _ rfl rfl rfl fo_63_1 ?_
                simp only [pl, pn, el, ec, sz, ss, gz, gs, if_true, if_false, Bool.false_eq_true, Bool.not_true, Bool.not_false, Nat.add_zero, Nat.zero_add, Nat.reduceAdd]
                refine wpPi_val rfl (fun w' hS => exec_loadA 24 _ (by rfl) b (off + k * 65 + 1) (by rfl) (idCells y.way) (hw2.keep hS id) _ Tryz.underlying24 rfl 32 (by kernel_rfl) hyr) ?_
                simp only [pl, pn, el, ec, sz, ss, gz, gs, if_true, if_false, Bool.false_eq_true, Bool.not_true, Bool.not_false, Nat.add_zero, Nat.zero_add, Nat.reduceAdd]
                refine wpPi_val rfl (fun w' hS => exec_eql_id _ _ _ _ rfl x.way y.way rfl rfl 32 5 Tryz.underlying24 Tryz.underlying5 (by kernel_rfl) (by kernel_rfl) hxl hyl false (decide_eq_false hxy)) ?_
                simp only [pl, pn, el, ec, sz, ss, gz, gs, if_true, if_false, Bool.false_eq_true, Bool.not_true, Bool.not_false, Nat.add_zero, Nat.zero_add, Nat.reduceAdd]
                refine wpPi_nil ?_
                go_wp2
                go_roundw
                case rel => exact ⟨j + 1, by omega, by go_num, HN.out, hmi.trans0 hS⟩
                case measure => simp [intOf]; omega
            · have hz2 : ¬ (j : Int) < (k : Int) := by omega
              obtain rfl : j = k := by omega
              have HN := Lib.hid (chkOut_succ (F := fun z : Leaf => z.way) HALL.out hlt HIN.out)
              clear HALL HIN
              go_wp2
              go_roundw
              case rel => exact ⟨j + 1, by omega, by go_num, HN.out, hmo.trans0 hmi⟩
              case measure => simp [intOf]; omega
        · have hz : ¬ (k : Int) < (ls.length : Int) := by omega
          obtain rfl : k = ls.length := by omega
          have hres := chk_ok hlen HLS.out HKND.out (nodup_all (F := fun z : Leaf => z.way) HALL.out)
          have HRES := Lib.hid hres
          clear hres HALL
          have hMr := hM3.trans0 hmo
          go_wp2
          go_ret
          exact ⟨by rw [HRES.out]; rfl, hMr⟩
end Go.Proofs.YtchkikmmcmjcgaaGreat

/- The document's tree: Root. -/
namespace Go.Proofs.YtchkikmmcmjcgaaGreat
set_option linter.unusedSimpArgs false
set_option linter.unusedVariables false
set_option linter.unnecessarySimpa false
set_option linter.unusedSectionVars false
open Go.RowKit Go.Shelf


set_option maxRecDepth 10000 in
theorem refRoot_any {own : Bool} {w : World} {G : Nat → Prop} {v : Value} {es : List Ent} (h : Es own w G v es) (hs : Short es) (hlen : es.length ≤ 4096) : Calls Tryz.prog 8 #[v] w (RootR w es) := by
  have HS := Lib.hid h
  have HSH := Lib.hid hs
  obtain ⟨ad, cap, rfl, -, -⟩ := Sl.at h
  clear h hs
  go_enter Tryz.func8, Tryz.ntmps8
  go_upto_region 0 with (fail)
  refine wp_region_seq [1, 3] (fun _ => True) (by rfl) (by rfl) trivial ?_
  simp only [List.zip_cons_cons, List.zip_nil_right]
  refine wpPi_do rfl (fun K hK => ?_)
  refine wp_alloc 24 _ (by rfl) idZ (fun w1 hB1 hm1 hs1 => ?_)
  replace hB1 : w1.heap[w.heap.size]? = some (.cells (idCells (List.replicate 32 0)) 24 (0, 0)) := hB1
  refine hK _ _ trivial ?_
  clear hK K
  try simp only [pl, pn, el, ec, sz, ss, gz, gs, if_true, if_false, Bool.false_eq_true, Bool.not_true, Bool.not_false, Nat.add_zero, Nat.zero_add, Nat.reduceAdd]
  refine wpPi_assign _ rfl rfl ?_
  simp only [pl, pn, el, ec, sz, ss, gz, gs, if_true, if_false, Bool.false_eq_true, Bool.not_true, Bool.not_false, Nat.add_zero, Nat.zero_add, Nat.reduceAdd]
  refine wpPi_nil ?_
  go_upto_region 1 with (fail)
  refine wp_region_seq [3, 1, 3] (fun _ => True) (by rfl) (by rfl) trivial ?_
  simp only [List.zip_cons_cons, List.zip_nil_right]
  refine wpPi_move _ rfl rfl ?_
  simp only [pl, pn, el, ec, sz, ss, gz, gs, if_true, if_false, Bool.false_eq_true, Bool.not_true, Bool.not_false, Nat.add_zero, Nat.zero_add, Nat.reduceAdd]
  refine wpPi_do rfl (fun K hK => ?_)
  refine wp_enterQ (run_call 13 [.tmp 5] _ rfl _ Tryz.func13 rfl (by kernel_rfl) [.slice ad es.length cap] rfl _) (refCheck_any (HS.out.keep0 hm1) HSH.out hlen) ?_
  rintro e w2 ⟨rfl, hm2⟩
  have hM2 := hm1.trans0 hm2
  replace hB1 := hm2.obj id hB1
  refine ⟨_, rfl, hK _ _ trivial ?_⟩
  clear hK K
  try simp only [pl, pn, el, ec, sz, ss, gz, gs, if_true, if_false, Bool.false_eq_true, Bool.not_true, Bool.not_false, Nat.add_zero, Nat.zero_add, Nat.reduceAdd]
  refine wpPi_assign _ rfl rfl ?_
  simp only [pl, pn, el, ec, sz, ss, gz, gs, if_true, if_false, Bool.false_eq_true, Bool.not_true, Bool.not_false, Nat.add_zero, Nat.zero_add, Nat.reduceAdd]
  refine wpPi_nil ?_
  clear hm1 hm2
  by_cases hc : chkE es = 0
  · have ho : rootOut es = rootE es := by unfold rootOut; rw [if_pos hc]
    have HO := Lib.hid ho
    have HC := Lib.hid hc
    have HLE := Lib.hid (lie_of_chk hc)
    rw [hc]
    clear hc ho
    go_upto_region 4 with (fail)
    refine wp_region_seq [3, 1, 1, 1, 3] (fun _ => True) (by rfl) (by rfl) trivial ?_
    simp only [List.zip_cons_cons, List.zip_nil_right]
    refine wpPi_move _ rfl rfl ?_
    simp only [pl, pn, el, ec, sz, ss, gz, gs, if_true, if_false, Bool.false_eq_true, Bool.not_true, Bool.not_false, Nat.add_zero, Nat.zero_add, Nat.reduceAdd]
    refine wpPi_do rfl (fun K hK => ?_)
    refine wp_enterQ (run_call 24 [.tmp 11] _ rfl _ Tryz.func24 rfl (by kernel_rfl) [.slice ad es.length cap] rfl _) (refLeaves_any (HS.out.keep0 hM2) HSH.out hlen) ?_
    rintro e w3 ⟨v3, rfl, hl3, hm3⟩
    have hls3 : Ls w3 Ever v3 (leavesE es) := by
      have := gat_ls hl3
      rwa [List.map_map, show (fun (x : LeafS) => x.1) ∘ leafS = leafOf from rfl] at this
    refine ⟨_, rfl, hK _ _ trivial ?_⟩
    clear hK K
    try simp only [pl, pn, el, ec, sz, ss, gz, gs, if_true, if_false, Bool.false_eq_true, Bool.not_true, Bool.not_false, Nat.add_zero, Nat.zero_add, Nat.reduceAdd]
    refine wpPi_do rfl (fun K hK => ?_)
    refine wp_enterQ (run_call 23 [.tmp 12, .const (.int .i64 0)] _ rfl _ Tryz.func23 rfl (by kernel_rfl) [v3, .int .i64 ((0 : Nat) : Int)] rfl _) (refDigest_any 256 0 (leavesE es) v3 _ rfl hls3 HLE.out (by simp [leavesE]; omega)) ?_
    rintro e w4 ⟨rfl, hm4⟩
    have hM4 := (hM2.trans0 hm3).trans0 hm4
    replace hB1 := (hm3.trans0 hm4).obj id hB1
    have hd : dig 256 0 (leavesE es) = rootOut es := HO.out.symm
    rw [hd]
    have hrs : (idCells (rootOut es)).size = 32 := by rw [idCells_size, ← hd]; exact dig_len rfl HLE.out
    clear hm3 hm4 hd
    refine ⟨_, rfl, hK _ _ trivial ?_⟩
    clear hK K
    try simp only [pl, pn, el, ec, sz, ss, gz, gs, if_true, if_false, Bool.false_eq_true, Bool.not_true, Bool.not_false, Nat.add_zero, Nat.zero_add, Nat.reduceAdd]
    refine wpPi_do rfl (fun K hK => ?_)
    refine wp_storeA 24 _ _ w.heap.size 0 (idCells (rootOut es)) (by rfl) (by rfl) (by rfl) (idCells_one _) 32 (by kernel_rfl) hrs _ _ hB1 (by rw [hrs, idCells_size]; simp) (fun w5 hB5 hm5 => ?_)
    rw [putRow_whole (by rw [hrs, idCells_size]; rfl)] at hB5
    refine hK _ _ trivial ?_
    clear hK K
    try simp only [pl, pn, el, ec, sz, ss, gz, gs, if_true, if_false, Bool.false_eq_true, Bool.not_true, Bool.not_false, Nat.add_zero, Nat.zero_add, Nat.reduceAdd]
    refine wpPi_assign _ rfl rfl ?_
    simp only [pl, pn, el, ec, sz, ss, gz, gs, if_true, if_false, Bool.false_eq_true, Bool.not_true, Bool.not_false, Nat.add_zero, Nat.zero_add, Nat.reduceAdd]
    refine wpPi_nil ?_
    have hM5 : Mod NoB w w5 := hM4.transB hm5 (Nat.le_refl _)
    clear hm5 hB1 hM4 hM2
    go_wp2
    refine bodyPost_ret (results_row_tmp (P := Tryz.prog) (ty := 24) rfl _ _ w.heap.size _ _ _ _ (by rfl) hB5 Tryz.underlying24 rfl (by rw [hrs]; kernel_rfl)) rfl ?_
    exact ⟨by rw [HC.out]; rfl, hM5⟩
  · have ho : rootOut es = zeroID := by unfold rootOut; rw [if_neg hc]
    have hc2 : ¬ ((chkE es : Nat) : Int) = 0 := by omega
    have HO := Lib.hid ho
    clear ho hc
    have hrs : (idCells zeroID).size = 32 := by kernel_rfl
    go_upto_region 3 with (fail)
    refine wp_region_seq [0, 3, 1, 3] (fun _ => True) (by rfl) (by rfl) trivial ?_
    simp only [List.zip_cons_cons, List.zip_nil_right]
    refine wpPi_val rfl (fun w' hS => exec_build_of 24 [] [] (idCells zeroID) (by rfl) (by rfl) built_zero) ?_
    simp only [pl, pn, el, ec, sz, ss, gz, gs, if_true, if_false, Bool.false_eq_true, Bool.not_true, Bool.not_false, Nat.add_zero, Nat.zero_add, Nat.reduceAdd]
    refine wpPi_move _ rfl rfl ?_
    simp only [pl, pn, el, ec, sz, ss, gz, gs, if_true, if_false, Bool.false_eq_true, Bool.not_true, Bool.not_false, Nat.add_zero, Nat.zero_add, Nat.reduceAdd]
    refine wpPi_do rfl (fun K hK => ?_)
    refine wp_storeA 24 _ _ w.heap.size 0 (idCells zeroID) (by rfl) (by rfl) (by rfl) (idCells_one _) 32 (by kernel_rfl) hrs _ _ hB1 (by rw [hrs, idCells_size]; simp) (fun w5 hB5 hm5 => ?_)
    rw [putRow_whole (by rw [hrs, idCells_size]; rfl)] at hB5
    refine hK _ _ trivial ?_
    clear hK K
    try simp only [pl, pn, el, ec, sz, ss, gz, gs, if_true, if_false, Bool.false_eq_true, Bool.not_true, Bool.not_false, Nat.add_zero, Nat.zero_add, Nat.reduceAdd]
    refine wpPi_assign _ rfl rfl ?_
    simp only [pl, pn, el, ec, sz, ss, gz, gs, if_true, if_false, Bool.false_eq_true, Bool.not_true, Bool.not_false, Nat.add_zero, Nat.zero_add, Nat.reduceAdd]
    refine wpPi_nil ?_
    have hM5 : Mod NoB w w5 := hM2.transB hm5 (Nat.le_refl _)
    clear hm5 hB1 hM2
    go_wp2
    refine bodyPost_ret (results_row_tmp (P := Tryz.prog) (ty := 24) rfl _ _ w.heap.size _ _ _ _ (by rfl) hB5 Tryz.underlying24 rfl (by rw [hrs]; kernel_rfl)) rfl ?_
    exact ⟨by rw [HO.out]; rfl, hM5⟩
end Go.Proofs.YtchkikmmcmjcgaaGreat

/- The document's tree: Path. -/
namespace Go.Proofs.YtchkikmmcmjcgaaGreat
set_option linter.unusedSimpArgs false
set_option linter.unusedVariables false
set_option linter.unnecessarySimpa false
set_option linter.unusedSectionVars false
open Go.RowKit Go.Shelf


theorem gat_lit {α : Type} {enc : α → List Value} {k : Nat} (hk : ∀ x, (enc x).length = k) {e : TypeId} {w : World} {b : Nat} {x : α} (h : w.heap[b]? = some (.cells (enc x).toArray e (0, 0))) : Gat enc e k b w (.slice (some ⟨b, 0, none⟩) 1 1) [x] :=
  ⟨by simp [hk], .inr ⟨b, 1, (enc x).toArray, rfl, Nat.le_refl _, h, by simp, by unfold maxLen; omega, by simp [hk], by simp [List.take_of_length_le, hk]⟩⟩
theorem built_sideF (x : List UInt8) (hx : x.length = 32) : Tryz.prog.built 41 [(0, .bool false), (1, .agg (idCells x))] = some (sideCells (false, x)) := by
  have e : putRow (sideCells (false, zeroID)) 0 (Value.bool false).cells = sideCells (false, zeroID) := by kernel_rfl
  rw [built_struct sideZ sidePlaces, fill_cons (off := 0) (size := 1) rfl rfl (by rw [sideCells_size]; omega), e, fill_cons (off := 1) (size := 32) rfl (by simp [Value.cells, idCells_size, hx]) (by rw [sideCells_size]; omega), fill_nil]
  show some (putRow _ _ (idCells x)) = _
  rw [put_side hx]
theorem row_lt' {w : World} {b : Nat} {o : Obj} (h : w.heap[b]? = some o) : b < w.heap.size := (Array.getElem?_eq_some_iff.1 h).1
/-- The way that was found among the first k leaves. -/
def wayIn (key : ByteArray) (ls : List Leaf) (k : Nat) : Bool := (ls.take k).any fun x => decide (x.key = key)
def wayOf (key : ByteArray) (is : Bool) : List UInt8 := if is then shaL key.data.toList else zeroID
theorem wayOf_len (key : ByteArray) (is : Bool) : (wayOf key is).length = 32 := by unfold wayOf; split; exact shaL_len _; rfl
theorem wayIn_succ {key : ByteArray} {ls : List Leaf} {k : Nat} (h : k < ls.length) : wayIn key ls (k + 1) = (wayIn key ls k || decide (ls[k].key = key)) := by
  unfold wayIn
  rw [List.take_add_one, List.getElem?_eq_getElem h, List.any_append]
  simp
theorem wayIn_all (key : ByteArray) (es : List Ent) : wayIn key (leavesE es) (leavesE es).length = hasK es key := by
  unfold wayIn hasK keysE leavesE
  rw [List.take_length, List.any_map, List.any_map]
  rfl
theorem path_step {way : List UInt8} {ls0 l : List Leaf} {f i : Nat} {out : List SideL} (h : pathL way 256 0 ls0 = pathL way (f + 1) i l ++ out) (h2 : 2 ≤ l.length) :
    pathL way 256 0 ls0 = pathL way f (i + 1) (sideL (bitAt way i) i l) ++ ([(bitAt way i, dig f (i + 1) (sideL (!bitAt way i) i l))] ++ out) := by
  rw [h, path_more h2, List.append_assoc]
def RpRelA (key : ByteArray) (ls : List Leaf) (bw : Nat) (w0 : World) (vis i : Value) (w : World) : Prop := ∃ k : Nat, k ≤ ls.length ∧ i = .int .i64 k ∧ vis = .bool (wayIn key ls k) ∧ w.heap[bw]? = some (.cells (idCells (wayOf key (wayIn key ls k))) 24 (0, 0)) ∧ Mod (fun q => q = bw) w0 w
def RpRelB (way : List UInt8) (ls0 : List Leaf) (w0 : World) (va vo vb : Value) (w : World) : Prop := ∃ (f i : Nat) (l : List Leaf) (out : List SideL), f + i = 256 ∧ vb = .int .i64 i ∧ Ls w Ever va l ∧ Lie i l ∧ l.length ≤ 65536 ∧ Gat sideEnc 41 33 w0.heap.size w vo out ∧ out.length ≤ i ∧ pathL way 256 0 ls0 = pathL way f i l ++ out ∧ Mod NoB w0 w
set_option maxRecDepth 10000 in
set_option maxHeartbeats 2000000 in
theorem refPath_any {own : Bool} {w : World} {G : Nat → Prop} {v : Value} {es : List Ent} (h : Es own w G v es) (hs : Short es) (hlen : es.length ≤ 4096) (key : ByteArray) : Calls Tryz.prog 10 #[v, .string key] w (PtR w es key) := by
  have HS := Lib.hid h
  have HSH := Lib.hid hs
  obtain ⟨ad, cap, rfl, -, -⟩ := Sl.at h
  clear h hs
  go_enter Tryz.func10, Tryz.ntmps10
  go_upto_region 1 with (fail)
  refine wp_region_seq [3, 1, 3] (fun _ => True) (by rfl) (by rfl) trivial ?_
  simp only [List.zip_cons_cons, List.zip_nil_right]
  refine wpPi_move _ rfl rfl ?_
  simp only [pl, pn, el, ec, sz, ss, gz, gs, if_true, if_false, Bool.false_eq_true, Bool.not_true, Bool.not_false, Nat.add_zero, Nat.zero_add, Nat.reduceAdd]
  refine wpPi_do rfl (fun K hK => ?_)
  refine wp_enterQ (run_call 13 [.tmp 16] _ rfl _ Tryz.func13 rfl (by kernel_rfl) [.slice ad es.length cap] rfl _) (refCheck_any HS.out HSH.out hlen) ?_
  rintro e w1 ⟨rfl, hm1⟩
  refine ⟨_, rfl, hK _ _ trivial ?_⟩
  clear hK K
  try simp only [pl, pn, el, ec, sz, ss, gz, gs, if_true, if_false, Bool.false_eq_true, Bool.not_true, Bool.not_false, Nat.add_zero, Nat.zero_add, Nat.reduceAdd]
  refine wpPi_assign _ rfl rfl ?_
  simp only [pl, pn, el, ec, sz, ss, gz, gs, if_true, if_false, Bool.false_eq_true, Bool.not_true, Bool.not_false, Nat.add_zero, Nat.zero_add, Nat.reduceAdd]
  refine wpPi_nil ?_
  by_cases hc : chkE es = 0
  rotate_left
  · have hc2 : ¬ ((chkE es : Nat) : Int) = 0 := by omega
    have herr : errP es key = chkE es := by unfold errP; rw [if_pos hc]
    have hout : pathOut es key = [] := by unfold pathOut; rw [if_neg (by rw [herr]; exact hc)]
    have HE := Lib.hid herr
    have HO := Lib.hid hout
    clear hc herr hout
    go_wp2
    go_ret2
    exact ⟨_, by rw [HE.out]; rfl, by rw [HO.out]; exact Gat.nil _ _ _ _ _, hm1⟩
  have HC := Lib.hid hc
  have HLIE := Lib.hid (lie_of_chk hc)
  rw [hc]
  clear hc
  go_upto_region 4 with (fail)
  refine wp_region_seq [3, 1, 3] (fun _ => True) (by rfl) (by rfl) trivial ?_
  simp only [List.zip_cons_cons, List.zip_nil_right]
  refine wpPi_move _ rfl rfl ?_
  simp only [pl, pn, el, ec, sz, ss, gz, gs, if_true, if_false, Bool.false_eq_true, Bool.not_true, Bool.not_false, Nat.add_zero, Nat.zero_add, Nat.reduceAdd]
  refine wpPi_do rfl (fun K hK => ?_)
  refine wp_enterQ (run_call 24 [.tmp 21] _ rfl _ Tryz.func24 rfl (by kernel_rfl) [.slice ad es.length cap] rfl _) (refLeaves_any (HS.out.keep0 hm1) HSH.out hlen) ?_
  rintro e w2 ⟨v2, rfl, hg2, hm2⟩
  have hls2 : Ls w2 Ever v2 (leavesE es) := by
    have := gat_ls hg2
    rwa [List.map_map, show (fun (x : LeafS) => x.1) ∘ leafS = leafOf from rfl] at this
  have hM2 := hm1.trans0 hm2
  clear hm1 hm2 hg2
  refine ⟨_, rfl, hK _ _ trivial ?_⟩
  clear hK K
  try simp only [pl, pn, el, ec, sz, ss, gz, gs, if_true, if_false, Bool.false_eq_true, Bool.not_true, Bool.not_false, Nat.add_zero, Nat.zero_add, Nat.reduceAdd]
  refine wpPi_assign _ rfl rfl ?_
  simp only [pl, pn, el, ec, sz, ss, gz, gs, if_true, if_false, Bool.false_eq_true, Bool.not_true, Bool.not_false, Nat.add_zero, Nat.zero_add, Nat.reduceAdd]
  refine wpPi_nil ?_
  have hmade := made_leaves es
  have HWA := Lib.hid (wayIn_all key es)
  have hlll : (leavesE es).length ≤ 4096 := by simpa [leavesE] using hlen
  have HPO := Lib.hid (show errP es key = 0 → pathOut es key = pathL (shaL key.data.toList) 256 0 (leavesE es) from fun h => by unfold pathOut; rw [if_pos h])
  have HEP := Lib.hid (show errP es key = if hasK es key then 0 else 26 by unfold errP; rw [if_neg (by rw [HC.out]; simp)])
  generalize leavesE es = ls at *
  obtain ⟨ad2, cap2, rfl, hlm2, -⟩ := Sl.at hls2
  have HLS := Lib.hid (Sl.inside hls2 (by omega))
  clear hls2
  go_upto_region 5 with (fail)
  refine wp_region_seq [0, 1, 1, 3] (fun _ => True) (by rfl) (by rfl) trivial ?_
  simp only [List.zip_cons_cons, List.zip_nil_right]
  refine wpPi_val rfl (fun w' hS => exec_build_of 24 [] [] (idCells zeroID) (by rfl) (by rfl) built_zero) ?_
  simp only [pl, pn, el, ec, sz, ss, gz, gs, if_true, if_false, Bool.false_eq_true, Bool.not_true, Bool.not_false, Nat.add_zero, Nat.zero_add, Nat.reduceAdd]
  refine wpPi_do rfl (fun K hK => ?_)
  refine wp_alloc 24 _ (by rfl) idZ (fun w3 hB3 hm3 hs3 => ?_)
  replace hB3 : w3.heap[w2.heap.size]? = some (.cells (idCells (List.replicate 32 0)) 24 (0, 0)) := hB3
  refine hK _ _ trivial ?_
  clear hK K
  try simp only [pl, pn, el, ec, sz, ss, gz, gs, if_true, if_false, Bool.false_eq_true, Bool.not_true, Bool.not_false, Nat.add_zero, Nat.zero_add, Nat.reduceAdd]
  refine wpPi_do rfl (fun K hK => ?_)
  refine wp_storeA 24 _ _ w2.heap.size 0 (idCells zeroID) (by rfl) (by rfl) (by rfl) (idCells_one _) 32 (by kernel_rfl) (by kernel_rfl) _ _ hB3 (by simp [idCells_size, zeroID]) (fun w4 hB4 hm4 => ?_)
  rw [putRow_whole (by simp [idCells_size, zeroID])] at hB4
  refine hK _ _ trivial ?_
  clear hK K
  try simp only [pl, pn, el, ec, sz, ss, gz, gs, if_true, if_false, Bool.false_eq_true, Bool.not_true, Bool.not_false, Nat.add_zero, Nat.zero_add, Nat.reduceAdd]
  refine wpPi_assign _ rfl rfl ?_
  simp only [pl, pn, el, ec, sz, ss, gz, gs, if_true, if_false, Bool.false_eq_true, Bool.not_true, Bool.not_false, Nat.add_zero, Nat.zero_add, Nat.reduceAdd]
  refine wpPi_nil ?_
  have hM24 : Mod NoB w2 w4 := hm3.transB hm4 (Nat.le_refl _)
  have hM4 := hM2.trans0 hM24
  have hsz4 := hM2.size
  have hlt4 : w2.heap.size < w4.heap.size := by have := hm4.size; omega
  replace HLS := Lib.hid (HLS.out.keep0 hM24)
  generalize hbw : w2.heap.size = bw at *
  clear hm3 hm4 hB3 hM24 hM2
  go_wp2
  go_loopw [9, 10] (RpRelA key ls bw w4) (fun _ i _ => ls.length - (intOf i).toNat)
  case atStart => exact ⟨0, by omega, rfl, rfl, hB4, Mod.refl _ _⟩
  case round =>
    rename World => wr
    obtain ⟨k, hk, rfl, rfl, hrow, hm⟩ := hrel
    by_cases hlt : k < ls.length
    · have hz : (k : Int) < (ls.length : Int) := by omega
      have hls := Sl.keepB HLS.out hm (fun q hq => by omega)
      obtain ⟨_, _, hv, -, hat⟩ := Sl.at hls
      cases hv
      obtain ⟨b, off, rfl, hgb, -, hc⟩ := hat k hlt
      obtain ⟨_, -, ⟨rfl, hok⟩, hc⟩ := hc k hlt
      have hkc := leaf_key hc
      have hwc := leaf_way hok hc
      have hwl := hok.1
      rw [Nat.add_zero] at hkc
      have HMK := Lib.hid (hmade ls[k] (List.getElem_mem hlt))
      have HSU := Lib.hid (wayIn_succ (key := key) hlt)
      clear hat hls hc hok
      generalize ls[k] = x at *
      have hws : (idCells x.way).size = 32 := by rw [idCells_size, hwl]
      obtain ⟨old, hold⟩ : ∃ q, wayIn key ls k = q := ⟨_, rfl⟩
      rw [hold] at hrow HSU ⊢
      have hol := wayOf_len key old
      have hos : (idCells (wayOf key old)).size = 32 := by rw [idCells_size, hol]
      have HOL := Lib.hid hold
      clear hold hgb
      go_upto_region 9 with (fail)
      by_cases hkk : x.key = key
      · have hnew : wayIn key ls (k + 1) = true := by rw [HSU.out, decide_eq_true hkk, Bool.or_true]
        have HNEW := Lib.hid hnew
        have hxw : x.way = wayOf key true := by rw [HMK.out, hkk]; rfl
        have HXW := Lib.hid hxw
        clear hnew hxw
        refine wp_region_seq [3, 3, 3, 3, 1, 3, 0] (fun _ => True) (by rfl) (by rfl) trivial ?_
        simp only [List.zip_cons_cons, List.zip_nil_right]
        refine wpPi_move _ rfl rfl ?_
        simp only [pl, pn, el, ec, sz, ss, gz, gs, if_true, if_false, Bool.false_eq_true, Bool.not_true, Bool.not_false, Nat.add_zero, Nat.zero_add, Nat.reduceAdd]
        refine wpPi_move _ rfl rfl ?_
        simp only [pl, pn, el, ec, sz, ss, gz, gs, if_true, if_false, Bool.false_eq_true, Bool.not_true, Bool.not_false, Nat.add_zero, Nat.zero_add, Nat.reduceAdd]
        refine wpPi_index _ _ _ _ _ _ _ _ _ rfl rfl rfl rfl Tryz.underlying53 (n := 65) (by kernel_rfl) hlt ?_
        simp only [pl, pn, el, ec, sz, ss, gz, gs, if_true, if_false, Bool.false_eq_true, Bool.not_true, Bool.not_false, Nat.add_zero, Nat.zero_add, Nat.reduceAdd]
        refine wpPi_field _ _ _ _ _ _ rfl rfl rfl fo_63_0 ?_
        simp only [pl, pn, el, ec, sz, ss, gz, gs, if_true, if_false, Bool.false_eq_true, Bool.not_true, Bool.not_false, Nat.add_zero, Nat.zero_add, Nat.reduceAdd]
        refine wpPi_do rfl (fun K hK => ?_)
        refine wp_exec (exec_load1 9 _ (by rfl) b (off + k * 65) (by rfl) (.string x.key) hkc _ Tryz.underlying9 rfl) ?_
        refine hK _ _ trivial ?_
        clear hK K
        try simp only [pl, pn, el, ec, sz, ss, gz, gs, if_true, if_false, Bool.false_eq_true, Bool.not_true, Bool.not_false, Nat.add_zero, Nat.zero_add, Nat.reduceAdd]
        refine wpPi_move _ rfl rfl ?_
        simp only [pl, pn, el, ec, sz, ss, gz, gs, if_true, if_false, Bool.false_eq_true, Bool.not_true, Bool.not_false, Nat.add_zero, Nat.zero_add, Nat.reduceAdd]
        refine wpPi_val rfl (fun w' hS => exec_eql_str _ _ _ _ rfl x.key key rfl rfl true (decide_eq_true hkk)) ?_
        simp only [pl, pn, el, ec, sz, ss, gz, gs, if_true, if_false, Bool.false_eq_true, Bool.not_true, Bool.not_false, Nat.add_zero, Nat.zero_add, Nat.reduceAdd]
        refine wpPi_nil ?_
        clear hkk
        go_upto_region 10 with (fail)
        refine wp_region_seq [3, 3, 3, 3, 1, 1] (fun _ => True) (by rfl) (by rfl) trivial ?_
        simp only [List.zip_cons_cons, List.zip_nil_right]
        refine wpPi_move _ rfl rfl ?_
        simp only [pl, pn, el, ec, sz, ss, gz, gs, if_true, if_false, Bool.false_eq_true, Bool.not_true, Bool.not_false, Nat.add_zero, Nat.zero_add, Nat.reduceAdd]
        refine wpPi_move _ rfl rfl ?_
        simp only [pl, pn, el, ec, sz, ss, gz, gs, if_true, if_false, Bool.false_eq_true, Bool.not_true, Bool.not_false, Nat.add_zero, Nat.zero_add, Nat.reduceAdd]
        refine wpPi_index _ _ _ _ _ _ _ _ _ rfl rfl rfl rfl Tryz.underlying53 (n := 65) (by kernel_rfl) hlt ?_
        simp only [pl, pn, el, ec, sz, ss, gz, gs, if_true, if_false, Bool.false_eq_true, Bool.not_true, Bool.not_false, Nat.add_zero, Nat.zero_add, Nat.reduceAdd]
        refine wpPi_field _ _ _ _ _ _ rfl rfl rfl fo_63_1 ?_
        simp only [pl, pn, el, ec, sz, ss, gz, gs, if_true, if_false, Bool.false_eq_true, Bool.not_true, Bool.not_false, Nat.add_zero, Nat.zero_add, Nat.reduceAdd]
        refine wpPi_do rfl (fun K hK => ?_)
        refine wp_exec (exec_loadA 24 _ (by rfl) b (off + k * 65 + 1) (by rfl) (idCells x.way) hwc _ Tryz.underlying24 rfl 32 (by kernel_rfl) hws) ?_
        refine hK _ _ trivial ?_
        clear hK K
        try simp only [pl, pn, el, ec, sz, ss, gz, gs, if_true, if_false, Bool.false_eq_true, Bool.not_true, Bool.not_false, Nat.add_zero, Nat.zero_add, Nat.reduceAdd]
        refine wpPi_do rfl (fun K hK => ?_)
        refine wp_storeA 24 _ _ bw 0 (idCells x.way) (by rfl) (by rfl) (by rfl) (idCells_one _) 32 (by kernel_rfl) hws _ _ hrow (by rw [hws, hos]; exact Nat.le_refl _) (fun w6 hB6 hm6 => ?_)
        rw [putRow_whole (by rw [hws, hos])] at hB6
        refine hK _ _ trivial ?_
        clear hK K
        try simp only [pl, pn, el, ec, sz, ss, gz, gs, if_true, if_false, Bool.false_eq_true, Bool.not_true, Bool.not_false, Nat.add_zero, Nat.zero_add, Nat.reduceAdd]
        refine wpPi_nil ?_
        have hM6 : Mod (fun q => q = bw) w4 w6 := hm.trans hm6 (fun _ _ h => h)
        have hrow6 : w6.heap[bw]? = some (.cells (idCells (wayOf key true)) 24 (0, 0)) := by rw [← HXW.out]; exact hB6
        clear hm hm6 hB6 hrow hkc hwc
        go_wp2
        go_roundw
        case rel => exact ⟨k + 1, by omega, by go_num, by rw [HNEW.out], by rw [HNEW.out]; exact hrow6, hM6⟩
        case measure => simp [intOf]; omega
      · have hnew : wayIn key ls (k + 1) = old := by rw [HSU.out, decide_eq_false hkk, Bool.or_false]
        have HNEW := Lib.hid hnew
        clear hnew
        refine wp_region_seq [3, 3, 3, 3, 1, 3, 0] (fun _ => True) (by rfl) (by rfl) trivial ?_
        simp only [List.zip_cons_cons, List.zip_nil_right]
        refine wpPi_move _ rfl rfl ?_
        simp only [pl, pn, el, ec, sz, ss, gz, gs, if_true, if_false, Bool.false_eq_true, Bool.not_true, Bool.not_false, Nat.add_zero, Nat.zero_add, Nat.reduceAdd]
        refine wpPi_move _ rfl rfl ?_
        simp only [pl, pn, el, ec, sz, ss, gz, gs, if_true, if_false, Bool.false_eq_true, Bool.not_true, Bool.not_false, Nat.add_zero, Nat.zero_add, Nat.reduceAdd]
        refine wpPi_index _ _ _ _ _ _ _ _ _ rfl rfl rfl rfl Tryz.underlying53 (n := 65) (by kernel_rfl) hlt ?_
        simp only [pl, pn, el, ec, sz, ss, gz, gs, if_true, if_false, Bool.false_eq_true, Bool.not_true, Bool.not_false, Nat.add_zero, Nat.zero_add, Nat.reduceAdd]
        refine wpPi_field _ _ _ _ _ _ rfl rfl rfl fo_63_0 ?_
        simp only [pl, pn, el, ec, sz, ss, gz, gs, if_true, if_false, Bool.false_eq_true, Bool.not_true, Bool.not_false, Nat.add_zero, Nat.zero_add, Nat.reduceAdd]
        refine wpPi_do rfl (fun K hK => ?_)
        refine wp_exec (exec_load1 9 _ (by rfl) b (off + k * 65) (by rfl) (.string x.key) hkc _ Tryz.underlying9 rfl) ?_
        refine hK _ _ trivial ?_
        clear hK K
        try simp only [pl, pn, el, ec, sz, ss, gz, gs, if_true, if_false, Bool.false_eq_true, Bool.not_true, Bool.not_false, Nat.add_zero, Nat.zero_add, Nat.reduceAdd]
        refine wpPi_move _ rfl rfl ?_
        simp only [pl, pn, el, ec, sz, ss, gz, gs, if_true, if_false, Bool.false_eq_true, Bool.not_true, Bool.not_false, Nat.add_zero, Nat.zero_add, Nat.reduceAdd]
        refine wpPi_val rfl (fun w' hS => exec_eql_str _ _ _ _ rfl x.key key rfl rfl false (decide_eq_false hkk)) ?_
        simp only [pl, pn, el, ec, sz, ss, gz, gs, if_true, if_false, Bool.false_eq_true, Bool.not_true, Bool.not_false, Nat.add_zero, Nat.zero_add, Nat.reduceAdd]
        refine wpPi_nil ?_
        clear hkk hkc hwc
        go_wp2
        go_roundw
        case rel => exact ⟨k + 1, by omega, by go_num, by rw [HNEW.out], by rw [HNEW.out]; exact hrow, hm⟩
        case measure => simp [intOf]; omega
    · have hz : ¬ (k : Int) < (ls.length : Int) := by omega
      obtain rfl : k = ls.length := by omega
      rw [HWA.out] at hrow ⊢
      have hM : Mod NoB w wr := hM4.transB hm (by omega)
      have hLr := Sl.keepB HLS.out hm (fun q hq => by omega)
      have HLR := Lib.hid (Sl.mono hLr (fun _ _ => trivial) (fun _ _ h => h) : Ls wr Ever _ _)
      clear hLr
      cases hh : hasK es key with
      | false =>
        have herr : errP es key = 26 := by rw [HEP.out, hh]; rfl
        have hout : pathOut es key = [] := by unfold pathOut; rw [if_neg (by rw [herr]; simp)]
        have HE := Lib.hid herr
        have HO := Lib.hid hout
        clear herr hout hh hrow
        go_wp2
        go_ret2
        exact ⟨_, by rw [HE.out]; rfl, by rw [HO.out]; exact Gat.nil _ _ _ _ _, hM⟩
      | true =>
        have herr : errP es key = 0 := by rw [HEP.out, hh]; rfl
        have hway : wayOf key true = shaL key.data.toList := rfl
        have hout := HPO.out herr
        have HE := Lib.hid herr
        rw [hh, hway] at hrow
        have hwl : (shaL key.data.toList).length = 32 := shaL_len _
        have HOUT := Lib.hid hout
        clear hout hh herr
        obtain ⟨way, hwe⟩ : ∃ q, shaL key.data.toList = q := ⟨_, rfl⟩
        rw [hwe] at hrow hwl HOUT
        have hws : (idCells way).size = 32 := by rw [idCells_size, hwl]
        clear hwe hway
        have hszr := hM.size
        go_wp2
        go_loopw [7, 11, 12] (RpRelB way ls wr) (fun _ _ i _ => 256 - (intOf i).toNat)
        case atStart => exact ⟨256, 0, ls, [], rfl, rfl, HLR.out, HLIE.out, by omega, Gat.nil _ _ _ _ _, Nat.le_refl _, by rw [List.append_nil], Mod.refl _ _⟩
        case round =>
          rename World => w8
          obtain ⟨f, i, l, out, hfi, rfl, hl, hlie, hll, hg, hol, hp, hm8⟩ := hrel
          have HG := Lib.hid hg
          have HL := Lib.hid hl
          have HP := Lib.hid hp
          obtain ⟨adl, capl, rfl, hllm, -⟩ := Sl.at hl
          obtain ⟨ado, capo, rfl⟩ := hg.slice
          clear hg hl hp
          by_cases h2 : 2 ≤ l.length
          · have hi := hlie.bits h2
            obtain ⟨f', rfl⟩ : ∃ f', f = f' + 1 := ⟨f - 1, by omega⟩
            have hst := path_step HP.out h2
            have hz2 : (l.length : Int) > 1 := by omega
            have hsl := side_len i l
            have hA := hlie.side false
            have hB := hlie.side true
            have hda : (dig f' (i + 1) (sideL false i l)).length = 32 := dig_len (by omega) hA
            have hdb : (dig f' (i + 1) (sideL true i l)).length = 32 := dig_len (by omega) hB
            have hrow8 := hm8.obj id hrow
            have hsz8 := hm8.size
            obtain ⟨bt, hbt⟩ : ∃ q, bitAt way i = q := ⟨_, rfl⟩
            rw [hbt] at hst
            have HBT := Lib.hid hbt
            have HST := Lib.hid hst
            clear hbt hst
            go_upto_region 18 with (fail)
            refine wp_region_seq [3, 3, 1, 3, 3, 3, 3, 3] (fun _ => True) (by rfl) (by rfl) trivial ?_
            simp only [List.zip_cons_cons, List.zip_nil_right]
            refine wpPi_move _ rfl rfl ?_
            simp only [pl, pn, el, ec, sz, ss, gz, gs, if_true, if_false, Bool.false_eq_true, Bool.not_true, Bool.not_false, Nat.add_zero, Nat.zero_add, Nat.reduceAdd]
            refine wpPi_move _ rfl rfl ?_
            simp only [pl, pn, el, ec, sz, ss, gz, gs, if_true, if_false, Bool.false_eq_true, Bool.not_true, Bool.not_false, Nat.add_zero, Nat.zero_add, Nat.reduceAdd]
            refine wpPi_do rfl (fun K hK => ?_)
            refine wp_enterQ (run_call 29 [.tmp 50, .tmp 51] _ rfl _ Tryz.func29 rfl (by kernel_rfl) [.slice adl l.length capl, .int .i64 (i : Int)] rfl _) (refCut_any HL.out i hi hlie (by omega)) ?_
            rintro e w9 ⟨va, vb, rfl, hca, hcb, hm9⟩
            refine ⟨_, rfl, hK _ _ trivial ?_⟩
            clear hK K
            try simp only [pl, pn, el, ec, sz, ss, gz, gs, if_true, if_false, Bool.false_eq_true, Bool.not_true, Bool.not_false, Nat.add_zero, Nat.zero_add, Nat.reduceAdd]
            refine wpPi_move _ rfl rfl ?_
            simp only [pl, pn, el, ec, sz, ss, gz, gs, if_true, if_false, Bool.false_eq_true, Bool.not_true, Bool.not_false, Nat.add_zero, Nat.zero_add, Nat.reduceAdd]
            refine wpPi_any (v := ?_) rfl (fun w' => ?_) ?_; rotate_left; · (go_simp; try with_reducible rfl)
            simp only [pl, pn, el, ec, sz, ss, gz, gs, if_true, if_false, Bool.false_eq_true, Bool.not_true, Bool.not_false, Nat.add_zero, Nat.zero_add, Nat.reduceAdd]
            refine wpPi_any (v := ?_) rfl (fun w' => ?_) ?_; rotate_left; · (go_simp; try with_reducible rfl)
            simp only [pl, pn, el, ec, sz, ss, gz, gs, if_true, if_false, Bool.false_eq_true, Bool.not_true, Bool.not_false, Nat.add_zero, Nat.zero_add, Nat.reduceAdd]
            refine wpPi_assign _ rfl rfl ?_
            simp only [pl, pn, el, ec, sz, ss, gz, gs, if_true, if_false, Bool.false_eq_true, Bool.not_true, Bool.not_false, Nat.add_zero, Nat.zero_add, Nat.reduceAdd]
            refine wpPi_assign _ rfl rfl ?_
            simp only [pl, pn, el, ec, sz, ss, gz, gs, if_true, if_false, Bool.false_eq_true, Bool.not_true, Bool.not_false, Nat.add_zero, Nat.zero_add, Nat.reduceAdd]
            refine wpPi_nil ?_
            obtain ⟨la, hla⟩ : ∃ q, sideL false i l = q := ⟨_, rfl⟩
            obtain ⟨lb, hlb⟩ : ∃ q, sideL true i l = q := ⟨_, rfl⟩
            have HSTF := Lib.hid (fun (h : bt = false) => show pathL way 256 0 ls = pathL way f' (i + 1) la ++ ([(false, dig f' (i + 1) lb)] ++ out) by
              have := HST.out
              rw [h, hla, show (!false) = true from rfl, hlb] at this
              exact this)
            have HSTT := Lib.hid (fun (h : bt = true) => show pathL way 256 0 ls = pathL way f' (i + 1) lb ++ ([(true, dig f' (i + 1) la)] ++ out) by
              have := HST.out
              rw [h, hlb, show (!true) = false from rfl, hla] at this
              exact this)
            rw [hla] at hca hA hda hsl
            rw [hlb] at hcb hB hdb hsl
            clear hla hlb HST
            obtain ⟨da, hdae⟩ : ∃ q, dig f' (i + 1) la = q := ⟨_, rfl⟩
            obtain ⟨db, hdbe⟩ : ∃ q, dig f' (i + 1) lb = q := ⟨_, rfl⟩
            rw [hdae] at hda HSTT
            rw [hdbe] at hdb HSTF
            have HDA := Lib.hid hdae
            have HDB := Lib.hid hdbe
            clear hdae hdbe
            have hbsF := built_sideF db hdb
            have hbsT := built_side1 da hda
            have hss := sideCells_size (false, db)
            have hssT := sideCells_size (true, da)
            go_upto_region 19 with (fail)
            refine wp_region_seq [3, 3, 3, 1, 0, 1, 1] (fun _ => True) (by rfl) (by rfl) trivial ?_
            simp only [List.zip_cons_cons, List.zip_nil_right]
            refine wpPi_move _ rfl rfl ?_
            simp only [pl, pn, el, ec, sz, ss, gz, gs, if_true, if_false, Bool.false_eq_true, Bool.not_true, Bool.not_false, Nat.add_zero, Nat.zero_add, Nat.reduceAdd]
            refine wpPi_move _ rfl rfl ?_
            simp only [pl, pn, el, ec, sz, ss, gz, gs, if_true, if_false, Bool.false_eq_true, Bool.not_true, Bool.not_false, Nat.add_zero, Nat.zero_add, Nat.reduceAdd]
            refine wpPi_addR _ _ _ _ (i : Int) 1 ((i + 1 : Nat) : Int) rfl rfl rfl rfl (by omega) (by omega) (by omega) ?_
            simp only [pl, pn, el, ec, sz, ss, gz, gs, if_true, if_false, Bool.false_eq_true, Bool.not_true, Bool.not_false, Nat.add_zero, Nat.zero_add, Nat.reduceAdd]
            refine wpPi_do rfl (fun K hK => ?_)
            refine wp_enterQ (run_call 23 [.tmp 55, .tmp 57] _ rfl _ Tryz.func23 rfl (by kernel_rfl) [vb, .int .i64 ((i + 1 : Nat) : Int)] rfl _) (refDigest_any f' (i + 1) lb vb _ (by omega) hcb hB (by omega)) ?_
            rintro e w10 ⟨rfl, hm10⟩
            rw [HDB.out]
            refine ⟨_, rfl, hK _ _ trivial ?_⟩
            clear hK K
            try simp only [pl, pn, el, ec, sz, ss, gz, gs, if_true, if_false, Bool.false_eq_true, Bool.not_true, Bool.not_false, Nat.add_zero, Nat.zero_add, Nat.reduceAdd]
            refine wpPi_val rfl (fun w' hS => exec_build_of 41 [(0, _), (1, _)] [(0, .bool false), (1, .agg (idCells db))] _ (by rfl) (by rfl) hbsF) ?_
            simp only [pl, pn, el, ec, sz, ss, gz, gs, if_true, if_false, Bool.false_eq_true, Bool.not_true, Bool.not_false, Nat.add_zero, Nat.zero_add, Nat.reduceAdd]
            refine wpPi_do rfl (fun K hK => ?_)
            refine wp_alloc 41 _ (by rfl) sideZ (fun w11 hB11 hm11 hs11 => ?_)
            replace hB11 : w11.heap[w10.heap.size]? = some (.cells (sideCells (false, zeroID)) 41 (0, 0)) := hB11
            refine hK _ _ trivial ?_
            clear hK K
            try simp only [pl, pn, el, ec, sz, ss, gz, gs, if_true, if_false, Bool.false_eq_true, Bool.not_true, Bool.not_false, Nat.add_zero, Nat.zero_add, Nat.reduceAdd]
            refine wpPi_do rfl (fun K hK => ?_)
            refine wp_storeA 41 _ _ w10.heap.size 0 (sideCells (false, db)) (by rfl) (by rfl) (by rfl) (sideCells_one _) 33 (by kernel_rfl) hss _ _ hB11 (by rw [hss, sideCells_size]; exact Nat.le_refl _) (fun w12 hB12 hm12 => ?_)
            rw [putRow_whole (by rw [hss, sideCells_size])] at hB12
            refine hK _ _ trivial ?_
            clear hK K
            try simp only [pl, pn, el, ec, sz, ss, gz, gs, if_true, if_false, Bool.false_eq_true, Bool.not_true, Bool.not_false, Nat.add_zero, Nat.zero_add, Nat.reduceAdd]
            refine wpPi_nil ?_
            have hs10 := (hm9.trans0 hm10).size
            have hM12 : Mod NoB w8 w12 := ((hm9.trans0 hm10).trans0 hm11).transB hm12 hs10
            have hMC12 : Mod NoB w9 w12 := (hm10.trans0 hm11).transB hm12 hm10.size
            have hrow12 := hM12.obj id hrow8
            have hs9 := hm10.size
            have hbl := row_lt' hB12
            generalize w10.heap.size = b15 at *
            clear hm9 hm10 hm11 hm12 hB11 hbsF hrow8
            go_upto_region 21 with (fail)
            refine wp_region_seq [1, 3, 1] (fun _ => True) (by rfl) (by rfl) trivial ?_
            simp only [List.zip_cons_cons, List.zip_nil_right]
            refine wpPi_do rfl (fun K hK => ?_)
            refine wp_exec (exec_loadA 24 _ (by rfl) bw 0 (by rfl) (idCells way) (CellsAt.whole hrow12) _ Tryz.underlying24 rfl 32 (by kernel_rfl) hws) ?_
            refine hK _ _ trivial ?_
            clear hK K
            try simp only [pl, pn, el, ec, sz, ss, gz, gs, if_true, if_false, Bool.false_eq_true, Bool.not_true, Bool.not_false, Nat.add_zero, Nat.zero_add, Nat.reduceAdd]
            refine wpPi_move _ rfl rfl ?_
            simp only [pl, pn, el, ec, sz, ss, gz, gs, if_true, if_false, Bool.false_eq_true, Bool.not_true, Bool.not_false, Nat.add_zero, Nat.zero_add, Nat.reduceAdd]
            refine wpPi_do rfl (fun K hK => ?_)
            refine wp_enterQ (run_call 30 [.tmp 61, .tmp 62] _ rfl _ Tryz.func30 rfl (by kernel_rfl) [.agg (idCells way), .int .i64 (i : Int)] rfl _) (refRight_any way hwl i hi _) ?_
            rintro e w13 ⟨rfl, hm13⟩
            rw [HBT.out]
            refine ⟨_, rfl, hK _ _ trivial ?_⟩
            clear hK K
            try simp only [pl, pn, el, ec, sz, ss, gz, gs, if_true, if_false, Bool.false_eq_true, Bool.not_true, Bool.not_false, Nat.add_zero, Nat.zero_add, Nat.reduceAdd]
            refine wpPi_nil ?_
            have hB13 := hm13.obj id hB12
            have hM13 := hM12.trans0 hm13
            have hMC13 := hMC12.trans0 hm13
            clear hB12
            cases bt with
            | false =>
              have HST := Lib.hid (HSTF.out rfl)
              clear HSTF HSTT hbsT
              go_upto_region 24 with (fail)
              refine wp_region_seq [1, 1, 3, 1, 3] (fun _ => True) (by rfl) (by rfl) trivial ?_
              simp only [List.zip_cons_cons, List.zip_nil_right]
              refine wpPi_do rfl (fun K hK => ?_)
              refine wp_exec (exec_loadA 41 _ (by rfl) b15 0 (by rfl) (sideCells (false, db)) (CellsAt.whole hB13) _ Tryz.underlying41 rfl 33 (by kernel_rfl) hss) ?_
              refine hK _ _ trivial ?_
              clear hK K
              try simp only [pl, pn, el, ec, sz, ss, gz, gs, if_true, if_false, Bool.false_eq_true, Bool.not_true, Bool.not_false, Nat.add_zero, Nat.zero_add, Nat.reduceAdd]
              refine wpPi_do rfl (fun K hK => ?_)
              refine wp_buildSlice1 28 41 _ (.agg (sideCells (false, db))) (.agg (sideCells (false, zeroID))) 33 (by rfl) (by rfl) Tryz.underlying28 side_i2 (by omega) (by omega) hss (fun w16 hB16 hm16 hs16 => ?_)
              replace hB16 : w16.heap[w13.heap.size]? = some (.cells (sideEnc (false, db)).toArray 41 (0, 0)) := hB16
              have hM16 := hM13.trans0 hm16
              have hszW := hM13.size
              refine hK _ _ trivial ?_
              clear hK K
              try simp only [pl, pn, el, ec, sz, ss, gz, gs, if_true, if_false, Bool.false_eq_true, Bool.not_true, Bool.not_false, Nat.add_zero, Nat.zero_add, Nat.reduceAdd]
              refine wpPi_move _ rfl rfl ?_
              simp only [pl, pn, el, ec, sz, ss, gz, gs, if_true, if_false, Bool.false_eq_true, Bool.not_true, Bool.not_false, Nat.add_zero, Nat.zero_add, Nat.reduceAdd]
              refine wpPi_do rfl (fun K hK => ?_)
              refine wp_gat sideEnc _ _ 28 41 (.agg (sideCells (false, zeroID))) 33 33 (by rfl) Tryz.underlying28 side_i (by kernel_rfl) (by omega) sideEnc_one wr.heap.size _ [(false, db)] (by rfl) (Gat.base (gat_lit sideEnc_len hB16) (by omega)) (.slice ado out.length capo) out (by rfl) (HG.out.keep0 hM16).src (by simp only [List.length_singleton]; unfold maxLen; omega) (by simp only [List.length_singleton]; omega) (by omega) (fun v17 w17 hg17 hm17 => ?_)
              have hM17 : Mod NoB w8 w17 := hM16.trans hm17 (fun k hk e => by
                have e' : some w13.heap.size = some k := e
                injection e' with e'
                omega)
              have hMC : Mod NoB w9 w17 := (hMC13.trans0 hm16).trans hm17 (fun k hk e => by
                have e' : some w13.heap.size = some k := e
                injection e' with e'
                have := hMC13.size
                omega)
              have hcx := hca.keep0 hMC
              have hMr := hm8.trans0 hM17
              refine hK _ _ trivial ?_
              clear hK K
              try simp only [pl, pn, el, ec, sz, ss, gz, gs, if_true, if_false, Bool.false_eq_true, Bool.not_true, Bool.not_false, Nat.add_zero, Nat.zero_add, Nat.reduceAdd]
              refine wpPi_assign _ rfl rfl ?_
              simp only [pl, pn, el, ec, sz, ss, gz, gs, if_true, if_false, Bool.false_eq_true, Bool.not_true, Bool.not_false, Nat.add_zero, Nat.zero_add, Nat.reduceAdd]
              refine wpPi_nil ?_
              have HST2 := Lib.hid HST.out
              clear hm8 hm13 hM13 hM12 hB13 hm16 hM16 hm17 hM17 hMC hB16 HG HST hrow12 hca hcb HL HP
              go_wp2
              go_roundw
              case rel => exact ⟨f', i + 1, _, [(false, db)] ++ out, by omega, by go_num, hcx, hA, by omega, hg17, by simp only [List.length_append, List.length_singleton]; omega, HST2.out, hMr⟩
              case measure => simp [intOf]; omega
            | true =>
              have HST := Lib.hid (HSTT.out rfl)
              clear HSTF HSTT
              go_upto_region 22 with (fail)
              refine wp_region_seq [3, 3, 3, 1, 0, 1] (fun _ => True) (by rfl) (by rfl) trivial ?_
              simp only [List.zip_cons_cons, List.zip_nil_right]
              refine wpPi_move _ rfl rfl ?_
              simp only [pl, pn, el, ec, sz, ss, gz, gs, if_true, if_false, Bool.false_eq_true, Bool.not_true, Bool.not_false, Nat.add_zero, Nat.zero_add, Nat.reduceAdd]
              refine wpPi_move _ rfl rfl ?_
              simp only [pl, pn, el, ec, sz, ss, gz, gs, if_true, if_false, Bool.false_eq_true, Bool.not_true, Bool.not_false, Nat.add_zero, Nat.zero_add, Nat.reduceAdd]
              refine wpPi_addR _ _ _ _ (i : Int) 1 ((i + 1 : Nat) : Int) rfl rfl rfl rfl (by omega) (by omega) (by omega) ?_
              simp only [pl, pn, el, ec, sz, ss, gz, gs, if_true, if_false, Bool.false_eq_true, Bool.not_true, Bool.not_false, Nat.add_zero, Nat.zero_add, Nat.reduceAdd]
              refine wpPi_do rfl (fun K hK => ?_)
              refine wp_enterQ (run_call 23 [.tmp 64, .tmp 66] _ rfl _ Tryz.func23 rfl (by kernel_rfl) [va, .int .i64 ((i + 1 : Nat) : Int)] rfl _) (refDigest_any f' (i + 1) la va _ (by omega) (hca.keep0 hMC13) hA (by omega)) ?_
              rintro e w14 ⟨rfl, hm14⟩
              rw [HDA.out]
              have hB14 := hm14.obj id hB13
              refine ⟨_, rfl, hK _ _ trivial ?_⟩
              clear hK K
              try simp only [pl, pn, el, ec, sz, ss, gz, gs, if_true, if_false, Bool.false_eq_true, Bool.not_true, Bool.not_false, Nat.add_zero, Nat.zero_add, Nat.reduceAdd]
              refine wpPi_val rfl (fun w' hS => exec_build_of 41 [(0, _), (1, _)] [(0, .bool true), (1, .agg (idCells da))] _ (by rfl) (by rfl) hbsT) ?_
              simp only [pl, pn, el, ec, sz, ss, gz, gs, if_true, if_false, Bool.false_eq_true, Bool.not_true, Bool.not_false, Nat.add_zero, Nat.zero_add, Nat.reduceAdd]
              refine wpPi_do rfl (fun K hK => ?_)
              refine wp_storeA 41 _ _ b15 0 (sideCells (true, da)) (by rfl) (by rfl) (by rfl) (sideCells_one _) 33 (by kernel_rfl) hssT _ _ hB14 (by rw [hssT, sideCells_size]; exact Nat.le_refl _) (fun w15 hB15 hm15 => ?_)
              rw [putRow_whole (by rw [hssT, sideCells_size])] at hB15
              refine hK _ _ trivial ?_
              clear hK K
              try simp only [pl, pn, el, ec, sz, ss, gz, gs, if_true, if_false, Bool.false_eq_true, Bool.not_true, Bool.not_false, Nat.add_zero, Nat.zero_add, Nat.reduceAdd]
              refine wpPi_nil ?_
              have hM15 : Mod NoB w8 w15 := (hM13.trans0 hm14).transB hm15 hs10
              have hMC15 : Mod NoB w9 w15 := (hMC13.trans0 hm14).transB hm15 hs9
              go_upto_region 24 with (fail)
              refine wp_region_seq [1, 1, 3, 1, 3] (fun _ => True) (by rfl) (by rfl) trivial ?_
              simp only [List.zip_cons_cons, List.zip_nil_right]
              refine wpPi_do rfl (fun K hK => ?_)
              refine wp_exec (exec_loadA 41 _ (by rfl) b15 0 (by rfl) (sideCells (true, da)) (CellsAt.whole hB15) _ Tryz.underlying41 rfl 33 (by kernel_rfl) hssT) ?_
              refine hK _ _ trivial ?_
              clear hK K
              try simp only [pl, pn, el, ec, sz, ss, gz, gs, if_true, if_false, Bool.false_eq_true, Bool.not_true, Bool.not_false, Nat.add_zero, Nat.zero_add, Nat.reduceAdd]
              refine wpPi_do rfl (fun K hK => ?_)
              refine wp_buildSlice1 28 41 _ (.agg (sideCells (true, da))) (.agg (sideCells (false, zeroID))) 33 (by rfl) (by rfl) Tryz.underlying28 side_i2 (by omega) (by omega) hssT (fun w16 hB16 hm16 hs16 => ?_)
              replace hB16 : w16.heap[w15.heap.size]? = some (.cells (sideEnc (true, da)).toArray 41 (0, 0)) := hB16
              have hM16 := hM15.trans0 hm16
              have hszW := hM15.size
              refine hK _ _ trivial ?_
              clear hK K
              try simp only [pl, pn, el, ec, sz, ss, gz, gs, if_true, if_false, Bool.false_eq_true, Bool.not_true, Bool.not_false, Nat.add_zero, Nat.zero_add, Nat.reduceAdd]
              refine wpPi_move _ rfl rfl ?_
              simp only [pl, pn, el, ec, sz, ss, gz, gs, if_true, if_false, Bool.false_eq_true, Bool.not_true, Bool.not_false, Nat.add_zero, Nat.zero_add, Nat.reduceAdd]
              refine wpPi_do rfl (fun K hK => ?_)
              refine wp_gat sideEnc _ _ 28 41 (.agg (sideCells (false, zeroID))) 33 33 (by rfl) Tryz.underlying28 side_i (by kernel_rfl) (by omega) sideEnc_one wr.heap.size _ [(true, da)] (by rfl) (Gat.base (gat_lit sideEnc_len hB16) (by omega)) (.slice ado out.length capo) out (by rfl) (HG.out.keep0 hM16).src (by simp only [List.length_singleton]; unfold maxLen; omega) (by simp only [List.length_singleton]; omega) (by omega) (fun v17 w17 hg17 hm17 => ?_)
              have hM17 : Mod NoB w8 w17 := hM16.trans hm17 (fun k hk e => by
                have e' : some w15.heap.size = some k := e
                injection e' with e'
                omega)
              have hMC : Mod NoB w9 w17 := (hMC15.trans0 hm16).trans hm17 (fun k hk e => by
                have e' : some w15.heap.size = some k := e
                injection e' with e'
                have := hMC15.size
                omega)
              have hcx := hcb.keep0 hMC
              have hMr := hm8.trans0 hM17
              refine hK _ _ trivial ?_
              clear hK K
              try simp only [pl, pn, el, ec, sz, ss, gz, gs, if_true, if_false, Bool.false_eq_true, Bool.not_true, Bool.not_false, Nat.add_zero, Nat.zero_add, Nat.reduceAdd]
              refine wpPi_assign _ rfl rfl ?_
              simp only [pl, pn, el, ec, sz, ss, gz, gs, if_true, if_false, Bool.false_eq_true, Bool.not_true, Bool.not_false, Nat.add_zero, Nat.zero_add, Nat.reduceAdd]
              refine wpPi_nil ?_
              have HST2 := Lib.hid HST.out
              clear hm8 hm13 hM13 hM12 hB13 hm14 hm15 hM15 hMC15 hB14 hB15 hm16 hM16 hm17 hM17 hMC hB16 HG HST hrow12 hca hcb HL HP
              go_wp2
              go_roundw
              case rel => exact ⟨f', i + 1, _, [(true, da)] ++ out, by omega, by go_num, hcx, hB, by omega, hg17, by simp only [List.length_append, List.length_singleton]; omega, HST2.out, hMr⟩
              case measure => simp [intOf]; omega
          · have hz2 : ¬ (l.length : Int) > 1 := by omega
            have hfin : out = pathOut es key := by rw [HOUT.out, HP.out, path_few (by omega), List.nil_append]
            have hgf : Gat sideEnc 41 33 w.heap.size w8 (.slice ado out.length capo) (pathOut es key) := by rw [← hfin]; exact Gat.base HG.out hszr
            have HGF := Lib.hid hgf
            have hMr := hM.trans0 hm8
            clear hfin hgf HG HP
            go_wp2
            go_ret2
            exact ⟨_, by rw [HE.out]; rfl, HGF.out, hMr⟩
end Go.Proofs.YtchkikmmcmjcgaaGreat

/- The document's tree: does a path prove an entry. -/
namespace Go.Proofs.YtchkikmmcmjcgaaGreat
set_option linter.unusedSimpArgs false
set_option linter.unusedVariables false
set_option linter.unnecessarySimpa false
set_option linter.unusedSectionVars false
open Go.RowKit Go.Shelf


set_option maxRecDepth 10000 in
theorem refProves_long {own : Bool} {w : World} {G' : Nat → Prop} {cs : Array Value} {vp : Value} {ps : List SideL} (root : List UInt8) (x : Leaf) (hp : Ss own w G' vp ps) (hlen : 256 < ps.length) :
    Calls Tryz.prog 15 #[.agg (idCells root), .agg cs, vp] w (RetM (.bool (provesL root x ps)) w) := by
  obtain ⟨ad, cap, rfl, -, -⟩ := Sl.at hp
  have e : provesL root x ps = false := by unfold provesL; rw [decide_eq_false (by omega)]; rfl
  have hz : (ps.length : Int) > 256 := by omega
  rw [e]
  obtain ⟨C, hC⟩ : ∃ C, idCells root = C := ⟨_, rfl⟩
  rw [hC]
  clear hp e hC
  go_enter Tryz.func15, Tryz.ntmps15
  go_upto_region 0 with (fail)
  refine wp_region_seq [1, 1, 3] (fun _ => True) (by rfl) (by rfl) trivial ?_
  simp only [List.zip_cons_cons, List.zip_nil_right]
  refine wpPi_do rfl (fun K hK => ?_)
  refine wp_box 24 _ _ (by rfl) (by rfl) (fun w1 hB1 hm1 hs1 => ?_)
  refine hK _ _ trivial ?_
  clear hK K
  try simp only [pl, pn, el, ec, sz, ss, gz, gs, if_true, if_false, Bool.false_eq_true, Bool.not_true, Bool.not_false, Nat.add_zero, Nat.zero_add, Nat.reduceAdd]
  refine wpPi_do rfl (fun K hK => ?_)
  refine wp_box 27 _ _ (by rfl) (by rfl) (fun w2 hB2 hm2 hs2 => ?_)
  refine hK _ _ trivial ?_
  clear hK K
  try simp only [pl, pn, el, ec, sz, ss, gz, gs, if_true, if_false, Bool.false_eq_true, Bool.not_true, Bool.not_false, Nat.add_zero, Nat.zero_add, Nat.reduceAdd]
  refine wpPi_assign _ rfl rfl ?_
  simp only [pl, pn, el, ec, sz, ss, gz, gs, if_true, if_false, Bool.false_eq_true, Bool.not_true, Bool.not_false, Nat.add_zero, Nat.zero_add, Nat.reduceAdd]
  refine wpPi_nil ?_
  have hM := hm1.trans0 hm2
  clear hB1 hB2
  go_wp2
  go_ret
  exact ⟨rfl, hM⟩
set_option maxRecDepth 10000 in
set_option maxHeartbeats 1000000 in
theorem refProves_any {own : Bool} {w : World} {G G' : Nat → Prop} {cs : Array Value} {e : Ent} {vp : Value} {ps : List SideL} (root : List UInt8) (hroot : root.length = 32) (he : EntC w G cs e) (h1 : e.1.size ≤ 1000000) (h2 : e.2.length ≤ 1000000) (hp : Ss own w G' vp ps) :
    Calls Tryz.prog 15 #[.agg (idCells root), .agg cs, vp] w (RetM (.bool (provesL root (leafOf e) ps)) w) := by
  rcases Nat.lt_or_ge 256 ps.length with hlong | hlen
  · exact refProves_long root _ hp hlong
  have HP := Lib.hid hp
  have HE := Lib.hid he
  have hcs2 : cs.size = 2 := by obtain ⟨v, rfl, -⟩ := he; rfl
  have hce : (Value.agg cs).cells = cs := rfl
  obtain ⟨ad, cap, rfl, -, -⟩ := Sl.at hp
  have hz : ¬ (ps.length : Int) > 256 := by omega
  have hpl : provesL root (leafOf e) ps = decide (ps.foldl climb (oneD (leafOf e)) = root) := by unfold provesL; rw [decide_eq_true hlen]; rfl
  have hd0 : (oneD (leafOf e)).length = 32 := shaL_len _
  have hls := leaf_len e
  rw [hpl]
  have hrs : (idCells root).size = 32 := by rw [idCells_size, hroot]
  obtain ⟨C, hC⟩ : ∃ C, idCells root = C := ⟨_, rfl⟩
  have HC := Lib.hid hC
  rw [hC] at hrs ⊢
  clear hp hC hpl he
  go_enter Tryz.func15, Tryz.ntmps15
  go_upto_region 0 with (fail)
  refine wp_region_seq [1, 1, 3] (fun _ => True) (by rfl) (by rfl) trivial ?_
  simp only [List.zip_cons_cons, List.zip_nil_right]
  refine wpPi_do rfl (fun K hK => ?_)
  refine wp_box 24 _ _ (by rfl) (by rfl) (fun w1 hB1 hm1 hs1 => ?_)
  replace hB1 : w1.heap[w.heap.size]? = some (.cells C 24 (0, 0)) := hB1
  refine hK _ _ trivial ?_
  clear hK K
  try simp only [pl, pn, el, ec, sz, ss, gz, gs, if_true, if_false, Bool.false_eq_true, Bool.not_true, Bool.not_false, Nat.add_zero, Nat.zero_add, Nat.reduceAdd]
  refine wpPi_do rfl (fun K hK => ?_)
  refine wp_box 27 _ _ (by rfl) (by rfl) (fun w2 hB2 hm2 hs2 => ?_)
  replace hB2 : w2.heap[w1.heap.size]? = some (.cells cs 27 (0, 0)) := hB2
  replace hB1 := hm2.obj id hB1
  refine hK _ _ trivial ?_
  clear hK K
  try simp only [pl, pn, el, ec, sz, ss, gz, gs, if_true, if_false, Bool.false_eq_true, Bool.not_true, Bool.not_false, Nat.add_zero, Nat.zero_add, Nat.reduceAdd]
  refine wpPi_assign _ rfl rfl ?_
  simp only [pl, pn, el, ec, sz, ss, gz, gs, if_true, if_false, Bool.false_eq_true, Bool.not_true, Bool.not_false, Nat.add_zero, Nat.zero_add, Nat.reduceAdd]
  refine wpPi_nil ?_
  have hM2 := hm1.trans0 hm2
  have hb3 : w.heap.size < w2.heap.size := by omega
  generalize w1.heap.size = b4 at *
  clear hm1 hm2
  go_upto_region 3 with (fail)
  refine wp_region_seq [1, 1, 1, 3, 1, 1, 1, 1] (fun _ => True) (by rfl) (by rfl) trivial ?_
  simp only [List.zip_cons_cons, List.zip_nil_right]
  refine wpPi_do rfl (fun K hK => ?_)
  refine wp_exec (exec_loadA 27 _ (by rfl) b4 0 (by rfl) cs (CellsAt.whole hB2) _ Tryz.underlying27 rfl 2 (by kernel_rfl) hcs2) ?_
  refine hK _ _ trivial ?_
  clear hK K
  try simp only [pl, pn, el, ec, sz, ss, gz, gs, if_true, if_false, Bool.false_eq_true, Bool.not_true, Bool.not_false, Nat.add_zero, Nat.zero_add, Nat.reduceAdd]
  refine wpPi_do rfl (fun K hK => ?_)
  refine wp_buildSlice1 22 27 _ (.agg cs) (.agg #[.string ⟨#[]⟩, .slice none 0 0]) 2 (by rfl) (by rfl) Tryz.underlying22 entry_i2 (by omega) (by omega) hcs2 (fun w2a hB2a hm2a hs2a => ?_)
  replace hB2a : w2a.heap[w2.heap.size]? = some (.cells cs 27 (0, 0)) := hB2a
  have hes := es_one hB2a ((HE.out.keep hM2 (fun _ _ => id)).ever.keep hm2a (fun _ _ => id))
  refine hK _ _ trivial ?_
  clear hK K
  try simp only [pl, pn, el, ec, sz, ss, gz, gs, if_true, if_false, Bool.false_eq_true, Bool.not_true, Bool.not_false, Nat.add_zero, Nat.zero_add, Nat.reduceAdd]
  refine wpPi_do rfl (fun K hK => ?_)
  refine wp_enterQ (run_call 24 [.tmp 13] _ rfl _ Tryz.func24 rfl (by kernel_rfl) [.slice (some ⟨w2.heap.size, 0, none⟩) 1 1] rfl _) (refLeaves_any hes (short_one h1 h2) (by simp)) ?_
  rintro e3 w3a ⟨v3, rfl, hl3, hm3a⟩
  have hls3 : Ls w3a Ever v3 [leafOf e] := by
    have := gat_ls hl3
    rwa [List.map_map, show (fun (x : LeafS) => x.1) ∘ leafS = leafOf from rfl] at this
  obtain ⟨a3, c3, rfl, -, hat3⟩ := Sl.at hls3
  obtain ⟨b3', off3, rfl, -, -, hc3⟩ := hat3 0 (by simp)
  obtain ⟨_, -, ⟨rfl, hok3⟩, hc3⟩ := hc3 0 (by simp)
  rw [List.getElem_cons_zero] at hc3 hok3
  have hm3 : Mod NoB w2 w3a := hm2a.trans0 hm3a
  have hlsz := leafCells_size hok3
  clear hat3 hls3 hl3 hes
  refine ⟨_, rfl, hK _ _ trivial ?_⟩
  clear hK K
  try simp only [pl, pn, el, ec, sz, ss, gz, gs, if_true, if_false, Bool.false_eq_true, Bool.not_true, Bool.not_false, Nat.add_zero, Nat.zero_add, Nat.reduceAdd]
  refine wpPi_index _ _ _ _ _ _ _ _ 0 rfl rfl rfl rfl Tryz.underlying53 (n := 65) (by kernel_rfl) (by simp) ?_
  simp only [pl, pn, el, ec, sz, ss, gz, gs, if_true, if_false, Bool.false_eq_true, Bool.not_true, Bool.not_false, Nat.add_zero, Nat.zero_add, Nat.reduceAdd]
  refine wpPi_do rfl (fun K hK => ?_)
  refine wp_exec (exec_loadA 63 _ (by rfl) b3' (off3 + 0 * 65) (by rfl) (leafCells (leafOf e)) hc3 _ Tryz.underlying63 rfl 65 (by kernel_rfl) hlsz) ?_
  refine hK _ _ trivial ?_
  clear hK K
  try simp only [pl, pn, el, ec, sz, ss, gz, gs, if_true, if_false, Bool.false_eq_true, Bool.not_true, Bool.not_false, Nat.add_zero, Nat.zero_add, Nat.reduceAdd]
  refine wpPi_do rfl (fun K hK => ?_)
  refine wp_enterQ (run_call 35 [.tmp 16] _ rfl _ Tryz.func35 rfl (by kernel_rfl) [.agg (leafCells (leafOf e))] rfl _) (refOne_any _ hls _) ?_
  rintro e4 w4 ⟨rfl, hm4⟩
  generalize hdd : oneD (leafOf e) = d0 at *
  refine ⟨_, rfl, hK _ _ trivial ?_⟩
  clear hK K
  try simp only [pl, pn, el, ec, sz, ss, gz, gs, if_true, if_false, Bool.false_eq_true, Bool.not_true, Bool.not_false, Nat.add_zero, Nat.zero_add, Nat.reduceAdd]
  refine wpPi_do rfl (fun K hK => ?_)
  refine wp_alloc 24 _ (by rfl) idZ (fun w5 hB5 hm5 hs5 => ?_)
  replace hB5 : w5.heap[w4.heap.size]? = some (.cells (idCells (List.replicate 32 0)) 24 (0, 0)) := hB5
  refine hK _ _ trivial ?_
  clear hK K
  try simp only [pl, pn, el, ec, sz, ss, gz, gs, if_true, if_false, Bool.false_eq_true, Bool.not_true, Bool.not_false, Nat.add_zero, Nat.zero_add, Nat.reduceAdd]
  refine wpPi_do rfl (fun K hK => ?_)
  have hrd : (idCells d0).size = 32 := by rw [idCells_size, hd0]
  refine wp_storeA 24 _ _ w4.heap.size 0 (idCells d0) (by rfl) (by rfl) (by rfl) (idCells_one _) 32 (by kernel_rfl) hrd _ _ hB5 (by rw [hrd, idCells_size]; simp) (fun w6 hB6 hm6 => ?_)
  rw [putRow_whole (by rw [hrd, idCells_size]; rfl)] at hB6
  refine hK _ _ trivial ?_
  clear hK K
  try simp only [pl, pn, el, ec, sz, ss, gz, gs, if_true, if_false, Bool.false_eq_true, Bool.not_true, Bool.not_false, Nat.add_zero, Nat.zero_add, Nat.reduceAdd]
  refine wpPi_nil ?_
  clear hm3a hm2a hc3
  have hM24 := hm3.trans0 hm4
  have hM6 : Mod NoB w2 w6 := (hM24.trans0 hm5).transB hm6 hM24.size
  have hMw := hM2.trans0 hM6
  replace hB1 := hM6.obj id hB1
  have hb7 : w2.heap.size ≤ w4.heap.size := hM24.size
  have HP6 := Lib.hid (Sl.keep0 (Sl.inside HP.out (by omega)) hMw)
  generalize w4.heap.size = b7 at *
  clear hm3 hm4 hm5 hm6 hM24 hB5 hB2 hM6 hM2
  go_wp2
  go_loopw [8] (PvRel ps d0 b7 w6) (fun i _ => ps.length - (intOf i).toNat)
  case atStart => exact ⟨0, by omega, rfl, by simpa using hB6, Mod.refl _ _⟩
  case round =>
    rename World => wr
    obtain ⟨k, hk, rfl, hrow, hm⟩ := hrel
    by_cases hlt : k < ps.length
    · have hz2 : (k : Int) < (ps.length : Int) := by omega
      have hpk := Sl.keepB HP6.out hm (fun q hq => by omega)
      obtain ⟨_, _, hv, -, hat⟩ := Sl.at hpk
      cases hv
      obtain ⟨bq, off, rfl, -, -, hc⟩ := hat k hlt
      obtain ⟨_, -, ⟨rfl, hso⟩, hc⟩ := hc k hlt
      have hss := sideCells_size ps[k]
      have hfs := fold_succ hlt d0
      have hfl := fold_len (ps.take k) d0 hd0
      have hfl2 := climb_len ((ps.take k).foldl climb d0) ps[k]
      have HFS := Lib.hid hfs
      clear hat hpk hfs
      generalize ps[k] = s at *
      obtain ⟨d, hd⟩ : ∃ d, (ps.take k).foldl climb d0 = d := ⟨_, rfl⟩
      rw [hd] at hrow hfl hfl2 HFS
      clear hd
      have hrd : (idCells d).size = 32 := by rw [idCells_size, hfl]
      have hro : (idCells s.2).size = 32 := by rw [idCells_size, hso]
      have hrc : (idCells (climb d s)).size = 32 := by rw [idCells_size, hfl2]
      have hfg := side_flag hc
      have hot := side_other hso hc
      rw [Nat.add_zero] at hfg
      have hcr := CellsAt.whole hrow
      clear hc hss
      go_upto_region 7 with (fail)
      cases hleft : s.1 with
      | true =>
        have hcl : climb d s = twoD s.2 d := by unfold climb; rw [if_pos hleft]
        rw [hcl] at hrc hfl2 HFS
        refine wp_region_seq [3, 3, 3, 3, 1] (fun _ => True) (by rfl) (by rfl) trivial ?_
        simp only [List.zip_cons_cons, List.zip_nil_right]
        refine wpPi_move _ rfl rfl ?_
        simp only [pl, pn, el, ec, sz, ss, gz, gs, if_true, if_false, Bool.false_eq_true, Bool.not_true, Bool.not_false, Nat.add_zero, Nat.zero_add, Nat.reduceAdd]
        refine wpPi_move _ rfl rfl ?_
        simp only [pl, pn, el, ec, sz, ss, gz, gs, if_true, if_false, Bool.false_eq_true, Bool.not_true, Bool.not_false, Nat.add_zero, Nat.zero_add, Nat.reduceAdd]
        refine wpPi_index _ _ _ _ _ _ _ _ _ rfl rfl rfl rfl Tryz.underlying28 (n := 33) (by kernel_rfl) hlt ?_
        simp only [pl, pn, el, ec, sz, ss, gz, gs, if_true, if_false, Bool.false_eq_true, Bool.not_true, Bool.not_false, Nat.add_zero, Nat.zero_add, Nat.reduceAdd]
        refine wpPi_field _ _ _ _ _ _ rfl rfl rfl fo_41_0 ?_
        simp only [pl, pn, el, ec, sz, ss, gz, gs, if_true, if_false, Bool.false_eq_true, Bool.not_true, Bool.not_false, Nat.add_zero, Nat.zero_add, Nat.reduceAdd]
        refine wpPi_do rfl (fun K hK => ?_)
        refine wp_exec (exec_load1 4 _ (by rfl) bq (off + k * 33) (by rfl) (.bool true) (by rw [← hleft]; exact hfg) _ Tryz.underlying4 rfl) ?_
        refine hK _ _ trivial ?_
        clear hK K
        try simp only [pl, pn, el, ec, sz, ss, gz, gs, if_true, if_false, Bool.false_eq_true, Bool.not_true, Bool.not_false, Nat.add_zero, Nat.zero_add, Nat.reduceAdd]
        refine wpPi_nil ?_
        go_upto_region 8 with (fail)
        have hS : Mod NoB wr wr.drew := (Mod.refl _ _).drew
        refine wp_region_pi [(0, 3), (1, 3), (2, 3), (3, 3), (4, 0), (5, 0), (6, 1), (7, 2)] [7] (fun w' => Mod NoB wr w') (by kernel_rfl) (by kernel_rfl) (by kernel_rfl) (by kernel_rfl) (fun _ _ _ _ hd h => ⟨hd.trans h.1, h.2⟩) hS ?_
        simp only [List.map_cons, List.map_nil, List.getD_cons_zero, List.getD_cons_succ]
        refine wpPi_move _ rfl rfl ?_
        simp only [pl, pn, el, ec, sz, ss, gz, gs, if_true, if_false, Bool.false_eq_true, Bool.not_true, Bool.not_false, Nat.add_zero, Nat.zero_add, Nat.reduceAdd]
        refine wpPi_move _ rfl rfl ?_
        simp only [pl, pn, el, ec, sz, ss, gz, gs, if_true, if_false, Bool.false_eq_true, Bool.not_true, Bool.not_false, Nat.add_zero, Nat.zero_add, Nat.reduceAdd]
        refine wpPi_index _ _ _ _ _ _ _ _ _ rfl rfl rfl rfl Tryz.underlying28 (n := 33) (by kernel_rfl) hlt ?_
        simp only [pl, pn, el, ec, sz, ss, gz, gs, if_true, if_false, Bool.false_eq_true, Bool.not_true, Bool.not_false, Nat.add_zero, Nat.zero_add, Nat.reduceAdd]
        refine wpPi_field _ _ _ _ _ _ rfl rfl rfl fo_41_1 ?_
        simp only [pl, pn, el, ec, sz, ss, gz, gs, if_true, if_false, Bool.false_eq_true, Bool.not_true, Bool.not_false, Nat.add_zero, Nat.zero_add, Nat.reduceAdd]
        refine wpPi_val rfl (fun w' hS => exec_loadA 24 _ (by rfl) bq (off + k * 33 + 1) (by rfl) (idCells s.2) (hot.keep hS id) _ Tryz.underlying24 rfl 32 (by kernel_rfl) hro) ?_
        simp only [pl, pn, el, ec, sz, ss, gz, gs, if_true, if_false, Bool.false_eq_true, Bool.not_true, Bool.not_false, Nat.add_zero, Nat.zero_add, Nat.reduceAdd]
        refine wpPi_val rfl (fun w' hS => exec_loadA 24 _ (by rfl) b7 0 (by rfl) (idCells d) (hcr.keep hS id) _ Tryz.underlying24 rfl 32 (by kernel_rfl) hrd) ?_
        simp only [pl, pn, el, ec, sz, ss, gz, gs, if_true, if_false, Bool.false_eq_true, Bool.not_true, Bool.not_false, Nat.add_zero, Nat.zero_add, Nat.reduceAdd]
        refine wpPi_do rfl (fun K hK => ?_)
        refine wp_enterQ (run_call 36 [.tmp 33, .tmp 34] _ rfl _ Tryz.func36 rfl (by kernel_rfl) [.agg (idCells s.2), .agg (idCells d)] rfl _) (refTwo_any s.2 d hso hfl _) ?_
        rintro e w9 ⟨rfl, hm9⟩
        have hS9 := hS.trans0 hm9
        generalize twoD s.2 d = y at *
        refine ⟨_, rfl, hK _ _ hS9 ?_⟩
        clear hK K
        try simp only [pl, pn, el, ec, sz, ss, gz, gs, if_true, if_false, Bool.false_eq_true, Bool.not_true, Bool.not_false, Nat.add_zero, Nat.zero_add, Nat.reduceAdd]
        refine wpPi_last rfl (fun K hK => ?_)
        refine wp_storeA 24 _ _ b7 0 (idCells y) (by rfl) (by rfl) (by rfl) (idCells_one _) 32 (by kernel_rfl) hrc _ _ (hS9.obj id hrow) (by rw [hrc, hrd]; exact Nat.le_refl _) (fun w10 hB10 hm10 => ?_)
        rw [putRow_whole (by rw [hrc, hrd])] at hB10
        have hM10 : Mod (fun q => q = b7) w6 w10 := (hm.trans hS9 (fun _ _ h => h.elim)).trans hm10 (fun _ _ h => h)
        refine hK _ _ ?_
        clear hK K
        try simp only [pl, pn, el, ec, sz, ss, gz, gs, if_true, if_false, Bool.false_eq_true, Bool.not_true, Bool.not_false, Nat.add_zero, Nat.zero_add, Nat.reduceAdd]
        refine wpPi_nil ?_
        clear hm9 hm10 hS hS9 hm hrow hcr hot hfg
        go_wp2
        go_roundw
        case rel => exact ⟨k + 1, by omega, by go_num, by rw [HFS.out]; exact hB10, hM10⟩
        case measure => simp [intOf]; omega
      | false =>
        have hcl : climb d s = twoD d s.2 := by unfold climb; rw [if_neg (by rw [hleft]; simp)]
        rw [hcl] at hrc hfl2 HFS
        refine wp_region_seq [3, 3, 3, 3, 1] (fun _ => True) (by rfl) (by rfl) trivial ?_
        simp only [List.zip_cons_cons, List.zip_nil_right]
        refine wpPi_move _ rfl rfl ?_
        simp only [pl, pn, el, ec, sz, ss, gz, gs, if_true, if_false, Bool.false_eq_true, Bool.not_true, Bool.not_false, Nat.add_zero, Nat.zero_add, Nat.reduceAdd]
        refine wpPi_move _ rfl rfl ?_
        simp only [pl, pn, el, ec, sz, ss, gz, gs, if_true, if_false, Bool.false_eq_true, Bool.not_true, Bool.not_false, Nat.add_zero, Nat.zero_add, Nat.reduceAdd]
        refine wpPi_index _ _ _ _ _ _ _ _ _ rfl rfl rfl rfl Tryz.underlying28 (n := 33) (by kernel_rfl) hlt ?_
        simp only [pl, pn, el, ec, sz, ss, gz, gs, if_true, if_false, Bool.false_eq_true, Bool.not_true, Bool.not_false, Nat.add_zero, Nat.zero_add, Nat.reduceAdd]
        refine wpPi_field _ _ _ _ _ _ rfl rfl rfl fo_41_0 ?_
        simp only [pl, pn, el, ec, sz, ss, gz, gs, if_true, if_false, Bool.false_eq_true, Bool.not_true, Bool.not_false, Nat.add_zero, Nat.zero_add, Nat.reduceAdd]
        refine wpPi_do rfl (fun K hK => ?_)
        refine wp_exec (exec_load1 4 _ (by rfl) bq (off + k * 33) (by rfl) (.bool false) (by rw [← hleft]; exact hfg) _ Tryz.underlying4 rfl) ?_
        refine hK _ _ trivial ?_
        clear hK K
        try simp only [pl, pn, el, ec, sz, ss, gz, gs, if_true, if_false, Bool.false_eq_true, Bool.not_true, Bool.not_false, Nat.add_zero, Nat.zero_add, Nat.reduceAdd]
        refine wpPi_nil ?_
        go_upto_region 9 with (fail)
        have hS : Mod NoB wr wr.drew := (Mod.refl _ _).drew
        refine wp_region_pi [(0, 0), (1, 3), (2, 3), (3, 3), (4, 3), (5, 0), (6, 1), (7, 2)] [7] (fun w' => Mod NoB wr w') (by kernel_rfl) (by kernel_rfl) (by kernel_rfl) (by kernel_rfl) (fun _ _ _ _ hd h => ⟨hd.trans h.1, h.2⟩) hS ?_
        simp only [List.map_cons, List.map_nil, List.getD_cons_zero, List.getD_cons_succ]
        refine wpPi_val rfl (fun w' hS => exec_loadA 24 _ (by rfl) b7 0 (by rfl) (idCells d) (hcr.keep hS id) _ Tryz.underlying24 rfl 32 (by kernel_rfl) hrd) ?_
        simp only [pl, pn, el, ec, sz, ss, gz, gs, if_true, if_false, Bool.false_eq_true, Bool.not_true, Bool.not_false, Nat.add_zero, Nat.zero_add, Nat.reduceAdd]
        refine wpPi_move _ rfl rfl ?_
        simp only [pl, pn, el, ec, sz, ss, gz, gs, if_true, if_false, Bool.false_eq_true, Bool.not_true, Bool.not_false, Nat.add_zero, Nat.zero_add, Nat.reduceAdd]
        refine wpPi_move _ rfl rfl ?_
        simp only [pl, pn, el, ec, sz, ss, gz, gs, if_true, if_false, Bool.false_eq_true, Bool.not_true, Bool.not_false, Nat.add_zero, Nat.zero_add, Nat.reduceAdd]
        refine wpPi_index _ _ _ _ _ _ _ _ _ rfl rfl rfl rfl Tryz.underlying28 (n := 33) (by kernel_rfl) hlt ?_
        simp only [pl, pn, el, ec, sz, ss, gz, gs, if_true, if_false, Bool.false_eq_true, Bool.not_true, Bool.not_false, Nat.add_zero, Nat.zero_add, Nat.reduceAdd]
        refine wpPi_field _ _ _ _ _ _ rfl rfl rfl fo_41_1 ?_
        simp only [pl, pn, el, ec, sz, ss, gz, gs, if_true, if_false, Bool.false_eq_true, Bool.not_true, Bool.not_false, Nat.add_zero, Nat.zero_add, Nat.reduceAdd]
        refine wpPi_val rfl (fun w' hS => exec_loadA 24 _ (by rfl) bq (off + k * 33 + 1) (by rfl) (idCells s.2) (hot.keep hS id) _ Tryz.underlying24 rfl 32 (by kernel_rfl) hro) ?_
        simp only [pl, pn, el, ec, sz, ss, gz, gs, if_true, if_false, Bool.false_eq_true, Bool.not_true, Bool.not_false, Nat.add_zero, Nat.zero_add, Nat.reduceAdd]
        refine wpPi_do rfl (fun K hK => ?_)
        refine wp_enterQ (run_call 36 [.tmp 36, .tmp 41] _ rfl _ Tryz.func36 rfl (by kernel_rfl) [.agg (idCells d), .agg (idCells s.2)] rfl _) (refTwo_any d s.2 hfl hso _) ?_
        rintro e w9 ⟨rfl, hm9⟩
        have hS9 := hS.trans0 hm9
        generalize twoD d s.2 = y at *
        refine ⟨_, rfl, hK _ _ hS9 ?_⟩
        clear hK K
        try simp only [pl, pn, el, ec, sz, ss, gz, gs, if_true, if_false, Bool.false_eq_true, Bool.not_true, Bool.not_false, Nat.add_zero, Nat.zero_add, Nat.reduceAdd]
        refine wpPi_last rfl (fun K hK => ?_)
        refine wp_storeA 24 _ _ b7 0 (idCells y) (by rfl) (by rfl) (by rfl) (idCells_one _) 32 (by kernel_rfl) hrc _ _ (hS9.obj id hrow) (by rw [hrc, hrd]; exact Nat.le_refl _) (fun w10 hB10 hm10 => ?_)
        rw [putRow_whole (by rw [hrc, hrd])] at hB10
        have hM10 : Mod (fun q => q = b7) w6 w10 := (hm.trans hS9 (fun _ _ h => h.elim)).trans hm10 (fun _ _ h => h)
        refine hK _ _ ?_
        clear hK K
        try simp only [pl, pn, el, ec, sz, ss, gz, gs, if_true, if_false, Bool.false_eq_true, Bool.not_true, Bool.not_false, Nat.add_zero, Nat.zero_add, Nat.reduceAdd]
        refine wpPi_nil ?_
        clear hm9 hm10 hS hS9 hm hrow hcr hot hfg
        go_wp2
        go_roundw
        case rel => exact ⟨k + 1, by omega, by go_num, by rw [HFS.out]; exact hB10, hM10⟩
        case measure => simp [intOf]; omega
    · have hz2 : ¬ (k : Int) < (ps.length : Int) := by omega
      obtain rfl : k = ps.length := by omega
      rw [List.take_length] at hrow
      have hfl := fold_len ps d0 hd0
      obtain ⟨d, hd⟩ : ∃ d, ps.foldl climb d0 = d := ⟨_, rfl⟩
      rw [hd] at hrow hfl
      have HD := Lib.hid hd
      clear hd
      have hrd : (idCells d).size = 32 := by rw [idCells_size, hfl]
      have hb1 := hm.obj (by omega) hB1
      have hMr : Mod NoB w wr := hMw.transB hm (by omega)
      clear hm
      go_upto_region 10 with (fail)
      refine wp_region_seq [1, 1, 0, 3] (fun _ => True) (by rfl) (by rfl) trivial ?_
      simp only [List.zip_cons_cons, List.zip_nil_right]
      refine wpPi_do rfl (fun K hK => ?_)
      refine wp_exec (exec_loadA 24 _ (by rfl) b7 0 (by rfl) (idCells d) (CellsAt.whole hrow) _ Tryz.underlying24 rfl 32 (by kernel_rfl) hrd) ?_
      refine hK _ _ trivial ?_
      clear hK K
      try simp only [pl, pn, el, ec, sz, ss, gz, gs, if_true, if_false, Bool.false_eq_true, Bool.not_true, Bool.not_false, Nat.add_zero, Nat.zero_add, Nat.reduceAdd]
      refine wpPi_do rfl (fun K hK => ?_)
      refine wp_exec (exec_loadA 24 _ (by rfl) w.heap.size 0 (by rfl) C (CellsAt.whole hb1) _ Tryz.underlying24 rfl 32 (by kernel_rfl) hrs) ?_
      refine hK _ _ trivial ?_
      clear hK K
      try simp only [pl, pn, el, ec, sz, ss, gz, gs, if_true, if_false, Bool.false_eq_true, Bool.not_true, Bool.not_false, Nat.add_zero, Nat.zero_add, Nat.reduceAdd]
      refine wpPi_val rfl (fun w' hS => exec_eql_id _ _ _ _ rfl d root rfl (by rw [HC.out]; rfl) 32 5 Tryz.underlying24 Tryz.underlying5 (by kernel_rfl) (by kernel_rfl) hfl hroot _ rfl) ?_
      simp only [pl, pn, el, ec, sz, ss, gz, gs, if_true, if_false, Bool.false_eq_true, Bool.not_true, Bool.not_false, Nat.add_zero, Nat.zero_add, Nat.reduceAdd]
      refine wpPi_assign _ rfl rfl ?_
      simp only [pl, pn, el, ec, sz, ss, gz, gs, if_true, if_false, Bool.false_eq_true, Bool.not_true, Bool.not_false, Nat.add_zero, Nat.zero_add, Nat.reduceAdd]
      refine wpPi_nil ?_
      go_wp2
      go_ret
      exact ⟨by rw [HD.out]; rfl, hMr⟩
end Go.Proofs.YtchkikmmcmjcgaaGreat

/- The law's sameSides, of one list read twice; sides compared. -/
namespace Go.Proofs.YtchkikmmcmjcgaaGreat
set_option linter.unusedSimpArgs false
set_option linter.unusedVariables false
set_option linter.unnecessarySimpa false
set_option linter.unusedSectionVars false
open Go.RowKit Go.Shelf


theorem isAggBoolT (w : World) : (isAgg 4).run Tryz.prog w = .ok false w := by
  unfold isAgg
  rw [Sem.run_bind, run_underlying Tryz.underlying4 w]; rfl
theorem part_flag (s : SideL) (w : World) : (part 4 (sideCells s) 0).run Tryz.prog w = .ok (.bool s.1) w := by
  unfold part
  rw [Sem.run_bind, isAggBoolT w]
  have e : (sideCells s)[0]? = some (.bool s.1) := by
    rw [← Array.getElem?_toList]; simp [sideCells, sideEnc]
  simp [e]
theorem part_other {s : SideL} (h : s.2.length = 32) (w : World) : (part 24 (sideCells s) 1).run Tryz.prog w = .ok (.agg (idCells s.2)) w := by
  have hx : (sideCells s).extract 1 (1 + 32) = idCells s.2 := by
    simp only [sideCells, sideEnc, idCells, List.extract_toArray, List.extract_eq_take_drop, fit32_eq h]
    congr 1
    show List.take _ (List.map byteV s.2) = _
    rw [List.take_of_length_le (by simp [h])]
  unfold part
  rw [Sem.run_bind, isAggIDT w]
  simp [sizeIDT, hx]
theorem run_eql_side {s : SideL} (hs : s.2.length = 32) (w : World) : (binOp .eql 41 (.agg (sideCells s)) (.agg (sideCells s))).run Tryz.prog w = .ok (.bool true) w := by
  have hp : Tryz.prog.stoodInHeld 41 = false := by kernel_rfl
  have hS : Tryz.prog.underlying 41 = some (.struct (Tryz.prog.fieldsOf 41)) := by kernel_rfl
  rw [run_eql_struct, show (10000 : Nat) = 9999 + 1 from rfl, run_equalIn_struct w 9999 41 _ _ hS hp]
  simp only [Program.fieldsOf, Tryz.underlying41]
  have he : (Op.equalIn 9999 24 (.agg (idCells s.2)) (.agg (idCells s.2))).run Tryz.prog w = .ok (s.2 == s.2) w := run_equalIn_bytes w 9997 24 5 32 Tryz.underlying24 Tryz.underlying5 (fun w => sizeU8T w) s.2 s.2 hs hs
  simp [Op.eqFields, part_flag, part_other hs, run_equalIn_bool w 9998 4 _ _ Tryz.underlying4, he]
theorem exec_eql_side {w : World} {o : Oper} {a : Act} (x y : Operand) (yt : TypeId) (ho : o.op = .binOp .eql 41 x y yt) (s : SideL) (hs : s.2.length = 32) (hx : a.eval x = .agg (sideCells s)) (hy : a.eval y = .agg (sideCells s)) :
    (execOp a.eval o).run Tryz.prog w = .ok (.value (.bool true)) w := by
  have h1 := run_eqGuard_agg (P := Tryz.prog) w .eql 41 x y (sideCells s) (sideCells s) (by kernel_rfl)
  unfold execOp
  simp only [ho, hx, hy, Sem.run_bind, h1, Result.andThen_ok, run_eql_side hs, Sem.run_pure]
def SsRel (l : List SideL) (w0 : World) (s i : Value) (w : World) : Prop := ∃ k : Nat, k ≤ l.length ∧ i = .int .i64 k ∧ s = .bool true ∧ Mod NoB w0 w
set_option maxRecDepth 10000 in
theorem sameSides_any {o o' : Bool} {G G' : Nat → Prop} {va vb : Value} {l : List SideL} {w : World} (ha : Ss o w G va l) (hb : Ss o' w G' vb l) : Calls Tryz.prog 11 #[va, vb] w (RetM (.bool true) w) := by
  have HA := Lib.hid ha
  have HB := Lib.hid hb
  obtain ⟨aa, ca, rfl, hal, -⟩ := Sl.at ha
  obtain ⟨ab, cb, rfl, -, -⟩ := Sl.at hb
  clear ha hb
  go_enter Tryz.func11, Tryz.ntmps11
  go_wp2
  go_loopw [5, 6] (SsRel l w) (fun _ i _ => l.length - (intOf i).toNat)
  case atStart => exact ⟨0, by omega, rfl, by simp, Mod.refl _ _⟩
  case round =>
    rename World => wr
    obtain ⟨k, hk, rfl, rfl, hm⟩ := hrel
    by_cases hlt : k < l.length
    · have hz : (k : Int) < (l.length : Int) := by omega
      have hlt' := hlt
      obtain ⟨_, _, hv, -, hat⟩ := Sl.at (Sl.keep0 HA.out hm)
      cases hv
      obtain ⟨b1, off1, rfl, -, -, hc⟩ := hat k hlt
      obtain ⟨_, -, ⟨rfl, hso⟩, hc1⟩ := hc k hlt
      clear hat hc
      obtain ⟨_, _, hv, -, hat⟩ := Sl.at (Sl.keep0 HB.out hm)
      cases hv
      obtain ⟨b2, off2, rfl, -, -, hc⟩ := hat k hlt
      obtain ⟨_, -, ⟨rfl, -⟩, hc2⟩ := hc k hlt
      have hss := sideCells_size l[k]
      clear hat hc
      generalize l[k] = s at *
      go_upto_region 5 with (fail)
      have hS : Mod NoB wr wr.drew := (Mod.refl _ _).drew
      refine wp_region_pi [(0, 3), (1, 3), (2, 3), (3, 0), (4, 3), (5, 3), (6, 3), (7, 0), (8, 0), (9, 3)] [] (fun w' => Mod NoB wr w') (by kernel_rfl) (by kernel_rfl) (by kernel_rfl) (by kernel_rfl) (fun _ _ _ _ hd h => ⟨hd.trans h.1, h.2⟩) hS ?_
      simp only [List.map_cons, List.map_nil, List.getD_cons_zero, List.getD_cons_succ]
      refine wpPi_move _ rfl rfl ?_
      simp only [pl, pn, el, ec, sz, ss, gz, gs, if_true, if_false, Bool.false_eq_true, Bool.not_true, Bool.not_false, Nat.add_zero, Nat.zero_add, Nat.reduceAdd]
      refine wpPi_move _ rfl rfl ?_
      simp only [pl, pn, el, ec, sz, ss, gz, gs, if_true, if_false, Bool.false_eq_true, Bool.not_true, Bool.not_false, Nat.add_zero, Nat.zero_add, Nat.reduceAdd]
      refine wpPi_index _ _ _ _ _ _ _ _ _ rfl rfl rfl rfl Tryz.underlying28 (n := 33) (by kernel_rfl) hlt ?_
      simp only [pl, pn, el, ec, sz, ss, gz, gs, if_true, if_false, Bool.false_eq_true, Bool.not_true, Bool.not_false, Nat.add_zero, Nat.zero_add, Nat.reduceAdd]
      refine wpPi_val rfl (fun w' hS => exec_loadA 41 _ (by rfl) b1 (off1 + k * 33) (by rfl) (sideCells s) (hc1.keep hS id) _ Tryz.underlying41 rfl 33 (by kernel_rfl) hss) ?_
      simp only [pl, pn, el, ec, sz, ss, gz, gs, if_true, if_false, Bool.false_eq_true, Bool.not_true, Bool.not_false, Nat.add_zero, Nat.zero_add, Nat.reduceAdd]
      refine wpPi_move _ rfl rfl ?_
      simp only [pl, pn, el, ec, sz, ss, gz, gs, if_true, if_false, Bool.false_eq_true, Bool.not_true, Bool.not_false, Nat.add_zero, Nat.zero_add, Nat.reduceAdd]
      refine wpPi_move _ rfl rfl ?_
      simp only [pl, pn, el, ec, sz, ss, gz, gs, if_true, if_false, Bool.false_eq_true, Bool.not_true, Bool.not_false, Nat.add_zero, Nat.zero_add, Nat.reduceAdd]
      refine wpPi_index _ _ _ _ _ _ _ _ _ rfl rfl rfl rfl Tryz.underlying28 (n := 33) (by kernel_rfl) hlt' ?_
      simp only [pl, pn, el, ec, sz, ss, gz, gs, if_true, if_false, Bool.false_eq_true, Bool.not_true, Bool.not_false, Nat.add_zero, Nat.zero_add, Nat.reduceAdd]
      refine wpPi_val rfl (fun w' hS => exec_loadA 41 _ (by rfl) b2 (off2 + k * 33) (by rfl) (sideCells s) (hc2.keep hS id) _ Tryz.underlying41 rfl 33 (by kernel_rfl) hss) ?_
      simp only [pl, pn, el, ec, sz, ss, gz, gs, if_true, if_false, Bool.false_eq_true, Bool.not_true, Bool.not_false, Nat.add_zero, Nat.zero_add, Nat.reduceAdd]
      refine wpPi_val rfl (fun w' hS => exec_eql_side _ _ _ rfl s hso rfl rfl) ?_
      simp only [pl, pn, el, ec, sz, ss, gz, gs, if_true, if_false, Bool.false_eq_true, Bool.not_true, Bool.not_false, Nat.add_zero, Nat.zero_add, Nat.reduceAdd]
      refine wpPi_assign _ rfl rfl ?_
      simp only [pl, pn, el, ec, sz, ss, gz, gs, if_true, if_false, Bool.false_eq_true, Bool.not_true, Bool.not_false, Nat.add_zero, Nat.zero_add, Nat.reduceAdd]
      refine wpPi_nil ?_
      clear hc1 hc2
      go_wp2
      go_roundw
      case rel => exact ⟨k + 1, by omega, by go_num, rfl, hm.trans0 hS⟩
      case measure => simp [intOf]; omega
    · have hz : ¬ (k : Int) < (l.length : Int) := by omega
      go_wp2
      go_ret
      exact ⟨rfl, hm⟩
end Go.Proofs.YtchkikmmcmjcgaaGreat

/- The kit's SameEntries. -/
namespace Go.Proofs.YtchkikmmcmjcgaaGreat
set_option linter.unusedSimpArgs false
set_option linter.unusedVariables false
set_option linter.unnecessarySimpa false
set_option linter.unusedSectionVars false
open Go.RowKit Go.Shelf


/-- Are all the first k alike? -/
def preE (k : Nat) (a b : List Ent) : Bool := decide (a.take k = b.take k)
def SmERel (a b : List Ent) (w0 : World) (s i : Value) (w : World) : Prop := ∃ k : Nat, k ≤ a.length ∧ i = .int .i64 k ∧ s = .bool (preE k a b) ∧ Mod NoB w0 w
theorem preE_succ {a b : List Ent} {k : Nat} (ha : k < a.length) (hb : k < b.length) : preE (k + 1) a b = (preE k a b && (decide (a[k].1 = b[k].1) && decide (a[k].2 = b[k].2))) := by
  unfold preE
  rw [take_app ha, take_app hb, Bool.eq_iff_iff]
  simp only [decide_eq_true_eq, Bool.and_eq_true]
  constructor
  · intro h
    have h1 := List.append_inj h (by rw [List.length_take, List.length_take]; omega)
    have h2 : a[k] = b[k] := by simpa using h1.2
    exact ⟨h1.1, by rw [h2], by rw [h2]⟩
  · rintro ⟨h1, h2, h3⟩
    rw [h1, Prod.ext h2 h3]
theorem preE_full {a b : List Ent} (h : a.length = b.length) : preE a.length a b = decide (a = b) := by
  unfold preE
  rw [List.take_length, h, List.take_length]
theorem preE_stuck {a b : List Ent} {k : Nat} (h : preE k a b = false) (hl : a.length = b.length) : decide (a = b) = false := by
  rw [decide_eq_false_iff_not]
  rintro rfl
  simp [preE] at h
set_option maxRecDepth 10000 in
set_option maxHeartbeats 1000000 in
theorem sameEs_any {o o' : Bool} {G G' : Nat → Prop} {va vb : Value} {a b : List Ent} {w : World} (ha : Es o w G va a) (hb : Es o' w G' vb b) (hlen : a.length = b.length) : Calls Tryz.prog 16 #[va, vb] w (RetM (.bool (decide (a = b))) w) := by
  have HA := Lib.hid ha
  have HB := Lib.hid hb
  obtain ⟨aa, ca, rfl, hal, -⟩ := Sl.at ha
  obtain ⟨ab, cb, rfl, -, -⟩ := Sl.at hb
  have e1 : ((a.length : Int) == (b.length : Int)) = true := by simp; omega
  have HL := Lib.hid hlen
  clear ha hb hlen
  go_enter Tryz.func16, Tryz.ntmps16
  go_wp2
  go_loopw [5, 6] (SmERel a b w) (fun _ i _ => a.length - (intOf i).toNat)
  case atStart => exact ⟨0, by omega, rfl, by simp [preE], Mod.refl _ _⟩
  case round =>
    rename World => wr
    obtain ⟨k, hk, rfl, rfl, hm⟩ := hrel
    obtain ⟨st, hst⟩ : ∃ t, preE k a b = t := ⟨_, rfl⟩
    rw [hst]
    cases st
    · have HD := Lib.hid (preE_stuck hst HL.out)
      clear hst
      go_upto_region 3 with (fail)
      refine wp_region_seq [3, 3, 3, 3, 3, 3, 3] (fun _ => True) (by rfl) (by rfl) trivial ?_
      simp only [List.zip_cons_cons, List.zip_nil_right]
      refine wpPi_move _ rfl rfl ?_
      simp only [pl, pn, el, ec, sz, ss, gz, gs, if_true, if_false, Bool.false_eq_true, Bool.not_true, Bool.not_false, Nat.add_zero, Nat.zero_add, Nat.reduceAdd]
      refine wpPi_move _ rfl rfl ?_
      simp only [pl, pn, el, ec, sz, ss, gz, gs, if_true, if_false, Bool.false_eq_true, Bool.not_true, Bool.not_false, Nat.add_zero, Nat.zero_add, Nat.reduceAdd]
      refine wpPi_skip rfl ?_
      simp only [pl, pn, el, ec, sz, ss, gz, gs, if_true, if_false, Bool.false_eq_true, Bool.not_true, Bool.not_false, Nat.add_zero, Nat.zero_add, Nat.reduceAdd]
      refine wpPi_skip rfl ?_
      simp only [pl, pn, el, ec, sz, ss, gz, gs, if_true, if_false, Bool.false_eq_true, Bool.not_true, Bool.not_false, Nat.add_zero, Nat.zero_add, Nat.reduceAdd]
      refine wpPi_skip rfl ?_
      simp only [pl, pn, el, ec, sz, ss, gz, gs, if_true, if_false, Bool.false_eq_true, Bool.not_true, Bool.not_false, Nat.add_zero, Nat.zero_add, Nat.reduceAdd]
      refine wpPi_skip rfl ?_
      simp only [pl, pn, el, ec, sz, ss, gz, gs, if_true, if_false, Bool.false_eq_true, Bool.not_true, Bool.not_false, Nat.add_zero, Nat.zero_add, Nat.reduceAdd]
      refine wpPi_pick _ _ _ _ rfl rfl rfl ?_
      simp only [pl, pn, el, ec, sz, ss, gz, gs, if_true, if_false, Bool.false_eq_true, Bool.not_true, Bool.not_false, Nat.add_zero, Nat.zero_add, Nat.reduceAdd]
      refine wpPi_nil ?_
      go_wp2
      go_ret
      exact ⟨by rw [HD.out]; rfl, hm⟩
    · by_cases hlt : k < a.length
      · have hz : (k : Int) < (a.length : Int) := by omega
        have hlt' : k < b.length := by have := HL.out; omega
        have hsc := preE_succ hlt hlt'
        rw [hst, Bool.true_and] at hsc
        have HSC := Lib.hid hsc
        obtain ⟨_, _, hv, -, hat⟩ := Sl.at (HA.out.keep0 hm)
        cases hv
        obtain ⟨b1, off1, rfl, -, -, hc⟩ := hat k hlt
        obtain ⟨cs1, -, ⟨v1, rfl, hs1⟩, hc⟩ := hc k hlt
        have hk1 := hc.cell (j := 0) (v := .string a[k].1) rfl
        have hv1 := hc.cell (j := 1) (v := v1) rfl
        clear hat hc
        obtain ⟨_, _, hv, -, hat⟩ := Sl.at (HB.out.keep0 hm)
        cases hv
        obtain ⟨b2, off2, rfl, -, -, hc⟩ := hat k hlt'
        obtain ⟨cs2, -, ⟨v2, rfl, hs2⟩, hc⟩ := hc k hlt'
        have hk2 := hc.cell (j := 0) (v := .string b[k].1) rfl
        have hv2 := hc.cell (j := 1) (v := v2) rfl
        rw [Nat.add_zero] at hk1 hk2
        have HS1 := Lib.hid hs1
        have HS2 := Lib.hid hs2
        obtain ⟨a1, c1, rfl, -, -⟩ := Sl.at hs1
        obtain ⟨a2, c2, rfl, -, -⟩ := Sl.at hs2
        clear hat hc hst hsc hs1 hs2
        generalize a[k] = x at *
        generalize b[k] = y at *
        go_upto_region 5 with (fail)
        have hS : Mod NoB wr wr.drew := (Mod.refl _ _).drew
        by_cases hkk : x.1 = y.1
        · rw [decide_eq_true hkk, Bool.true_and] at HSC
          refine wp_region_pi [(0, 3), (1, 3), (2, 3), (3, 3), (4, 0), (5, 3), (6, 3), (7, 3), (8, 3), (9, 0), (10, 0), (11, 3), (12, 3), (13, 3), (14, 3), (15, 3), (16, 0), (17, 3), (18, 3), (19, 3), (20, 3), (21, 0), (22, 1), (23, 3), (24, 3)] [] (fun w' => Mod NoB wr w') (by kernel_rfl) (by kernel_rfl) (by kernel_rfl) (by kernel_rfl) (fun _ _ _ _ hd h => ⟨hd.trans h.1, h.2⟩) hS ?_
          simp only [List.map_cons, List.map_nil, List.getD_cons_zero, List.getD_cons_succ]
          refine wpPi_move _ rfl rfl ?_
          simp only [pl, pn, el, ec, sz, ss, gz, gs, if_true, if_false, Bool.false_eq_true, Bool.not_true, Bool.not_false, Nat.add_zero, Nat.zero_add, Nat.reduceAdd]
          refine wpPi_move _ rfl rfl ?_
          simp only [pl, pn, el, ec, sz, ss, gz, gs, if_true, if_false, Bool.false_eq_true, Bool.not_true, Bool.not_false, Nat.add_zero, Nat.zero_add, Nat.reduceAdd]
          refine wpPi_index _ _ _ _ _ _ _ _ _ rfl rfl rfl rfl Tryz.underlying22 (n := 2) (by kernel_rfl) hlt ?_
          simp only [pl, pn, el, ec, sz, ss, gz, gs, if_true, if_false, Bool.false_eq_true, Bool.not_true, Bool.not_false, Nat.add_zero, Nat.zero_add, Nat.reduceAdd]
          refine wpPi_field _ _ _ _ _ _ rfl rfl rfl fo_27_0 ?_
          simp only [pl, pn, el, ec, sz, ss, gz, gs, if_true, if_false, Bool.false_eq_true, Bool.not_true, Bool.not_false, Nat.add_zero, Nat.zero_add, Nat.reduceAdd]
          refine wpPi_val rfl (fun w' hS => exec_load1 9 _ (by rfl) b1 (off1 + k * 2) (by rfl) (.string x.1) (hS.cell id hk1) _ Tryz.underlying9 rfl) ?_
          simp only [pl, pn, el, ec, sz, ss, gz, gs, if_true, if_false, Bool.false_eq_true, Bool.not_true, Bool.not_false, Nat.add_zero, Nat.zero_add, Nat.reduceAdd]
          refine wpPi_move _ rfl rfl ?_
          simp only [pl, pn, el, ec, sz, ss, gz, gs, if_true, if_false, Bool.false_eq_true, Bool.not_true, Bool.not_false, Nat.add_zero, Nat.zero_add, Nat.reduceAdd]
          refine wpPi_move _ rfl rfl ?_
          simp only [pl, pn, el, ec, sz, ss, gz, gs, if_true, if_false, Bool.false_eq_true, Bool.not_true, Bool.not_false, Nat.add_zero, Nat.zero_add, Nat.reduceAdd]
          refine wpPi_index _ _ _ _ _ _ _ _ _ rfl rfl rfl rfl Tryz.underlying22 (n := 2) (by kernel_rfl) hlt' ?_
          simp only [pl, pn, el, ec, sz, ss, gz, gs, if_true, if_false, Bool.false_eq_true, Bool.not_true, Bool.not_false, Nat.add_zero, Nat.zero_add, Nat.reduceAdd]
          refine wpPi_field _ _ _ _ _ _ rfl rfl rfl fo_27_0 ?_
          simp only [pl, pn, el, ec, sz, ss, gz, gs, if_true, if_false, Bool.false_eq_true, Bool.not_true, Bool.not_false, Nat.add_zero, Nat.zero_add, Nat.reduceAdd]
          refine wpPi_val rfl (fun w' hS => exec_load1 9 _ (by rfl) b2 (off2 + k * 2) (by rfl) (.string y.1) (hS.cell id hk2) _ Tryz.underlying9 rfl) ?_
          simp only [pl, pn, el, ec, sz, ss, gz, gs, if_true, if_false, Bool.false_eq_true, Bool.not_true, Bool.not_false, Nat.add_zero, Nat.zero_add, Nat.reduceAdd]
          refine wpPi_val rfl (fun w' hS => exec_eql_str _ _ _ _ rfl x.1 y.1 rfl rfl true (decide_eq_true hkk)) ?_
          simp only [pl, pn, el, ec, sz, ss, gz, gs, if_true, if_false, Bool.false_eq_true, Bool.not_true, Bool.not_false, Nat.add_zero, Nat.zero_add, Nat.reduceAdd]
          refine wpPi_move _ rfl rfl ?_
          simp only [pl, pn, el, ec, sz, ss, gz, gs, if_true, if_false, Bool.false_eq_true, Bool.not_true, Bool.not_false, Nat.add_zero, Nat.zero_add, Nat.reduceAdd]
          refine wpPi_move _ rfl rfl ?_
          simp only [pl, pn, el, ec, sz, ss, gz, gs, if_true, if_false, Bool.false_eq_true, Bool.not_true, Bool.not_false, Nat.add_zero, Nat.zero_add, Nat.reduceAdd]
          refine wpPi_move _ rfl rfl ?_
          simp only [pl, pn, el, ec, sz, ss, gz, gs, if_true, if_false, Bool.false_eq_true, Bool.not_true, Bool.not_false, Nat.add_zero, Nat.zero_add, Nat.reduceAdd]
          refine wpPi_index _ _ _ _ _ _ _ _ _ rfl rfl rfl rfl Tryz.underlying22 (n := 2) (by kernel_rfl) hlt ?_
          simp only [pl, pn, el, ec, sz, ss, gz, gs, if_true, if_false, Bool.false_eq_true, Bool.not_true, Bool.not_false, Nat.add_zero, Nat.zero_add, Nat.reduceAdd]
          refine wpPi_field _ _ _ _ _ _ rfl rfl rfl fo_27_1 ?_
          simp only [pl, pn, el, ec, sz, ss, gz, gs, if_true, if_false, Bool.false_eq_true, Bool.not_true, Bool.not_false, Nat.add_zero, Nat.zero_add, Nat.reduceAdd]
          refine wpPi_val rfl (fun w' hS => exec_load1 25 _ (by rfl) b1 (off1 + k * 2 + 1) (by rfl) _ (hS.cell id hv1) _ Tryz.underlying25 rfl) ?_
          simp only [pl, pn, el, ec, sz, ss, gz, gs, if_true, if_false, Bool.false_eq_true, Bool.not_true, Bool.not_false, Nat.add_zero, Nat.zero_add, Nat.reduceAdd]
          refine wpPi_move _ rfl rfl ?_
          simp only [pl, pn, el, ec, sz, ss, gz, gs, if_true, if_false, Bool.false_eq_true, Bool.not_true, Bool.not_false, Nat.add_zero, Nat.zero_add, Nat.reduceAdd]
          refine wpPi_move _ rfl rfl ?_
          simp only [pl, pn, el, ec, sz, ss, gz, gs, if_true, if_false, Bool.false_eq_true, Bool.not_true, Bool.not_false, Nat.add_zero, Nat.zero_add, Nat.reduceAdd]
          refine wpPi_index _ _ _ _ _ _ _ _ _ rfl rfl rfl rfl Tryz.underlying22 (n := 2) (by kernel_rfl) hlt' ?_
          simp only [pl, pn, el, ec, sz, ss, gz, gs, if_true, if_false, Bool.false_eq_true, Bool.not_true, Bool.not_false, Nat.add_zero, Nat.zero_add, Nat.reduceAdd]
          refine wpPi_field _ _ _ _ _ _ rfl rfl rfl fo_27_1 ?_
          simp only [pl, pn, el, ec, sz, ss, gz, gs, if_true, if_false, Bool.false_eq_true, Bool.not_true, Bool.not_false, Nat.add_zero, Nat.zero_add, Nat.reduceAdd]
          refine wpPi_val rfl (fun w' hS => exec_load1 25 _ (by rfl) b2 (off2 + k * 2 + 1) (by rfl) _ (hS.cell id hv2) _ Tryz.underlying25 rfl) ?_
          simp only [pl, pn, el, ec, sz, ss, gz, gs, if_true, if_false, Bool.false_eq_true, Bool.not_true, Bool.not_false, Nat.add_zero, Nat.zero_add, Nat.reduceAdd]
          refine wpPi_do rfl (fun K hK => ?_)
          refine wp_enterQ (run_call 37 [.tmp 37, .tmp 42] _ rfl _ Tryz.func37 rfl (by kernel_rfl) [.slice a1 x.2.length c1, .slice a2 y.2.length c2] rfl _) (sameBytes_any (HS1.out.keep0 hS) (HS2.out.keep0 hS)) ?_
          rintro e wb ⟨rfl, hmb⟩
          have hSb := hS.trans0 hmb
          refine ⟨_, rfl, hK _ _ hSb ?_⟩
          clear hK K
          try simp only [pl, pn, el, ec, sz, ss, gz, gs, if_true, if_false, Bool.false_eq_true, Bool.not_true, Bool.not_false, Nat.add_zero, Nat.zero_add, Nat.reduceAdd]
          refine wpPi_pick _ _ _ _ rfl rfl rfl ?_
          simp only [pl, pn, el, ec, sz, ss, gz, gs, if_true, if_false, Bool.false_eq_true, Bool.not_true, Bool.not_false, Nat.add_zero, Nat.zero_add, Nat.reduceAdd]
          refine wpPi_assign _ rfl rfl ?_
          simp only [pl, pn, el, ec, sz, ss, gz, gs, if_true, if_false, Bool.false_eq_true, Bool.not_true, Bool.not_false, Nat.add_zero, Nat.zero_add, Nat.reduceAdd]
          refine wpPi_nil ?_
          go_wp2
          go_roundw
          case rel => exact ⟨k + 1, by omega, by go_num, by rw [HSC.out], hm.trans0 hSb⟩
          case measure => simp [intOf]; omega
        · rw [decide_eq_false hkk, Bool.false_and] at HSC
          refine wp_region_pi [(0, 3), (1, 3), (2, 3), (3, 3), (4, 0), (5, 3), (6, 3), (7, 3), (8, 3), (9, 0), (10, 0), (11, 3), (12, 3), (13, 3), (14, 3), (15, 3), (16, 0), (17, 3), (18, 3), (19, 3), (20, 3), (21, 0), (22, 1), (23, 3), (24, 3)] [] (fun w' => Mod NoB wr w') (by kernel_rfl) (by kernel_rfl) (by kernel_rfl) (by kernel_rfl) (fun _ _ _ _ hd h => ⟨hd.trans h.1, h.2⟩) hS ?_
          simp only [List.map_cons, List.map_nil, List.getD_cons_zero, List.getD_cons_succ]
          refine wpPi_move _ rfl rfl ?_
          simp only [pl, pn, el, ec, sz, ss, gz, gs, if_true, if_false, Bool.false_eq_true, Bool.not_true, Bool.not_false, Nat.add_zero, Nat.zero_add, Nat.reduceAdd]
          refine wpPi_move _ rfl rfl ?_
          simp only [pl, pn, el, ec, sz, ss, gz, gs, if_true, if_false, Bool.false_eq_true, Bool.not_true, Bool.not_false, Nat.add_zero, Nat.zero_add, Nat.reduceAdd]
          refine wpPi_index _ _ _ _ _ _ _ _ _ rfl rfl rfl rfl Tryz.underlying22 (n := 2) (by kernel_rfl) hlt ?_
          simp only [pl, pn, el, ec, sz, ss, gz, gs, if_true, if_false, Bool.false_eq_true, Bool.not_true, Bool.not_false, Nat.add_zero, Nat.zero_add, Nat.reduceAdd]
          refine wpPi_field _ _ _ _ _ _ rfl rfl rfl fo_27_0 ?_
          simp only [pl, pn, el, ec, sz, ss, gz, gs, if_true, if_false, Bool.false_eq_true, Bool.not_true, Bool.not_false, Nat.add_zero, Nat.zero_add, Nat.reduceAdd]
          refine wpPi_val rfl (fun w' hS => exec_load1 9 _ (by rfl) b1 (off1 + k * 2) (by rfl) (.string x.1) (hS.cell id hk1) _ Tryz.underlying9 rfl) ?_
          simp only [pl, pn, el, ec, sz, ss, gz, gs, if_true, if_false, Bool.false_eq_true, Bool.not_true, Bool.not_false, Nat.add_zero, Nat.zero_add, Nat.reduceAdd]
          refine wpPi_move _ rfl rfl ?_
          simp only [pl, pn, el, ec, sz, ss, gz, gs, if_true, if_false, Bool.false_eq_true, Bool.not_true, Bool.not_false, Nat.add_zero, Nat.zero_add, Nat.reduceAdd]
          refine wpPi_move _ rfl rfl ?_
          simp only [pl, pn, el, ec, sz, ss, gz, gs, if_true, if_false, Bool.false_eq_true, Bool.not_true, Bool.not_false, Nat.add_zero, Nat.zero_add, Nat.reduceAdd]
          refine wpPi_index _ _ _ _ _ _ _ _ _ rfl rfl rfl rfl Tryz.underlying22 (n := 2) (by kernel_rfl) hlt' ?_
          simp only [pl, pn, el, ec, sz, ss, gz, gs, if_true, if_false, Bool.false_eq_true, Bool.not_true, Bool.not_false, Nat.add_zero, Nat.zero_add, Nat.reduceAdd]
          refine wpPi_field _ _ _ _ _ _ rfl rfl rfl fo_27_0 ?_
          simp only [pl, pn, el, ec, sz, ss, gz, gs, if_true, if_false, Bool.false_eq_true, Bool.not_true, Bool.not_false, Nat.add_zero, Nat.zero_add, Nat.reduceAdd]
          refine wpPi_val rfl (fun w' hS => exec_load1 9 _ (by rfl) b2 (off2 + k * 2) (by rfl) (.string y.1) (hS.cell id hk2) _ Tryz.underlying9 rfl) ?_
          simp only [pl, pn, el, ec, sz, ss, gz, gs, if_true, if_false, Bool.false_eq_true, Bool.not_true, Bool.not_false, Nat.add_zero, Nat.zero_add, Nat.reduceAdd]
          refine wpPi_val rfl (fun w' hS => exec_eql_str _ _ _ _ rfl x.1 y.1 rfl rfl false (decide_eq_false hkk)) ?_
          simp only [pl, pn, el, ec, sz, ss, gz, gs, if_true, if_false, Bool.false_eq_true, Bool.not_true, Bool.not_false, Nat.add_zero, Nat.zero_add, Nat.reduceAdd]
          refine wpPi_move _ rfl rfl ?_
          simp only [pl, pn, el, ec, sz, ss, gz, gs, if_true, if_false, Bool.false_eq_true, Bool.not_true, Bool.not_false, Nat.add_zero, Nat.zero_add, Nat.reduceAdd]
          refine wpPi_skip rfl ?_
          simp only [pl, pn, el, ec, sz, ss, gz, gs, if_true, if_false, Bool.false_eq_true, Bool.not_true, Bool.not_false, Nat.add_zero, Nat.zero_add, Nat.reduceAdd]
          refine wpPi_skip rfl ?_
          simp only [pl, pn, el, ec, sz, ss, gz, gs, if_true, if_false, Bool.false_eq_true, Bool.not_true, Bool.not_false, Nat.add_zero, Nat.zero_add, Nat.reduceAdd]
          refine wpPi_skip rfl ?_
          simp only [pl, pn, el, ec, sz, ss, gz, gs, if_true, if_false, Bool.false_eq_true, Bool.not_true, Bool.not_false, Nat.add_zero, Nat.zero_add, Nat.reduceAdd]
          refine wpPi_skip rfl ?_
          simp only [pl, pn, el, ec, sz, ss, gz, gs, if_true, if_false, Bool.false_eq_true, Bool.not_true, Bool.not_false, Nat.add_zero, Nat.zero_add, Nat.reduceAdd]
          refine wpPi_skip0 rfl ?_
          simp only [pl, pn, el, ec, sz, ss, gz, gs, if_true, if_false, Bool.false_eq_true, Bool.not_true, Bool.not_false, Nat.add_zero, Nat.zero_add, Nat.reduceAdd]
          refine wpPi_skip rfl ?_
          simp only [pl, pn, el, ec, sz, ss, gz, gs, if_true, if_false, Bool.false_eq_true, Bool.not_true, Bool.not_false, Nat.add_zero, Nat.zero_add, Nat.reduceAdd]
          refine wpPi_skip rfl ?_
          simp only [pl, pn, el, ec, sz, ss, gz, gs, if_true, if_false, Bool.false_eq_true, Bool.not_true, Bool.not_false, Nat.add_zero, Nat.zero_add, Nat.reduceAdd]
          refine wpPi_skip rfl ?_
          simp only [pl, pn, el, ec, sz, ss, gz, gs, if_true, if_false, Bool.false_eq_true, Bool.not_true, Bool.not_false, Nat.add_zero, Nat.zero_add, Nat.reduceAdd]
          refine wpPi_skip rfl ?_
          simp only [pl, pn, el, ec, sz, ss, gz, gs, if_true, if_false, Bool.false_eq_true, Bool.not_true, Bool.not_false, Nat.add_zero, Nat.zero_add, Nat.reduceAdd]
          refine wpPi_skip0 rfl ?_
          simp only [pl, pn, el, ec, sz, ss, gz, gs, if_true, if_false, Bool.false_eq_true, Bool.not_true, Bool.not_false, Nat.add_zero, Nat.zero_add, Nat.reduceAdd]
          refine wpPi_do_skip rfl hS ?_
          simp only [pl, pn, el, ec, sz, ss, gz, gs, if_true, if_false, Bool.false_eq_true, Bool.not_true, Bool.not_false, Nat.add_zero, Nat.zero_add, Nat.reduceAdd]
          refine wpPi_pick _ _ _ _ rfl rfl rfl ?_
          simp only [pl, pn, el, ec, sz, ss, gz, gs, if_true, if_false, Bool.false_eq_true, Bool.not_true, Bool.not_false, Nat.add_zero, Nat.zero_add, Nat.reduceAdd]
          refine wpPi_assign _ rfl rfl ?_
          simp only [pl, pn, el, ec, sz, ss, gz, gs, if_true, if_false, Bool.false_eq_true, Bool.not_true, Bool.not_false, Nat.add_zero, Nat.zero_add, Nat.reduceAdd]
          refine wpPi_nil ?_
          go_wp2
          go_roundw
          case rel => exact ⟨k + 1, by omega, by go_num, by rw [HSC.out], hm.trans0 hS⟩
          case measure => simp [intOf]; omega
      · have hz : ¬ (k : Int) < (a.length : Int) := by omega
        obtain rfl : k = a.length := by omega
        rw [preE_full HL.out] at hst
        have HD := Lib.hid hst
        clear hst
        go_upto_region 3 with (fail)
        refine wp_region_seq [3, 3, 3, 3, 3, 3, 3] (fun _ => True) (by rfl) (by rfl) trivial ?_
        simp only [List.zip_cons_cons, List.zip_nil_right]
        refine wpPi_move _ rfl rfl ?_
        simp only [pl, pn, el, ec, sz, ss, gz, gs, if_true, if_false, Bool.false_eq_true, Bool.not_true, Bool.not_false, Nat.add_zero, Nat.zero_add, Nat.reduceAdd]
        refine wpPi_move _ rfl rfl ?_
        simp only [pl, pn, el, ec, sz, ss, gz, gs, if_true, if_false, Bool.false_eq_true, Bool.not_true, Bool.not_false, Nat.add_zero, Nat.zero_add, Nat.reduceAdd]
        refine wpPi_move _ rfl rfl ?_
        simp only [pl, pn, el, ec, sz, ss, gz, gs, if_true, if_false, Bool.false_eq_true, Bool.not_true, Bool.not_false, Nat.add_zero, Nat.zero_add, Nat.reduceAdd]
        refine wpPi_move _ rfl rfl ?_
        simp only [pl, pn, el, ec, sz, ss, gz, gs, if_true, if_false, Bool.false_eq_true, Bool.not_true, Bool.not_false, Nat.add_zero, Nat.zero_add, Nat.reduceAdd]
        refine wpPi_len _ _ _ _ _ rfl rfl rfl (by kernel_rfl) ?_
        simp only [pl, pn, el, ec, sz, ss, gz, gs, if_true, if_false, Bool.false_eq_true, Bool.not_true, Bool.not_false, Nat.add_zero, Nat.zero_add, Nat.reduceAdd]
        refine wpPi_cmp _ _ _ _ _ _ _ _ rfl rfl rfl rfl rfl false (decide_eq_false hz) ?_
        simp only [pl, pn, el, ec, sz, ss, gz, gs, if_true, if_false, Bool.false_eq_true, Bool.not_true, Bool.not_false, Nat.add_zero, Nat.zero_add, Nat.reduceAdd]
        refine wpPi_pick _ _ _ _ rfl rfl rfl ?_
        simp only [pl, pn, el, ec, sz, ss, gz, gs, if_true, if_false, Bool.false_eq_true, Bool.not_true, Bool.not_false, Nat.add_zero, Nat.zero_add, Nat.reduceAdd]
        refine wpPi_nil ?_
        go_wp2
        go_ret
        exact ⟨by rw [HD.out]; rfl, hm⟩
end Go.Proofs.YtchkikmmcmjcgaaGreat

/- awake holds. -/
namespace Go.Proofs.YtchkikmmcmjcgaaGreat
set_option linter.unusedSimpArgs false
set_option linter.unusedVariables false
set_option linter.unnecessarySimpa false
set_option linter.unusedSectionVars false
open Go.RowKit Go.Shelf


set_option maxRecDepth 10000 in
set_option maxHeartbeats 2000000 in
theorem awake_any (w : World) : Calls Tryz.prog 5 #[] w (RetM (.bool true) w) := by
  have hr0 := root_nil
  have hr1 := root_one eAX
  have hc0 : chkE [] = 0 := chkE_few _ (by simp)
  have hc1 : chkE [eAX] = 0 := chkE_few _ (by simp)
  have hl0 : (idCells (shaL [0])).size = 32 := by rw [idCells_size]; exact shaL_len _
  have HDF := Lib.hid dif_ax_ay
  have hkl : (shaL [97]).length = 32 := shaL_len _
  have hvl : (shaL [120]).length = 32 := shaL_len _
  have hkr : (idCells (shaL [97])).size = 32 := by rw [idCells_size]; exact hkl
  have hvr : (idCells (shaL [120])).size = 32 := by rw [idCells_size]; exact hvl
  go_enter Tryz.func5, Tryz.ntmps5
  go_upto_region 1 with (fail)
  refine wp_region_seq [1, 3, 3, 3, 1, 1, 3] (fun _ => True) (by rfl) (by rfl) trivial ?_
  simp only [List.zip_cons_cons, List.zip_nil_right]
  refine wpPi_do rfl (fun K hK => ?_)
  refine wp_enterQ (run_call 7 [.const (.slice none 0 0)] _ rfl _ Tryz.func7 rfl (by kernel_rfl) [.slice none 0 0] rfl _) (root_any (own := false) (G := Ever) (es := []) (Sl.nil _ _ _ _ _) short_nil (by simp)) ?_
  rintro e w1 ⟨rfl, hm1⟩
  rw [hr0, hc0]
  refine ⟨_, rfl, hK _ _ trivial ?_⟩
  clear hK K
  try simp only [pl, pn, el, ec, sz, ss, gz, gs, if_true, if_false, Bool.false_eq_true, Bool.not_true, Bool.not_false, Nat.add_zero, Nat.zero_add, Nat.reduceAdd]
  refine wpPi_move _ rfl rfl ?_
  simp only [pl, pn, el, ec, sz, ss, gz, gs, if_true, if_false, Bool.false_eq_true, Bool.not_true, Bool.not_false, Nat.add_zero, Nat.zero_add, Nat.reduceAdd]
  refine wpPi_any (v := ?_) rfl (fun w' => ?_) ?_; rotate_left; · (go_simp; try with_reducible rfl)
  simp only [pl, pn, el, ec, sz, ss, gz, gs, if_true, if_false, Bool.false_eq_true, Bool.not_true, Bool.not_false, Nat.add_zero, Nat.zero_add, Nat.reduceAdd]
  refine wpPi_any (v := ?_) rfl (fun w' => ?_) ?_; rotate_left; · (go_simp; try with_reducible rfl)
  simp only [pl, pn, el, ec, sz, ss, gz, gs, if_true, if_false, Bool.false_eq_true, Bool.not_true, Bool.not_false, Nat.add_zero, Nat.zero_add, Nat.reduceAdd]
  refine wpPi_do rfl (fun K hK => ?_)
  refine wp_alloc 24 _ (by rfl) idZ (fun w2 hB2 hm2 hs2 => ?_)
  replace hB2 : w2.heap[w1.heap.size]? = some (.cells (idCells (List.replicate 32 0)) 24 (0, 0)) := hB2
  refine hK _ _ trivial ?_
  clear hK K
  try simp only [pl, pn, el, ec, sz, ss, gz, gs, if_true, if_false, Bool.false_eq_true, Bool.not_true, Bool.not_false, Nat.add_zero, Nat.zero_add, Nat.reduceAdd]
  refine wpPi_do rfl (fun K hK => ?_)
  refine wp_storeA 24 _ _ w1.heap.size 0 (idCells (shaL [0])) (by rfl) (by rfl) (by rfl) (idCells_one _) 32 (by kernel_rfl) hl0 _ _ hB2 (by rw [hl0, idCells_size]; simp) (fun w3 hB3 hm3 => ?_)
  rw [putRow_whole (by rw [hl0, idCells_size]; rfl)] at hB3
  refine hK _ _ trivial ?_
  clear hK K
  try simp only [pl, pn, el, ec, sz, ss, gz, gs, if_true, if_false, Bool.false_eq_true, Bool.not_true, Bool.not_false, Nat.add_zero, Nat.zero_add, Nat.reduceAdd]
  refine wpPi_assign _ rfl rfl ?_
  simp only [pl, pn, el, ec, sz, ss, gz, gs, if_true, if_false, Bool.false_eq_true, Bool.not_true, Bool.not_false, Nat.add_zero, Nat.zero_add, Nat.reduceAdd]
  refine wpPi_nil ?_
  have hM3 : Mod NoB w w3 := (hm1.trans0 hm2).transB hm3 hm1.size
  generalize w1.heap.size = b1 at *
  clear hm1 hm2 hm3 hB2 hr0 hc0
  go_upto_region 2 with (fail)
  refine wp_region_seq [1, 1, 1, 3, 3, 3, 1, 1, 3] (fun _ => True) (by rfl) (by rfl) trivial ?_
  simp only [List.zip_cons_cons, List.zip_nil_right]
  refine wpPi_do rfl (fun K hK => ?_)
  refine wp_enterQ (run_call 17 [.const (.string ⟨#[97]⟩), .const (.string ⟨#[120]⟩)] _ rfl _ Tryz.func17 rfl (by kernel_rfl) [.string ⟨#[97]⟩, .string ⟨#[120]⟩] rfl _) (lawOf_any ⟨#[97]⟩ ⟨#[120]⟩ (by decide) _) ?_
  rintro e w4 ⟨cs, rfl, hec, hm4⟩
  replace hec : EntC w4 Ever cs eAX := hec
  have hcs2 := hec.size
  refine ⟨_, rfl, hK _ _ trivial ?_⟩
  clear hK K
  try simp only [pl, pn, el, ec, sz, ss, gz, gs, if_true, if_false, Bool.false_eq_true, Bool.not_true, Bool.not_false, Nat.add_zero, Nat.zero_add, Nat.reduceAdd]
  refine wpPi_do rfl (fun K hK => ?_)
  refine wp_buildSlice1 22 27 _ (.agg cs) (.agg #[.string ⟨#[]⟩, .slice none 0 0]) 2 (by rfl) (by rfl) Tryz.underlying22 entry_i2 (by omega) (by omega) hcs2 (fun w5 hB5 hm5 hs5 => ?_)
  replace hB5 : w5.heap[w4.heap.size]? = some (.cells cs 27 (0, 0)) := hB5
  have hes := es_one hB5 (hec.keep hm5 (fun _ _ => id))
  refine hK _ _ trivial ?_
  clear hK K
  try simp only [pl, pn, el, ec, sz, ss, gz, gs, if_true, if_false, Bool.false_eq_true, Bool.not_true, Bool.not_false, Nat.add_zero, Nat.zero_add, Nat.reduceAdd]
  refine wpPi_do rfl (fun K hK => ?_)
  refine wp_enterQ (run_call 7 [.tmp 13] _ rfl _ Tryz.func7 rfl (by kernel_rfl) [.slice (some ⟨w4.heap.size, 0, none⟩) 1 1] rfl _) (root_any hes (short_one (by decide) (by decide)) (by simp)) ?_
  rintro e w6 ⟨rfl, hm6⟩
  rw [hc1, hr1]
  have hM6 := ((hM3.trans0 hm4).trans0 hm5).trans0 hm6
  replace hB3 := ((hm4.trans0 hm5).trans0 hm6).obj id hB3
  have hlt1 := (Array.getElem?_eq_some_iff.1 hB3).1
  obtain ⟨R, hR⟩ : ∃ R, shaL (1 :: (shaL eAX.1.data.toList ++ shaL eAX.2)) = R := ⟨_, rfl⟩
  have hRl : R.length = 32 := by rw [← hR]; exact shaL_len _
  have hRr : (idCells R).size = 32 := by rw [idCells_size, hRl]
  rw [hR]
  have HR := Lib.hid hR
  refine ⟨_, rfl, hK _ _ trivial ?_⟩
  clear hK K hR
  try simp only [pl, pn, el, ec, sz, ss, gz, gs, if_true, if_false, Bool.false_eq_true, Bool.not_true, Bool.not_false, Nat.add_zero, Nat.zero_add, Nat.reduceAdd]
  refine wpPi_move _ rfl rfl ?_
  simp only [pl, pn, el, ec, sz, ss, gz, gs, if_true, if_false, Bool.false_eq_true, Bool.not_true, Bool.not_false, Nat.add_zero, Nat.zero_add, Nat.reduceAdd]
  refine wpPi_any (v := ?_) rfl (fun w' => ?_) ?_; rotate_left; · (go_simp; try with_reducible rfl)
  simp only [pl, pn, el, ec, sz, ss, gz, gs, if_true, if_false, Bool.false_eq_true, Bool.not_true, Bool.not_false, Nat.add_zero, Nat.zero_add, Nat.reduceAdd]
  refine wpPi_any (v := ?_) rfl (fun w' => ?_) ?_; rotate_left; · (go_simp; try with_reducible rfl)
  simp only [pl, pn, el, ec, sz, ss, gz, gs, if_true, if_false, Bool.false_eq_true, Bool.not_true, Bool.not_false, Nat.add_zero, Nat.zero_add, Nat.reduceAdd]
  refine wpPi_do rfl (fun K hK => ?_)
  refine wp_alloc 24 _ (by rfl) idZ (fun w7 hB7 hm7 hs7 => ?_)
  replace hB7 : w7.heap[w6.heap.size]? = some (.cells (idCells (List.replicate 32 0)) 24 (0, 0)) := hB7
  replace hB3 := hm7.obj id hB3
  refine hK _ _ trivial ?_
  clear hK K
  try simp only [pl, pn, el, ec, sz, ss, gz, gs, if_true, if_false, Bool.false_eq_true, Bool.not_true, Bool.not_false, Nat.add_zero, Nat.zero_add, Nat.reduceAdd]
  refine wpPi_do rfl (fun K hK => ?_)
  refine wp_storeA 24 _ _ w6.heap.size 0 (idCells R) (by rfl) (by rfl) (by rfl) (idCells_one _) 32 (by kernel_rfl) hRr _ _ hB7 (by rw [hRr, idCells_size]; simp) (fun w8 hB8 hm8 => ?_)
  rw [putRow_whole (by rw [hRr, idCells_size]; rfl)] at hB8
  refine hK _ _ trivial ?_
  clear hK K
  try simp only [pl, pn, el, ec, sz, ss, gz, gs, if_true, if_false, Bool.false_eq_true, Bool.not_true, Bool.not_false, Nat.add_zero, Nat.zero_add, Nat.reduceAdd]
  refine wpPi_assign _ rfl rfl ?_
  simp only [pl, pn, el, ec, sz, ss, gz, gs, if_true, if_false, Bool.false_eq_true, Bool.not_true, Bool.not_false, Nat.add_zero, Nat.zero_add, Nat.reduceAdd]
  refine wpPi_nil ?_
  replace hB3 := hm8.objB (by omega) hB3
  have hM8 : Mod NoB w w8 := (hM6.trans0 hm7).transB hm8 hM6.size
  generalize w6.heap.size = b3 at *
  clear hm4 hm5 hm6 hm7 hm8 hB5 hB7 hM3 hM6 hes hec hr1 hc1 hcs2
  go_upto_region 3 with (fail)
  refine wp_region_seq [1, 1, 1, 1, 1, 1, 1, 1, 1, 1] (fun _ => True) (by rfl) (by rfl) trivial ?_
  simp only [List.zip_cons_cons, List.zip_nil_right]
  refine wpPi_do rfl (fun K hK => ?_)
  refine wp_buildSlice1 25 5 _ (byteV 97) (.int .u8 0) 1 (by rfl) (by rfl) Tryz.underlying25 (by kernel_rfl) (by omega) (by omega) (by rfl) (fun w9 hB9 hm9 hs9 => ?_)
  replace hB9 : w9.heap[w8.heap.size]? = some (.cells (idCells [97]) 5 (0, 0)) := hB9
  refine hK _ _ trivial ?_
  clear hK K
  try simp only [pl, pn, el, ec, sz, ss, gz, gs, if_true, if_false, Bool.false_eq_true, Bool.not_true, Bool.not_false, Nat.add_zero, Nat.zero_add, Nat.reduceAdd]
  refine wpPi_do rfl (fun K hK => ?_)
  refine wp_bytesConst 25 5 _ w8.heap.size 1 1 _ (by rfl) (by rfl) Tryz.underlying25 Tryz.underlying5 hB9 (fun w9b hB9b hm9b => ?_)
  replace hm9 : Mod NoB w8 w9b := hm9.transB hm9b (Nat.le_refl _)
  clear hB9 hm9b
  refine hK _ _ trivial ?_
  clear hK K
  try simp only [pl, pn, el, ec, sz, ss, gz, gs, if_true, if_false, Bool.false_eq_true, Bool.not_true, Bool.not_false, Nat.add_zero, Nat.zero_add, Nat.reduceAdd]
  refine wpPi_do rfl (fun K hK => ?_)
  refine wp_enterQ (run_call 18 [.tmp 18] _ rfl _ Tryz.func18 rfl (by kernel_rfl) [.slice (some ⟨w8.heap.size, 0, none⟩) 1 1] rfl _) (shaSum_any (sl_of_cells (x := [97]) (CellsAt.whole hB9b) (by simp)) (by simp)) ?_
  rintro e w10 ⟨rfl, hm10⟩
  clear hB9b
  refine ⟨_, rfl, hK _ _ trivial ?_⟩
  clear hK K
  try simp only [pl, pn, el, ec, sz, ss, gz, gs, if_true, if_false, Bool.false_eq_true, Bool.not_true, Bool.not_false, Nat.add_zero, Nat.zero_add, Nat.reduceAdd]
  refine wpPi_do rfl (fun K hK => ?_)
  refine wp_buildSlice1 25 5 _ (byteV 120) (.int .u8 0) 1 (by rfl) (by rfl) Tryz.underlying25 (by kernel_rfl) (by omega) (by omega) (by rfl) (fun w11 hB11 hm11 hs11 => ?_)
  replace hB11 : w11.heap[w10.heap.size]? = some (.cells (idCells [120]) 5 (0, 0)) := hB11
  refine hK _ _ trivial ?_
  clear hK K
  try simp only [pl, pn, el, ec, sz, ss, gz, gs, if_true, if_false, Bool.false_eq_true, Bool.not_true, Bool.not_false, Nat.add_zero, Nat.zero_add, Nat.reduceAdd]
  refine wpPi_do rfl (fun K hK => ?_)
  refine wp_bytesConst 25 5 _ w10.heap.size 1 1 _ (by rfl) (by rfl) Tryz.underlying25 Tryz.underlying5 hB11 (fun w11b hB11b hm11b => ?_)
  replace hm11 : Mod NoB w10 w11b := hm11.transB hm11b (Nat.le_refl _)
  clear hB11 hm11b
  refine hK _ _ trivial ?_
  clear hK K
  try simp only [pl, pn, el, ec, sz, ss, gz, gs, if_true, if_false, Bool.false_eq_true, Bool.not_true, Bool.not_false, Nat.add_zero, Nat.zero_add, Nat.reduceAdd]
  refine wpPi_do rfl (fun K hK => ?_)
  refine wp_enterQ (run_call 18 [.tmp 21] _ rfl _ Tryz.func18 rfl (by kernel_rfl) [.slice (some ⟨w10.heap.size, 0, none⟩) 1 1] rfl _) (shaSum_any (sl_of_cells (x := [120]) (CellsAt.whole hB11b) (by simp)) (by simp)) ?_
  rintro e w12 ⟨rfl, hm12⟩
  clear hB11b
  have hM12 := ((hm9.trans0 hm10).trans0 hm11).trans0 hm12
  refine ⟨_, rfl, hK _ _ trivial ?_⟩
  clear hK K
  try simp only [pl, pn, el, ec, sz, ss, gz, gs, if_true, if_false, Bool.false_eq_true, Bool.not_true, Bool.not_false, Nat.add_zero, Nat.zero_add, Nat.reduceAdd]
  refine wpPi_do rfl (fun K hK => ?_)
  refine wp_alloc 24 _ (by rfl) idZ (fun w13 hB13 hm13 hs13 => ?_)
  replace hB13 : w13.heap[w12.heap.size]? = some (.cells (idCells (List.replicate 32 0)) 24 (0, 0)) := hB13
  refine hK _ _ trivial ?_
  clear hK K
  try simp only [pl, pn, el, ec, sz, ss, gz, gs, if_true, if_false, Bool.false_eq_true, Bool.not_true, Bool.not_false, Nat.add_zero, Nat.zero_add, Nat.reduceAdd]
  refine wpPi_do rfl (fun K hK => ?_)
  refine wp_alloc 24 _ (by rfl) idZ (fun w14 hB14 hm14 hs14 => ?_)
  replace hB14 : w14.heap[w13.heap.size]? = some (.cells (idCells (List.replicate 32 0)) 24 (0, 0)) := hB14
  replace hB13 := hm14.obj id hB13
  have hM14 := (hM12.trans0 hm13).trans0 hm14
  have hs12 := hM12.size
  refine hK _ _ trivial ?_
  clear hK K
  try simp only [pl, pn, el, ec, sz, ss, gz, gs, if_true, if_false, Bool.false_eq_true, Bool.not_true, Bool.not_false, Nat.add_zero, Nat.zero_add, Nat.reduceAdd]
  refine wpPi_do rfl (fun K hK => ?_)
  refine wp_storeA 24 _ _ w12.heap.size 0 (idCells (shaL [97])) (by rfl) (by rfl) (by rfl) (idCells_one _) 32 (by kernel_rfl) hkr _ _ hB13 (by rw [hkr, idCells_size]; simp) (fun w15 hB15 hm15 => ?_)
  rw [putRow_whole (by rw [hkr, idCells_size]; rfl)] at hB15
  replace hB14 := hm15.objB (by omega) hB14
  refine hK _ _ trivial ?_
  clear hK K
  try simp only [pl, pn, el, ec, sz, ss, gz, gs, if_true, if_false, Bool.false_eq_true, Bool.not_true, Bool.not_false, Nat.add_zero, Nat.zero_add, Nat.reduceAdd]
  refine wpPi_do rfl (fun K hK => ?_)
  refine wp_storeA 24 _ _ w13.heap.size 0 (idCells (shaL [120])) (by rfl) (by rfl) (by rfl) (idCells_one _) 32 (by kernel_rfl) hvr _ _ hB14 (by rw [hvr, idCells_size]; simp) (fun w16 hB16 hm16 => ?_)
  rw [putRow_whole (by rw [hvr, idCells_size]; rfl)] at hB16
  replace hB15 := hm16.objB (by omega) hB15
  refine hK _ _ trivial ?_
  clear hK K
  try simp only [pl, pn, el, ec, sz, ss, gz, gs, if_true, if_false, Bool.false_eq_true, Bool.not_true, Bool.not_false, Nat.add_zero, Nat.zero_add, Nat.reduceAdd]
  refine wpPi_nil ?_
  have hM16 : Mod NoB w8 w16 := (hM14.transB hm15 hs12).transB hm16 (by omega)
  replace hB3 := CellsAt.whole (hM16.obj id hB3)
  replace hB8 := CellsAt.whole (hM16.obj id hB8)
  have hMw := hM8.trans0 hM16
  have hsk := sl_of_cells (CellsAt.whole hB15) (by omega)
  have hsv := sl_of_cells (CellsAt.whole hB16) (by omega)
  rw [hkl] at hsk
  rw [hvl] at hsv
  generalize w12.heap.size = b5 at *
  generalize w13.heap.size = b6 at *
  clear hm9 hm10 hm11 hm12 hm13 hm14 hm15 hm16 hB13 hB14 hB15 hB16 hM8 hM12 hM14 hM16 hkr hvr
  go_upto_region 4 with (fail)
  have hS : Mod NoB w16 w16.drew := (Mod.refl _ _).drew
  refine wp_region_plan [.inl [(0, 3), (1, 3), (2, 3), (3, 0)], .inr (.inl 4), .inr (.inl 5), .inl [(6, 0), (7, 3), (8, 3), (9, 3), (10, 3), (11, 3), (12, 3), (13, 0), (15, 3), (17, 3)], .inr (.inl 14), .inr (.inl 16), .inr (.inl 18), .inr (.inl 19), .inl [(20, 0), (21, 3), (22, 3)], .inr (.inr (5, #[true, true, true, true, true, true, true, true, true, true, true, true, true, true, true, true, true, true, true, true, true, true, true, false, false, false, false, false, false, false, false])), .inr (.inl 28), .inl [(29, 3), (30, 3)]] (fun w' => Mod NoB w16 w') (by kernel_rfl) (by kernel_rfl) (by kernel_rfl) (fun _ _ _ _ hd h => ⟨hd.trans h.1, h.2⟩) hS ?_
  refine wpPlan_seg ?_
  simp only [List.map_cons, List.map_nil, Array.getD_eq_getD_getElem?, List.getElem?_toArray, List.getElem?_cons_succ, List.getElem?_cons_zero, Option.getD_some]
  refine wpPi_move _ rfl rfl ?_
  simp only [pl, pn, el, ec, sz, ss, gz, gs, if_true, if_false, Bool.false_eq_true, Bool.not_true, Bool.not_false, Nat.add_zero, Nat.zero_add, Nat.reduceAdd]
  refine wpPi_any (v := ?_) rfl (fun w' => ?_) ?_; rotate_left; · (go_simp; try with_reducible rfl)
  simp only [pl, pn, el, ec, sz, ss, gz, gs, if_true, if_false, Bool.false_eq_true, Bool.not_true, Bool.not_false, Nat.add_zero, Nat.zero_add, Nat.reduceAdd]
  refine wpPi_move _ rfl rfl ?_
  simp only [pl, pn, el, ec, sz, ss, gz, gs, if_true, if_false, Bool.false_eq_true, Bool.not_true, Bool.not_false, Nat.add_zero, Nat.zero_add, Nat.reduceAdd]
  refine wpPi_val rfl (fun w' hS => exec_loadA 24 _ (by rfl) b1 0 (by rfl) (idCells (shaL [0])) (hB3.keep hS id) _ Tryz.underlying24 rfl 32 (by kernel_rfl) hl0) ?_
  simp only [pl, pn, el, ec, sz, ss, gz, gs, if_true, if_false, Bool.false_eq_true, Bool.not_true, Bool.not_false, Nat.add_zero, Nat.zero_add, Nat.reduceAdd]
  refine wpPi_nil ?_
  refine planQ_normal ?_
  refine wpPlan_one rfl (fun K hK => ?_)
  simp only [Array.getD_eq_getD_getElem?, List.getElem?_toArray, List.getElem?_cons_succ, List.getElem?_cons_zero, Option.getD_some]
  refine wp_buildSlice1 25 5 _ (byteV 0) (.int .u8 0) 1 (by rfl) (by rfl) Tryz.underlying25 (by kernel_rfl) (by omega) (by omega) (by rfl) (fun wa hBa hma hsa => ?_)
  replace hBa : wa.heap[w16.heap.size]? = some (.cells (idCells [0]) 5 (0, 0)) := hBa
  have hSa := hS.trans0 hma
  refine hK _ _ hSa ?_
  clear hK K
  try simp only [pl, pn, el, ec, sz, ss, gz, gs, if_true, if_false, Bool.false_eq_true, Bool.not_true, Bool.not_false, Nat.add_zero, Nat.zero_add, Nat.reduceAdd]
  refine wpPlan_one rfl (fun K hK => ?_)
  simp only [Array.getD_eq_getD_getElem?, List.getElem?_toArray, List.getElem?_cons_succ, List.getElem?_cons_zero, Option.getD_some]
  refine wp_enterQ (run_call 18 [.tmp 27] _ rfl _ Tryz.func18 rfl (by kernel_rfl) [.slice (some ⟨w16.heap.size, 0, none⟩) 1 1] rfl _) (shaSum_any (sl_of_cells (x := [0]) (CellsAt.whole hBa) (by simp)) (by simp)) ?_
  rintro e wb ⟨rfl, hmb⟩
  have hSb := hSa.trans0 hmb
  refine ⟨_, rfl, hK _ _ hSb ?_⟩
  clear hK K
  try simp only [pl, pn, el, ec, sz, ss, gz, gs, if_true, if_false, Bool.false_eq_true, Bool.not_true, Bool.not_false, Nat.add_zero, Nat.zero_add, Nat.reduceAdd]
  refine wpPlan_seg ?_
  simp only [List.map_cons, List.map_nil, Array.getD_eq_getD_getElem?, List.getElem?_toArray, List.getElem?_cons_succ, List.getElem?_cons_zero, Option.getD_some]
  refine wpPi_val rfl (fun w' hS => exec_eql_id _ _ _ _ rfl (shaL [0]) (shaL [0]) rfl rfl 32 5 Tryz.underlying24 Tryz.underlying5 (by kernel_rfl) (by kernel_rfl) (shaL_len _) (shaL_len _) true (decide_eq_true rfl)) ?_
  simp only [pl, pn, el, ec, sz, ss, gz, gs, if_true, if_false, Bool.false_eq_true, Bool.not_true, Bool.not_false, Nat.add_zero, Nat.zero_add, Nat.reduceAdd]
  refine wpPi_pick _ _ _ _ rfl rfl rfl ?_
  simp only [pl, pn, el, ec, sz, ss, gz, gs, if_true, if_false, Bool.false_eq_true, Bool.not_true, Bool.not_false, Nat.add_zero, Nat.zero_add, Nat.reduceAdd]
  refine wpPi_move _ rfl rfl ?_
  simp only [pl, pn, el, ec, sz, ss, gz, gs, if_true, if_false, Bool.false_eq_true, Bool.not_true, Bool.not_false, Nat.add_zero, Nat.zero_add, Nat.reduceAdd]
  refine wpPi_move _ rfl rfl ?_
  simp only [pl, pn, el, ec, sz, ss, gz, gs, if_true, if_false, Bool.false_eq_true, Bool.not_true, Bool.not_false, Nat.add_zero, Nat.zero_add, Nat.reduceAdd]
  refine wpPi_any (v := ?_) rfl (fun w' => ?_) ?_; rotate_left; · (go_simp; try with_reducible rfl)
  simp only [pl, pn, el, ec, sz, ss, gz, gs, if_true, if_false, Bool.false_eq_true, Bool.not_true, Bool.not_false, Nat.add_zero, Nat.zero_add, Nat.reduceAdd]
  refine wpPi_pick _ _ _ _ rfl rfl rfl ?_
  simp only [pl, pn, el, ec, sz, ss, gz, gs, if_true, if_false, Bool.false_eq_true, Bool.not_true, Bool.not_false, Nat.add_zero, Nat.zero_add, Nat.reduceAdd]
  refine wpPi_move _ rfl rfl ?_
  simp only [pl, pn, el, ec, sz, ss, gz, gs, if_true, if_false, Bool.false_eq_true, Bool.not_true, Bool.not_false, Nat.add_zero, Nat.zero_add, Nat.reduceAdd]
  refine wpPi_val rfl (fun w' hS => exec_loadA 24 _ (by rfl) b3 0 (by rfl) (idCells R) (hB8.keep hS id) _ Tryz.underlying24 rfl 32 (by kernel_rfl) hRr) ?_
  simp only [pl, pn, el, ec, sz, ss, gz, gs, if_true, if_false, Bool.false_eq_true, Bool.not_true, Bool.not_false, Nat.add_zero, Nat.zero_add, Nat.reduceAdd]
  refine wpPi_sliceArr 24 5 _ _ _ 32 rfl rfl rfl Tryz.underlying24 (by kernel_rfl) ?_
  simp only [pl, pn, el, ec, sz, ss, gz, gs, if_true, if_false, Bool.false_eq_true, Bool.not_true, Bool.not_false, Nat.add_zero, Nat.zero_add, Nat.reduceAdd]
  refine wpPi_sliceArr 24 5 _ _ _ 32 rfl rfl rfl Tryz.underlying24 (by kernel_rfl) ?_
  simp only [pl, pn, el, ec, sz, ss, gz, gs, if_true, if_false, Bool.false_eq_true, Bool.not_true, Bool.not_false, Nat.add_zero, Nat.zero_add, Nat.reduceAdd]
  refine wpPi_nil ?_
  refine planQ_normal ?_
  refine wpPlan_one rfl (fun K hK => ?_)
  simp only [Array.getD_eq_getD_getElem?, List.getElem?_toArray, List.getElem?_cons_succ, List.getElem?_cons_zero, Option.getD_some]
  refine wp_buildSlice1 25 5 _ (byteV 1) (.int .u8 0) 1 (by rfl) (by rfl) Tryz.underlying25 (by kernel_rfl) (by omega) (by omega) (by rfl) (fun wc hBc hmc hsc => ?_)
  have hbt : Bts wb.heap.size wc (.slice (some ⟨wb.heap.size, 0, none⟩) 1 1) [1] := owns_lit hBc
  have hSc := hSb.trans0 hmc
  have hsbc := hSb.size
  have hscc := hSc.size
  refine hK _ _ hSc ?_
  clear hK K
  try simp only [pl, pn, el, ec, sz, ss, gz, gs, if_true, if_false, Bool.false_eq_true, Bool.not_true, Bool.not_false, Nat.add_zero, Nat.zero_add, Nat.reduceAdd]
  refine wpPlan_one rfl (fun K hK => ?_)
  simp only [Array.getD_eq_getD_getElem?, List.getElem?_toArray, List.getElem?_cons_succ, List.getElem?_cons_zero, Option.getD_some]
  refine wp_bytes _ _ (by rfl) wb.heap.size _ [1] (by rfl) hbt _ (shaL [97]) (by rfl) (by have := (hsk.keep0 hSc).bsrc; rwa [hkl] at this ⊢) (by rw [hkl]; simp) (by have := hmc.size; omega) (fun vd wd hbd hmd => ?_)
  have hSd : Mod NoB w16 wd := hSc.trans hmd (fun k hk e => by have := (hbt.lt e).1; omega)
  refine hK _ _ hSd ?_
  clear hK K
  try simp only [pl, pn, el, ec, sz, ss, gz, gs, if_true, if_false, Bool.false_eq_true, Bool.not_true, Bool.not_false, Nat.add_zero, Nat.zero_add, Nat.reduceAdd]
  refine wpPlan_one rfl (fun K hK => ?_)
  simp only [Array.getD_eq_getD_getElem?, List.getElem?_toArray, List.getElem?_cons_succ, List.getElem?_cons_zero, Option.getD_some]
  refine wp_bytes _ _ (by rfl) wb.heap.size _ _ (by rfl) hbd _ (shaL [120]) (by rfl) (by have := (hsv.keep0 hSd).bsrc; rwa [hvl] at this ⊢) (by rw [hvl, List.length_append, hkl]; simp) (by have := hmc.size; have := hmd.size; omega) (fun ve we hbe hme => ?_)
  have hSe : Mod NoB w16 we := hSd.trans hme (fun k hk e => by have := (hbd.lt e).1; omega)
  refine hK _ _ hSe ?_
  clear hK K
  try simp only [pl, pn, el, ec, sz, ss, gz, gs, if_true, if_false, Bool.false_eq_true, Bool.not_true, Bool.not_false, Nat.add_zero, Nat.zero_add, Nat.reduceAdd]
  refine wpPlan_one rfl (fun K hK => ?_)
  simp only [Array.getD_eq_getD_getElem?, List.getElem?_toArray, List.getElem?_cons_succ, List.getElem?_cons_zero, Option.getD_some]
  refine wp_enterQ (run_call 18 [.tmp 41] _ rfl _ Tryz.func18 rfl (by kernel_rfl) [ve] rfl _) (shaSum_any hbe.sl (by rw [List.length_append, List.length_append, hkl, hvl]; simp)) ?_
  rintro e wf ⟨rfl, hmf⟩
  have hSf := hSe.trans0 hmf
  have heR : shaL ([1] ++ shaL [97] ++ shaL [120]) = R := by rw [← HR.out, List.append_assoc]; rfl
  rw [heR]
  refine ⟨_, rfl, hK _ _ hSf ?_⟩
  clear hK K
  try simp only [pl, pn, el, ec, sz, ss, gz, gs, if_true, if_false, Bool.false_eq_true, Bool.not_true, Bool.not_false, Nat.add_zero, Nat.zero_add, Nat.reduceAdd]
  refine wpPlan_seg ?_
  simp only [List.map_cons, List.map_nil, Array.getD_eq_getD_getElem?, List.getElem?_toArray, List.getElem?_cons_succ, List.getElem?_cons_zero, Option.getD_some]
  refine wpPi_val rfl (fun w' hS => exec_eql_id _ _ _ _ rfl R R rfl rfl 32 5 Tryz.underlying24 Tryz.underlying5 (by kernel_rfl) (by kernel_rfl) hRl hRl true (decide_eq_true rfl)) ?_
  simp only [pl, pn, el, ec, sz, ss, gz, gs, if_true, if_false, Bool.false_eq_true, Bool.not_true, Bool.not_false, Nat.add_zero, Nat.zero_add, Nat.reduceAdd]
  refine wpPi_pick _ _ _ _ rfl rfl rfl ?_
  simp only [pl, pn, el, ec, sz, ss, gz, gs, if_true, if_false, Bool.false_eq_true, Bool.not_true, Bool.not_false, Nat.add_zero, Nat.zero_add, Nat.reduceAdd]
  refine wpPi_move _ rfl rfl ?_
  simp only [pl, pn, el, ec, sz, ss, gz, gs, if_true, if_false, Bool.false_eq_true, Bool.not_true, Bool.not_false, Nat.add_zero, Nat.zero_add, Nat.reduceAdd]
  refine wpPi_nil ?_
  refine planQ_normal ?_
  refine wpPlan_dep [(46, (fun v w' => ∃ cs, v = .agg cs ∧ EntC w' Ever cs eAX)), (47, (fun v w' => Es false w' Ever v [eAX])), (48, (fun v w' => ∃ cs, v = .agg cs ∧ EntC w' Ever cs eAY)), (49, (fun v w' => Es false w' Ever v [eAY])), (50, (fun v w' => Txt false w' Ever v [sA]))] [(23, 46, []), (24, 47, [46]), (25, 48, []), (26, 49, [48]), (27, 50, [])] ?hF ?hS (by decide) (by kernel_rfl) (by kernel_rfl) (by kernel_rfl) ?hw ?hend ?hop
  case hF =>
    intro x hx
    simp only [List.mem_cons, List.not_mem_nil, or_false] at hx
    rcases hx with rfl | rfl | rfl | rfl | rfl
    · exact entF_keep eAX
    · exact esF_keep [eAX]
    · exact entF_keep eAY
    · exact esF_keep [eAY]
    · exact txtF_keep [sA]
  case hS => exact (fun _ hm => hSf.trans0 hm)
  case hw =>
    intro q hq
    simp only [List.mem_cons, List.not_mem_nil, or_false] at hq
    rcases hq with rfl | rfl | rfl | rfl | rfl <;> rfl
  case hop =>
    intro q hq ps w1 hm hps hds hnd hpn K hK
    simp only [List.mem_cons, List.not_mem_nil, or_false] at hq
    rcases hq with rfl | rfl | rfl | rfl | rfl
    · simp only [depF, Nat.reduceEqDiff, if_true, if_false, reduceIte] at hK
      simp only [Array.getD_eq_getD_getElem?, List.getElem?_toArray, List.getElem?_cons_succ, List.getElem?_cons_zero, Option.getD_some]
      clear hps hds
      refine wp_enterQ (run_call 17 [.const (.string ⟨#[97]⟩), .const (.string ⟨#[120]⟩)] _ rfl _ Tryz.func17 rfl (by kernel_rfl) [.string ⟨#[97]⟩, .string ⟨#[120]⟩] rfl _) (lawOf_any ⟨#[97]⟩ ⟨#[120]⟩ (by decide) _) ?_
      rintro e wg ⟨cs, rfl, hec, hmg⟩
      exact ⟨_, rfl, hK _ _ hmg ⟨cs, rfl, hec⟩⟩
    · simp only [depF, Nat.reduceEqDiff, if_true, if_false, reduceIte] at hK
      simp only [Array.getD_eq_getD_getElem?, List.getElem?_toArray, List.getElem?_cons_succ, List.getElem?_cons_zero, Option.getD_some]
      obtain ⟨v46, hv46⟩ := hds 46 (by simp)
      have hf46 := hps (46, v46) hv46
      simp only [depF, Nat.reduceEqDiff, if_true, if_false, reduceIte] at hf46
      clear hps hds
      obtain ⟨cs, rfl, hec⟩ := hf46
      refine wp_buildSlice1 22 27 _ (.agg cs) (.agg #[.string ⟨#[]⟩, .slice none 0 0]) 2 (by rfl) (puts_get hv46 hnd (of_decide_eq_true (by rfl))) Tryz.underlying22 entry_i2 (by omega) (by omega) hec.size (fun wg hBg hmg hsg => ?_)
      exact hK _ _ hmg (es_one hBg (hec.keep hmg (fun _ _ => id)))
    · simp only [depF, Nat.reduceEqDiff, if_true, if_false, reduceIte] at hK
      simp only [Array.getD_eq_getD_getElem?, List.getElem?_toArray, List.getElem?_cons_succ, List.getElem?_cons_zero, Option.getD_some]
      clear hps hds
      refine wp_enterQ (run_call 17 [.const (.string ⟨#[97]⟩), .const (.string ⟨#[121]⟩)] _ rfl _ Tryz.func17 rfl (by kernel_rfl) [.string ⟨#[97]⟩, .string ⟨#[121]⟩] rfl _) (lawOf_any ⟨#[97]⟩ ⟨#[121]⟩ (by decide) _) ?_
      rintro e wg ⟨cs, rfl, hec, hmg⟩
      exact ⟨_, rfl, hK _ _ hmg ⟨cs, rfl, hec⟩⟩
    · simp only [depF, Nat.reduceEqDiff, if_true, if_false, reduceIte] at hK
      simp only [Array.getD_eq_getD_getElem?, List.getElem?_toArray, List.getElem?_cons_succ, List.getElem?_cons_zero, Option.getD_some]
      obtain ⟨v48, hv48⟩ := hds 48 (by simp)
      have hf48 := hps (48, v48) hv48
      simp only [depF, Nat.reduceEqDiff, if_true, if_false, reduceIte] at hf48
      clear hps hds
      obtain ⟨cs, rfl, hec⟩ := hf48
      refine wp_buildSlice1 22 27 _ (.agg cs) (.agg #[.string ⟨#[]⟩, .slice none 0 0]) 2 (by rfl) (puts_get hv48 hnd (of_decide_eq_true (by rfl))) Tryz.underlying22 entry_i2 (by omega) (by omega) hec.size (fun wg hBg hmg hsg => ?_)
      exact hK _ _ hmg (es_one hBg (hec.keep hmg (fun _ _ => id)))
    · simp only [depF, Nat.reduceEqDiff, if_true, if_false, reduceIte] at hK
      simp only [Array.getD_eq_getD_getElem?, List.getElem?_toArray, List.getElem?_cons_succ, List.getElem?_cons_zero, Option.getD_some]
      clear hps hds
      refine wp_buildSlice1 67 9 _ (.string sA) (.string ⟨#[]⟩) 1 (by rfl) (by rfl) Tryz.underlying67 str_i2 (by omega) (by omega) rfl (fun wg hBg hmg hsg => ?_)
      exact hK _ _ hmg (txt_one hBg)
  case hend =>
    intro vals wz hvl hGM hJ
    obtain ⟨v46, vals1, rfl, hvl1⟩ := vals_cons hvl
    obtain ⟨v47, vals2, rfl, hvl2⟩ := vals_cons hvl1
    obtain ⟨v48, vals3, rfl, hvl3⟩ := vals_cons hvl2
    obtain ⟨v49, vals4, rfl, hvl4⟩ := vals_cons hvl3
    obtain ⟨v50, vals5, rfl, hvl5⟩ := vals_cons hvl4
    obtain rfl := List.eq_nil_of_length_eq_zero hvl5
    simp only [List.map_cons, List.map_nil, List.zip_cons_cons, List.zip_nil_left] at hJ ⊢
    have h46 := hJ (46, v46) (by simp)
    simp only [depF, Nat.reduceEqDiff, if_true, if_false, reduceIte] at h46
    have h47 := hJ (47, v47) (by simp)
    simp only [depF, Nat.reduceEqDiff, if_true, if_false, reduceIte] at h47
    have h48 := hJ (48, v48) (by simp)
    simp only [depF, Nat.reduceEqDiff, if_true, if_false, reduceIte] at h48
    have h49 := hJ (49, v49) (by simp)
    simp only [depF, Nat.reduceEqDiff, if_true, if_false, reduceIte] at h49
    have h50 := hJ (50, v50) (by simp)
    simp only [depF, Nat.reduceEqDiff, if_true, if_false, reduceIte] at h50
    clear hJ hvl hvl1 hvl2 hvl3 hvl4 hvl5
    simp only [puts]
    try simp only [pl, pn, el, ec, sz, ss, gz, gs, if_true, if_false, Bool.false_eq_true, Bool.not_true, Bool.not_false, Nat.add_zero, Nat.zero_add, Nat.reduceAdd]
    refine wpPlan_one rfl (fun K hK => ?_)
    simp only [Array.getD_eq_getD_getElem?, List.getElem?_toArray, List.getElem?_cons_succ, List.getElem?_cons_zero, Option.getD_some]
    refine wp_enterQ (run_call 19 [.tmp 47, .tmp 49, .const (.int .i64 1), .tmp 50] _ rfl _ Tryz.func19 rfl (by kernel_rfl) [v47, v49, .int .i64 1, v50] rfl _) (differs_any h47 h49 h50 (short_one (by decide) (by decide)) (short_one (by decide) (by decide)) (by simp) (by simp) 1) ?_
    rintro e wh ⟨rfl, hmh⟩
    rw [HDF.out]
    have hSh := (hSf.trans0 hGM).trans0 hmh
    refine ⟨_, rfl, hK _ _ hSh ?_⟩
    clear hK K
    try simp only [pl, pn, el, ec, sz, ss, gz, gs, if_true, if_false, Bool.false_eq_true, Bool.not_true, Bool.not_false, Nat.add_zero, Nat.zero_add, Nat.reduceAdd]
    refine wpPlan_seg ?_
    simp only [List.map_cons, List.map_nil, Array.getD_eq_getD_getElem?, List.getElem?_toArray, List.getElem?_cons_succ, List.getElem?_cons_zero, Option.getD_some]
    refine wpPi_pick _ _ _ _ rfl rfl rfl ?_
    simp only [pl, pn, el, ec, sz, ss, gz, gs, if_true, if_false, Bool.false_eq_true, Bool.not_true, Bool.not_false, Nat.add_zero, Nat.zero_add, Nat.reduceAdd]
    refine wpPi_assign _ rfl rfl ?_
    simp only [pl, pn, el, ec, sz, ss, gz, gs, if_true, if_false, Bool.false_eq_true, Bool.not_true, Bool.not_false, Nat.add_zero, Nat.zero_add, Nat.reduceAdd]
    refine wpPi_nil ?_
    refine planQ_normal ?_
    refine wpPlan_fin ?_
    have hMr := hMw.trans0 hSh
    clear hSh hSf hSe hSd hSc hSb hSa hS
    go_wp2
    go_ret
    exact ⟨rfl, hMr⟩
end Go.Proofs.YtchkikmmcmjcgaaGreat
