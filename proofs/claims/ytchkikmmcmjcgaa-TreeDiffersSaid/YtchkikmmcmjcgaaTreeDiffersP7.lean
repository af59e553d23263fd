/- What the statement TreeDiffers needs, part 7. -/
import Derived.Test.YtchkikmmcmjcgaaTreeDiffersP6
/- The document's tree: lacks. (Printed by RtrE.gen.py.) -/
namespace Go.Proofs.Ytchkikmmcmjcgaa
set_option linter.unusedSimpArgs false
set_option linter.unusedVariables false
set_option linter.unnecessarySimpa false
set_option linter.unusedSectionVars false
open Go.RowKit Go.Shelf

theorem fo_74_0 : fieldOff Try.prog 74 0 = some 0 := by kernel_rfl
/-- Made of an entry: the way is the key's digest. -/
def Made (l : List Leaf) : Prop := ∀ x ∈ l, x.way = shaL x.key.data.toList
theorem made_leaves (l : List Ent) : Made (leavesE l) := fun x hx => by
  obtain ⟨e, _, rfl⟩ := List.mem_map.1 hx; rfl
theorem Made.side {l : List Leaf} (h : Made l) (b : Bool) (i : Nat) : Made (sideL b i l) := fun x hx => h x (side_mem.1 hx).1
theorem made_eq {x y : Leaf} (hx : x.way = shaL x.key.data.toList) (hy : y.way = shaL y.key.data.toList) (h1 : y.key = x.key) (h2 : y.val = x.val) : y = x := by
  cases x; cases y
  simp only at hx hy h1 h2
  subst h1 h2 hx hy
  rfl
theorem take_app {α : Type} {l : List α} {k : Nat} (h : k < l.length) : l.take (k + 1) = l.take k ++ [l[k]] := by rw [List.take_add_one, List.getElem?_eq_getElem h]; rfl
def RLkRel (a b : List Leaf) (w0 : World) (v i : Value) (w : World) : Prop := ∃ k : Nat, k ≤ a.length ∧ i = .int .i64 k ∧ Gat strEnc 9 1 w0.heap.size w v (lackL (a.take k) b) ∧ Mod NoB w0 w
def RLkIn (x : Leaf) (b : List Leaf) (w0 : World) (t i : Value) (w : World) : Prop := ∃ k : Nat, k ≤ b.length ∧ i = .int .i64 k ∧ t = .bool (decide (x ∈ b.take k)) ∧ Mod NoB w0 w
set_option maxRecDepth 10000 in
set_option maxHeartbeats 1000000 in
theorem refLacks_any {w : World} {G G' : Nat → Prop} {va vb : Value} {a b : List Leaf} (ha : Ls w G va a) (hb : Ls w G' vb b) (hal : a.length ≤ 1000000) (hma : Made a) (hmb : Made b) : Calls Try.prog 59 #[va, vb] w (KeysR w (lackL a b)) := by
  have HA := Lib.hid ha
  have HB := Lib.hid hb
  have HMA := Lib.hid hma
  have HMB := Lib.hid hmb
  obtain ⟨aa, ca, rfl, -, -⟩ := Sl.at ha
  obtain ⟨ab, cb, rfl, hbl, -⟩ := Sl.at hb
  clear ha hb hma hmb
  go_enter Try.func59, Try.ntmps59
  go_wp2
  go_loopw [5, 6] (RLkRel a b w) (fun _ i _ => a.length - (intOf i).toNat)
  case atStart => exact ⟨0, by omega, rfl, Gat.nil _ _ _ _ _, Mod.refl _ _⟩
  case round =>
    rename World => wr
    obtain ⟨k, hk, rfl, hg, hm⟩ := hrel
    obtain ⟨ad5, cap5, rfl⟩ := hg.slice
    have HG := Lib.hid hg
    clear hg
    by_cases hlt : k < a.length
    · have hz : (k : Int) < (a.length : Int) := by omega
      have hnl : (lackL (a.take k) b).length ≤ 1000000 := by
        have := lack_len (a.take k) b
        rw [List.length_take] at this
        omega
      have HLS := Lib.hid (lack_succ (b := b) hlt)
      obtain ⟨_, _, hv, -, hat⟩ := Sl.at (HA.out.keep0 hm)
      cases hv
      obtain ⟨b1, off1, rfl, -, -, hc⟩ := hat k hlt
      obtain ⟨_, -, ⟨rfl, hok⟩, hc⟩ := hc k hlt
      have hkx := leaf_key hc
      have hvx := leaf_val hok hc
      have hxl := hok.2
      have hxm := HMA.out a[k] (List.getElem_mem hlt)
      rw [Nat.add_zero] at hkx
      obtain ⟨x, hx⟩ : ∃ x, a[k] = x := ⟨_, rfl⟩
      rw [hx] at hkx hvx hxl hxm HLS
      have hxr : (idCells x.val).size = 32 := by rw [idCells_size, hxl]
      have HXM := Lib.hid hxm
      clear hat hc hok hx hxm
      go_wp2
      go_loopw [7, 8] (RLkIn x b wr) (fun _ i _ => b.length - (intOf i).toNat)
      case atStart => exact ⟨0, by omega, rfl, by simp, Mod.refl _ _⟩
      case round =>
        rename World => w2
        obtain ⟨j, hj, rfl, rfl, hm2⟩ := hrel
        by_cases hlt2 : j < b.length
        · have hz2 : (j : Int) < (b.length : Int) := by omega
          have HBS := Lib.hid (take_app hlt2)
          obtain ⟨_, _, hv, -, hat⟩ := Sl.at (HB.out.keep0 (hm.trans0 hm2))
          cases hv
          obtain ⟨b2, off2, rfl, -, -, hc⟩ := hat j hlt2
          obtain ⟨_, -, ⟨rfl, hok⟩, hc⟩ := hc j hlt2
          have hky := leaf_key hc
          have hvy := leaf_val hok hc
          have hyl := hok.2
          have hym := HMB.out b[j] (List.getElem_mem hlt2)
          rw [Nat.add_zero] at hky
          obtain ⟨y, hy⟩ : ∃ x, b[j] = x := ⟨_, rfl⟩
          rw [hy] at hky hvy hyl hym HBS
          have hyr : (idCells y.val).size = 32 := by rw [idCells_size, hyl]
          have HEQ := Lib.hid (fun (h1 : y.key = x.key) (h2 : y.val = x.val) => made_eq HXM.out hym h1 h2)
          replace hkx := hm2.cell id hkx
          replace hvx := hvx.keep hm2 id
          clear hat hc hok hy hym
          go_upto_region 9 with (fail)
          have hS : Mod NoB w2 w2.drew := (Mod.refl _ _).drew
          by_cases hth : x ∈ b.take j
          · have HTH := Lib.hid (decide_eq_true hth)
            rw [HTH.out]
            have HMS := Lib.hid (decide_eq_true (show x ∈ b.take (j + 1) by rw [HBS.out]; simp [hth]))
            clear hth
            refine wp_region_pi [(0, 3), (1, 3), (2, 3), (3, 3), (4, 3), (5, 3), (6, 0), (7, 3), (8, 3), (9, 3), (10, 3), (11, 0), (12, 3), (13, 3), (14, 3), (15, 3), (16, 3), (17, 3), (18, 0), (19, 3), (20, 3), (21, 3), (22, 3), (23, 0), (24, 3), (25, 3), (26, 3), (27, 3)] [] (fun w' => Mod NoB w2 w') (by kernel_rfl) (by kernel_rfl) (by kernel_rfl) (by kernel_rfl) (fun _ _ _ _ hd h => ⟨hd.trans h.1, h.2⟩) hS ?_
            simp only [List.map_cons, List.map_nil, List.getD_cons_zero, List.getD_cons_succ]
            refine wpPi_move _ rfl rfl ?_
            simp only [pl, pn, el, ec, sz, ss, gz, gs, if_true, if_false, Bool.false_eq_true, Bool.not_true, Bool.not_false, Nat.add_zero, Nat.zero_add, Nat.reduceAdd]
            refine wpPi_move _ rfl rfl ?_
            simp only [pl, pn, el, ec, sz, ss, gz, gs, if_true, if_false, Bool.false_eq_true, Bool.not_true, Bool.not_false, Nat.add_zero, Nat.zero_add, Nat.reduceAdd]
            refine wpPi_skip rfl ?_
            simp only [pl, pn, el, ec, sz, ss, gz, gs, if_true, if_false, Bool.false_eq_true, Bool.not_true, Bool.not_false, Nat.add_zero, Nat.zero_add, Nat.reduceAdd]
            refine wpPi_skip rfl ?_
            simp only [pl, pn, el, ec, sz, ss, gz, gs, if_true, if_false, Bool.false_eq_true, Bool.not_true, Bool.not_false, Nat.add_zero, Nat.zero_add, Nat.reduceAdd]
            refine wpPi_skip rfl ?_
            simp only [pl, pn, el, ec, sz, ss, gz, gs, if_true, if_false, Bool.false_eq_true, Bool.not_true, Bool.not_false, Nat.add_zero, Nat.zero_add, Nat.reduceAdd]
            refine wpPi_skip rfl ?_
            simp only [pl, pn, el, ec, sz, ss, gz, gs, if_true, if_false, Bool.false_eq_true, Bool.not_true, Bool.not_false, Nat.add_zero, Nat.zero_add, Nat.reduceAdd]
            refine wpPi_skip0 rfl ?_
            simp only [pl, pn, el, ec, sz, ss, gz, gs, if_true, if_false, Bool.false_eq_true, Bool.not_true, Bool.not_false, Nat.add_zero, Nat.zero_add, Nat.reduceAdd]
            refine wpPi_skip rfl ?_
            simp only [pl, pn, el, ec, sz, ss, gz, gs, if_true, if_false, Bool.false_eq_true, Bool.not_true, Bool.not_false, Nat.add_zero, Nat.zero_add, Nat.reduceAdd]
            refine wpPi_skip rfl ?_
            simp only [pl, pn, el, ec, sz, ss, gz, gs, if_true, if_false, Bool.false_eq_true, Bool.not_true, Bool.not_false, Nat.add_zero, Nat.zero_add, Nat.reduceAdd]
            refine wpPi_skip rfl ?_
            simp only [pl, pn, el, ec, sz, ss, gz, gs, if_true, if_false, Bool.false_eq_true, Bool.not_true, Bool.not_false, Nat.add_zero, Nat.zero_add, Nat.reduceAdd]
            refine wpPi_skip rfl ?_
            simp only [pl, pn, el, ec, sz, ss, gz, gs, if_true, if_false, Bool.false_eq_true, Bool.not_true, Bool.not_false, Nat.add_zero, Nat.zero_add, Nat.reduceAdd]
            refine wpPi_skip0 rfl ?_
            simp only [pl, pn, el, ec, sz, ss, gz, gs, if_true, if_false, Bool.false_eq_true, Bool.not_true, Bool.not_false, Nat.add_zero, Nat.zero_add, Nat.reduceAdd]
            refine wpPi_skip rfl ?_
            simp only [pl, pn, el, ec, sz, ss, gz, gs, if_true, if_false, Bool.false_eq_true, Bool.not_true, Bool.not_false, Nat.add_zero, Nat.zero_add, Nat.reduceAdd]
            refine wpPi_skip rfl ?_
            simp only [pl, pn, el, ec, sz, ss, gz, gs, if_true, if_false, Bool.false_eq_true, Bool.not_true, Bool.not_false, Nat.add_zero, Nat.zero_add, Nat.reduceAdd]
            refine wpPi_skip rfl ?_
            simp only [pl, pn, el, ec, sz, ss, gz, gs, if_true, if_false, Bool.false_eq_true, Bool.not_true, Bool.not_false, Nat.add_zero, Nat.zero_add, Nat.reduceAdd]
            refine wpPi_skip rfl ?_
            simp only [pl, pn, el, ec, sz, ss, gz, gs, if_true, if_false, Bool.false_eq_true, Bool.not_true, Bool.not_false, Nat.add_zero, Nat.zero_add, Nat.reduceAdd]
            refine wpPi_skip rfl ?_
            simp only [pl, pn, el, ec, sz, ss, gz, gs, if_true, if_false, Bool.false_eq_true, Bool.not_true, Bool.not_false, Nat.add_zero, Nat.zero_add, Nat.reduceAdd]
            refine wpPi_skip rfl ?_
            simp only [pl, pn, el, ec, sz, ss, gz, gs, if_true, if_false, Bool.false_eq_true, Bool.not_true, Bool.not_false, Nat.add_zero, Nat.zero_add, Nat.reduceAdd]
            refine wpPi_skip0 rfl ?_
            simp only [pl, pn, el, ec, sz, ss, gz, gs, if_true, if_false, Bool.false_eq_true, Bool.not_true, Bool.not_false, Nat.add_zero, Nat.zero_add, Nat.reduceAdd]
            refine wpPi_skip rfl ?_
            simp only [pl, pn, el, ec, sz, ss, gz, gs, if_true, if_false, Bool.false_eq_true, Bool.not_true, Bool.not_false, Nat.add_zero, Nat.zero_add, Nat.reduceAdd]
            refine wpPi_skip rfl ?_
            simp only [pl, pn, el, ec, sz, ss, gz, gs, if_true, if_false, Bool.false_eq_true, Bool.not_true, Bool.not_false, Nat.add_zero, Nat.zero_add, Nat.reduceAdd]
            refine wpPi_skip rfl ?_
            simp only [pl, pn, el, ec, sz, ss, gz, gs, if_true, if_false, Bool.false_eq_true, Bool.not_true, Bool.not_false, Nat.add_zero, Nat.zero_add, Nat.reduceAdd]
            refine wpPi_skip rfl ?_
            simp only [pl, pn, el, ec, sz, ss, gz, gs, if_true, if_false, Bool.false_eq_true, Bool.not_true, Bool.not_false, Nat.add_zero, Nat.zero_add, Nat.reduceAdd]
            refine wpPi_skip0 rfl ?_
            simp only [pl, pn, el, ec, sz, ss, gz, gs, if_true, if_false, Bool.false_eq_true, Bool.not_true, Bool.not_false, Nat.add_zero, Nat.zero_add, Nat.reduceAdd]
            refine wpPi_skip rfl ?_
            simp only [pl, pn, el, ec, sz, ss, gz, gs, if_true, if_false, Bool.false_eq_true, Bool.not_true, Bool.not_false, Nat.add_zero, Nat.zero_add, Nat.reduceAdd]
            refine wpPi_skip rfl ?_
            simp only [pl, pn, el, ec, sz, ss, gz, gs, if_true, if_false, Bool.false_eq_true, Bool.not_true, Bool.not_false, Nat.add_zero, Nat.zero_add, Nat.reduceAdd]
            refine wpPi_pick _ _ _ _ rfl rfl rfl ?_
            simp only [pl, pn, el, ec, sz, ss, gz, gs, if_true, if_false, Bool.false_eq_true, Bool.not_true, Bool.not_false, Nat.add_zero, Nat.zero_add, Nat.reduceAdd]
            refine wpPi_assign _ rfl rfl ?_
            simp only [pl, pn, el, ec, sz, ss, gz, gs, if_true, if_false, Bool.false_eq_true, Bool.not_true, Bool.not_false, Nat.add_zero, Nat.zero_add, Nat.reduceAdd]
            refine wpPi_nil ?_
            go_wp2
            go_roundw
            case rel => exact ⟨j + 1, by omega, by go_num, by rw [HMS.out], hm2.trans0 hS⟩
            case measure => simp [intOf]; omega
          · have HTH := Lib.hid (decide_eq_false hth)
            rw [HTH.out]
            by_cases hkk : y.key = x.key
            · by_cases hvv : y.val = x.val
              · have hxy : y = x := HEQ.out hkk hvv
                have HMS := Lib.hid (decide_eq_true (show x ∈ b.take (j + 1) by rw [HBS.out, hxy]; simp))
                clear hth hxy
                refine wp_region_pi [(0, 3), (1, 3), (2, 3), (3, 3), (4, 3), (5, 3), (6, 0), (7, 3), (8, 3), (9, 3), (10, 3), (11, 0), (12, 0), (13, 3), (14, 3), (15, 3), (16, 3), (17, 3), (18, 0), (19, 3), (20, 3), (21, 3), (22, 3), (23, 0), (24, 0), (25, 3), (26, 3), (27, 3)] [] (fun w' => Mod NoB w2 w') (by kernel_rfl) (by kernel_rfl) (by kernel_rfl) (by kernel_rfl) (fun _ _ _ _ hd h => ⟨hd.trans h.1, h.2⟩) hS ?_
                simp only [List.map_cons, List.map_nil, List.getD_cons_zero, List.getD_cons_succ]
                refine wpPi_move _ rfl rfl ?_
                simp only [pl, pn, el, ec, sz, ss, gz, gs, if_true, if_false, Bool.false_eq_true, Bool.not_true, Bool.not_false, Nat.add_zero, Nat.zero_add, Nat.reduceAdd]
                refine wpPi_move _ rfl rfl ?_
                simp only [pl, pn, el, ec, sz, ss, gz, gs, if_true, if_false, Bool.false_eq_true, Bool.not_true, Bool.not_false, Nat.add_zero, Nat.zero_add, Nat.reduceAdd]
                refine wpPi_move _ rfl rfl ?_
                simp only [pl, pn, el, ec, sz, ss, gz, gs, if_true, if_false, Bool.false_eq_true, Bool.not_true, Bool.not_false, Nat.add_zero, Nat.zero_add, Nat.reduceAdd]
                refine wpPi_move _ rfl rfl ?_
                simp only [pl, pn, el, ec, sz, ss, gz, gs, if_true, if_false, Bool.false_eq_true, Bool.not_true, Bool.not_false, Nat.add_zero, Nat.zero_add, Nat.reduceAdd]
                refine wpPi_index _ _ _ _ _ _ _ _ _ rfl rfl rfl rfl Try.underlying71 (n := 65) (by kernel_rfl) hlt2 ?_
                simp only [pl, pn, el, ec, sz, ss, gz, gs, if_true, if_false, Bool.false_eq_true, Bool.not_true, Bool.not_false, Nat.add_zero, Nat.zero_add, Nat.reduceAdd]
                refine wpPi_field _ _ _ _ _ _ rfl rfl rfl fo_74_0 ?_
                simp only [pl, pn, el, ec, sz, ss, gz, gs, if_true, if_false, Bool.false_eq_true, Bool.not_true, Bool.not_false, Nat.add_zero, Nat.zero_add, Nat.reduceAdd]
                refine wpPi_val rfl (fun w' hS => exec_load1 9 _ (by rfl) b2 (off2 + j * 65) (by rfl) (.string y.key) (hS.cell id hky) _ Try.underlying9 rfl) ?_
                simp only [pl, pn, el, ec, sz, ss, gz, gs, if_true, if_false, Bool.false_eq_true, Bool.not_true, Bool.not_false, Nat.add_zero, Nat.zero_add, Nat.reduceAdd]
                refine wpPi_move _ rfl rfl ?_
                simp only [pl, pn, el, ec, sz, ss, gz, gs, if_true, if_false, Bool.false_eq_true, Bool.not_true, Bool.not_false, Nat.add_zero, Nat.zero_add, Nat.reduceAdd]
                refine wpPi_move _ rfl rfl ?_
                simp only [pl, pn, el, ec, sz, ss, gz, gs, if_true, if_false, Bool.false_eq_true, Bool.not_true, Bool.not_false, Nat.add_zero, Nat.zero_add, Nat.reduceAdd]
                refine wpPi_index _ _ _ _ _ _ _ _ _ rfl rfl rfl rfl Try.underlying71 (n := 65) (by kernel_rfl) hlt ?_
                simp only [pl, pn, el, ec, sz, ss, gz, gs, if_true, if_false, Bool.false_eq_true, Bool.not_true, Bool.not_false, Nat.add_zero, Nat.zero_add, Nat.reduceAdd]
                refine wpPi_field _ _ _ _ _ _ rfl rfl rfl fo_74_0 ?_
                simp only [pl, pn, el, ec, sz, ss, gz, gs, if_true, if_false, Bool.false_eq_true, Bool.not_true, Bool.not_false, Nat.add_zero, Nat.zero_add, Nat.reduceAdd]
                refine wpPi_val rfl (fun w' hS => exec_load1 9 _ (by rfl) b1 (off1 + k * 65) (by rfl) (.string x.key) (hS.cell id hkx) _ Try.underlying9 rfl) ?_
                simp only [pl, pn, el, ec, sz, ss, gz, gs, if_true, if_false, Bool.false_eq_true, Bool.not_true, Bool.not_false, Nat.add_zero, Nat.zero_add, Nat.reduceAdd]
                refine wpPi_val rfl (fun w' hS => exec_eql_str _ _ _ _ rfl y.key x.key rfl rfl true (decide_eq_true hkk)) ?_
                simp only [pl, pn, el, ec, sz, ss, gz, gs, if_true, if_false, Bool.false_eq_true, Bool.not_true, Bool.not_false, Nat.add_zero, Nat.zero_add, Nat.reduceAdd]
                refine wpPi_move _ rfl rfl ?_
                simp only [pl, pn, el, ec, sz, ss, gz, gs, if_true, if_false, Bool.false_eq_true, Bool.not_true, Bool.not_false, Nat.add_zero, Nat.zero_add, Nat.reduceAdd]
                refine wpPi_move _ rfl rfl ?_
                simp only [pl, pn, el, ec, sz, ss, gz, gs, if_true, if_false, Bool.false_eq_true, Bool.not_true, Bool.not_false, Nat.add_zero, Nat.zero_add, Nat.reduceAdd]
                refine wpPi_move _ rfl rfl ?_
                simp only [pl, pn, el, ec, sz, ss, gz, gs, if_true, if_false, Bool.false_eq_true, Bool.not_true, Bool.not_false, Nat.add_zero, Nat.zero_add, Nat.reduceAdd]
                refine wpPi_index _ _ _ _ _ _ _ _ _ rfl rfl rfl rfl Try.underlying71 (n := 65) (by kernel_rfl) hlt2 ?_
                simp only [pl, pn, el, ec, sz, ss, gz, gs, if_true, if_false, Bool.false_eq_true, Bool.not_true, Bool.not_false, Nat.add_zero, Nat.zero_add, Nat.reduceAdd]
                refine wpPi_field _ _ _ _ _ _ rfl rfl rfl fo_74_2 ?_
                simp only [pl, pn, el, ec, sz, ss, gz, gs, if_true, if_false, Bool.false_eq_true, Bool.not_true, Bool.not_false, Nat.add_zero, Nat.zero_add, Nat.reduceAdd]
                refine wpPi_val rfl (fun w' hS => exec_loadA 38 _ (by rfl) b2 (off2 + j * 65 + 33) (by rfl) (idCells y.val) (hvy.keep hS id) _ Try.underlying38 rfl 32 (by kernel_rfl) hyr) ?_
                simp only [pl, pn, el, ec, sz, ss, gz, gs, if_true, if_false, Bool.false_eq_true, Bool.not_true, Bool.not_false, Nat.add_zero, Nat.zero_add, Nat.reduceAdd]
                refine wpPi_move _ rfl rfl ?_
                simp only [pl, pn, el, ec, sz, ss, gz, gs, if_true, if_false, Bool.false_eq_true, Bool.not_true, Bool.not_false, Nat.add_zero, Nat.zero_add, Nat.reduceAdd]
                refine wpPi_move _ rfl rfl ?_
                simp only [pl, pn, el, ec, sz, ss, gz, gs, if_true, if_false, Bool.false_eq_true, Bool.not_true, Bool.not_false, Nat.add_zero, Nat.zero_add, Nat.reduceAdd]
                refine wpPi_index _ _ _ _ _ _ _ _ _ rfl rfl rfl rfl Try.underlying71 (n := 65) (by kernel_rfl) hlt ?_
                simp only [pl, pn, el, ec, sz, ss, gz, gs, if_true, if_false, Bool.false_eq_true, Bool.not_true, Bool.not_false, Nat.add_zero, Nat.zero_add, Nat.reduceAdd]
                refine wpPi_field _ _ _ _ _ _ rfl rfl rfl fo_74_2 ?_
                simp only [pl, pn, el, ec, sz, ss, gz, gs, if_true, if_false, Bool.false_eq_true, Bool.not_true, Bool.not_false, Nat.add_zero, Nat.zero_add, Nat.reduceAdd]
                refine wpPi_val rfl (fun w' hS => exec_loadA 38 _ (by rfl) b1 (off1 + k * 65 + 33) (by rfl) (idCells x.val) (hvx.keep hS id) _ Try.underlying38 rfl 32 (by kernel_rfl) hxr) ?_
                simp only [pl, pn, el, ec, sz, ss, gz, gs, if_true, if_false, Bool.false_eq_true, Bool.not_true, Bool.not_false, Nat.add_zero, Nat.zero_add, Nat.reduceAdd]
                refine wpPi_val rfl (fun w' hS => exec_eql_id _ _ _ _ rfl y.val x.val rfl rfl 32 5 Try.underlying38 Try.underlying5 (by kernel_rfl) (by kernel_rfl) hyl hxl true (decide_eq_true hvv)) ?_
                simp only [pl, pn, el, ec, sz, ss, gz, gs, if_true, if_false, Bool.false_eq_true, Bool.not_true, Bool.not_false, Nat.add_zero, Nat.zero_add, Nat.reduceAdd]
                refine wpPi_pick _ _ _ _ rfl rfl rfl ?_
                simp only [pl, pn, el, ec, sz, ss, gz, gs, if_true, if_false, Bool.false_eq_true, Bool.not_true, Bool.not_false, Nat.add_zero, Nat.zero_add, Nat.reduceAdd]
                refine wpPi_pick _ _ _ _ rfl rfl rfl ?_
                simp only [pl, pn, el, ec, sz, ss, gz, gs, if_true, if_false, Bool.false_eq_true, Bool.not_true, Bool.not_false, Nat.add_zero, Nat.zero_add, Nat.reduceAdd]
                refine wpPi_assign _ rfl rfl ?_
                simp only [pl, pn, el, ec, sz, ss, gz, gs, if_true, if_false, Bool.false_eq_true, Bool.not_true, Bool.not_false, Nat.add_zero, Nat.zero_add, Nat.reduceAdd]
                refine wpPi_nil ?_
                go_wp2
                go_roundw
                case rel => exact ⟨j + 1, by omega, by go_num, by rw [HMS.out], hm2.trans0 hS⟩
                case measure => simp [intOf]; omega
              · have HMS := Lib.hid (decide_eq_false (show x ∉ b.take (j + 1) by rw [HBS.out]; simp only [List.mem_append, List.mem_singleton, not_or]; exact ⟨hth, fun e => hvv (by rw [e])⟩))
                clear hth
                refine wp_region_pi [(0, 3), (1, 3), (2, 3), (3, 3), (4, 3), (5, 3), (6, 0), (7, 3), (8, 3), (9, 3), (10, 3), (11, 0), (12, 0), (13, 3), (14, 3), (15, 3), (16, 3), (17, 3), (18, 0), (19, 3), (20, 3), (21, 3), (22, 3), (23, 0), (24, 0), (25, 3), (26, 3), (27, 3)] [] (fun w' => Mod NoB w2 w') (by kernel_rfl) (by kernel_rfl) (by kernel_rfl) (by kernel_rfl) (fun _ _ _ _ hd h => ⟨hd.trans h.1, h.2⟩) hS ?_
                simp only [List.map_cons, List.map_nil, List.getD_cons_zero, List.getD_cons_succ]
                refine wpPi_move _ rfl rfl ?_
                simp only [pl, pn, el, ec, sz, ss, gz, gs, if_true, if_false, Bool.false_eq_true, Bool.not_true, Bool.not_false, Nat.add_zero, Nat.zero_add, Nat.reduceAdd]
                refine wpPi_move _ rfl rfl ?_
                simp only [pl, pn, el, ec, sz, ss, gz, gs, if_true, if_false, Bool.false_eq_true, Bool.not_true, Bool.not_false, Nat.add_zero, Nat.zero_add, Nat.reduceAdd]
                refine wpPi_move _ rfl rfl ?_
                simp only [pl, pn, el, ec, sz, ss, gz, gs, if_true, if_false, Bool.false_eq_true, Bool.not_true, Bool.not_false, Nat.add_zero, Nat.zero_add, Nat.reduceAdd]
                refine wpPi_move _ rfl rfl ?_
                simp only [pl, pn, el, ec, sz, ss, gz, gs, if_true, if_false, Bool.false_eq_true, Bool.not_true, Bool.not_false, Nat.add_zero, Nat.zero_add, Nat.reduceAdd]
                refine wpPi_index _ _ _ _ _ _ _ _ _ rfl rfl rfl rfl Try.underlying71 (n := 65) (by kernel_rfl) hlt2 ?_
                simp only [pl, pn, el, ec, sz, ss, gz, gs, if_true, if_false, Bool.false_eq_true, Bool.not_true, Bool.not_false, Nat.add_zero, Nat.zero_add, Nat.reduceAdd]
                refine wpPi_field _ _ _ _ _ _ rfl rfl rfl fo_74_0 ?_
                simp only [pl, pn, el, ec, sz, ss, gz, gs, if_true, if_false, Bool.false_eq_true, Bool.not_true, Bool.not_false, Nat.add_zero, Nat.zero_add, Nat.reduceAdd]
                refine wpPi_val rfl (fun w' hS => exec_load1 9 _ (by rfl) b2 (off2 + j * 65) (by rfl) (.string y.key) (hS.cell id hky) _ Try.underlying9 rfl) ?_
                simp only [pl, pn, el, ec, sz, ss, gz, gs, if_true, if_false, Bool.false_eq_true, Bool.not_true, Bool.not_false, Nat.add_zero, Nat.zero_add, Nat.reduceAdd]
                refine wpPi_move _ rfl rfl ?_
                simp only [pl, pn, el, ec, sz, ss, gz, gs, if_true, if_false, Bool.false_eq_true, Bool.not_true, Bool.not_false, Nat.add_zero, Nat.zero_add, Nat.reduceAdd]
                refine wpPi_move _ rfl rfl ?_
                simp only [pl, pn, el, ec, sz, ss, gz, gs, if_true, if_false, Bool.false_eq_true, Bool.not_true, Bool.not_false, Nat.add_zero, Nat.zero_add, Nat.reduceAdd]
                refine wpPi_index _ _ _ _ _ _ _ _ _ rfl rfl rfl rfl Try.underlying71 (n := 65) (by kernel_rfl) hlt ?_
                simp only [pl, pn, el, ec, sz, ss, gz, gs, if_true, if_false, Bool.false_eq_true, Bool.not_true, Bool.not_false, Nat.add_zero, Nat.zero_add, Nat.reduceAdd]
                refine wpPi_field _ _ _ _ _ _ rfl rfl rfl fo_74_0 ?_
                simp only [pl, pn, el, ec, sz, ss, gz, gs, if_true, if_false, Bool.false_eq_true, Bool.not_true, Bool.not_false, Nat.add_zero, Nat.zero_add, Nat.reduceAdd]
                refine wpPi_val rfl (fun w' hS => exec_load1 9 _ (by rfl) b1 (off1 + k * 65) (by rfl) (.string x.key) (hS.cell id hkx) _ Try.underlying9 rfl) ?_
                simp only [pl, pn, el, ec, sz, ss, gz, gs, if_true, if_false, Bool.false_eq_true, Bool.not_true, Bool.not_false, Nat.add_zero, Nat.zero_add, Nat.reduceAdd]
                refine wpPi_val rfl (fun w' hS => exec_eql_str _ _ _ _ rfl y.key x.key rfl rfl true (decide_eq_true hkk)) ?_
                simp only [pl, pn, el, ec, sz, ss, gz, gs, if_true, if_false, Bool.false_eq_true, Bool.not_true, Bool.not_false, Nat.add_zero, Nat.zero_add, Nat.reduceAdd]
                refine wpPi_move _ rfl rfl ?_
                simp only [pl, pn, el, ec, sz, ss, gz, gs, if_true, if_false, Bool.false_eq_true, Bool.not_true, Bool.not_false, Nat.add_zero, Nat.zero_add, Nat.reduceAdd]
                refine wpPi_move _ rfl rfl ?_
                simp only [pl, pn, el, ec, sz, ss, gz, gs, if_true, if_false, Bool.false_eq_true, Bool.not_true, Bool.not_false, Nat.add_zero, Nat.zero_add, Nat.reduceAdd]
                refine wpPi_move _ rfl rfl ?_
                simp only [pl, pn, el, ec, sz, ss, gz, gs, if_true, if_false, Bool.false_eq_true, Bool.not_true, Bool.not_false, Nat.add_zero, Nat.zero_add, Nat.reduceAdd]
                refine wpPi_index _ _ _ _ _ _ _ _ _ rfl rfl rfl rfl Try.underlying71 (n := 65) (by kernel_rfl) hlt2 ?_
                simp only [pl, pn, el, ec, sz, ss, gz, gs, if_true, if_false, Bool.false_eq_true, Bool.not_true, Bool.not_false, Nat.add_zero, Nat.zero_add, Nat.reduceAdd]
                refine wpPi_field _ _ _ _ _ _ rfl rfl rfl fo_74_2 ?_
                simp only [pl, pn, el, ec, sz, ss, gz, gs, if_true, if_false, Bool.false_eq_true, Bool.not_true, Bool.not_false, Nat.add_zero, Nat.zero_add, Nat.reduceAdd]
                refine wpPi_val rfl (fun w' hS => exec_loadA 38 _ (by rfl) b2 (off2 + j * 65 + 33) (by rfl) (idCells y.val) (hvy.keep hS id) _ Try.underlying38 rfl 32 (by kernel_rfl) hyr) ?_
                simp only [pl, pn, el, ec, sz, ss, gz, gs, if_true, if_false, Bool.false_eq_true, Bool.not_true, Bool.not_false, Nat.add_zero, Nat.zero_add, Nat.reduceAdd]
                refine wpPi_move _ rfl rfl ?_
                simp only [pl, pn, el, ec, sz, ss, gz, gs, if_true, if_false, Bool.false_eq_true, Bool.not_true, Bool.not_false, Nat.add_zero, Nat.zero_add, Nat.reduceAdd]
                refine wpPi_move _ rfl rfl ?_
                simp only [pl, pn, el, ec, sz, ss, gz, gs, if_true, if_false, Bool.false_eq_true, Bool.not_true, Bool.not_false, Nat.add_zero, Nat.zero_add, Nat.reduceAdd]
                refine wpPi_index _ _ _ _ _ _ _ _ _ rfl rfl rfl rfl Try.underlying71 (n := 65) (by kernel_rfl) hlt ?_
                simp only [pl, pn, el, ec, sz, ss, gz, gs, if_true, if_false, Bool.false_eq_true, Bool.not_true, Bool.not_false, Nat.add_zero, Nat.zero_add, Nat.reduceAdd]
                refine wpPi_field _ _ _ _ _ _ rfl rfl rfl fo_74_2 ?_
                simp only [pl, pn, el, ec, sz, ss, gz, gs, if_true, if_false, Bool.false_eq_true, Bool.not_true, Bool.not_false, Nat.add_zero, Nat.zero_add, Nat.reduceAdd]
                refine wpPi_val rfl (fun w' hS => exec_loadA 38 _ (by rfl) b1 (off1 + k * 65 + 33) (by rfl) (idCells x.val) (hvx.keep hS id) _ Try.underlying38 rfl 32 (by kernel_rfl) hxr) ?_
                simp only [pl, pn, el, ec, sz, ss, gz, gs, if_true, if_false, Bool.false_eq_true, Bool.not_true, Bool.not_false, Nat.add_zero, Nat.zero_add, Nat.reduceAdd]
                refine wpPi_val rfl (fun w' hS => exec_eql_id _ _ _ _ rfl y.val x.val rfl rfl 32 5 Try.underlying38 Try.underlying5 (by kernel_rfl) (by kernel_rfl) hyl hxl false (decide_eq_false hvv)) ?_
                simp only [pl, pn, el, ec, sz, ss, gz, gs, if_true, if_false, Bool.false_eq_true, Bool.not_true, Bool.not_false, Nat.add_zero, Nat.zero_add, Nat.reduceAdd]
                refine wpPi_pick _ _ _ _ rfl rfl rfl ?_
                simp only [pl, pn, el, ec, sz, ss, gz, gs, if_true, if_false, Bool.false_eq_true, Bool.not_true, Bool.not_false, Nat.add_zero, Nat.zero_add, Nat.reduceAdd]
                refine wpPi_pick _ _ _ _ rfl rfl rfl ?_
                simp only [pl, pn, el, ec, sz, ss, gz, gs, if_true, if_false, Bool.false_eq_true, Bool.not_true, Bool.not_false, Nat.add_zero, Nat.zero_add, Nat.reduceAdd]
                refine wpPi_assign _ rfl rfl ?_
                simp only [pl, pn, el, ec, sz, ss, gz, gs, if_true, if_false, Bool.false_eq_true, Bool.not_true, Bool.not_false, Nat.add_zero, Nat.zero_add, Nat.reduceAdd]
                refine wpPi_nil ?_
                go_wp2
                go_roundw
                case rel => exact ⟨j + 1, by omega, by go_num, by rw [HMS.out], hm2.trans0 hS⟩
                case measure => simp [intOf]; omega
            · have HMS := Lib.hid (decide_eq_false (show x ∉ b.take (j + 1) by rw [HBS.out]; simp only [List.mem_append, List.mem_singleton, not_or]; exact ⟨hth, fun e => hkk (by rw [e])⟩))
              clear hth
              refine wp_region_pi [(0, 3), (1, 3), (2, 3), (3, 3), (4, 3), (5, 3), (6, 0), (7, 3), (8, 3), (9, 3), (10, 3), (11, 0), (12, 0), (13, 3), (14, 3), (15, 3), (16, 3), (17, 3), (18, 0), (19, 3), (20, 3), (21, 3), (22, 3), (23, 0), (24, 3), (25, 3), (26, 3), (27, 3)] [] (fun w' => Mod NoB w2 w') (by kernel_rfl) (by kernel_rfl) (by kernel_rfl) (by kernel_rfl) (fun _ _ _ _ hd h => ⟨hd.trans h.1, h.2⟩) hS ?_
              simp only [List.map_cons, List.map_nil, List.getD_cons_zero, List.getD_cons_succ]
              refine wpPi_move _ rfl rfl ?_
              simp only [pl, pn, el, ec, sz, ss, gz, gs, if_true, if_false, Bool.false_eq_true, Bool.not_true, Bool.not_false, Nat.add_zero, Nat.zero_add, Nat.reduceAdd]
              refine wpPi_move _ rfl rfl ?_
              simp only [pl, pn, el, ec, sz, ss, gz, gs, if_true, if_false, Bool.false_eq_true, Bool.not_true, Bool.not_false, Nat.add_zero, Nat.zero_add, Nat.reduceAdd]
              refine wpPi_move _ rfl rfl ?_
              simp only [pl, pn, el, ec, sz, ss, gz, gs, if_true, if_false, Bool.false_eq_true, Bool.not_true, Bool.not_false, Nat.add_zero, Nat.zero_add, Nat.reduceAdd]
              refine wpPi_move _ rfl rfl ?_
              simp only [pl, pn, el, ec, sz, ss, gz, gs, if_true, if_false, Bool.false_eq_true, Bool.not_true, Bool.not_false, Nat.add_zero, Nat.zero_add, Nat.reduceAdd]
              refine wpPi_index _ _ _ _ _ _ _ _ _ rfl rfl rfl rfl Try.underlying71 (n := 65) (by kernel_rfl) hlt2 ?_
              simp only [pl, pn, el, ec, sz, ss, gz, gs, if_true, if_false, Bool.false_eq_true, Bool.not_true, Bool.not_false, Nat.add_zero, Nat.zero_add, Nat.reduceAdd]
              refine wpPi_field _ _ _ _ _ _ rfl rfl rfl fo_74_0 ?_
              simp only [pl, pn, el, ec, sz, ss, gz, gs, if_true, if_false, Bool.false_eq_true, Bool.not_true, Bool.not_false, Nat.add_zero, Nat.zero_add, Nat.reduceAdd]
              refine wpPi_val rfl (fun w' hS => exec_load1 9 _ (by rfl) b2 (off2 + j * 65) (by rfl) (.string y.key) (hS.cell id hky) _ Try.underlying9 rfl) ?_
              simp only [pl, pn, el, ec, sz, ss, gz, gs, if_true, if_false, Bool.false_eq_true, Bool.not_true, Bool.not_false, Nat.add_zero, Nat.zero_add, Nat.reduceAdd]
              refine wpPi_move _ rfl rfl ?_
              simp only [pl, pn, el, ec, sz, ss, gz, gs, if_true, if_false, Bool.false_eq_true, Bool.not_true, Bool.not_false, Nat.add_zero, Nat.zero_add, Nat.reduceAdd]
              refine wpPi_move _ rfl rfl ?_
              simp only [pl, pn, el, ec, sz, ss, gz, gs, if_true, if_false, Bool.false_eq_true, Bool.not_true, Bool.not_false, Nat.add_zero, Nat.zero_add, Nat.reduceAdd]
              refine wpPi_index _ _ _ _ _ _ _ _ _ rfl rfl rfl rfl Try.underlying71 (n := 65) (by kernel_rfl) hlt ?_
              simp only [pl, pn, el, ec, sz, ss, gz, gs, if_true, if_false, Bool.false_eq_true, Bool.not_true, Bool.not_false, Nat.add_zero, Nat.zero_add, Nat.reduceAdd]
              refine wpPi_field _ _ _ _ _ _ rfl rfl rfl fo_74_0 ?_
              simp only [pl, pn, el, ec, sz, ss, gz, gs, if_true, if_false, Bool.false_eq_true, Bool.not_true, Bool.not_false, Nat.add_zero, Nat.zero_add, Nat.reduceAdd]
              refine wpPi_val rfl (fun w' hS => exec_load1 9 _ (by rfl) b1 (off1 + k * 65) (by rfl) (.string x.key) (hS.cell id hkx) _ Try.underlying9 rfl) ?_
              simp only [pl, pn, el, ec, sz, ss, gz, gs, if_true, if_false, Bool.false_eq_true, Bool.not_true, Bool.not_false, Nat.add_zero, Nat.zero_add, Nat.reduceAdd]
              refine wpPi_val rfl (fun w' hS => exec_eql_str _ _ _ _ rfl y.key x.key rfl rfl false (decide_eq_false hkk)) ?_
              simp only [pl, pn, el, ec, sz, ss, gz, gs, if_true, if_false, Bool.false_eq_true, Bool.not_true, Bool.not_false, Nat.add_zero, Nat.zero_add, Nat.reduceAdd]
              refine wpPi_move _ rfl rfl ?_
              simp only [pl, pn, el, ec, sz, ss, gz, gs, if_true, if_false, Bool.false_eq_true, Bool.not_true, Bool.not_false, Nat.add_zero, Nat.zero_add, Nat.reduceAdd]
              refine wpPi_skip rfl ?_
              simp only [pl, pn, el, ec, sz, ss, gz, gs, if_true, if_false, Bool.false_eq_true, Bool.not_true, Bool.not_false, Nat.add_zero, Nat.zero_add, Nat.reduceAdd]
              refine wpPi_skip rfl ?_
              simp only [pl, pn, el, ec, sz, ss, gz, gs, if_true, if_false, Bool.false_eq_true, Bool.not_true, Bool.not_false, Nat.add_zero, Nat.zero_add, Nat.reduceAdd]
              refine wpPi_skip rfl ?_
              simp only [pl, pn, el, ec, sz, ss, gz, gs, if_true, if_false, Bool.false_eq_true, Bool.not_true, Bool.not_false, Nat.add_zero, Nat.zero_add, Nat.reduceAdd]
              refine wpPi_skip rfl ?_
              simp only [pl, pn, el, ec, sz, ss, gz, gs, if_true, if_false, Bool.false_eq_true, Bool.not_true, Bool.not_false, Nat.add_zero, Nat.zero_add, Nat.reduceAdd]
              refine wpPi_skip0 rfl ?_
              simp only [pl, pn, el, ec, sz, ss, gz, gs, if_true, if_false, Bool.false_eq_true, Bool.not_true, Bool.not_false, Nat.add_zero, Nat.zero_add, Nat.reduceAdd]
              refine wpPi_skip rfl ?_
              simp only [pl, pn, el, ec, sz, ss, gz, gs, if_true, if_false, Bool.false_eq_true, Bool.not_true, Bool.not_false, Nat.add_zero, Nat.zero_add, Nat.reduceAdd]
              refine wpPi_skip rfl ?_
              simp only [pl, pn, el, ec, sz, ss, gz, gs, if_true, if_false, Bool.false_eq_true, Bool.not_true, Bool.not_false, Nat.add_zero, Nat.zero_add, Nat.reduceAdd]
              refine wpPi_skip rfl ?_
              simp only [pl, pn, el, ec, sz, ss, gz, gs, if_true, if_false, Bool.false_eq_true, Bool.not_true, Bool.not_false, Nat.add_zero, Nat.zero_add, Nat.reduceAdd]
              refine wpPi_skip rfl ?_
              simp only [pl, pn, el, ec, sz, ss, gz, gs, if_true, if_false, Bool.false_eq_true, Bool.not_true, Bool.not_false, Nat.add_zero, Nat.zero_add, Nat.reduceAdd]
              refine wpPi_skip0 rfl ?_
              simp only [pl, pn, el, ec, sz, ss, gz, gs, if_true, if_false, Bool.false_eq_true, Bool.not_true, Bool.not_false, Nat.add_zero, Nat.zero_add, Nat.reduceAdd]
              refine wpPi_skip rfl ?_
              simp only [pl, pn, el, ec, sz, ss, gz, gs, if_true, if_false, Bool.false_eq_true, Bool.not_true, Bool.not_false, Nat.add_zero, Nat.zero_add, Nat.reduceAdd]
              refine wpPi_pick _ _ _ _ rfl rfl rfl ?_
              simp only [pl, pn, el, ec, sz, ss, gz, gs, if_true, if_false, Bool.false_eq_true, Bool.not_true, Bool.not_false, Nat.add_zero, Nat.zero_add, Nat.reduceAdd]
              refine wpPi_pick _ _ _ _ rfl rfl rfl ?_
              simp only [pl, pn, el, ec, sz, ss, gz, gs, if_true, if_false, Bool.false_eq_true, Bool.not_true, Bool.not_false, Nat.add_zero, Nat.zero_add, Nat.reduceAdd]
              refine wpPi_assign _ rfl rfl ?_
              simp only [pl, pn, el, ec, sz, ss, gz, gs, if_true, if_false, Bool.false_eq_true, Bool.not_true, Bool.not_false, Nat.add_zero, Nat.zero_add, Nat.reduceAdd]
              refine wpPi_nil ?_
              go_wp2
              go_roundw
              case rel => exact ⟨j + 1, by omega, by go_num, by rw [HMS.out], hm2.trans0 hS⟩
              case measure => simp [intOf]; omega
        · have hz2 : ¬ (j : Int) < (b.length : Int) := by omega
          obtain rfl : j = b.length := by omega
          rw [List.take_length]
          replace hkx := hm2.cell id hkx
          have hmm := hm.trans0 hm2
          by_cases hmem : x ∈ b
          · rw [decide_eq_true hmem]
            rw [if_pos hmem, List.append_nil] at HLS
            have hgr := HG.out.keep0 hm2
            clear hm2 hm hmem
            go_wp2
            go_roundw
            case rel => exact ⟨k + 1, by omega, by go_num, by rw [HLS.out]; exact hgr, hmm⟩
            case measure => simp [intOf]; omega
          · rw [decide_eq_false hmem]
            rw [if_neg hmem] at HLS
            clear hmem
            go_upto_region 11 with (fail)
            refine wp_region_seq [3, 3, 3, 3, 3, 1, 1, 1, 3] (fun _ => True) (by rfl) (by rfl) trivial ?_
            simp only [List.zip_cons_cons, List.zip_nil_right]
            refine wpPi_move _ rfl rfl ?_
            simp only [pl, pn, el, ec, sz, ss, gz, gs, if_true, if_false, Bool.false_eq_true, Bool.not_true, Bool.not_false, Nat.add_zero, Nat.zero_add, Nat.reduceAdd]
            refine wpPi_move _ rfl rfl ?_
            simp only [pl, pn, el, ec, sz, ss, gz, gs, if_true, if_false, Bool.false_eq_true, Bool.not_true, Bool.not_false, Nat.add_zero, Nat.zero_add, Nat.reduceAdd]
            refine wpPi_move _ rfl rfl ?_
            simp only [pl, pn, el, ec, sz, ss, gz, gs, if_true, if_false, Bool.false_eq_true, Bool.not_true, Bool.not_false, Nat.add_zero, Nat.zero_add, Nat.reduceAdd]
            refine wpPi_index _ _ _ _ _ _ _ _ _ rfl rfl rfl rfl Try.underlying71 (n := 65) (by kernel_rfl) hlt ?_
            simp only [pl, pn, el, ec, sz, ss, gz, gs, if_true, if_false, Bool.false_eq_true, Bool.not_true, Bool.not_false, Nat.add_zero, Nat.zero_add, Nat.reduceAdd]
            refine wpPi_field _ _ _ _ _ _ rfl rfl rfl fo_74_0 ?_
            simp only [pl, pn, el, ec, sz, ss, gz, gs, if_true, if_false, Bool.false_eq_true, Bool.not_true, Bool.not_false, Nat.add_zero, Nat.zero_add, Nat.reduceAdd]
            refine wpPi_do rfl (fun K hK => ?_)
            refine wp_exec (exec_load1 9 _ (by rfl) b1 (off1 + k * 65) (by rfl) (.string x.key) hkx _ Try.underlying9 rfl) ?_
            refine hK _ _ trivial ?_
            clear hK K
            try simp only [pl, pn, el, ec, sz, ss, gz, gs, if_true, if_false, Bool.false_eq_true, Bool.not_true, Bool.not_false, Nat.add_zero, Nat.zero_add, Nat.reduceAdd]
            refine wpPi_do rfl (fun K hK => ?_)
            refine wp_buildSlice1 26 9 _ (.string x.key) (.string ⟨#[]⟩) 1 (by rfl) (by rfl) Try.underlying26 str_i2 (by omega) (by omega) rfl (fun w5 hB5 hm5 hs5 => ?_)
            have hM5 := hm2.trans0 hm5
            refine hK _ _ trivial ?_
            clear hK K
            try simp only [pl, pn, el, ec, sz, ss, gz, gs, if_true, if_false, Bool.false_eq_true, Bool.not_true, Bool.not_false, Nat.add_zero, Nat.zero_add, Nat.reduceAdd]
            refine wpPi_do rfl (fun K hK => ?_)
            refine wp_gat strEnc _ _ 26 9 (.string ⟨#[]⟩) 1 16 (by rfl) Try.underlying26 str_i (by kernel_rfl) (by omega) strEnc_one w.heap.size _ _ (by rfl) (HG.out.keep0 hM5) (.slice (some ⟨w2.heap.size, 0, none⟩) 1 1) [x.key] (by rfl) (src_lit (enc := strEnc) (x := x.key) (e := 9) (fun _ => rfl) hB5) (by simp only [List.length_singleton]; unfold maxLen; omega) (by simp only [List.length_singleton]; omega) (by have := hm.size; have := hM5.size; omega) (fun v6 w6 hg6 hm6 => ?_)
            rw [← HLS.out] at hg6
            have hMr : Mod NoB w w6 := (hm.trans0 hM5).trans hm6 (fun k hk e => by have := (HG.out.lt e).1; omega)
            refine hK _ _ trivial ?_
            clear hK K
            try simp only [pl, pn, el, ec, sz, ss, gz, gs, if_true, if_false, Bool.false_eq_true, Bool.not_true, Bool.not_false, Nat.add_zero, Nat.zero_add, Nat.reduceAdd]
            refine wpPi_assign _ rfl rfl ?_
            simp only [pl, pn, el, ec, sz, ss, gz, gs, if_true, if_false, Bool.false_eq_true, Bool.not_true, Bool.not_false, Nat.add_zero, Nat.zero_add, Nat.reduceAdd]
            refine wpPi_nil ?_
            clear hm6 hm5 hM5 hm2 hm hmm hB5
            go_wp2
            go_roundw
            case rel => exact ⟨k + 1, by omega, by go_num, hg6, hMr⟩
            case measure => simp [intOf]; omega
    · have hz : ¬ (k : Int) < (a.length : Int) := by omega
      obtain rfl : k = a.length := by omega
      simp only [List.take_length] at HG ⊢
      go_wp2
      go_ret
      exact ⟨_, rfl, HG.out, hm⟩
end Go.Proofs.Ytchkikmmcmjcgaa

/- The document's tree: differ. (Printed by RtrF.gen.py.) -/
namespace Go.Proofs.Ytchkikmmcmjcgaa
set_option linter.unusedSimpArgs false
set_option linter.unusedVariables false
set_option linter.unnecessarySimpa false
set_option linter.unusedSectionVars false
open Go.RowKit Go.Shelf


set_option maxRecDepth 10000 in
set_option maxHeartbeats 1000000 in
theorem refDiffer_same (f i : Nat) (hi : f + i = 256) {w : World} {va vb : Value} {a b : List Leaf} (ha : Ls w Ever va a) (hb : Ls w Ever vb b) (hpa : Lie i a) (hpb : Lie i b) (hma : Made a) (hmb : Made b) (hal : a.length ≤ 65536) (hbl : b.length ≤ 65536) (hd : dig f i a = dig f i b) :
    Calls Try.prog 37 #[va, vb, .int .i64 (i : Int)] w (DifferR w (dif f i a b)) := by
  rw [dif_same hd]
  have HA := Lib.hid ha
  have HB := Lib.hid hb
  have hda := dig_len hi hpa
  have hdb := dig_len hi hpb
  have HD := Lib.hid hd
  have HP := Lib.hid hpa
  have HQ := Lib.hid hpb
  obtain ⟨aa, ca, rfl, -, -⟩ := Sl.at ha
  obtain ⟨ab, cb, rfl, -, -⟩ := Sl.at hb
  clear ha hb hd hpa hpb
  go_enter Try.func37, Try.ntmps37
  go_upto_region 1 with (fail)
  refine wp_region_seq [3, 3, 1, 3, 3, 1, 0, 3] (fun _ => True) (by rfl) (by rfl) trivial ?_
  simp only [List.zip_cons_cons, List.zip_nil_right]
  refine wpPi_move _ rfl rfl ?_
  simp only [pl, pn, el, ec, sz, ss, gz, gs, if_true, if_false, Bool.false_eq_true, Bool.not_true, Bool.not_false, Nat.add_zero, Nat.zero_add, Nat.reduceAdd]
  refine wpPi_move _ rfl rfl ?_
  simp only [pl, pn, el, ec, sz, ss, gz, gs, if_true, if_false, Bool.false_eq_true, Bool.not_true, Bool.not_false, Nat.add_zero, Nat.zero_add, Nat.reduceAdd]
  refine wpPi_do rfl (fun K hK => ?_)
  refine wp_enterQ (run_call 58 [.tmp 17, .tmp 18] _ rfl _ Try.func58 rfl (by kernel_rfl) [.slice aa a.length ca, .int .i64 (i : Int)] rfl _) (refDigest_any f i a _ _ hi HA.out HP.out (by omega)) ?_
  rintro e w2 ⟨rfl, hm2⟩
  refine ⟨_, rfl, hK _ _ trivial ?_⟩
  clear hK K
  try simp only [pl, pn, el, ec, sz, ss, gz, gs, if_true, if_false, Bool.false_eq_true, Bool.not_true, Bool.not_false, Nat.add_zero, Nat.zero_add, Nat.reduceAdd]
  refine wpPi_move _ rfl rfl ?_
  simp only [pl, pn, el, ec, sz, ss, gz, gs, if_true, if_false, Bool.false_eq_true, Bool.not_true, Bool.not_false, Nat.add_zero, Nat.zero_add, Nat.reduceAdd]
  refine wpPi_move _ rfl rfl ?_
  simp only [pl, pn, el, ec, sz, ss, gz, gs, if_true, if_false, Bool.false_eq_true, Bool.not_true, Bool.not_false, Nat.add_zero, Nat.zero_add, Nat.reduceAdd]
  refine wpPi_do rfl (fun K hK => ?_)
  refine wp_enterQ (run_call 58 [.tmp 20, .tmp 21] _ rfl _ Try.func58 rfl (by kernel_rfl) [.slice ab b.length cb, .int .i64 (i : Int)] rfl _) (refDigest_any f i b _ _ hi (HB.out.keep0 hm2) HQ.out (by omega)) ?_
  rintro e w3 ⟨rfl, hm3⟩
  refine ⟨_, rfl, hK _ _ trivial ?_⟩
  clear hK K
  try simp only [pl, pn, el, ec, sz, ss, gz, gs, if_true, if_false, Bool.false_eq_true, Bool.not_true, Bool.not_false, Nat.add_zero, Nat.zero_add, Nat.reduceAdd]
  refine wpPi_val rfl (fun w' hS => exec_eql_id _ _ _ _ rfl (dig f i a) (dig f i b) rfl rfl 32 5 Try.underlying38 Try.underlying5 (by kernel_rfl) (by kernel_rfl) hda hdb true (decide_eq_true HD.out)) ?_
  simp only [pl, pn, el, ec, sz, ss, gz, gs, if_true, if_false, Bool.false_eq_true, Bool.not_true, Bool.not_false, Nat.add_zero, Nat.zero_add, Nat.reduceAdd]
  refine wpPi_assign _ rfl rfl ?_
  simp only [pl, pn, el, ec, sz, ss, gz, gs, if_true, if_false, Bool.false_eq_true, Bool.not_true, Bool.not_false, Nat.add_zero, Nat.zero_add, Nat.reduceAdd]
  refine wpPi_nil ?_
  have hM3 := hm2.trans0 hm3
  have hsz3 := hM3.size
  clear hm2 hm3 HD
  generalize dig f i a = da at *
  generalize dig f i b = db at *
  go_wp2
  go_ret2
  exact ⟨_, rfl, Gat.nil _ _ _ _ _, hM3⟩
set_option maxRecDepth 10000 in
set_option maxHeartbeats 1000000 in
theorem refDiffer_few (f i : Nat) (hi : f + i = 256) {w : World} {va vb : Value} {a b : List Leaf} (ha : Ls w Ever va a) (hb : Ls w Ever vb b) (hpa : Lie i a) (hpb : Lie i b) (hma : Made a) (hmb : Made b) (hal : a.length ≤ 65536) (hbl : b.length ≤ 65536) (hd : dig f i a ≠ dig f i b) (h2 : a.length < 2 ∨ b.length < 2) :
    Calls Try.prog 37 #[va, vb, .int .i64 (i : Int)] w (DifferR w (dif f i a b)) := by
  rw [dif_few hd h2]
  have hl1 := lack_len a b
  have hl2 := lack_len b a
  have HMA := Lib.hid hma
  have HMB := Lib.hid hmb
  have H2 := Lib.hid h2
  clear hma hmb h2
  have HA := Lib.hid ha
  have HB := Lib.hid hb
  have hda := dig_len hi hpa
  have hdb := dig_len hi hpb
  have HD := Lib.hid hd
  have HP := Lib.hid hpa
  have HQ := Lib.hid hpb
  obtain ⟨aa, ca, rfl, -, -⟩ := Sl.at ha
  obtain ⟨ab, cb, rfl, -, -⟩ := Sl.at hb
  clear ha hb hd hpa hpb
  go_enter Try.func37, Try.ntmps37
  go_upto_region 1 with (fail)
  refine wp_region_seq [3, 3, 1, 3, 3, 1, 0, 3] (fun _ => True) (by rfl) (by rfl) trivial ?_
  simp only [List.zip_cons_cons, List.zip_nil_right]
  refine wpPi_move _ rfl rfl ?_
  simp only [pl, pn, el, ec, sz, ss, gz, gs, if_true, if_false, Bool.false_eq_true, Bool.not_true, Bool.not_false, Nat.add_zero, Nat.zero_add, Nat.reduceAdd]
  refine wpPi_move _ rfl rfl ?_
  simp only [pl, pn, el, ec, sz, ss, gz, gs, if_true, if_false, Bool.false_eq_true, Bool.not_true, Bool.not_false, Nat.add_zero, Nat.zero_add, Nat.reduceAdd]
  refine wpPi_do rfl (fun K hK => ?_)
  refine wp_enterQ (run_call 58 [.tmp 17, .tmp 18] _ rfl _ Try.func58 rfl (by kernel_rfl) [.slice aa a.length ca, .int .i64 (i : Int)] rfl _) (refDigest_any f i a _ _ hi HA.out HP.out (by omega)) ?_
  rintro e w2 ⟨rfl, hm2⟩
  refine ⟨_, rfl, hK _ _ trivial ?_⟩
  clear hK K
  try simp only [pl, pn, el, ec, sz, ss, gz, gs, if_true, if_false, Bool.false_eq_true, Bool.not_true, Bool.not_false, Nat.add_zero, Nat.zero_add, Nat.reduceAdd]
  refine wpPi_move _ rfl rfl ?_
  simp only [pl, pn, el, ec, sz, ss, gz, gs, if_true, if_false, Bool.false_eq_true, Bool.not_true, Bool.not_false, Nat.add_zero, Nat.zero_add, Nat.reduceAdd]
  refine wpPi_move _ rfl rfl ?_
  simp only [pl, pn, el, ec, sz, ss, gz, gs, if_true, if_false, Bool.false_eq_true, Bool.not_true, Bool.not_false, Nat.add_zero, Nat.zero_add, Nat.reduceAdd]
  refine wpPi_do rfl (fun K hK => ?_)
  refine wp_enterQ (run_call 58 [.tmp 20, .tmp 21] _ rfl _ Try.func58 rfl (by kernel_rfl) [.slice ab b.length cb, .int .i64 (i : Int)] rfl _) (refDigest_any f i b _ _ hi (HB.out.keep0 hm2) HQ.out (by omega)) ?_
  rintro e w3 ⟨rfl, hm3⟩
  refine ⟨_, rfl, hK _ _ trivial ?_⟩
  clear hK K
  try simp only [pl, pn, el, ec, sz, ss, gz, gs, if_true, if_false, Bool.false_eq_true, Bool.not_true, Bool.not_false, Nat.add_zero, Nat.zero_add, Nat.reduceAdd]
  refine wpPi_val rfl (fun w' hS => exec_eql_id _ _ _ _ rfl (dig f i a) (dig f i b) rfl rfl 32 5 Try.underlying38 Try.underlying5 (by kernel_rfl) (by kernel_rfl) hda hdb false (decide_eq_false HD.out)) ?_
  simp only [pl, pn, el, ec, sz, ss, gz, gs, if_true, if_false, Bool.false_eq_true, Bool.not_true, Bool.not_false, Nat.add_zero, Nat.zero_add, Nat.reduceAdd]
  refine wpPi_assign _ rfl rfl ?_
  simp only [pl, pn, el, ec, sz, ss, gz, gs, if_true, if_false, Bool.false_eq_true, Bool.not_true, Bool.not_false, Nat.add_zero, Nat.zero_add, Nat.reduceAdd]
  refine wpPi_nil ?_
  have hM3 := hm2.trans0 hm3
  have hsz3 := hM3.size
  clear hm2 hm3 HD
  generalize dig f i a = da at *
  generalize dig f i b = db at *
  go_upto_region 3 with (fail)
  by_cases ha2 : a.length < 2
  · have hz : ((a.length : Nat) : Int) < 2 := by omega
    refine wp_region_seq [3, 3, 3, 3, 3, 3, 3, 3, 3] (fun _ => True) (by rfl) (by rfl) trivial ?_
    simp only [List.zip_cons_cons, List.zip_nil_right]
    refine wpPi_move _ rfl rfl ?_
    simp only [pl, pn, el, ec, sz, ss, gz, gs, if_true, if_false, Bool.false_eq_true, Bool.not_true, Bool.not_false, Nat.add_zero, Nat.zero_add, Nat.reduceAdd]
    refine wpPi_len _ _ _ _ _ rfl rfl rfl (by kernel_rfl) ?_
    simp only [pl, pn, el, ec, sz, ss, gz, gs, if_true, if_false, Bool.false_eq_true, Bool.not_true, Bool.not_false, Nat.add_zero, Nat.zero_add, Nat.reduceAdd]
    refine wpPi_cmp _ _ _ _ _ _ _ _ rfl rfl rfl rfl rfl true (decide_eq_true hz) ?_
    simp only [pl, pn, el, ec, sz, ss, gz, gs, if_true, if_false, Bool.false_eq_true, Bool.not_true, Bool.not_false, Nat.add_zero, Nat.zero_add, Nat.reduceAdd]
    refine wpPi_move _ rfl rfl ?_
    simp only [pl, pn, el, ec, sz, ss, gz, gs, if_true, if_false, Bool.false_eq_true, Bool.not_true, Bool.not_false, Nat.add_zero, Nat.zero_add, Nat.reduceAdd]
    refine wpPi_skip rfl ?_
    simp only [pl, pn, el, ec, sz, ss, gz, gs, if_true, if_false, Bool.false_eq_true, Bool.not_true, Bool.not_false, Nat.add_zero, Nat.zero_add, Nat.reduceAdd]
    refine wpPi_skip rfl ?_
    simp only [pl, pn, el, ec, sz, ss, gz, gs, if_true, if_false, Bool.false_eq_true, Bool.not_true, Bool.not_false, Nat.add_zero, Nat.zero_add, Nat.reduceAdd]
    refine wpPi_skip rfl ?_
    simp only [pl, pn, el, ec, sz, ss, gz, gs, if_true, if_false, Bool.false_eq_true, Bool.not_true, Bool.not_false, Nat.add_zero, Nat.zero_add, Nat.reduceAdd]
    refine wpPi_pick _ _ _ _ rfl rfl rfl ?_
    simp only [pl, pn, el, ec, sz, ss, gz, gs, if_true, if_false, Bool.false_eq_true, Bool.not_true, Bool.not_false, Nat.add_zero, Nat.zero_add, Nat.reduceAdd]
    refine wpPi_assign _ rfl rfl ?_
    simp only [pl, pn, el, ec, sz, ss, gz, gs, if_true, if_false, Bool.false_eq_true, Bool.not_true, Bool.not_false, Nat.add_zero, Nat.zero_add, Nat.reduceAdd]
    refine wpPi_nil ?_
    go_upto_region 4 with (fail)
    refine wp_region_seq [3, 3, 1, 3, 3, 1, 1, 3, 3] (fun _ => True) (by rfl) (by rfl) trivial ?_
    simp only [List.zip_cons_cons, List.zip_nil_right]
    refine wpPi_move _ rfl rfl ?_
    simp only [pl, pn, el, ec, sz, ss, gz, gs, if_true, if_false, Bool.false_eq_true, Bool.not_true, Bool.not_false, Nat.add_zero, Nat.zero_add, Nat.reduceAdd]
    refine wpPi_move _ rfl rfl ?_
    simp only [pl, pn, el, ec, sz, ss, gz, gs, if_true, if_false, Bool.false_eq_true, Bool.not_true, Bool.not_false, Nat.add_zero, Nat.zero_add, Nat.reduceAdd]
    refine wpPi_do rfl (fun K hK => ?_)
    refine wp_enterQ (run_call 59 [.tmp 33, .tmp 34] _ rfl _ Try.func59 rfl (by kernel_rfl) [.slice aa a.length ca, .slice ab b.length cb] rfl _) (refLacks_any (HA.out.keep0 hM3) (HB.out.keep0 hM3) (by omega) HMA.out HMB.out) ?_
    rintro e w4 ⟨v4, rfl, hg4, hm4⟩
    refine ⟨_, rfl, hK _ _ trivial ?_⟩
    clear hK K
    try simp only [pl, pn, el, ec, sz, ss, gz, gs, if_true, if_false, Bool.false_eq_true, Bool.not_true, Bool.not_false, Nat.add_zero, Nat.zero_add, Nat.reduceAdd]
    refine wpPi_move _ rfl rfl ?_
    simp only [pl, pn, el, ec, sz, ss, gz, gs, if_true, if_false, Bool.false_eq_true, Bool.not_true, Bool.not_false, Nat.add_zero, Nat.zero_add, Nat.reduceAdd]
    refine wpPi_move _ rfl rfl ?_
    simp only [pl, pn, el, ec, sz, ss, gz, gs, if_true, if_false, Bool.false_eq_true, Bool.not_true, Bool.not_false, Nat.add_zero, Nat.zero_add, Nat.reduceAdd]
    refine wpPi_do rfl (fun K hK => ?_)
    refine wp_enterQ (run_call 59 [.tmp 36, .tmp 37] _ rfl _ Try.func59 rfl (by kernel_rfl) [.slice ab b.length cb, .slice aa a.length ca] rfl _) (refLacks_any (HB.out.keep0 (hM3.trans0 hm4)) (HA.out.keep0 (hM3.trans0 hm4)) (by omega) HMB.out HMA.out) ?_
    rintro e w6 ⟨v6, rfl, hg6, hm6⟩
    replace hg4 := hg4.keep0 hm6
    refine ⟨_, rfl, hK _ _ trivial ?_⟩
    clear hK K
    try simp only [pl, pn, el, ec, sz, ss, gz, gs, if_true, if_false, Bool.false_eq_true, Bool.not_true, Bool.not_false, Nat.add_zero, Nat.zero_add, Nat.reduceAdd]
    refine wpPi_do rfl (fun K hK => ?_)
    have hsz6 : w.heap.size ≤ w6.heap.size := ((hM3.trans0 hm4).trans0 hm6).size
    refine wp_gat strEnc _ _ 26 9 (.string ⟨#[]⟩) 1 16 (by rfl) Try.underlying26 str_i (by kernel_rfl) (by omega) strEnc_one w.heap.size _ _ (by rfl) (hg4.base hsz3) v6 _ (by rfl) hg6.src (by unfold maxLen; omega) (by omega) hsz6 (fun v7 w7 hg7 hm7 => ?_)
    have hM7 : Mod NoB w w7 := ((hM3.trans0 hm4).trans0 hm6).trans hm7 (fun k hk e => by have := (hg4.lt e).1; omega)
    refine hK _ _ trivial ?_
    clear hK K
    try simp only [pl, pn, el, ec, sz, ss, gz, gs, if_true, if_false, Bool.false_eq_true, Bool.not_true, Bool.not_false, Nat.add_zero, Nat.zero_add, Nat.reduceAdd]
    refine wpPi_assign _ rfl rfl ?_
    simp only [pl, pn, el, ec, sz, ss, gz, gs, if_true, if_false, Bool.false_eq_true, Bool.not_true, Bool.not_false, Nat.add_zero, Nat.zero_add, Nat.reduceAdd]
    refine wpPi_assign _ rfl rfl ?_
    simp only [pl, pn, el, ec, sz, ss, gz, gs, if_true, if_false, Bool.false_eq_true, Bool.not_true, Bool.not_false, Nat.add_zero, Nat.zero_add, Nat.reduceAdd]
    refine wpPi_nil ?_
    clear hm4 hm6 hm7 hM3 hg4 hg6
    go_wp2
    go_ret2
    exact ⟨_, rfl, hg7, hM7⟩
  · have hz : ¬ ((a.length : Nat) : Int) < 2 := by omega
    have hz2 : ((b.length : Nat) : Int) < 2 := by have := H2.out; omega
    refine wp_region_seq [3, 3, 3, 3, 3, 3, 3, 3, 3] (fun _ => True) (by rfl) (by rfl) trivial ?_
    simp only [List.zip_cons_cons, List.zip_nil_right]
    refine wpPi_move _ rfl rfl ?_
    simp only [pl, pn, el, ec, sz, ss, gz, gs, if_true, if_false, Bool.false_eq_true, Bool.not_true, Bool.not_false, Nat.add_zero, Nat.zero_add, Nat.reduceAdd]
    refine wpPi_len _ _ _ _ _ rfl rfl rfl (by kernel_rfl) ?_
    simp only [pl, pn, el, ec, sz, ss, gz, gs, if_true, if_false, Bool.false_eq_true, Bool.not_true, Bool.not_false, Nat.add_zero, Nat.zero_add, Nat.reduceAdd]
    refine wpPi_cmp _ _ _ _ _ _ _ _ rfl rfl rfl rfl rfl false (decide_eq_false hz) ?_
    simp only [pl, pn, el, ec, sz, ss, gz, gs, if_true, if_false, Bool.false_eq_true, Bool.not_true, Bool.not_false, Nat.add_zero, Nat.zero_add, Nat.reduceAdd]
    refine wpPi_move _ rfl rfl ?_
    simp only [pl, pn, el, ec, sz, ss, gz, gs, if_true, if_false, Bool.false_eq_true, Bool.not_true, Bool.not_false, Nat.add_zero, Nat.zero_add, Nat.reduceAdd]
    refine wpPi_move _ rfl rfl ?_
    simp only [pl, pn, el, ec, sz, ss, gz, gs, if_true, if_false, Bool.false_eq_true, Bool.not_true, Bool.not_false, Nat.add_zero, Nat.zero_add, Nat.reduceAdd]
    refine wpPi_len _ _ _ _ _ rfl rfl rfl (by kernel_rfl) ?_
    simp only [pl, pn, el, ec, sz, ss, gz, gs, if_true, if_false, Bool.false_eq_true, Bool.not_true, Bool.not_false, Nat.add_zero, Nat.zero_add, Nat.reduceAdd]
    refine wpPi_cmp _ _ _ _ _ _ _ _ rfl rfl rfl rfl rfl true (decide_eq_true hz2) ?_
    simp only [pl, pn, el, ec, sz, ss, gz, gs, if_true, if_false, Bool.false_eq_true, Bool.not_true, Bool.not_false, Nat.add_zero, Nat.zero_add, Nat.reduceAdd]
    refine wpPi_pick _ _ _ _ rfl rfl rfl ?_
    simp only [pl, pn, el, ec, sz, ss, gz, gs, if_true, if_false, Bool.false_eq_true, Bool.not_true, Bool.not_false, Nat.add_zero, Nat.zero_add, Nat.reduceAdd]
    refine wpPi_assign _ rfl rfl ?_
    simp only [pl, pn, el, ec, sz, ss, gz, gs, if_true, if_false, Bool.false_eq_true, Bool.not_true, Bool.not_false, Nat.add_zero, Nat.zero_add, Nat.reduceAdd]
    refine wpPi_nil ?_
    go_upto_region 4 with (fail)
    refine wp_region_seq [3, 3, 1, 3, 3, 1, 1, 3, 3] (fun _ => True) (by rfl) (by rfl) trivial ?_
    simp only [List.zip_cons_cons, List.zip_nil_right]
    refine wpPi_move _ rfl rfl ?_
    simp only [pl, pn, el, ec, sz, ss, gz, gs, if_true, if_false, Bool.false_eq_true, Bool.not_true, Bool.not_false, Nat.add_zero, Nat.zero_add, Nat.reduceAdd]
    refine wpPi_move _ rfl rfl ?_
    simp only [pl, pn, el, ec, sz, ss, gz, gs, if_true, if_false, Bool.false_eq_true, Bool.not_true, Bool.not_false, Nat.add_zero, Nat.zero_add, Nat.reduceAdd]
    refine wpPi_do rfl (fun K hK => ?_)
    refine wp_enterQ (run_call 59 [.tmp 33, .tmp 34] _ rfl _ Try.func59 rfl (by kernel_rfl) [.slice aa a.length ca, .slice ab b.length cb] rfl _) (refLacks_any (HA.out.keep0 hM3) (HB.out.keep0 hM3) (by omega) HMA.out HMB.out) ?_
    rintro e w4 ⟨v4, rfl, hg4, hm4⟩
    refine ⟨_, rfl, hK _ _ trivial ?_⟩
    clear hK K
    try simp only [pl, pn, el, ec, sz, ss, gz, gs, if_true, if_false, Bool.false_eq_true, Bool.not_true, Bool.not_false, Nat.add_zero, Nat.zero_add, Nat.reduceAdd]
    refine wpPi_move _ rfl rfl ?_
    simp only [pl, pn, el, ec, sz, ss, gz, gs, if_true, if_false, Bool.false_eq_true, Bool.not_true, Bool.not_false, Nat.add_zero, Nat.zero_add, Nat.reduceAdd]
    refine wpPi_move _ rfl rfl ?_
    simp only [pl, pn, el, ec, sz, ss, gz, gs, if_true, if_false, Bool.false_eq_true, Bool.not_true, Bool.not_false, Nat.add_zero, Nat.zero_add, Nat.reduceAdd]
    refine wpPi_do rfl (fun K hK => ?_)
    refine wp_enterQ (run_call 59 [.tmp 36, .tmp 37] _ rfl _ Try.func59 rfl (by kernel_rfl) [.slice ab b.length cb, .slice aa a.length ca] rfl _) (refLacks_any (HB.out.keep0 (hM3.trans0 hm4)) (HA.out.keep0 (hM3.trans0 hm4)) (by omega) HMB.out HMA.out) ?_
    rintro e w6 ⟨v6, rfl, hg6, hm6⟩
    replace hg4 := hg4.keep0 hm6
    refine ⟨_, rfl, hK _ _ trivial ?_⟩
    clear hK K
    try simp only [pl, pn, el, ec, sz, ss, gz, gs, if_true, if_false, Bool.false_eq_true, Bool.not_true, Bool.not_false, Nat.add_zero, Nat.zero_add, Nat.reduceAdd]
    refine wpPi_do rfl (fun K hK => ?_)
    have hsz6 : w.heap.size ≤ w6.heap.size := ((hM3.trans0 hm4).trans0 hm6).size
    refine wp_gat strEnc _ _ 26 9 (.string ⟨#[]⟩) 1 16 (by rfl) Try.underlying26 str_i (by kernel_rfl) (by omega) strEnc_one w.heap.size _ _ (by rfl) (hg4.base hsz3) v6 _ (by rfl) hg6.src (by unfold maxLen; omega) (by omega) hsz6 (fun v7 w7 hg7 hm7 => ?_)
    have hM7 : Mod NoB w w7 := ((hM3.trans0 hm4).trans0 hm6).trans hm7 (fun k hk e => by have := (hg4.lt e).1; omega)
    refine hK _ _ trivial ?_
    clear hK K
    try simp only [pl, pn, el, ec, sz, ss, gz, gs, if_true, if_false, Bool.false_eq_true, Bool.not_true, Bool.not_false, Nat.add_zero, Nat.zero_add, Nat.reduceAdd]
    refine wpPi_assign _ rfl rfl ?_
    simp only [pl, pn, el, ec, sz, ss, gz, gs, if_true, if_false, Bool.false_eq_true, Bool.not_true, Bool.not_false, Nat.add_zero, Nat.zero_add, Nat.reduceAdd]
    refine wpPi_assign _ rfl rfl ?_
    simp only [pl, pn, el, ec, sz, ss, gz, gs, if_true, if_false, Bool.false_eq_true, Bool.not_true, Bool.not_false, Nat.add_zero, Nat.zero_add, Nat.reduceAdd]
    refine wpPi_nil ?_
    clear hm4 hm6 hm7 hM3 hg4 hg6
    go_wp2
    go_ret2
    exact ⟨_, rfl, hg7, hM7⟩
set_option maxRecDepth 10000 in
set_option maxHeartbeats 1000000 in
theorem refDiffer_more (f i : Nat) (hi : f + 1 + i = 256) {w : World} {va vb : Value} {a b : List Leaf} (ha : Ls w Ever va a) (hb : Ls w Ever vb b) (hpa : Lie i a) (hpb : Lie i b) (hma : Made a) (hmb : Made b) (hal : a.length ≤ 65536) (hbl : b.length ≤ 65536) (hd : dig (f + 1) i a ≠ dig (f + 1) i b) (h2 : 2 ≤ a.length) (h3 : 2 ≤ b.length)
    (ih : ∀ (a' b' : List Leaf) (va vb : Value) (w : World), Ls w Ever va a' → Ls w Ever vb b' → Lie (i + 1) a' → Lie (i + 1) b' → Made a' → Made b' → a'.length ≤ 65536 → b'.length ≤ 65536 → Calls Try.prog 37 #[va, vb, .int .i64 ((i + 1 : Nat) : Int)] w (DifferR w (dif f (i + 1) a' b'))) :
    Calls Try.prog 37 #[va, vb, .int .i64 (i : Int)] w (DifferR w (dif (f + 1) i a b)) := by
  have hcnt := dif_count (f + 1) i a b
  rw [dif_more hd h2 h3] at hcnt ⊢
  have IH := Lib.hid ih
  have hsa := side_len i a
  have hsb := side_len i b
  have hal1 := hpa.side false
  have hal2 := hpa.side true
  have hbl1 := hpb.side false
  have hbl2 := hpb.side true
  have hma1 := Lib.hid (hma.side false i)
  have hma2 := Lib.hid (hma.side true i)
  have hmb1 := Lib.hid (hmb.side false i)
  have hmb2 := Lib.hid (hmb.side true i)
  have hk1 := dif_keys f (i + 1) (sideL false i a) (sideL false i b)
  have hk2 := dif_keys f (i + 1) (sideL true i a) (sideL true i b)
  have ha2 : ¬ (a.length : Int) < 2 := by omega
  have hb2 : ¬ (b.length : Int) < 2 := by omega
  have hfa : 2 * (f + 1) * a.length ≤ 512 * 65536 := Nat.mul_le_mul (by omega) hal
  clear ih hma hmb
  have HA := Lib.hid ha
  have HB := Lib.hid hb
  have hda := dig_len hi hpa
  have hdb := dig_len hi hpb
  have HD := Lib.hid hd
  have HP := Lib.hid hpa
  have HQ := Lib.hid hpb
  obtain ⟨aa, ca, rfl, -, -⟩ := Sl.at ha
  obtain ⟨ab, cb, rfl, -, -⟩ := Sl.at hb
  clear ha hb hd hpa hpb
  go_enter Try.func37, Try.ntmps37
  go_upto_region 1 with (fail)
  refine wp_region_seq [3, 3, 1, 3, 3, 1, 0, 3] (fun _ => True) (by rfl) (by rfl) trivial ?_
  simp only [List.zip_cons_cons, List.zip_nil_right]
  refine wpPi_move _ rfl rfl ?_
  simp only [pl, pn, el, ec, sz, ss, gz, gs, if_true, if_false, Bool.false_eq_true, Bool.not_true, Bool.not_false, Nat.add_zero, Nat.zero_add, Nat.reduceAdd]
  refine wpPi_move _ rfl rfl ?_
  simp only [pl, pn, el, ec, sz, ss, gz, gs, if_true, if_false, Bool.false_eq_true, Bool.not_true, Bool.not_false, Nat.add_zero, Nat.zero_add, Nat.reduceAdd]
  refine wpPi_do rfl (fun K hK => ?_)
  refine wp_enterQ (run_call 58 [.tmp 17, .tmp 18] _ rfl _ Try.func58 rfl (by kernel_rfl) [.slice aa a.length ca, .int .i64 (i : Int)] rfl _) (refDigest_any (f + 1) i a _ _ hi HA.out HP.out (by omega)) ?_
  rintro e w2 ⟨rfl, hm2⟩
  refine ⟨_, rfl, hK _ _ trivial ?_⟩
  clear hK K
  try simp only [pl, pn, el, ec, sz, ss, gz, gs, if_true, if_false, Bool.false_eq_true, Bool.not_true, Bool.not_false, Nat.add_zero, Nat.zero_add, Nat.reduceAdd]
  refine wpPi_move _ rfl rfl ?_
  simp only [pl, pn, el, ec, sz, ss, gz, gs, if_true, if_false, Bool.false_eq_true, Bool.not_true, Bool.not_false, Nat.add_zero, Nat.zero_add, Nat.reduceAdd]
  refine wpPi_move _ rfl rfl ?_
  simp only [pl, pn, el, ec, sz, ss, gz, gs, if_true, if_false, Bool.false_eq_true, Bool.not_true, Bool.not_false, Nat.add_zero, Nat.zero_add, Nat.reduceAdd]
  refine wpPi_do rfl (fun K hK => ?_)
  refine wp_enterQ (run_call 58 [.tmp 20, .tmp 21] _ rfl _ Try.func58 rfl (by kernel_rfl) [.slice ab b.length cb, .int .i64 (i : Int)] rfl _) (refDigest_any (f + 1) i b _ _ hi (HB.out.keep0 hm2) HQ.out (by omega)) ?_
  rintro e w3 ⟨rfl, hm3⟩
  refine ⟨_, rfl, hK _ _ trivial ?_⟩
  clear hK K
  try simp only [pl, pn, el, ec, sz, ss, gz, gs, if_true, if_false, Bool.false_eq_true, Bool.not_true, Bool.not_false, Nat.add_zero, Nat.zero_add, Nat.reduceAdd]
  refine wpPi_val rfl (fun w' hS => exec_eql_id _ _ _ _ rfl (dig (f + 1) i a) (dig (f + 1) i b) rfl rfl 32 5 Try.underlying38 Try.underlying5 (by kernel_rfl) (by kernel_rfl) hda hdb false (decide_eq_false HD.out)) ?_
  simp only [pl, pn, el, ec, sz, ss, gz, gs, if_true, if_false, Bool.false_eq_true, Bool.not_true, Bool.not_false, Nat.add_zero, Nat.zero_add, Nat.reduceAdd]
  refine wpPi_assign _ rfl rfl ?_
  simp only [pl, pn, el, ec, sz, ss, gz, gs, if_true, if_false, Bool.false_eq_true, Bool.not_true, Bool.not_false, Nat.add_zero, Nat.zero_add, Nat.reduceAdd]
  refine wpPi_nil ?_
  have hM3 := hm2.trans0 hm3
  have hsz3 := hM3.size
  clear hm2 hm3 HD
  generalize dig (f + 1) i a = da at *
  generalize dig (f + 1) i b = db at *
  go_upto_region 3 with (fail)
  refine wp_region_seq [3, 3, 3, 3, 3, 3, 3, 3, 3] (fun _ => True) (by rfl) (by rfl) trivial ?_
  simp only [List.zip_cons_cons, List.zip_nil_right]
  refine wpPi_move _ rfl rfl ?_
  simp only [pl, pn, el, ec, sz, ss, gz, gs, if_true, if_false, Bool.false_eq_true, Bool.not_true, Bool.not_false, Nat.add_zero, Nat.zero_add, Nat.reduceAdd]
  refine wpPi_len _ _ _ _ _ rfl rfl rfl (by kernel_rfl) ?_
  simp only [pl, pn, el, ec, sz, ss, gz, gs, if_true, if_false, Bool.false_eq_true, Bool.not_true, Bool.not_false, Nat.add_zero, Nat.zero_add, Nat.reduceAdd]
  refine wpPi_cmp _ _ _ _ _ _ _ _ rfl rfl rfl rfl rfl false (decide_eq_false ha2) ?_
  simp only [pl, pn, el, ec, sz, ss, gz, gs, if_true, if_false, Bool.false_eq_true, Bool.not_true, Bool.not_false, Nat.add_zero, Nat.zero_add, Nat.reduceAdd]
  refine wpPi_move _ rfl rfl ?_
  simp only [pl, pn, el, ec, sz, ss, gz, gs, if_true, if_false, Bool.false_eq_true, Bool.not_true, Bool.not_false, Nat.add_zero, Nat.zero_add, Nat.reduceAdd]
  refine wpPi_move _ rfl rfl ?_
  simp only [pl, pn, el, ec, sz, ss, gz, gs, if_true, if_false, Bool.false_eq_true, Bool.not_true, Bool.not_false, Nat.add_zero, Nat.zero_add, Nat.reduceAdd]
  refine wpPi_len _ _ _ _ _ rfl rfl rfl (by kernel_rfl) ?_
  simp only [pl, pn, el, ec, sz, ss, gz, gs, if_true, if_false, Bool.false_eq_true, Bool.not_true, Bool.not_false, Nat.add_zero, Nat.zero_add, Nat.reduceAdd]
  refine wpPi_cmp _ _ _ _ _ _ _ _ rfl rfl rfl rfl rfl false (decide_eq_false hb2) ?_
  simp only [pl, pn, el, ec, sz, ss, gz, gs, if_true, if_false, Bool.false_eq_true, Bool.not_true, Bool.not_false, Nat.add_zero, Nat.zero_add, Nat.reduceAdd]
  refine wpPi_pick _ _ _ _ rfl rfl rfl ?_
  simp only [pl, pn, el, ec, sz, ss, gz, gs, if_true, if_false, Bool.false_eq_true, Bool.not_true, Bool.not_false, Nat.add_zero, Nat.zero_add, Nat.reduceAdd]
  refine wpPi_assign _ rfl rfl ?_
  simp only [pl, pn, el, ec, sz, ss, gz, gs, if_true, if_false, Bool.false_eq_true, Bool.not_true, Bool.not_false, Nat.add_zero, Nat.zero_add, Nat.reduceAdd]
  refine wpPi_nil ?_
  go_upto_region 5 with (fail)
  refine wp_region_seq [3, 3, 1, 3, 3, 3, 3, 3] (fun _ => True) (by rfl) (by rfl) trivial ?_
  simp only [List.zip_cons_cons, List.zip_nil_right]
  refine wpPi_move _ rfl rfl ?_
  simp only [pl, pn, el, ec, sz, ss, gz, gs, if_true, if_false, Bool.false_eq_true, Bool.not_true, Bool.not_false, Nat.add_zero, Nat.zero_add, Nat.reduceAdd]
  refine wpPi_move _ rfl rfl ?_
  simp only [pl, pn, el, ec, sz, ss, gz, gs, if_true, if_false, Bool.false_eq_true, Bool.not_true, Bool.not_false, Nat.add_zero, Nat.zero_add, Nat.reduceAdd]
  refine wpPi_do rfl (fun K hK => ?_)
  refine wp_enterQ (run_call 60 [.tmp 41, .tmp 42] _ rfl _ Try.func60 rfl (by kernel_rfl) [.slice aa a.length ca, .int .i64 (i : Int)] rfl _) (refCut_any (HA.out.keep0 hM3) i (by omega) HP.out (by omega)) ?_
  rintro e w4 ⟨v1, v2, rfl, hc1, hc2, hm4⟩
  refine ⟨_, rfl, hK _ _ trivial ?_⟩
  clear hK K
  try simp only [pl, pn, el, ec, sz, ss, gz, gs, if_true, if_false, Bool.false_eq_true, Bool.not_true, Bool.not_false, Nat.add_zero, Nat.zero_add, Nat.reduceAdd]
  refine wpPi_move _ rfl rfl ?_
  simp only [pl, pn, el, ec, sz, ss, gz, gs, if_true, if_false, Bool.false_eq_true, Bool.not_true, Bool.not_false, Nat.add_zero, Nat.zero_add, Nat.reduceAdd]
  refine wpPi_any (v := ?_) rfl (fun w' => ?_) ?_; rotate_left; · (go_simp; try with_reducible rfl)
  simp only [pl, pn, el, ec, sz, ss, gz, gs, if_true, if_false, Bool.false_eq_true, Bool.not_true, Bool.not_false, Nat.add_zero, Nat.zero_add, Nat.reduceAdd]
  refine wpPi_any (v := ?_) rfl (fun w' => ?_) ?_; rotate_left; · (go_simp; try with_reducible rfl)
  simp only [pl, pn, el, ec, sz, ss, gz, gs, if_true, if_false, Bool.false_eq_true, Bool.not_true, Bool.not_false, Nat.add_zero, Nat.zero_add, Nat.reduceAdd]
  refine wpPi_assign _ rfl rfl ?_
  simp only [pl, pn, el, ec, sz, ss, gz, gs, if_true, if_false, Bool.false_eq_true, Bool.not_true, Bool.not_false, Nat.add_zero, Nat.zero_add, Nat.reduceAdd]
  refine wpPi_assign _ rfl rfl ?_
  simp only [pl, pn, el, ec, sz, ss, gz, gs, if_true, if_false, Bool.false_eq_true, Bool.not_true, Bool.not_false, Nat.add_zero, Nat.zero_add, Nat.reduceAdd]
  refine wpPi_nil ?_
  have hM4 := hM3.trans0 hm4
  go_upto_region 6 with (fail)
  refine wp_region_seq [3, 3, 1, 3, 3, 3, 3, 3] (fun _ => True) (by rfl) (by rfl) trivial ?_
  simp only [List.zip_cons_cons, List.zip_nil_right]
  refine wpPi_move _ rfl rfl ?_
  simp only [pl, pn, el, ec, sz, ss, gz, gs, if_true, if_false, Bool.false_eq_true, Bool.not_true, Bool.not_false, Nat.add_zero, Nat.zero_add, Nat.reduceAdd]
  refine wpPi_move _ rfl rfl ?_
  simp only [pl, pn, el, ec, sz, ss, gz, gs, if_true, if_false, Bool.false_eq_true, Bool.not_true, Bool.not_false, Nat.add_zero, Nat.zero_add, Nat.reduceAdd]
  refine wpPi_do rfl (fun K hK => ?_)
  refine wp_enterQ (run_call 60 [.tmp 47, .tmp 48] _ rfl _ Try.func60 rfl (by kernel_rfl) [.slice ab b.length cb, .int .i64 (i : Int)] rfl _) (refCut_any (HB.out.keep0 hM4) i (by omega) HQ.out (by omega)) ?_
  rintro e w5 ⟨u1, u2, rfl, hd1, hd2, hm5⟩
  refine ⟨_, rfl, hK _ _ trivial ?_⟩
  clear hK K
  try simp only [pl, pn, el, ec, sz, ss, gz, gs, if_true, if_false, Bool.false_eq_true, Bool.not_true, Bool.not_false, Nat.add_zero, Nat.zero_add, Nat.reduceAdd]
  refine wpPi_move _ rfl rfl ?_
  simp only [pl, pn, el, ec, sz, ss, gz, gs, if_true, if_false, Bool.false_eq_true, Bool.not_true, Bool.not_false, Nat.add_zero, Nat.zero_add, Nat.reduceAdd]
  refine wpPi_any (v := ?_) rfl (fun w' => ?_) ?_; rotate_left; · (go_simp; try with_reducible rfl)
  simp only [pl, pn, el, ec, sz, ss, gz, gs, if_true, if_false, Bool.false_eq_true, Bool.not_true, Bool.not_false, Nat.add_zero, Nat.zero_add, Nat.reduceAdd]
  refine wpPi_any (v := ?_) rfl (fun w' => ?_) ?_; rotate_left; · (go_simp; try with_reducible rfl)
  simp only [pl, pn, el, ec, sz, ss, gz, gs, if_true, if_false, Bool.false_eq_true, Bool.not_true, Bool.not_false, Nat.add_zero, Nat.zero_add, Nat.reduceAdd]
  refine wpPi_assign _ rfl rfl ?_
  simp only [pl, pn, el, ec, sz, ss, gz, gs, if_true, if_false, Bool.false_eq_true, Bool.not_true, Bool.not_false, Nat.add_zero, Nat.zero_add, Nat.reduceAdd]
  refine wpPi_assign _ rfl rfl ?_
  simp only [pl, pn, el, ec, sz, ss, gz, gs, if_true, if_false, Bool.false_eq_true, Bool.not_true, Bool.not_false, Nat.add_zero, Nat.zero_add, Nat.reduceAdd]
  refine wpPi_nil ?_
  have hM5 := hM4.trans0 hm5
  have HC1 := Lib.hid (hc1.keep0 hm5)
  have HC2 := Lib.hid (hc2.keep0 hm5)
  have HD1 := Lib.hid hd1
  have HD2 := Lib.hid hd2
  clear hM3 hm4 hm5 hM4 hc1 hc2 hd1 hd2 HA HB HP HQ
  generalize sideL false i a = a1 at *
  generalize sideL true i a = a2 at *
  generalize sideL false i b = e1 at *
  generalize sideL true i b = e2 at *
  go_upto_region 7 with (fail)
  refine wp_region_seq [3, 3, 3, 3, 1, 3, 3, 3, 3, 3] (fun _ => True) (by rfl) (by rfl) trivial ?_
  simp only [List.zip_cons_cons, List.zip_nil_right]
  refine wpPi_move _ rfl rfl ?_
  simp only [pl, pn, el, ec, sz, ss, gz, gs, if_true, if_false, Bool.false_eq_true, Bool.not_true, Bool.not_false, Nat.add_zero, Nat.zero_add, Nat.reduceAdd]
  refine wpPi_move _ rfl rfl ?_
  simp only [pl, pn, el, ec, sz, ss, gz, gs, if_true, if_false, Bool.false_eq_true, Bool.not_true, Bool.not_false, Nat.add_zero, Nat.zero_add, Nat.reduceAdd]
  refine wpPi_move _ rfl rfl ?_
  simp only [pl, pn, el, ec, sz, ss, gz, gs, if_true, if_false, Bool.false_eq_true, Bool.not_true, Bool.not_false, Nat.add_zero, Nat.zero_add, Nat.reduceAdd]
  refine wpPi_addR _ _ _ _ (i : Int) 1 ((i + 1 : Nat) : Int) rfl rfl rfl rfl (by omega) (by omega) (by omega) ?_
  simp only [pl, pn, el, ec, sz, ss, gz, gs, if_true, if_false, Bool.false_eq_true, Bool.not_true, Bool.not_false, Nat.add_zero, Nat.zero_add, Nat.reduceAdd]
  refine wpPi_do rfl (fun K hK => ?_)
  refine wp_enterQ (run_call 37 [.tmp 53, .tmp 54, .tmp 56] _ rfl _ Try.func37 rfl (by kernel_rfl) [v1, u1, .int .i64 ((i + 1 : Nat) : Int)] rfl _) (IH.out a1 e1 v1 u1 _ HC1.out HD1.out hal1 hbl1 hma1.out hmb1.out (by omega) (by omega)) ?_
  rintro e w12 ⟨vl, rfl, hg12, hm12⟩
  generalize dif f (i + 1) a1 e1 = p1 at *
  refine ⟨_, rfl, hK _ _ trivial ?_⟩
  clear hK K
  try simp only [pl, pn, el, ec, sz, ss, gz, gs, if_true, if_false, Bool.false_eq_true, Bool.not_true, Bool.not_false, Nat.add_zero, Nat.zero_add, Nat.reduceAdd]
  refine wpPi_move _ rfl rfl ?_
  simp only [pl, pn, el, ec, sz, ss, gz, gs, if_true, if_false, Bool.false_eq_true, Bool.not_true, Bool.not_false, Nat.add_zero, Nat.zero_add, Nat.reduceAdd]
  refine wpPi_any (v := ?_) rfl (fun w' => ?_) ?_; rotate_left; · (go_simp; try with_reducible rfl)
  simp only [pl, pn, el, ec, sz, ss, gz, gs, if_true, if_false, Bool.false_eq_true, Bool.not_true, Bool.not_false, Nat.add_zero, Nat.zero_add, Nat.reduceAdd]
  refine wpPi_any (v := ?_) rfl (fun w' => ?_) ?_; rotate_left; · (go_simp; try with_reducible rfl)
  simp only [pl, pn, el, ec, sz, ss, gz, gs, if_true, if_false, Bool.false_eq_true, Bool.not_true, Bool.not_false, Nat.add_zero, Nat.zero_add, Nat.reduceAdd]
  refine wpPi_assign _ rfl rfl ?_
  simp only [pl, pn, el, ec, sz, ss, gz, gs, if_true, if_false, Bool.false_eq_true, Bool.not_true, Bool.not_false, Nat.add_zero, Nat.zero_add, Nat.reduceAdd]
  refine wpPi_assign _ rfl rfl ?_
  simp only [pl, pn, el, ec, sz, ss, gz, gs, if_true, if_false, Bool.false_eq_true, Bool.not_true, Bool.not_false, Nat.add_zero, Nat.zero_add, Nat.reduceAdd]
  refine wpPi_nil ?_
  go_upto_region 8 with (fail)
  refine wp_region_seq [3, 3, 3, 3, 1, 3, 3, 3, 3, 3] (fun _ => True) (by rfl) (by rfl) trivial ?_
  simp only [List.zip_cons_cons, List.zip_nil_right]
  refine wpPi_move _ rfl rfl ?_
  simp only [pl, pn, el, ec, sz, ss, gz, gs, if_true, if_false, Bool.false_eq_true, Bool.not_true, Bool.not_false, Nat.add_zero, Nat.zero_add, Nat.reduceAdd]
  refine wpPi_move _ rfl rfl ?_
  simp only [pl, pn, el, ec, sz, ss, gz, gs, if_true, if_false, Bool.false_eq_true, Bool.not_true, Bool.not_false, Nat.add_zero, Nat.zero_add, Nat.reduceAdd]
  refine wpPi_move _ rfl rfl ?_
  simp only [pl, pn, el, ec, sz, ss, gz, gs, if_true, if_false, Bool.false_eq_true, Bool.not_true, Bool.not_false, Nat.add_zero, Nat.zero_add, Nat.reduceAdd]
  refine wpPi_addR _ _ _ _ (i : Int) 1 ((i + 1 : Nat) : Int) rfl rfl rfl rfl (by omega) (by omega) (by omega) ?_
  simp only [pl, pn, el, ec, sz, ss, gz, gs, if_true, if_false, Bool.false_eq_true, Bool.not_true, Bool.not_false, Nat.add_zero, Nat.zero_add, Nat.reduceAdd]
  refine wpPi_do rfl (fun K hK => ?_)
  refine wp_enterQ (run_call 37 [.tmp 61, .tmp 62, .tmp 64] _ rfl _ Try.func37 rfl (by kernel_rfl) [v2, u2, .int .i64 ((i + 1 : Nat) : Int)] rfl _) (IH.out a2 e2 v2 u2 _ (HC2.out.keep0 hm12) (HD2.out.keep0 hm12) hal2 hbl2 hma2.out hmb2.out (by omega) (by omega)) ?_
  rintro e w13 ⟨vr, rfl, hg13, hm13⟩
  generalize dif f (i + 1) a2 e2 = p2 at *
  replace hg12 := hg12.keep0 hm13
  refine ⟨_, rfl, hK _ _ trivial ?_⟩
  clear hK K
  try simp only [pl, pn, el, ec, sz, ss, gz, gs, if_true, if_false, Bool.false_eq_true, Bool.not_true, Bool.not_false, Nat.add_zero, Nat.zero_add, Nat.reduceAdd]
  refine wpPi_move _ rfl rfl ?_
  simp only [pl, pn, el, ec, sz, ss, gz, gs, if_true, if_false, Bool.false_eq_true, Bool.not_true, Bool.not_false, Nat.add_zero, Nat.zero_add, Nat.reduceAdd]
  refine wpPi_any (v := ?_) rfl (fun w' => ?_) ?_; rotate_left; · (go_simp; try with_reducible rfl)
  simp only [pl, pn, el, ec, sz, ss, gz, gs, if_true, if_false, Bool.false_eq_true, Bool.not_true, Bool.not_false, Nat.add_zero, Nat.zero_add, Nat.reduceAdd]
  refine wpPi_any (v := ?_) rfl (fun w' => ?_) ?_; rotate_left; · (go_simp; try with_reducible rfl)
  simp only [pl, pn, el, ec, sz, ss, gz, gs, if_true, if_false, Bool.false_eq_true, Bool.not_true, Bool.not_false, Nat.add_zero, Nat.zero_add, Nat.reduceAdd]
  refine wpPi_assign _ rfl rfl ?_
  simp only [pl, pn, el, ec, sz, ss, gz, gs, if_true, if_false, Bool.false_eq_true, Bool.not_true, Bool.not_false, Nat.add_zero, Nat.zero_add, Nat.reduceAdd]
  refine wpPi_assign _ rfl rfl ?_
  simp only [pl, pn, el, ec, sz, ss, gz, gs, if_true, if_false, Bool.false_eq_true, Bool.not_true, Bool.not_false, Nat.add_zero, Nat.zero_add, Nat.reduceAdd]
  refine wpPi_nil ?_
  have hM13 := (hM5.trans0 hm12).trans0 hm13
  have hM13s := hM13.size
  have hM5s := hM5.size
  clear hm12 hm13 hM5 HC1 HC2 HD1 HD2
  go_upto_region 9 with (fail)
  refine wp_region_seq [3, 3, 1, 3, 3, 3, 3, 3, 3] (fun _ => True) (by rfl) (by rfl) trivial ?_
  simp only [List.zip_cons_cons, List.zip_nil_right]
  refine wpPi_move _ rfl rfl ?_
  simp only [pl, pn, el, ec, sz, ss, gz, gs, if_true, if_false, Bool.false_eq_true, Bool.not_true, Bool.not_false, Nat.add_zero, Nat.zero_add, Nat.reduceAdd]
  refine wpPi_move _ rfl rfl ?_
  simp only [pl, pn, el, ec, sz, ss, gz, gs, if_true, if_false, Bool.false_eq_true, Bool.not_true, Bool.not_false, Nat.add_zero, Nat.zero_add, Nat.reduceAdd]
  refine wpPi_do rfl (fun K hK => ?_)
  refine wp_gat strEnc _ _ 26 9 (.string ⟨#[]⟩) 1 16 (by rfl) Try.underlying26 str_i (by kernel_rfl) (by omega) strEnc_one w.heap.size _ _ (by rfl) (hg12.base hM5s) vr _ (by rfl) hg13.src (by unfold maxLen; omega) (by omega) hM13s (fun v14 w14 hg14 hm14 => ?_)
  have hM14 : Mod NoB w w14 := hM13.trans hm14 (fun k hk e => by have := (hg12.lt e).1; omega)
  refine hK _ _ trivial ?_
  clear hK K
  try simp only [pl, pn, el, ec, sz, ss, gz, gs, if_true, if_false, Bool.false_eq_true, Bool.not_true, Bool.not_false, Nat.add_zero, Nat.zero_add, Nat.reduceAdd]
  refine wpPi_move _ rfl rfl ?_
  simp only [pl, pn, el, ec, sz, ss, gz, gs, if_true, if_false, Bool.false_eq_true, Bool.not_true, Bool.not_false, Nat.add_zero, Nat.zero_add, Nat.reduceAdd]
  refine wpPi_move _ rfl rfl ?_
  simp only [pl, pn, el, ec, sz, ss, gz, gs, if_true, if_false, Bool.false_eq_true, Bool.not_true, Bool.not_false, Nat.add_zero, Nat.zero_add, Nat.reduceAdd]
  refine wpPi_addR _ _ _ _ (p1.2 : Int) (p2.2 : Int) ((p1.2 + p2.2 : Nat) : Int) rfl rfl rfl rfl (by omega) (by omega) (by omega) ?_
  simp only [pl, pn, el, ec, sz, ss, gz, gs, if_true, if_false, Bool.false_eq_true, Bool.not_true, Bool.not_false, Nat.add_zero, Nat.zero_add, Nat.reduceAdd]
  refine wpPi_addR _ _ _ _ ((p1.2 + p2.2 : Nat) : Int) 1 ((p1.2 + p2.2 + 1 : Nat) : Int) rfl rfl rfl rfl (by omega) (by omega) (by omega) ?_
  simp only [pl, pn, el, ec, sz, ss, gz, gs, if_true, if_false, Bool.false_eq_true, Bool.not_true, Bool.not_false, Nat.add_zero, Nat.zero_add, Nat.reduceAdd]
  refine wpPi_assign _ rfl rfl ?_
  simp only [pl, pn, el, ec, sz, ss, gz, gs, if_true, if_false, Bool.false_eq_true, Bool.not_true, Bool.not_false, Nat.add_zero, Nat.zero_add, Nat.reduceAdd]
  refine wpPi_assign _ rfl rfl ?_
  simp only [pl, pn, el, ec, sz, ss, gz, gs, if_true, if_false, Bool.false_eq_true, Bool.not_true, Bool.not_false, Nat.add_zero, Nat.zero_add, Nat.reduceAdd]
  refine wpPi_nil ?_
  clear hm14 hM13 hg12 hg13
  go_wp2
  go_ret2
  exact ⟨_, rfl, hg14, hM14⟩
theorem refDifferR_any : ∀ (f i : Nat) (a b : List Leaf) (va vb : Value) (w : World), f + i = 256 → Ls w Ever va a → Ls w Ever vb b → Lie i a → Lie i b → Made a → Made b → a.length ≤ 65536 → b.length ≤ 65536 → Calls Try.prog 37 #[va, vb, .int .i64 (i : Int)] w (DifferR w (dif f i a b)) := by
  intro f
  induction f with
  | zero =>
    intro i a b va vb w hi ha hb hpa hpb hma hmb hal hbl
    rcases dif_ways 0 i a b with h | ⟨h, h2⟩ | ⟨g, hg, -⟩
    · exact refDiffer_same 0 i hi ha hb hpa hpb hma hmb hal hbl h
    · exact refDiffer_few 0 i hi ha hb hpa hpb hma hmb hal hbl h h2
    · cases hg
  | succ f ih =>
    intro i a b va vb w hi ha hb hpa hpb hma hmb hal hbl
    rcases dif_ways (f + 1) i a b with h | ⟨h, h2⟩ | ⟨g, hg, h, h2, h3⟩
    · exact refDiffer_same _ i hi ha hb hpa hpb hma hmb hal hbl h
    · exact refDiffer_few _ i hi ha hb hpa hpb hma hmb hal hbl h h2
    · exact refDiffer_more f i hi ha hb hpa hpb hma hmb hal hbl h h2 h3 (fun a' b' va vb w h1 h2 h3 h4 h5 h6 h7 h8 => ih (i + 1) a' b' va vb w (by omega) h1 h2 h3 h4 h5 h6 h7 h8)
end Go.Proofs.Ytchkikmmcmjcgaa

/- The document's tree: Check. (Printed by RtrG.gen.py.) -/
namespace Go.Proofs.Ytchkikmmcmjcgaa
set_option linter.unusedSimpArgs false
set_option linter.unusedVariables false
set_option linter.unnecessarySimpa false
set_option linter.unusedSectionVars false
open Go.RowKit Go.Shelf


def ChkOut {β : Type} (F : Leaf → β) (ls : List Leaf) (w0 : World) (i : Value) (w : World) : Prop := ∃ k : Nat, k ≤ ls.length ∧ i = .int .i64 k ∧ (∀ p q (hp : p < ls.length) (hq : q < ls.length), q < k → p < q → F ls[p] ≠ F ls[q]) ∧ Mod NoB w0 w
def ChkIn {β : Type} (F : Leaf → β) (ls : List Leaf) (k : Nat) (w0 : World) (i : Value) (w : World) : Prop := ∃ j : Nat, j ≤ k ∧ i = .int .i64 j ∧ (∀ p (hp : p < ls.length) (hk : k < ls.length), p < j → F ls[p] ≠ F ls[k]) ∧ Mod NoB w0 w
theorem chkIn_succ {β : Type} {F : Leaf → β} {ls : List Leaf} {k j : Nat} (hk : k < ls.length) (h : ∀ p (hp : p < ls.length) (hk : k < ls.length), p < j → F ls[p] ≠ F ls[k]) (hj : j < ls.length) (e : ¬ F ls[j] = F ls[k]) : ∀ p (hp : p < ls.length) (hk : k < ls.length), p < j + 1 → F ls[p] ≠ F ls[k] := fun p hp hk' h1 => by
  rcases Nat.lt_or_ge p j with h2 | h2
  · exact h p hp hk' h2
  · obtain rfl : p = j := by omega
    exact e
theorem chkOut_succ {β : Type} {F : Leaf → β} {ls : List Leaf} {k : Nat} (h : ∀ p q (hp : p < ls.length) (hq : q < ls.length), q < k → p < q → F ls[p] ≠ F ls[q]) (hk : k < ls.length) (h2 : ∀ p (hp : p < ls.length) (hk : k < ls.length), p < k → F ls[p] ≠ F ls[k]) : ∀ p q (hp : p < ls.length) (hq : q < ls.length), q < k + 1 → p < q → F ls[p] ≠ F ls[q] := fun p q hp hq h1 h3 => by
  rcases Nat.lt_or_ge q k with h4 | h4
  · exact h p q hp hq h4 h3
  · obtain rfl : q = k := by omega
    exact h2 p hp hk h3
theorem nodup_all {β : Type} {F : Leaf → β} {ls : List Leaf} (h : ∀ p q (hp : p < ls.length) (hq : q < ls.length), q < ls.length → p < q → F ls[p] ≠ F ls[q]) : (ls.map F).Nodup := by
  unfold List.Nodup
  rw [List.pairwise_map, List.pairwise_iff_getElem]
  exact fun i j hi hj hij => h i j hi hj hj hij
theorem not_nodup {β : Type} {F : Leaf → β} {ls : List Leaf} {p q : Nat} (hp : p < ls.length) (hq : q < ls.length) (h : p < q) (e : F ls[p] = F ls[q]) : ¬ (ls.map F).Nodup := by
  unfold List.Nodup
  rw [List.pairwise_map, List.pairwise_iff_getElem]
  exact fun k => k p q hp hq h e
theorem keys_leaves (l : List Ent) : (leavesE l).map (fun z => z.key) = l.map (·.1) := by simp [leavesE, leafOf, List.map_map, Function.comp_def]
section
variable {l : List Ent} {ls : List Leaf}
theorem chk_key (hlen : l.length ≤ 4096) (hls : ls = leavesE l) {p q : Nat} (hp : p < ls.length) (hq : q < ls.length) (h : p < q) (e : ls[p].key = ls[q].key) : chkE l = 19 := by
  subst hls
  have := not_nodup (F := fun z : Leaf => z.key) hp hq h e
  rw [keys_leaves] at this
  unfold chkE
  rw [if_neg (by omega), if_pos this]
theorem chk_way (hlen : l.length ≤ 4096) (hls : ls = leavesE l) (hk : (ls.map (fun z => z.key)).Nodup) {p q : Nat} (hp : p < ls.length) (hq : q < ls.length) (h : p < q) (e : ls[p].way = ls[q].way) : chkE l = 9 := by
  subst hls
  have := not_nodup (F := fun z : Leaf => z.way) hp hq h e
  rw [keys_leaves] at hk
  unfold chkE
  rw [if_neg (by omega), if_neg (fun h => h hk), if_pos this]
theorem chk_ok (hlen : l.length ≤ 4096) (hls : ls = leavesE l) (hk : (ls.map (fun z => z.key)).Nodup) (hw : (ls.map (fun z => z.way)).Nodup) : chkE l = 0 := by
  subst hls
  rw [keys_leaves] at hk
  exact chkE_of hlen hk hw
end
set_option maxRecDepth 10000 in
set_option maxHeartbeats 1000000 in
theorem refCheck_any {own : Bool} {w : World} {G : Nat → Prop} {v : Value} {l : List Ent} (h : Es own w G v l) (hs : Short l) (hlen : l.length ≤ 4096) : Calls Try.prog 35 #[v] w (RetM (.int .i64 ((chkE l : Nat) : Int)) w) := by
  have HE := Lib.hid h
  obtain ⟨ad, cap, rfl, hlm, -⟩ := Sl.at h
  clear h
  have hz0 : ¬ ((l.length : Nat) : Int) > 4096 := by omega
  go_enter Try.func35, Try.ntmps35
  go_upto_region 3 with (fail)
  refine wp_region_seq [3, 1, 3] (fun _ => True) (by rfl) (by rfl) trivial ?_
  simp only [List.zip_cons_cons, List.zip_nil_right]
  refine wpPi_move _ rfl rfl ?_
  simp only [pl, pn, el, ec, sz, ss, gz, gs, if_true, if_false, Bool.false_eq_true, Bool.not_true, Bool.not_false, Nat.add_zero, Nat.zero_add, Nat.reduceAdd]
  refine wpPi_do rfl (fun K hK => ?_)
  refine wp_enterQ (run_call 36 [.tmp 11] _ rfl _ Try.func36 rfl (by kernel_rfl) [.slice ad l.length cap] rfl _) (refLeaves_any HE.out hs hlen) ?_
  rintro e w3 ⟨v3, rfl, hg3, hM3⟩
  refine ⟨_, rfl, hK _ _ trivial ?_⟩
  clear hK K
  try simp only [pl, pn, el, ec, sz, ss, gz, gs, if_true, if_false, Bool.false_eq_true, Bool.not_true, Bool.not_false, Nat.add_zero, Nat.zero_add, Nat.reduceAdd]
  refine wpPi_assign _ rfl rfl ?_
  simp only [pl, pn, el, ec, sz, ss, gz, gs, if_true, if_false, Bool.false_eq_true, Bool.not_true, Bool.not_false, Nat.add_zero, Nat.zero_add, Nat.reduceAdd]
  refine wpPi_nil ?_
  have hl3 := gat_ls hg3
  rw [leafS_leaves] at hl3
  have hln : (leavesE l).length = l.length := by simp [leavesE]
  obtain ⟨ls, hls⟩ : ∃ q, q = leavesE l := ⟨_, rfl⟩
  rw [← hls] at hl3 hln
  obtain ⟨ad3, cap3, rfl, hlsm, -⟩ := Sl.at hl3
  have HS := Lib.hid hl3
  have HLS := Lib.hid hls
  clear hg3 hl3 hls HE hz0 hln
  go_wp2
  go_loopw [4] (ChkOut (fun z : Leaf => z.key) ls w3) (fun i _ => ls.length - (intOf i).toNat)
  case atStart => exact ⟨0, by omega, rfl, fun p q _ _ h => by omega, Mod.refl _ _⟩
  case round =>
    rename World => wo
    obtain ⟨k, hk, rfl, hall, hmo⟩ := hrel
    have HALL := Lib.hid hall
    clear hall
    by_cases hlt : k < ls.length
    · have hz : (k : Int) < (ls.length : Int) := by omega
      go_wp2
      go_loopw [5] (ChkIn (fun z : Leaf => z.key) ls k wo) (fun i _ => k - (intOf i).toNat)
      case atStart => exact ⟨0, by omega, rfl, fun p _ _ h => by omega, Mod.refl _ _⟩
      case round =>
        rename World => wq
        obtain ⟨j, hj, rfl, hin, hmi⟩ := hrel
        have HIN := Lib.hid hin
        clear hin
        by_cases hlj0 : j < k
        · have hz2 : (j : Int) < (k : Int) := by omega
          have hlj : j < ls.length := by omega
          obtain ⟨_, _, hv, -, hat⟩ := Sl.at (HS.out.keep0 (hmo.trans0 hmi))
          cases hv
          obtain ⟨b, off, rfl, -, -, hc⟩ := hat k hlt
          obtain ⟨_, -, ⟨rfl, hok1⟩, hc1⟩ := hc j hlj
          obtain ⟨_, -, ⟨rfl, hok2⟩, hc2⟩ := hc k hlt
          have hk1 := leaf_key hc1
          have hk2 := leaf_key hc2
          have hw1 := leaf_way hok1 hc1
          have hw2 := leaf_way hok2 hc2
          have hxl := hok1.1
          have hyl := hok2.1
          rw [Nat.add_zero] at hk1 hk2
          have hxr : (idCells ls[j].way).size = 32 := by rw [idCells_size, hxl]
          have hyr : (idCells ls[k].way).size = 32 := by rw [idCells_size, hyl]
          have HBAD := Lib.hid (fun (e : (fun z : Leaf => z.key) ls[j] = (fun z : Leaf => z.key) ls[k]) => chk_key hlen HLS.out hlj hlt hlj0 e)
          have HNX := Lib.hid (fun (e : ¬ (fun z : Leaf => z.key) ls[j] = (fun z : Leaf => z.key) ls[k]) => chkIn_succ (F := fun z : Leaf => z.key) hlt HIN.out hlj e)
          generalize ls[j] = x at *
          generalize ls[k] = y at *
          clear hat hc hok1 hok2 hc1 hc2
          go_upto_region 10 with (fail)
          have hS : Mod NoB wq wq.drew := (Mod.refl _ _).drew
          by_cases hxy : (fun z : Leaf => z.key) x = (fun z : Leaf => z.key) y
          · have hres := HBAD.out hxy
            have HRES := Lib.hid hres
            simp only at hxy
            clear hres HNX HBAD HIN HALL
            refine wp_region_pi [(0, 3), (1, 3), (2, 3), (3, 3), (4, 0), (5, 3), (6, 3), (7, 3), (8, 3), (9, 0), (10, 0)] [] (fun w' => Mod NoB wq w') (by kernel_rfl) (by kernel_rfl) (by kernel_rfl) (by kernel_rfl) (fun _ _ _ _ hd h => ⟨hd.trans h.1, h.2⟩) hS ?_
            simp only [List.map_cons, List.map_nil, List.getD_cons_zero, List.getD_cons_succ]
            refine wpPi_move _ rfl rfl ?_
            simp only [pl, pn, el, ec, sz, ss, gz, gs, if_true, if_false, Bool.false_eq_true, Bool.not_true, Bool.not_false, Nat.add_zero, Nat.zero_add, Nat.reduceAdd]
            refine wpPi_move _ rfl rfl ?_
            simp only [pl, pn, el, ec, sz, ss, gz, gs, if_true, if_false, Bool.false_eq_true, Bool.not_true, Bool.not_false, Nat.add_zero, Nat.zero_add, Nat.reduceAdd]
            refine wpPi_index _ _ _ _ _ _ _ _ _ rfl rfl rfl rfl Try.underlying71 (n := 65) (by kernel_rfl) hlj ?_
            simp only [pl, pn, el, ec, sz, ss, gz, gs, if_true, if_false, Bool.false_eq_true, Bool.not_true, Bool.not_false, Nat.add_zero, Nat.zero_add, Nat.reduceAdd]
            refine wpPi_field _ _ _ _ _ _ rfl rfl rfl fo_74_0 ?_
            simp only [pl, pn, el, ec, sz, ss, gz, gs, if_true, if_false, Bool.false_eq_true, Bool.not_true, Bool.not_false, Nat.add_zero, Nat.zero_add, Nat.reduceAdd]
            refine wpPi_val rfl (fun w' hS => exec_load1 9 _ (by rfl) b (off + j * 65) (by rfl) (.string x.key) (hS.cell id hk1) _ Try.underlying9 rfl) ?_
            simp only [pl, pn, el, ec, sz, ss, gz, gs, if_true, if_false, Bool.false_eq_true, Bool.not_true, Bool.not_false, Nat.add_zero, Nat.zero_add, Nat.reduceAdd]
            refine wpPi_move _ rfl rfl ?_
            simp only [pl, pn, el, ec, sz, ss, gz, gs, if_true, if_false, Bool.false_eq_true, Bool.not_true, Bool.not_false, Nat.add_zero, Nat.zero_add, Nat.reduceAdd]
            refine wpPi_move _ rfl rfl ?_
            simp only [pl, pn, el, ec, sz, ss, gz, gs, if_true, if_false, Bool.false_eq_true, Bool.not_true, Bool.not_false, Nat.add_zero, Nat.zero_add, Nat.reduceAdd]
            refine wpPi_index _ _ _ _ _ _ _ _ _ rfl rfl rfl rfl Try.underlying71 (n := 65) (by kernel_rfl) hlt ?_
            simp only [pl, pn, el, ec, sz, ss, gz, gs, if_true, if_false, Bool.false_eq_true, Bool.not_true, Bool.not_false, Nat.add_zero, Nat.zero_add, Nat.reduceAdd]
            refine wpPi_field _ _ _ _ _ _ rfl rfl rfl fo_74_0 ?_
            simp only [pl, pn, el, ec, sz, ss, gz, gs, if_true, if_false, Bool.false_eq_true, Bool.not_true, Bool.not_false, Nat.add_zero, Nat.zero_add, Nat.reduceAdd]
            refine wpPi_val rfl (fun w' hS => exec_load1 9 _ (by rfl) b (off + k * 65) (by rfl) (.string y.key) (hS.cell id hk2) _ Try.underlying9 rfl) ?_
            simp only [pl, pn, el, ec, sz, ss, gz, gs, if_true, if_false, Bool.false_eq_true, Bool.not_true, Bool.not_false, Nat.add_zero, Nat.zero_add, Nat.reduceAdd]
            refine wpPi_val rfl (fun w' hS => exec_eql_str _ _ _ _ rfl x.key y.key rfl rfl true (decide_eq_true hxy)) ?_
            simp only [pl, pn, el, ec, sz, ss, gz, gs, if_true, if_false, Bool.false_eq_true, Bool.not_true, Bool.not_false, Nat.add_zero, Nat.zero_add, Nat.reduceAdd]
            refine wpPi_nil ?_
            have hMr := (((hM3.trans0 hmo).trans0 hmi).trans0 hS)
            clear hS hmi hmo
            go_wp2
            go_ret
            exact ⟨by rw [HRES.out]; rfl, hMr⟩
          · have hnx := HNX.out hxy
            have HN := Lib.hid hnx
            simp only at hxy
            clear hnx HNX HBAD HIN
            refine wp_region_pi [(0, 3), (1, 3), (2, 3), (3, 3), (4, 0), (5, 3), (6, 3), (7, 3), (8, 3), (9, 0), (10, 0)] [] (fun w' => Mod NoB wq w') (by kernel_rfl) (by kernel_rfl) (by kernel_rfl) (by kernel_rfl) (fun _ _ _ _ hd h => ⟨hd.trans h.1, h.2⟩) hS ?_
            simp only [List.map_cons, List.map_nil, List.getD_cons_zero, List.getD_cons_succ]
            refine wpPi_move _ rfl rfl ?_
            simp only [pl, pn, el, ec, sz, ss, gz, gs, if_true, if_false, Bool.false_eq_true, Bool.not_true, Bool.not_false, Nat.add_zero, Nat.zero_add, Nat.reduceAdd]
            refine wpPi_move _ rfl rfl ?_
            simp only [pl, pn, el, ec, sz, ss, gz, gs, if_true, if_false, Bool.false_eq_true, Bool.not_true, Bool.not_false, Nat.add_zero, Nat.zero_add, Nat.reduceAdd]
            refine wpPi_index _ _ _ _ _ _ _ _ _ rfl rfl rfl rfl Try.underlying71 (n := 65) (by kernel_rfl) hlj ?_
            simp only [pl, pn, el, ec, sz, ss, gz, gs, if_true, if_false, Bool.false_eq_true, Bool.not_true, Bool.not_false, Nat.add_zero, Nat.zero_add, Nat.reduceAdd]
            refine wpPi_field _ _ _ _ _ _ rfl rfl rfl fo_74_0 ?_
            simp only [pl, pn, el, ec, sz, ss, gz, gs, if_true, if_false, Bool.false_eq_true, Bool.not_true, Bool.not_false, Nat.add_zero, Nat.zero_add, Nat.reduceAdd]
            refine wpPi_val rfl (fun w' hS => exec_load1 9 _ (by rfl) b (off + j * 65) (by rfl) (.string x.key) (hS.cell id hk1) _ Try.underlying9 rfl) ?_
            simp only [pl, pn, el, ec, sz, ss, gz, gs, if_true, if_false, Bool.false_eq_true, Bool.not_true, Bool.not_false, Nat.add_zero, Nat.zero_add, Nat.reduceAdd]
            refine wpPi_move _ rfl rfl ?_
            simp only [pl, pn, el, ec, sz, ss, gz, gs, if_true, if_false, Bool.false_eq_true, Bool.not_true, Bool.not_false, Nat.add_zero, Nat.zero_add, Nat.reduceAdd]
            refine wpPi_move _ rfl rfl ?_
            simp only [pl, pn, el, ec, sz, ss, gz, gs, if_true, if_false, Bool.false_eq_true, Bool.not_true, Bool.not_false, Nat.add_zero, Nat.zero_add, Nat.reduceAdd]
            refine wpPi_index _ _ _ _ _ _ _ _ _ rfl rfl rfl rfl Try.underlying71 (n := 65) (by kernel_rfl) hlt ?_
            simp only [pl, pn, el, ec, sz, ss, gz, gs, if_true, if_false, Bool.false_eq_true, Bool.not_true, Bool.not_false, Nat.add_zero, Nat.zero_add, Nat.reduceAdd]
            refine wpPi_field _ _ _ _ _ _ rfl rfl rfl fo_74_0 ?_
            simp only [pl, pn, el, ec, sz, ss, gz, gs, if_true, if_false, Bool.false_eq_true, Bool.not_true, Bool.not_false, Nat.add_zero, Nat.zero_add, Nat.reduceAdd]
            refine wpPi_val rfl (fun w' hS => exec_load1 9 _ (by rfl) b (off + k * 65) (by rfl) (.string y.key) (hS.cell id hk2) _ Try.underlying9 rfl) ?_
            simp only [pl, pn, el, ec, sz, ss, gz, gs, if_true, if_false, Bool.false_eq_true, Bool.not_true, Bool.not_false, Nat.add_zero, Nat.zero_add, Nat.reduceAdd]
            refine wpPi_val rfl (fun w' hS => exec_eql_str _ _ _ _ rfl x.key y.key rfl rfl false (decide_eq_false hxy)) ?_
            simp only [pl, pn, el, ec, sz, ss, gz, gs, if_true, if_false, Bool.false_eq_true, Bool.not_true, Bool.not_false, Nat.add_zero, Nat.zero_add, Nat.reduceAdd]
            refine wpPi_nil ?_
            go_wp2
            go_roundw
            case rel => exact ⟨j + 1, by omega, by go_num, HN.out, hmi.trans0 hS⟩
            case measure => simp [intOf]; omega
        · have hz2 : ¬ (j : Int) < (k : Int) := by omega
          obtain rfl : j = k := by omega
          have HN := Lib.hid (chkOut_succ (F := fun z : Leaf => z.key) HALL.out hlt HIN.out)
          clear HALL HIN
          go_wp2
          go_roundw
          case rel => exact ⟨j + 1, by omega, by go_num, HN.out, hmo.trans0 hmi⟩
          case measure => simp [intOf]; omega
    · have hz : ¬ (k : Int) < (ls.length : Int) := by omega
      obtain rfl : k = ls.length := by omega
      have HKND := Lib.hid (nodup_all (F := fun z : Leaf => z.key) HALL.out)
      have hM3o := hM3.trans0 hmo
      replace HS := Lib.hid (HS.out.keep0 hmo)
      clear hM3 HALL hmo hk hlt hz
      have hM3 := hM3o
      clear hM3o
      obtain ⟨w3x, hw3x⟩ : ∃ q, q = wo := ⟨_, rfl⟩
      rw [← hw3x] at HS hM3 ⊢
      clear hw3x
      go_wp2

      go_loopw [6] (ChkOut (fun z : Leaf => z.way) ls w3x) (fun i _ => ls.length - (intOf i).toNat)
      case atStart => exact ⟨0, by omega, rfl, fun p q _ _ h => by omega, Mod.refl _ _⟩
      case round =>
        rename World => wo
        obtain ⟨k, hk, rfl, hall, hmo⟩ := hrel
        have HALL := Lib.hid hall
        clear hall
        by_cases hlt : k < ls.length
        · have hz : (k : Int) < (ls.length : Int) := by omega
          go_wp2
          go_loopw [7] (ChkIn (fun z : Leaf => z.way) ls k wo) (fun i _ => k - (intOf i).toNat)
          case atStart => exact ⟨0, by omega, rfl, fun p _ _ h => by omega, Mod.refl _ _⟩
          case round =>
            rename World => wq
            obtain ⟨j, hj, rfl, hin, hmi⟩ := hrel
            have HIN := Lib.hid hin
            clear hin
            by_cases hlj0 : j < k
            · have hz2 : (j : Int) < (k : Int) := by omega
              have hlj : j < ls.length := by omega
              obtain ⟨_, _, hv, -, hat⟩ := Sl.at (HS.out.keep0 (hmo.trans0 hmi))
              cases hv
              obtain ⟨b, off, rfl, -, -, hc⟩ := hat k hlt
              obtain ⟨_, -, ⟨rfl, hok1⟩, hc1⟩ := hc j hlj
              obtain ⟨_, -, ⟨rfl, hok2⟩, hc2⟩ := hc k hlt
              have hk1 := leaf_key hc1
              have hk2 := leaf_key hc2
              have hw1 := leaf_way hok1 hc1
              have hw2 := leaf_way hok2 hc2
              have hxl := hok1.1
              have hyl := hok2.1
              rw [Nat.add_zero] at hk1 hk2
              have hxr : (idCells ls[j].way).size = 32 := by rw [idCells_size, hxl]
              have hyr : (idCells ls[k].way).size = 32 := by rw [idCells_size, hyl]
              have HBAD := Lib.hid (fun (e : (fun z : Leaf => z.way) ls[j] = (fun z : Leaf => z.way) ls[k]) => chk_way hlen HLS.out HKND.out hlj hlt hlj0 e)
              have HNX := Lib.hid (fun (e : ¬ (fun z : Leaf => z.way) ls[j] = (fun z : Leaf => z.way) ls[k]) => chkIn_succ (F := fun z : Leaf => z.way) hlt HIN.out hlj e)
              generalize ls[j] = x at *
              generalize ls[k] = y at *
              clear hat hc hok1 hok2 hc1 hc2
              go_upto_region 18 with (fail)
              have hS : Mod NoB wq wq.drew := (Mod.refl _ _).drew
              by_cases hxy : (fun z : Leaf => z.way) x = (fun z : Leaf => z.way) y
              · have hres := HBAD.out hxy
                have HRES := Lib.hid hres
                simp only at hxy
                clear hres HNX HBAD HIN HALL
                refine wp_region_pi [(0, 3), (1, 3), (2, 3), (3, 3), (4, 0), (5, 3), (6, 3), (7, 3), (8, 3), (9, 0), (10, 0)] [] (fun w' => Mod NoB wq w') (by kernel_rfl) (by kernel_rfl) (by kernel_rfl) (by kernel_rfl) (fun _ _ _ _ hd h => ⟨hd.trans h.1, h.2⟩) hS ?_
                simp only [List.map_cons, List.map_nil, List.getD_cons_zero, List.getD_cons_succ]
                refine wpPi_move _ rfl rfl ?_
                simp only [pl, pn, el, ec, sz, ss, gz, gs, if_true, if_false, Bool.false_eq_true, Bool.not_true, Bool.not_false, Nat.add_zero, Nat.zero_add, Nat.reduceAdd]
                refine wpPi_move _ rfl rfl ?_
                simp only [pl, pn, el, ec, sz, ss, gz, gs, if_true, if_false, Bool.false_eq_true, Bool.not_true, Bool.not_false, Nat.add_zero, Nat.zero_add, Nat.reduceAdd]
                refine wpPi_index _ _ _ _ _ _ _ _ _ rfl rfl rfl rfl Try.underlying71 (n := 65) (by kernel_rfl) hlj ?_
                simp only [pl, pn, el, ec, sz, ss, gz, gs, if_true, if_false, Bool.false_eq_true, Bool.not_true, Bool.not_false, Nat.add_zero, Nat.zero_add, Nat.reduceAdd]
                refine wpPi_field _ _ _ _ _ _ rfl rfl rfl fo_74_1 ?_
                simp only [pl, pn, el, ec, sz, ss, gz, gs, if_true, if_false, Bool.false_eq_true, Bool.not_true, Bool.not_false, Nat.add_zero, Nat.zero_add, Nat.reduceAdd]
                refine wpPi_val rfl (fun w' hS => exec_loadA 38 _ (by rfl) b (off + j * 65 + 1) (by rfl) (idCells x.way) (hw1.keep hS id) _ Try.underlying38 rfl 32 (by kernel_rfl) hxr) ?_
                simp only [pl, pn, el, ec, sz, ss, gz, gs, if_true, if_false, Bool.false_eq_true, Bool.not_true, Bool.not_false, Nat.add_zero, Nat.zero_add, Nat.reduceAdd]
                refine wpPi_move _ rfl rfl ?_
                simp only [pl, pn, el, ec, sz, ss, gz, gs, if_true, if_false, Bool.false_eq_true, Bool.not_true, Bool.not_false, Nat.add_zero, Nat.zero_add, Nat.reduceAdd]
                refine wpPi_move _ rfl rfl ?_
                simp only [pl, pn, el, ec, sz, ss, gz, gs, if_true, if_false, Bool.false_eq_true, Bool.not_true, Bool.not_false, Nat.add_zero, Nat.zero_add, Nat.reduceAdd]
                refine wpPi_index _ _ _ _ _ _ _ _ _ rfl rfl rfl rfl Try.underlying71 (n := 65) (by kernel_rfl) hlt ?_
                simp only [pl, pn, el, ec, sz, ss, gz, gs, if_true, if_false, Bool.false_eq_true, Bool.not_true, Bool.not_false, Nat.add_zero, Nat.zero_add, Nat.reduceAdd]
                refine wpPi_field _ _ _ _ _ _ rfl rfl rfl fo_74_1 ?_
                simp only [pl, pn, el, ec, sz, ss, gz, gs, if_true, if_false, Bool.false_eq_true, Bool.not_true, Bool.not_false, Nat.add_zero, Nat.zero_add, Nat.reduceAdd]
                refine wpPi_val rfl (fun w' hS => exec_loadA 38 _ (by rfl) b (off + k * 65 + 1) (by rfl) (idCells y.way) (hw2.keep hS id) _ Try.underlying38 rfl 32 (by kernel_rfl) hyr) ?_
                simp only [pl, pn, el, ec, sz, ss, gz, gs, if_true, if_false, Bool.false_eq_true, Bool.not_true, Bool.not_false, Nat.add_zero, Nat.zero_add, Nat.reduceAdd]
                refine wpPi_val rfl (fun w' hS => exec_eql_id _ _ _ _ rfl x.way y.way rfl rfl 32 5 Try.underlying38 Try.underlying5 (by kernel_rfl) (by kernel_rfl) hxl hyl true (decide_eq_true hxy)) ?_
                simp only [pl, pn, el, ec, sz, ss, gz, gs, if_true, if_false, Bool.false_eq_true, Bool.not_true, Bool.not_false, Nat.add_zero, Nat.zero_add, Nat.reduceAdd]
                refine wpPi_nil ?_
                have hMr := (((hM3.trans0 hmo).trans0 hmi).trans0 hS)
                clear hS hmi hmo
                go_wp2
                go_ret
                exact ⟨by rw [HRES.out]; rfl, hMr⟩
              · have hnx := HNX.out hxy
                have HN := Lib.hid hnx
                simp only at hxy
                clear hnx HNX HBAD HIN
                refine wp_region_pi [(0, 3), (1, 3), (2, 3), (3, 3), (4, 0), (5, 3), (6, 3), (7, 3), (8, 3), (9, 0), (10, 0)] [] (fun w' => Mod NoB wq w') (by kernel_rfl) (by kernel_rfl) (by kernel_rfl) (by kernel_rfl) (fun _ _ _ _ hd h => ⟨hd.trans h.1, h.2⟩) hS ?_
                simp only [List.map_cons, List.map_nil, List.getD_cons_zero, List.getD_cons_succ]
                refine wpPi_move _ rfl rfl ?_
                simp only [pl, pn, el, ec, sz, ss, gz, gs, if_true, if_false, Bool.false_eq_true, Bool.not_true, Bool.not_false, Nat.add_zero, Nat.zero_add, Nat.reduceAdd]
                refine wpPi_move _ rfl rfl ?_
                simp only [pl, pn, el, ec, sz, ss, gz, gs, if_true, if_false, Bool.false_eq_true, Bool.not_true, Bool.not_false, Nat.add_zero, Nat.zero_add, Nat.reduceAdd]
                refine wpPi_index _ _ _ _ _ _ _ _ _ rfl rfl rfl rfl Try.underlying71 (n := 65) (by kernel_rfl) hlj ?_
                simp only [pl, pn, el, ec, sz, ss, gz, gs, if_true, if_false, Bool.false_eq_true, Bool.not_true, Bool.not_false, Nat.add_zero, Nat.zero_add, Nat.reduceAdd]
                refine wpPi_field _ _ _ _ _ _ rfl rfl rfl fo_74_1 ?_
                simp only [pl, pn, el, ec, sz, ss, gz, gs, if_true, if_false, Bool.false_eq_true, Bool.not_true, Bool.not_false, Nat.add_zero, Nat.zero_add, Nat.reduceAdd]
                refine wpPi_val rfl (fun w' hS => exec_loadA 38 _ (by rfl) b (off + j * 65 + 1) (by rfl) (idCells x.way) (hw1.keep hS id) _ Try.underlying38 rfl 32 (by kernel_rfl) hxr) ?_
                simp only [pl, pn, el, ec, sz, ss, gz, gs, if_true, if_false, Bool.false_eq_true, Bool.not_true, Bool.not_false, Nat.add_zero, Nat.zero_add, Nat.reduceAdd]
                refine wpPi_move _ rfl rfl ?_
                simp only [pl, pn, el, ec, sz, ss, gz, gs, if_true, if_false, Bool.false_eq_true, Bool.not_true, Bool.not_false, Nat.add_zero, Nat.zero_add, Nat.reduceAdd]
                refine wpPi_move _ rfl rfl ?_
                simp only [pl, pn, el, ec, sz, ss, gz, gs, if_true, if_false, Bool.false_eq_true, Bool.not_true, Bool.not_false, Nat.add_zero, Nat.zero_add, Nat.reduceAdd]
                refine wpPi_index _ _ _ _ _ _ _ _ _ rfl rfl rfl rfl Try.underlying71 (n := 65) (by kernel_rfl) hlt ?_
                simp only [pl, pn, el, ec, sz, ss, gz, gs, if_true, if_false, Bool.false_eq_true, Bool.not_true, Bool.not_false, Nat.add_zero, Nat.zero_add, Nat.reduceAdd]
                refine wpPi_field _ _ _ _ _ _ rfl rfl rfl fo_74_1 ?_
                simp only [pl, pn, el, ec, sz, ss, gz, gs, if_true, if_false, Bool.false_eq_true, Bool.not_true, Bool.not_false, Nat.add_zero, Nat.zero_add, Nat.reduceAdd]
                refine wpPi_val rfl (fun w' hS => exec_loadA 38 _ (by rfl) b (off + k * 65 + 1) (by rfl) (idCells y.way) (hw2.keep hS id) _ Try.underlying38 rfl 32 (by kernel_rfl) hyr) ?_
                simp only [pl, pn, el, ec, sz, ss, gz, gs, if_true, if_false, Bool.false_eq_true, Bool.not_true, Bool.not_false, Nat.add_zero, Nat.zero_add, Nat.reduceAdd]
                refine wpPi_val rfl (fun w' hS => exec_eql_id _ _ _ _ rfl x.way y.way rfl rfl 32 5 Try.underlying38 Try.underlying5 (by kernel_rfl) (by kernel_rfl) hxl hyl false (decide_eq_false hxy)) ?_
                simp only [pl, pn, el, ec, sz, ss, gz, gs, if_true, if_false, Bool.false_eq_true, Bool.not_true, Bool.not_false, Nat.add_zero, Nat.zero_add, Nat.reduceAdd]
                refine wpPi_nil ?_
                go_wp2
                go_roundw
                case rel => exact ⟨j + 1, by omega, by go_num, HN.out, hmi.trans0 hS⟩
                case measure => simp [intOf]; omega
            · have hz2 : ¬ (j : Int) < (k : Int) := by omega
              obtain rfl : j = k := by omega
              have HN := Lib.hid (chkOut_succ (F := fun z : Leaf => z.way) HALL.out hlt HIN.out)
              clear HALL HIN
              go_wp2
              go_roundw
              case rel => exact ⟨j + 1, by omega, by go_num, HN.out, hmo.trans0 hmi⟩
              case measure => simp [intOf]; omega
        · have hz : ¬ (k : Int) < (ls.length : Int) := by omega
          obtain rfl : k = ls.length := by omega
          have hres := chk_ok hlen HLS.out HKND.out (nodup_all (F := fun z : Leaf => z.way) HALL.out)
          have HRES := Lib.hid hres
          clear hres HALL
          have hMr := hM3.trans0 hmo
          go_wp2
          go_ret
          exact ⟨by rw [HRES.out]; rfl, hMr⟩
end Go.Proofs.Ytchkikmmcmjcgaa

/- The kit's: OverTexts, SameEntries. -/
namespace Go.Proofs.Ytchkikmmcmjcgaa
set_option linter.unusedSimpArgs false
set_option linter.unusedVariables false
set_option linter.unnecessarySimpa false
set_option linter.unusedSectionVars false
open Go.RowKit Go.Shelf


theorem Sl.room {α : Type} {w : World} {G : Nat → Prop} {sz : Nat} {R : Array Value → α → Prop} {v : Value} {l : List α} (h : Sl true w G sz R v l) (hne : l ≠ []) (hz : 0 < sz) :
    ∃ g off cap cur T, v = .slice (some ⟨g, off, none⟩) l.length cap ∧ G g ∧ w.heap[g]? = some (.cells cur T (0, 0)) ∧ off + l.length * sz ≤ cur.size := by
  obtain ⟨a, cap, rfl, hl, hc, h⟩ := h
  obtain ⟨g, off, rfl, hG, ho, h⟩ := h hne
  obtain ⟨cur, T, hrow⟩ := ho rfl
  have hn : 0 < l.length := List.length_pos_iff.2 hne
  obtain ⟨cs, hs, _, hcells⟩ := h (l.length - 1) (by omega)
  have h1 := hcells (sz - 1) (by omega)
  rw [cell_of_row _ _ _ _ _ _ hrow, Array.getElem?_eq_getElem (by omega : sz - 1 < cs.size)] at h1
  refine ⟨g, off, cap, cur, T, rfl, hG, hrow, ?_⟩
  have h2 : (l.length - 1) * sz + sz = l.length * sz := by
    have e : l.length = (l.length - 1) + 1 := by omega
    conv => rhs; rw [e, Nat.succ_mul]
  rcases Nat.lt_or_ge (off + (l.length - 1) * sz + (sz - 1)) cur.size with h3 | h3
  · omega
  · rw [Array.getElem?_eq_none h3] at h1; cases h1
def OverR (S : Nat → Prop) (w : World) (e : Ending) (w' : World) : Prop := e = .returned (.tuple #[]) ∧ Mod S w w'
def OverRel (g : Nat) (T : TypeId) (m : Nat) (w : World) (n : Nat) (i : Value) (w' : World) : Prop := ∃ (k : Nat) (cur : Array Value), k ≤ n ∧ i = .int .i64 k ∧ w'.heap[g]? = some (.cells cur T (0, 0)) ∧ cur.size = m ∧ Mod (fun j => j = g) w w'
def overS : ByteArray := ⟨#[111, 118, 101, 114]⟩
set_option maxRecDepth 10000 in
theorem overTexts_any {G : Nat → Prop} {v : Value} {l : List ByteArray} {w : World} (h : Sl true w G 1 StrC v l) : Calls Try.prog 14 #[v] w (OverR G w) := by
  by_cases hne : l = []
  · subst hne
    obtain ⟨a, cap, rfl, _⟩ := h
    go_enter Try.func14, Try.ntmps14
    go_wp2
    go_loopw [2] (fun i wx => i = .int .i64 0 ∧ wx = w) (fun _ _ => 0)
    case atStart => exact ⟨rfl, rfl⟩
    case round =>
      obtain ⟨rfl, hw⟩ := hrel
      obtain rfl := hw.symm
      go_wp2
      go_end0
      exact ⟨rfl, Mod.refl _ _⟩
  · obtain ⟨g, off, cap, cur0, T, rfl, hG, hrow, hroom⟩ := h.room hne (by omega)
    obtain ⟨_, _, hv, hlen, _⟩ := h.at
    cases hv
    clear h
    go_enter Try.func14, Try.ntmps14
    go_wp2
    go_loopw [2] (OverRel g T cur0.size w l.length) (fun i _ => l.length - (intOf i).toNat)
    case atStart => exact ⟨0, _, by omega, rfl, hrow, rfl, Mod.refl _ _⟩
    case round =>
      obtain ⟨k, cur, hk, rfl, hrow', hsz, hM⟩ := hrel
      by_cases hlt : k < l.length
      · have hz : (k : Int) < (l.length : Int) := by omega
        go_upto_region 3 with (fail)
        refine wp_region_seq [3, 3, 3, 1] (fun _ => True) (by rfl) (by rfl) trivial ?_
        simp only [List.zip_cons_cons, List.zip_nil_right]
        refine wpPi_move _ rfl rfl ?_
        simp only [pl, pn, el, ec, sz, ss, gz, gs, if_true, if_false, Bool.false_eq_true, Bool.not_true, Bool.not_false, Nat.add_zero, Nat.zero_add, Nat.reduceAdd]
        refine wpPi_move _ rfl rfl ?_
        simp only [pl, pn, el, ec, sz, ss, gz, gs, if_true, if_false, Bool.false_eq_true, Bool.not_true, Bool.not_false, Nat.add_zero, Nat.zero_add, Nat.reduceAdd]
        refine wpPi_index _ _ _ _ _ _ _ _ _ rfl rfl rfl rfl Try.underlying26 (n := 1) (by kernel_rfl) hlt ?_
        simp only [pl, pn, el, ec, sz, ss, gz, gs, if_true, if_false, Bool.false_eq_true, Bool.not_true, Bool.not_false, Nat.add_zero, Nat.zero_add, Nat.reduceAdd]
        refine wpPi_do rfl (fun K hK => ?_)
        refine wp_store1 9 _ _ g (off + k * 1) (.string overS) (by rfl) (by rfl) (by rfl) rfl (by kernel_rfl) _ _ hrow' (by omega) (fun w2 hb2 hm2 => ?_)
        have hM2 := hM.trans hm2 (fun _ _ h => h)
        refine hK _ _ trivial ?_
        clear hK K
        try simp only [pl, pn, el, ec, sz, ss, gz, gs, if_true, if_false, Bool.false_eq_true, Bool.not_true, Bool.not_false, Nat.add_zero, Nat.zero_add, Nat.reduceAdd]
        refine wpPi_nil ?_
        clear hM hm2 hrow'
        go_wp2
        go_roundw
        case rel => exact ⟨k + 1, _, by omega, by go_num, hb2, by simpa using hsz, hM2⟩
        case measure => simp [intOf]; omega
      · have hz : ¬ (k : Int) < (l.length : Int) := by omega
        go_wp2
        go_end0
        exact ⟨rfl, hM.mono (fun j _ e => by rw [show j = g from e]; exact hG)⟩
/-- Are all the first k alike? -/
def preE (k : Nat) (a b : List Ent) : Bool := decide (a.take k = b.take k)
def SmERel (a b : List Ent) (w0 : World) (s i : Value) (w : World) : Prop := ∃ k : Nat, k ≤ a.length ∧ i = .int .i64 k ∧ s = .bool (preE k a b) ∧ Mod NoB w0 w
theorem preE_succ {a b : List Ent} {k : Nat} (ha : k < a.length) (hb : k < b.length) : preE (k + 1) a b = (preE k a b && (decide (a[k].1 = b[k].1) && decide (a[k].2 = b[k].2))) := by
  unfold preE
  rw [take_app ha, take_app hb, Bool.eq_iff_iff]
  simp only [decide_eq_true_eq, Bool.and_eq_true]
  constructor
  · intro h
    have h1 := List.append_inj h (by rw [List.length_take, List.length_take]; omega)
    have h2 : a[k] = b[k] := by simpa using h1.2
    exact ⟨h1.1, by rw [h2], by rw [h2]⟩
  · rintro ⟨h1, h2, h3⟩
    rw [h1, Prod.ext h2 h3]
theorem preE_full {a b : List Ent} (h : a.length = b.length) : preE a.length a b = decide (a = b) := by
  unfold preE
  rw [List.take_length, h, List.take_length]
theorem preE_stuck {a b : List Ent} {k : Nat} (h : preE k a b = false) (hl : a.length = b.length) : decide (a = b) = false := by
  rw [decide_eq_false_iff_not]
  rintro rfl
  simp [preE] at h
set_option maxRecDepth 10000 in
set_option maxHeartbeats 1000000 in
theorem sameEs_any {o o' : Bool} {G G' : Nat → Prop} {va vb : Value} {a b : List Ent} {w : World} (ha : Es o w G va a) (hb : Es o' w G' vb b) (hlen : a.length = b.length) : Calls Try.prog 15 #[va, vb] w (RetM (.bool (decide (a = b))) w) := by
  have HA := Lib.hid ha
  have HB := Lib.hid hb
  obtain ⟨aa, ca, rfl, hal, -⟩ := Sl.at ha
  obtain ⟨ab, cb, rfl, -, -⟩ := Sl.at hb
  have e1 : ((a.length : Int) == (b.length : Int)) = true := by simp; omega
  have HL := Lib.hid hlen
  clear ha hb hlen
  go_enter Try.func15, Try.ntmps15
  go_wp2
  go_loopw [5, 6] (SmERel a b w) (fun _ i _ => a.length - (intOf i).toNat)
  case atStart => exact ⟨0, by omega, rfl, by simp [preE], Mod.refl _ _⟩
  case round =>
    rename World => wr
    obtain ⟨k, hk, rfl, rfl, hm⟩ := hrel
    obtain ⟨st, hst⟩ : ∃ t, preE k a b = t := ⟨_, rfl⟩
    rw [hst]
    cases st
    · have HD := Lib.hid (preE_stuck hst HL.out)
      clear hst
      go_upto_region 3 with (fail)
      refine wp_region_seq [3, 3, 3, 3, 3, 3, 3] (fun _ => True) (by rfl) (by rfl) trivial ?_
      simp only [List.zip_cons_cons, List.zip_nil_right]
      refine wpPi_move _ rfl rfl ?_
      simp only [pl, pn, el, ec, sz, ss, gz, gs, if_true, if_false, Bool.false_eq_true, Bool.not_true, Bool.not_false, Nat.add_zero, Nat.zero_add, Nat.reduceAdd]
      refine wpPi_move _ rfl rfl ?_
      simp only [pl, pn, el, ec, sz, ss, gz, gs, if_true, if_false, Bool.false_eq_true, Bool.not_true, Bool.not_false, Nat.add_zero, Nat.zero_add, Nat.reduceAdd]
      refine wpPi_skip rfl ?_
      simp only [pl, pn, el, ec, sz, ss, gz, gs, if_true, if_false, Bool.false_eq_true, Bool.not_true, Bool.not_false, Nat.add_zero, Nat.zero_add, Nat.reduceAdd]
      refine wpPi_skip rfl ?_
      simp only [pl, pn, el, ec, sz, ss, gz, gs, if_true, if_false, Bool.false_eq_true, Bool.not_true, Bool.not_false, Nat.add_zero, Nat.zero_add, Nat.reduceAdd]
      refine wpPi_skip rfl ?_
      simp only [pl, pn, el, ec, sz, ss, gz, gs, if_true, if_false, Bool.false_eq_true, Bool.not_true, Bool.not_false, Nat.add_zero, Nat.zero_add, Nat.reduceAdd]
      refine wpPi_skip rfl ?_
      simp only [pl, pn, el, ec, sz, ss, gz, gs, if_true, if_false, Bool.false_eq_true, Bool.not_true, Bool.not_false, Nat.add_zero, Nat.zero_add, Nat.reduceAdd]
      refine wpPi_pick _ _ _ _ rfl rfl rfl ?_
      simp only [pl, pn, el, ec, sz, ss, gz, gs, if_true, if_false, Bool.false_eq_true, Bool.not_true, Bool.not_false, Nat.add_zero, Nat.zero_add, Nat.reduceAdd]
      refine wpPi_nil ?_
      go_wp2
      go_ret
      exact ⟨by rw [HD.out]; rfl, hm⟩
    · by_cases hlt : k < a.length
      · have hz : (k : Int) < (a.length : Int) := by omega
        have hlt' : k < b.length := by have := HL.out; omega
        have hsc := preE_succ hlt hlt'
        rw [hst, Bool.true_and] at hsc
        have HSC := Lib.hid hsc
        obtain ⟨_, _, hv, -, hat⟩ := Sl.at (HA.out.keep0 hm)
        cases hv
        obtain ⟨b1, off1, rfl, -, -, hc⟩ := hat k hlt
        obtain ⟨cs1, -, ⟨v1, rfl, hs1⟩, hc⟩ := hc k hlt
        have hk1 := hc.cell (j := 0) (v := .string a[k].1) rfl
        have hv1 := hc.cell (j := 1) (v := v1) rfl
        clear hat hc
        obtain ⟨_, _, hv, -, hat⟩ := Sl.at (HB.out.keep0 hm)
        cases hv
        obtain ⟨b2, off2, rfl, -, -, hc⟩ := hat k hlt'
        obtain ⟨cs2, -, ⟨v2, rfl, hs2⟩, hc⟩ := hc k hlt'
        have hk2 := hc.cell (j := 0) (v := .string b[k].1) rfl
        have hv2 := hc.cell (j := 1) (v := v2) rfl
        rw [Nat.add_zero] at hk1 hk2
        have HS1 := Lib.hid hs1
        have HS2 := Lib.hid hs2
        obtain ⟨a1, c1, rfl, -, -⟩ := Sl.at hs1
        obtain ⟨a2, c2, rfl, -, -⟩ := Sl.at hs2
        clear hat hc hst hsc hs1 hs2
        generalize a[k] = x at *
        generalize b[k] = y at *
        go_upto_region 5 with (fail)
        have hS : Mod NoB wr wr.drew := (Mod.refl _ _).drew
        by_cases hkk : x.1 = y.1
        · rw [decide_eq_true hkk, Bool.true_and] at HSC
          refine wp_region_pi [(0, 3), (1, 3), (2, 3), (3, 3), (4, 0), (5, 3), (6, 3), (7, 3), (8, 3), (9, 0), (10, 0), (11, 3), (12, 3), (13, 3), (14, 3), (15, 3), (16, 0), (17, 3), (18, 3), (19, 3), (20, 3), (21, 0), (22, 1), (23, 3), (24, 3)] [] (fun w' => Mod NoB wr w') (by kernel_rfl) (by kernel_rfl) (by kernel_rfl) (by kernel_rfl) (fun _ _ _ _ hd h => ⟨hd.trans h.1, h.2⟩) hS ?_
          simp only [List.map_cons, List.map_nil, List.getD_cons_zero, List.getD_cons_succ]
          refine wpPi_move _ rfl rfl ?_
          simp only [pl, pn, el, ec, sz, ss, gz, gs, if_true, if_false, Bool.false_eq_true, Bool.not_true, Bool.not_false, Nat.add_zero, Nat.zero_add, Nat.reduceAdd]
          refine wpPi_move _ rfl rfl ?_
          simp only [pl, pn, el, ec, sz, ss, gz, gs, if_true, if_false, Bool.false_eq_true, Bool.not_true, Bool.not_false, Nat.add_zero, Nat.zero_add, Nat.reduceAdd]
          refine wpPi_index _ _ _ _ _ _ _ _ _ rfl rfl rfl rfl Try.underlying22 (n := 2) (by kernel_rfl) hlt ?_
          simp only [pl, pn, el, ec, sz, ss, gz, gs, if_true, if_false, Bool.false_eq_true, Bool.not_true, Bool.not_false, Nat.add_zero, Nat.zero_add, Nat.reduceAdd]
          refine wpPi_field _ _ _ _ _ _ rfl rfl rfl fo_35_0 ?_
          simp only [pl, pn, el, ec, sz, ss, gz, gs, if_true, if_false, Bool.false_eq_true, Bool.not_true, Bool.not_false, Nat.add_zero, Nat.zero_add, Nat.reduceAdd]
          refine wpPi_val rfl (fun w' hS => exec_load1 9 _ (by rfl) b1 (off1 + k * 2) (by rfl) (.string x.1) (hS.cell id hk1) _ Try.underlying9 rfl) ?_
          simp only [pl, pn, el, ec, sz, ss, gz, gs, if_true, if_false, Bool.false_eq_true, Bool.not_true, Bool.not_false, Nat.add_zero, Nat.zero_add, Nat.reduceAdd]
          refine wpPi_move _ rfl rfl ?_
          simp only [pl, pn, el, ec, sz, ss, gz, gs, if_true, if_false, Bool.false_eq_true, Bool.not_true, Bool.not_false, Nat.add_zero, Nat.zero_add, Nat.reduceAdd]
          refine wpPi_move _ rfl rfl ?_
          simp only [pl, pn, el, ec, sz, ss, gz, gs, if_true, if_false, Bool.false_eq_true, Bool.not_true, Bool.not_false, Nat.add_zero, Nat.zero_add, Nat.reduceAdd]
          refine wpPi_index _ _ _ _ _ _ _ _ _ rfl rfl rfl rfl Try.underlying22 (n := 2) (by kernel_rfl) hlt' ?_
          simp only [pl, pn, el, ec, sz, ss, gz, gs, if_true, if_false, Bool.false_eq_true, Bool.not_true, Bool.not_false, Nat.add_zero, Nat.zero_add, Nat.reduceAdd]
          refine wpPi_field _ _ _ _ _ _ rfl rfl rfl fo_35_0 ?_
          simp only [pl, pn, el, ec, sz, ss, gz, gs, if_true, if_false, Bool.false_eq_true, Bool.not_true, Bool.not_false, Nat.add_zero, Nat.zero_add, Nat.reduceAdd]
          refine wpPi_val rfl (fun w' hS => exec_load1 9 _ (by rfl) b2 (off2 + k * 2) (by rfl) (.string y.1) (hS.cell id hk2) _ Try.underlying9 rfl) ?_
          simp only [pl, pn, el, ec, sz, ss, gz, gs, if_true, if_false, Bool.false_eq_true, Bool.not_true, Bool.not_false, Nat.add_zero, Nat.zero_add, Nat.reduceAdd]
          refine wpPi_val rfl (fun w' hS => exec_eql_str _ _ _ _ rfl x.1 y.1 rfl rfl true (decide_eq_true hkk)) ?_
          simp only [pl, pn, el, ec, sz, ss, gz, gs, if_true, if_false, Bool.false_eq_true, Bool.not_true, Bool.not_false, Nat.add_zero, Nat.zero_add, Nat.reduceAdd]
          refine wpPi_move _ rfl rfl ?_
          simp only [pl, pn, el, ec, sz, ss, gz, gs, if_true, if_false, Bool.false_eq_true, Bool.not_true, Bool.not_false, Nat.add_zero, Nat.zero_add, Nat.reduceAdd]
          refine wpPi_move _ rfl rfl ?_
          simp only [pl, pn, el, ec, sz, ss, gz, gs, if_true, if_false, Bool.false_eq_true, Bool.not_true, Bool.not_false, Nat.add_zero, Nat.zero_add, Nat.reduceAdd]
          refine wpPi_move _ rfl rfl ?_
          simp only [pl, pn, el, ec, sz, ss, gz, gs, if_true, if_false, Bool.false_eq_true, Bool.not_true, Bool.not_false, Nat.add_zero, Nat.zero_add, Nat.reduceAdd]
          refine wpPi_index _ _ _ _ _ _ _ _ _ rfl rfl rfl rfl Try.underlying22 (n := 2) (by kernel_rfl) hlt ?_
          simp only [pl, pn, el, ec, sz, ss, gz, gs, if_true, if_false, Bool.false_eq_true, Bool.not_true, Bool.not_false, Nat.add_zero, Nat.zero_add, Nat.reduceAdd]
          refine wpPi_field _ _ _ _ _ _ rfl rfl rfl fo_35_1 ?_
          simp only [pl, pn, el, ec, sz, ss, gz, gs, if_true, if_false, Bool.false_eq_true, Bool.not_true, Bool.not_false, Nat.add_zero, Nat.zero_add, Nat.reduceAdd]
          refine wpPi_val rfl (fun w' hS => exec_load1 33 _ (by rfl) b1 (off1 + k * 2 + 1) (by rfl) _ (hS.cell id hv1) _ Try.underlying33 rfl) ?_
          simp only [pl, pn, el, ec, sz, ss, gz, gs, if_true, if_false, Bool.false_eq_true, Bool.not_true, Bool.not_false, Nat.add_zero, Nat.zero_add, Nat.reduceAdd]
          refine wpPi_move _ rfl rfl ?_
          simp only [pl, pn, el, ec, sz, ss, gz, gs, if_true, if_false, Bool.false_eq_true, Bool.not_true, Bool.not_false, Nat.add_zero, Nat.zero_add, Nat.reduceAdd]
          refine wpPi_move _ rfl rfl ?_
          simp only [pl, pn, el, ec, sz, ss, gz, gs, if_true, if_false, Bool.false_eq_true, Bool.not_true, Bool.not_false, Nat.add_zero, Nat.zero_add, Nat.reduceAdd]
          refine wpPi_index _ _ _ _ _ _ _ _ _ rfl rfl rfl rfl Try.underlying22 (n := 2) (by kernel_rfl) hlt' ?_
          simp only [pl, pn, el, ec, sz, ss, gz, gs, if_true, if_false, Bool.false_eq_true, Bool.not_true, Bool.not_false, Nat.add_zero, Nat.zero_add, Nat.reduceAdd]
          refine wpPi_field _ _ _ _ _ _ rfl rfl rfl fo_35_1 ?_
          simp only [pl, pn, el, ec, sz, ss, gz, gs, if_true, if_false, Bool.false_eq_true, Bool.not_true, Bool.not_false, Nat.add_zero, Nat.zero_add, Nat.reduceAdd]
          refine wpPi_val rfl (fun w' hS => exec_load1 33 _ (by rfl) b2 (off2 + k * 2 + 1) (by rfl) _ (hS.cell id hv2) _ Try.underlying33 rfl) ?_
          simp only [pl, pn, el, ec, sz, ss, gz, gs, if_true, if_false, Bool.false_eq_true, Bool.not_true, Bool.not_false, Nat.add_zero, Nat.zero_add, Nat.reduceAdd]
          refine wpPi_do rfl (fun K hK => ?_)
          refine wp_enterQ (run_call 26 [.tmp 37, .tmp 42] _ rfl _ Try.func26 rfl (by kernel_rfl) [.slice a1 x.2.length c1, .slice a2 y.2.length c2] rfl _) (sameBytes_any (HS1.out.keep0 hS) (HS2.out.keep0 hS)) ?_
          rintro e wb ⟨rfl, hmb⟩
          have hSb := hS.trans0 hmb
          refine ⟨_, rfl, hK _ _ hSb ?_⟩
          clear hK K
          try simp only [pl, pn, el, ec, sz, ss, gz, gs, if_true, if_false, Bool.false_eq_true, Bool.not_true, Bool.not_false, Nat.add_zero, Nat.zero_add, Nat.reduceAdd]
          refine wpPi_pick _ _ _ _ rfl rfl rfl ?_
          simp only [pl, pn, el, ec, sz, ss, gz, gs, if_true, if_false, Bool.false_eq_true, Bool.not_true, Bool.not_false, Nat.add_zero, Nat.zero_add, Nat.reduceAdd]
          refine wpPi_assign _ rfl rfl ?_
          simp only [pl, pn, el, ec, sz, ss, gz, gs, if_true, if_false, Bool.false_eq_true, Bool.not_true, Bool.not_false, Nat.add_zero, Nat.zero_add, Nat.reduceAdd]
          refine wpPi_nil ?_
          go_wp2
          go_roundw
          case rel => exact ⟨k + 1, by omega, by go_num, by rw [HSC.out], hm.trans0 hSb⟩
          case measure => simp [intOf]; omega
        · rw [decide_eq_false hkk, Bool.false_and] at HSC
          refine wp_region_pi [(0, 3), (1, 3), (2, 3), (3, 3), (4, 0), (5, 3), (6, 3), (7, 3), (8, 3), (9, 0), (10, 0), (11, 3), (12, 3), (13, 3), (14, 3), (15, 3), (16, 0), (17, 3), (18, 3), (19, 3), (20, 3), (21, 0), (22, 1), (23, 3), (24, 3)] [] (fun w' => Mod NoB wr w') (by kernel_rfl) (by kernel_rfl) (by kernel_rfl) (by kernel_rfl) (fun _ _ _ _ hd h => ⟨hd.trans h.1, h.2⟩) hS ?_
          simp only [List.map_cons, List.map_nil, List.getD_cons_zero, List.getD_cons_succ]
          refine wpPi_move _ rfl rfl ?_
          simp only [pl, pn, el, ec, sz, ss, gz, gs, if_true, if_false, Bool.false_eq_true, Bool.not_true, Bool.not_false, Nat.add_zero, Nat.zero_add, Nat.reduceAdd]
          refine wpPi_move _ rfl rfl ?_
          simp only [pl, pn, el, ec, sz, ss, gz, gs, if_true, if_false, Bool.false_eq_true, Bool.not_true, Bool.not_false, Nat.add_zero, Nat.zero_add, Nat.reduceAdd]
          refine wpPi_index _ _ _ _ _ _ _ _ _ rfl rfl rfl rfl Try.underlying22 (n := 2) (by kernel_rfl) hlt ?_
          simp only [pl, pn, el, ec, sz, ss, gz, gs, if_true, if_false, Bool.false_eq_true, Bool.not_true, Bool.not_false, Nat.add_zero, Nat.zero_add, Nat.reduceAdd]
          refine wpPi_field _ _ _ _ _ _ rfl rfl rfl fo_35_0 ?_
          simp only [pl, pn, el, ec, sz, ss, gz, gs, if_true, if_false, Bool.false_eq_true, Bool.not_true, Bool.not_false, Nat.add_zero, Nat.zero_add, Nat.reduceAdd]
          refine wpPi_val rfl (fun w' hS => exec_load1 9 _ (by rfl) b1 (off1 + k * 2) (by rfl) (.string x.1) (hS.cell id hk1) _ Try.underlying9 rfl) ?_
          simp only [pl, pn, el, ec, sz, ss, gz, gs, if_true, if_false, Bool.false_eq_true, Bool.not_true, Bool.not_false, Nat.add_zero, Nat.zero_add, Nat.reduceAdd]
          refine wpPi_move _ rfl rfl ?_
          simp only [pl, pn, el, ec, sz, ss, gz, gs, if_true, if_false, Bool.false_eq_true, Bool.not_true, Bool.not_false, Nat.add_zero, Nat.zero_add, Nat.reduceAdd]
          refine wpPi_move _ rfl rfl ?_
          simp only [pl, pn, el, ec, sz, ss, gz, gs, if_true, if_false, Bool.false_eq_true, Bool.not_true, Bool.not_false, Nat.add_zero, Nat.zero_add, Nat.reduceAdd]
          refine wpPi_index _ _ _ _ _ _ _ _ _ rfl rfl rfl rfl Try.underlying22 (n := 2) (by kernel_rfl) hlt' ?_
          simp only [pl, pn, el, ec, sz, ss, gz, gs, if_true, if_false, Bool.false_eq_true, Bool.not_true, Bool.not_false, Nat.add_zero, Nat.zero_add, Nat.reduceAdd]
          refine wpPi_field _ _ _ _ _ _ rfl rfl rfl fo_35_0 ?_
          simp only [pl, pn, el, ec, sz, ss, gz, gs, if_true, if_false, Bool.false_eq_true, Bool.not_true, Bool.not_false, Nat.add_zero, Nat.zero_add, Nat.reduceAdd]
          refine wpPi_val rfl (fun w' hS => exec_load1 9 _ (by rfl) b2 (off2 + k * 2) (by rfl) (.string y.1) (hS.cell id hk2) _ Try.underlying9 rfl) ?_
          simp only [pl, pn, el, ec, sz, ss, gz, gs, if_true, if_false, Bool.false_eq_true, Bool.not_true, Bool.not_false, Nat.add_zero, Nat.zero_add, Nat.reduceAdd]
          refine wpPi_val rfl (fun w' hS => exec_eql_str _ _ _ _ rfl x.1 y.1 rfl rfl false (decide_eq_false hkk)) ?_
          simp only [pl, pn, el, ec, sz, ss, gz, gs, if_true, if_false, Bool.false_eq_true, Bool.not_true, Bool.not_false, Nat.add_zero, Nat.zero_add, Nat.reduceAdd]
          refine wpPi_move _ rfl rfl ?_
          simp only [pl, pn, el, ec, sz, ss, gz, gs, if_true, if_false, Bool.false_eq_true, Bool.not_true, Bool.not_false, Nat.add_zero, Nat.zero_add, Nat.reduceAdd]
          refine wpPi_skip rfl ?_
          simp only [pl, pn, el, ec, sz, ss, gz, gs, if_true, if_false, Bool.false_eq_true, Bool.not_true, Bool.not_false, Nat.add_zero, Nat.zero_add, Nat.reduceAdd]
          refine wpPi_skip rfl ?_
          simp only [pl, pn, el, ec, sz, ss, gz, gs, if_true, if_false, Bool.false_eq_true, Bool.not_true, Bool.not_false, Nat.add_zero, Nat.zero_add, Nat.reduceAdd]
          refine wpPi_skip rfl ?_
          simp only [pl, pn, el, ec, sz, ss, gz, gs, if_true, if_false, Bool.false_eq_true, Bool.not_true, Bool.not_false, Nat.add_zero, Nat.zero_add, Nat.reduceAdd]
          refine wpPi_skip rfl ?_
          simp only [pl, pn, el, ec, sz, ss, gz, gs, if_true, if_false, Bool.false_eq_true, Bool.not_true, Bool.not_false, Nat.add_zero, Nat.zero_add, Nat.reduceAdd]
          refine wpPi_skip0 rfl ?_
          simp only [pl, pn, el, ec, sz, ss, gz, gs, if_true, if_false, Bool.false_eq_true, Bool.not_true, Bool.not_false, Nat.add_zero, Nat.zero_add, Nat.reduceAdd]
          refine wpPi_skip rfl ?_
          simp only [pl, pn, el, ec, sz, ss, gz, gs, if_true, if_false, Bool.false_eq_true, Bool.not_true, Bool.not_false, Nat.add_zero, Nat.zero_add, Nat.reduceAdd]
          refine wpPi_skip rfl ?_
          simp only [pl, pn, el, ec, sz, ss, gz, gs, if_true, if_false, Bool.false_eq_true, Bool.not_true, Bool.not_false, Nat.add_zero, Nat.zero_add, Nat.reduceAdd]
          refine wpPi_skip rfl ?_
          simp only [pl, pn, el, ec, sz, ss, gz, gs, if_true, if_false, Bool.false_eq_true, Bool.not_true, Bool.not_false, Nat.add_zero, Nat.zero_add, Nat.reduceAdd]
          refine wpPi_skip rfl ?_
          simp only [pl, pn, el, ec, sz, ss, gz, gs, if_true, if_false, Bool.false_eq_true, Bool.not_true, Bool.not_false, Nat.add_zero, Nat.zero_add, Nat.reduceAdd]
          refine wpPi_skip0 rfl ?_
          simp only [pl, pn, el, ec, sz, ss, gz, gs, if_true, if_false, Bool.false_eq_true, Bool.not_true, Bool.not_false, Nat.add_zero, Nat.zero_add, Nat.reduceAdd]
          refine wpPi_do_skip rfl hS ?_
          simp only [pl, pn, el, ec, sz, ss, gz, gs, if_true, if_false, Bool.false_eq_true, Bool.not_true, Bool.not_false, Nat.add_zero, Nat.zero_add, Nat.reduceAdd]
          refine wpPi_pick _ _ _ _ rfl rfl rfl ?_
          simp only [pl, pn, el, ec, sz, ss, gz, gs, if_true, if_false, Bool.false_eq_true, Bool.not_true, Bool.not_false, Nat.add_zero, Nat.zero_add, Nat.reduceAdd]
          refine wpPi_assign _ rfl rfl ?_
          simp only [pl, pn, el, ec, sz, ss, gz, gs, if_true, if_false, Bool.false_eq_true, Bool.not_true, Bool.not_false, Nat.add_zero, Nat.zero_add, Nat.reduceAdd]
          refine wpPi_nil ?_
          go_wp2
          go_roundw
          case rel => exact ⟨k + 1, by omega, by go_num, by rw [HSC.out], hm.trans0 hS⟩
          case measure => simp [intOf]; omega
      · have hz : ¬ (k : Int) < (a.length : Int) := by omega
        obtain rfl : k = a.length := by omega
        rw [preE_full HL.out] at hst
        have HD := Lib.hid hst
        clear hst
        go_upto_region 3 with (fail)
        refine wp_region_seq [3, 3, 3, 3, 3, 3, 3] (fun _ => True) (by rfl) (by rfl) trivial ?_
        simp only [List.zip_cons_cons, List.zip_nil_right]
        refine wpPi_move _ rfl rfl ?_
        simp only [pl, pn, el, ec, sz, ss, gz, gs, if_true, if_false, Bool.false_eq_true, Bool.not_true, Bool.not_false, Nat.add_zero, Nat.zero_add, Nat.reduceAdd]
        refine wpPi_move _ rfl rfl ?_
        simp only [pl, pn, el, ec, sz, ss, gz, gs, if_true, if_false, Bool.false_eq_true, Bool.not_true, Bool.not_false, Nat.add_zero, Nat.zero_add, Nat.reduceAdd]
        refine wpPi_move _ rfl rfl ?_
        simp only [pl, pn, el, ec, sz, ss, gz, gs, if_true, if_false, Bool.false_eq_true, Bool.not_true, Bool.not_false, Nat.add_zero, Nat.zero_add, Nat.reduceAdd]
        refine wpPi_move _ rfl rfl ?_
        simp only [pl, pn, el, ec, sz, ss, gz, gs, if_true, if_false, Bool.false_eq_true, Bool.not_true, Bool.not_false, Nat.add_zero, Nat.zero_add, Nat.reduceAdd]
        refine wpPi_len _ _ _ _ _ rfl rfl rfl (by kernel_rfl) ?_
        simp only [pl, pn, el, ec, sz, ss, gz, gs, if_true, if_false, Bool.false_eq_true, Bool.not_true, Bool.not_false, Nat.add_zero, Nat.zero_add, Nat.reduceAdd]
        refine wpPi_cmp _ _ _ _ _ _ _ _ rfl rfl rfl rfl rfl false (decide_eq_false hz) ?_
        simp only [pl, pn, el, ec, sz, ss, gz, gs, if_true, if_false, Bool.false_eq_true, Bool.not_true, Bool.not_false, Nat.add_zero, Nat.zero_add, Nat.reduceAdd]
        refine wpPi_pick _ _ _ _ rfl rfl rfl ?_
        simp only [pl, pn, el, ec, sz, ss, gz, gs, if_true, if_false, Bool.false_eq_true, Bool.not_true, Bool.not_false, Nat.add_zero, Nat.zero_add, Nat.reduceAdd]
        refine wpPi_nil ?_
        go_wp2
        go_ret
        exact ⟨by rw [HD.out]; rfl, hm⟩
end Go.Proofs.Ytchkikmmcmjcgaa

/- The document's tree: rising. (Printed by RtrI.gen.py.) -/
namespace Go.Proofs.Ytchkikmmcmjcgaa
set_option linter.unusedSimpArgs false
set_option linter.unusedVariables false
set_option linter.unnecessarySimpa false
set_option linter.unusedSectionVars false
open Go.RowKit Go.Shelf


theorem bytesLess_lt : ∀ a b : List UInt8, Op.bytesLess a b = decide (a < b)
  | [], [] => by simp [Op.bytesLess]
  | [], _ :: _ => by simp [Op.bytesLess]
  | _ :: _, [] => by simp [Op.bytesLess]
  | x :: a, y :: b => by
    have h := bytesLess_lt a b
    rw [Bool.eq_iff_iff]
    simp [Op.bytesLess, h, List.cons_lt_cons_iff]
theorem less_bl (x y : ByteArray) : Op.bytesLess x.toList y.toList = decide (bl x < bl y) := by
  rw [bytesLess_lt, ByteArray.toList_eq, ByteArray.toList_eq]; rfl
theorem gat_cap {base e : Nat} {w : World} {ad : Option Addr} {cap n : Nat} {out : List ByteArray} (h : Gat strEnc e 1 base w (.slice ad n cap) out) : out.length ≤ cap := by
  rcases h.2 with ⟨h1, h2⟩ | ⟨g, c, cur, h1, -, -, hc, -⟩
  · omega
  · cases h1; exact hc
theorem src_drop {base e : Nat} {w : World} {ad : Option Addr} {cap j : Nat} {out : List ByteArray} (h : Gat strEnc e 1 base w (.slice ad out.length cap) out) (hj : j ≤ out.length) : Src w 1 (sliced ad j out.length cap 1) (out.drop j).length ((out.drop j).flatMap strEnc) := by
  have hc : out.length ≤ cap := by
    rcases h.2 with ⟨h1, h2⟩ | ⟨g, c, cur, h1, -, -, hc, -⟩
    · omega
    · cases h1; exact hc
  have := (owns_src h).drop (i := j) hj hc
  rw [flat_str, List.length_drop]
  rw [flat_str, Nat.mul_one, ← List.map_drop] at this
  exact this
theorem gat_to {base e : Nat} {w : World} {ad : Option Addr} {cap j : Nat} {out : List ByteArray} (h : Gat strEnc e 1 base w (.slice ad out.length cap) out) (hj : j ≤ out.length) : Gat strEnc e 1 base w (sliced ad 0 j cap 1) (out.take j) ∧ ∀ q, (sliced ad 0 j cap 1).ownBlock = some q → (Value.slice ad out.length cap).ownBlock = some q := by
  have hto := owns_to (i := j) h hj
  refine ⟨?_, fun q hq => by rw [← hto.2]; exact hq⟩
  unfold Gat
  rw [flat_str, List.length_take, Nat.min_eq_left hj]
  have h1 := hto.1
  rw [flat_str, Nat.mul_one, ← List.map_take] at h1
  exact h1
theorem rise_ins {l out : List ByteArray} {x : ByteArray} {j : Nat} (h : Rise l out) (hj : j ≤ out.length) (h1 : ∀ p (hp : p < out.length), p < j → bl out[p] < bl x) (h2 : ∀ (hp : j < out.length), bl x < bl out[j]) : Rise (l ++ [x]) (out.take j ++ [x] ++ out.drop j) := by
  obtain ⟨hs, hm⟩ := h
  have hpw := List.pairwise_iff_getElem.1 hs
  have ha : ∀ y ∈ out.take j, bl y < bl x := fun y hy => by
    obtain ⟨p, hp, rfl⟩ := List.getElem_of_mem hy
    rw [List.length_take] at hp
    rw [List.getElem_take]
    exact h1 p (by omega) (by omega)
  have hb : ∀ y ∈ out.drop j, bl x < bl y := fun y hy => by
    obtain ⟨p, hp, rfl⟩ := List.getElem_of_mem hy
    rw [List.length_drop] at hp
    rw [List.getElem_drop]
    rcases Nat.eq_zero_or_pos p with rfl | hp0
    · exact h2 (by omega)
    · exact List.lt_trans (h2 (by omega)) (hpw j (j + p) (by omega) (by omega) (by omega))
  refine ⟨?_, fun y => ?_⟩
  · rw [List.pairwise_append, List.pairwise_append]
    refine ⟨⟨hs.sublist (List.take_sublist _ _), List.pairwise_singleton _ _, fun a h3 b h4 => ?_⟩, hs.sublist (List.drop_sublist _ _), fun a h3 b h4 => ?_⟩
    · rw [List.mem_singleton.1 h4]; exact ha a h3
    · rcases List.mem_append.1 h3 with h5 | h5
      · exact List.lt_trans (ha a h5) (hb b h4)
      · rw [List.mem_singleton.1 h5]; exact hb b h4
  · have h3 := hm y
    rw [← List.take_append_drop j out, List.mem_append] at h3
    simp only [List.mem_append, List.mem_singleton]
    rw [← h3]
    constructor
    · rintro ((h | h) | h)
      · exact .inl (.inl h)
      · exact .inr h
      · exact .inl (.inr h)
    · rintro ((h | h) | h)
      · exact .inl (.inl h)
      · exact .inr h
      · exact .inl (.inr h)
theorem rise_old {l out : List ByteArray} {x : ByteArray} (h : Rise l out) (hx : x ∈ out) : Rise (l ++ [x]) out := by
  refine ⟨h.1, fun y => ?_⟩
  rw [h.2 y, List.mem_append, List.mem_singleton]
  constructor
  · exact .inl
  · rintro (h1 | rfl)
    · exact h1
    · exact (h.2 _).1 hx
theorem bl_inj {x y : ByteArray} (h : bl x = bl y) : x = y := by rw [← ofL_bl x, ← ofL_bl y, h]
def RisRel (l : List ByteArray) (w0 : World) (v i : Value) (w : World) : Prop := ∃ (k : Nat) (out : List ByteArray), k ≤ l.length ∧ i = .int .i64 k ∧ Rise (l.take k) out ∧ out.length ≤ k ∧ Gat strEnc 9 1 w0.heap.size w v out ∧ Mod NoB w0 w
def RisIn (out : List ByteArray) (x : ByteArray) (w0 : World) (i : Value) (w : World) : Prop := ∃ j : Nat, j ≤ out.length ∧ i = .int .i64 j ∧ (∀ p (hp : p < out.length), p < j → bl out[p] < bl x) ∧ Mod NoB w0 w
def RisR (w : World) (l : List ByteArray) : Ending → World → Prop := fun e w' => ∃ v ks, e = .returned v ∧ Gat strEnc 9 1 w.heap.size w' v ks ∧ Rise l ks ∧ Mod NoB w w'
set_option maxRecDepth 10000 in
set_option maxHeartbeats 1000000 in
theorem refRising_any {o : Bool} {G : Nat → Prop} {w : World} {v : Value} {l : List ByteArray} (h : Txt o w G v l) (hlen : l.length ≤ 1000000) : Calls Try.prog 38 #[v] w (RisR w l) := by
  have HS := Lib.hid (Sl.inside h (by omega))
  obtain ⟨ad, cap, rfl, hlm, -⟩ := Sl.at h
  clear h
  go_enter Try.func38, Try.ntmps38
  go_wp2
  go_loopw [3, 4] (RisRel l w) (fun _ i _ => l.length - (intOf i).toNat)
  case atStart => exact ⟨0, [], by omega, rfl, ⟨.nil, fun y => by simp⟩, Nat.le_refl _, Gat.nil _ _ _ _ _, Mod.refl _ _⟩
  case round =>
    rename World => wr
    obtain ⟨k, out, hk, rfl, hrise, hol, hg, hm⟩ := hrel
    obtain ⟨ad3, cap3, rfl⟩ := hg.slice
    have HG := Lib.hid hg
    have HR := Lib.hid hrise
    clear hg hrise
    by_cases hlt : k < l.length
    · have hz : (k : Int) < (l.length : Int) := by omega
      have HTK := Lib.hid (take_app hlt)
      obtain ⟨_, _, hv, -, hat⟩ := Sl.at (Sl.keep0 HS.out hm)
      cases hv
      obtain ⟨b1, off1, rfl, hgb, -, hc⟩ := hat k hlt
      obtain ⟨_, -, rfl, hc⟩ := hc k hlt
      have hkx := CellsAt.one.1 hc
      obtain ⟨x, hx⟩ : ∃ x, l[k] = x := ⟨_, rfl⟩
      rw [hx] at hkx HTK
      have hnb : ¬ w.heap.size ≤ b1 := Nat.not_le.2 hgb
      clear hat hc hx hgb
      go_wp2
      go_loopw [5] (RisIn out x wr) (fun i _ => out.length - (intOf i).toNat)
      case atStart => exact ⟨0, by omega, rfl, fun p _ h => by omega, Mod.refl _ _⟩
      case round =>
        rename World => w8
        obtain ⟨j, hj, rfl, hall, hm8⟩ := hrel
        have HALL := Lib.hid hall
        clear hall
        have hM8 := hm.trans0 hm8
        have HG8 := Lib.hid (HG.out.keep0 hm8)
        have hkx8 := hm8.cell id hkx
        by_cases hjl : j < out.length
        · have hzj : (j : Int) < (out.length : Int) := by omega
          obtain ⟨_, _, hv, -, hat⟩ := Sl.at HG8.out.txt
          cases hv
          obtain ⟨b3, off3, rfl, -, -, hc⟩ := hat j hjl
          obtain ⟨_, -, rfl, hc⟩ := hc j hjl
          have hky := CellsAt.one.1 hc
          have HNX := Lib.hid (fun (h : bl out[j] < bl x) p (hp : p < out.length) (h1 : p < j + 1) => show bl out[p] < bl x by
            rcases Nat.lt_or_ge p j with h2 | h2
            · exact HALL.out p hp h2
            · obtain rfl : p = j := by omega
              exact h)
          have HMEM := Lib.hid (show out[j] ∈ out from List.getElem_mem hjl)
          have HTRI := Lib.hid (fun (h1 : ¬ bl out[j] < bl x) (h2 : out[j] ≠ x) => show ∀ (hp : j < out.length), bl x < bl out[j] from fun _ => by
            rcases ltB_tri (bl out[j]) (bl x) with h3 | h3 | h3
            · exact absurd h3 h1
            · exact absurd (bl_inj h3) h2
            · exact h3)
          have HINS := Lib.hid (fun h2 => rise_ins (x := x) HR.out hj HALL.out h2)
          obtain ⟨y, hy⟩ : ∃ x, out[j] = x := ⟨_, rfl⟩
          rw [hy] at hky HNX HMEM HTRI
          clear hat hc
          have hs8 : Mod NoB w8 w8.drew := (Mod.refl _ _).drew
          go_upto_region 6 with (fail)
          have hS : Mod NoB w8 w8.drew := (Mod.refl _ _).drew
          by_cases hlss : bl y < bl x
          · have hbl : Op.bytesLess y.toList x.toList = true := by rw [less_bl]; exact decide_eq_true hlss
            have HN := Lib.hid (HNX.out hlss)
            clear HTRI HINS HNX hlss hy
            refine wp_region_pi [(0, 3), (1, 3), (2, 3), (3, 3), (4, 3), (5, 3), (6, 3), (7, 3), (8, 0), (9, 3), (10, 3), (11, 3), (12, 0), (13, 0), (14, 3)] [] (fun w' => Mod NoB w8 w') (by kernel_rfl) (by kernel_rfl) (by kernel_rfl) (by kernel_rfl) (fun _ _ _ _ hd h => ⟨hd.trans h.1, h.2⟩) hS ?_
            simp only [List.map_cons, List.map_nil, List.getD_cons_zero, List.getD_cons_succ]
            refine wpPi_move _ rfl rfl ?_
            simp only [pl, pn, el, ec, sz, ss, gz, gs, if_true, if_false, Bool.false_eq_true, Bool.not_true, Bool.not_false, Nat.add_zero, Nat.zero_add, Nat.reduceAdd]
            refine wpPi_move _ rfl rfl ?_
            simp only [pl, pn, el, ec, sz, ss, gz, gs, if_true, if_false, Bool.false_eq_true, Bool.not_true, Bool.not_false, Nat.add_zero, Nat.zero_add, Nat.reduceAdd]
            refine wpPi_len _ _ _ _ _ rfl rfl rfl (by kernel_rfl) ?_
            simp only [pl, pn, el, ec, sz, ss, gz, gs, if_true, if_false, Bool.false_eq_true, Bool.not_true, Bool.not_false, Nat.add_zero, Nat.zero_add, Nat.reduceAdd]
            refine wpPi_cmp _ _ _ _ _ _ _ _ rfl rfl rfl rfl rfl true (decide_eq_true hzj) ?_
            simp only [pl, pn, el, ec, sz, ss, gz, gs, if_true, if_false, Bool.false_eq_true, Bool.not_true, Bool.not_false, Nat.add_zero, Nat.zero_add, Nat.reduceAdd]
            refine wpPi_move _ rfl rfl ?_
            simp only [pl, pn, el, ec, sz, ss, gz, gs, if_true, if_false, Bool.false_eq_true, Bool.not_true, Bool.not_false, Nat.add_zero, Nat.zero_add, Nat.reduceAdd]
            refine wpPi_move _ rfl rfl ?_
            simp only [pl, pn, el, ec, sz, ss, gz, gs, if_true, if_false, Bool.false_eq_true, Bool.not_true, Bool.not_false, Nat.add_zero, Nat.zero_add, Nat.reduceAdd]
            refine wpPi_move _ rfl rfl ?_
            simp only [pl, pn, el, ec, sz, ss, gz, gs, if_true, if_false, Bool.false_eq_true, Bool.not_true, Bool.not_false, Nat.add_zero, Nat.zero_add, Nat.reduceAdd]
            refine wpPi_index _ _ _ _ _ _ _ _ _ rfl rfl rfl rfl Try.underlying26 (n := 1) (by kernel_rfl) hjl ?_
            simp only [pl, pn, el, ec, sz, ss, gz, gs, if_true, if_false, Bool.false_eq_true, Bool.not_true, Bool.not_false, Nat.add_zero, Nat.zero_add, Nat.reduceAdd]
            refine wpPi_val rfl (fun w' hS => exec_load1 9 _ (by rfl) b3 (off3 + j * 1) (by rfl) (.string y) (hS.cell id hky) _ Try.underlying9 rfl) ?_
            simp only [pl, pn, el, ec, sz, ss, gz, gs, if_true, if_false, Bool.false_eq_true, Bool.not_true, Bool.not_false, Nat.add_zero, Nat.zero_add, Nat.reduceAdd]
            refine wpPi_move _ rfl rfl ?_
            simp only [pl, pn, el, ec, sz, ss, gz, gs, if_true, if_false, Bool.false_eq_true, Bool.not_true, Bool.not_false, Nat.add_zero, Nat.zero_add, Nat.reduceAdd]
            refine wpPi_move _ rfl rfl ?_
            simp only [pl, pn, el, ec, sz, ss, gz, gs, if_true, if_false, Bool.false_eq_true, Bool.not_true, Bool.not_false, Nat.add_zero, Nat.zero_add, Nat.reduceAdd]
            refine wpPi_index _ _ _ _ _ _ _ _ _ rfl rfl rfl rfl Try.underlying26 (n := 1) (by kernel_rfl) hlt ?_
            simp only [pl, pn, el, ec, sz, ss, gz, gs, if_true, if_false, Bool.false_eq_true, Bool.not_true, Bool.not_false, Nat.add_zero, Nat.zero_add, Nat.reduceAdd]
            refine wpPi_val rfl (fun w' hS => exec_load1 9 _ (by rfl) b1 (off1 + k * 1) (by rfl) (.string x) (hS.cell id hkx8) _ Try.underlying9 rfl) ?_
            simp only [pl, pn, el, ec, sz, ss, gz, gs, if_true, if_false, Bool.false_eq_true, Bool.not_true, Bool.not_false, Nat.add_zero, Nat.zero_add, Nat.reduceAdd]
            refine wpPi_val rfl (fun w' hS => exec_lss_str _ _ _ _ rfl y x rfl rfl true hbl) ?_
            simp only [pl, pn, el, ec, sz, ss, gz, gs, if_true, if_false, Bool.false_eq_true, Bool.not_true, Bool.not_false, Nat.add_zero, Nat.zero_add, Nat.reduceAdd]
            refine wpPi_pick _ _ _ _ rfl rfl rfl ?_
            simp only [pl, pn, el, ec, sz, ss, gz, gs, if_true, if_false, Bool.false_eq_true, Bool.not_true, Bool.not_false, Nat.add_zero, Nat.zero_add, Nat.reduceAdd]
            refine wpPi_nil ?_
            clear hbl
            go_wp2
            go_roundw
            case rel => exact ⟨j + 1, by omega, by go_num, HN.out, hm8.trans0 hS⟩
            case measure => simp [intOf]; omega
          · have hbl : Op.bytesLess y.toList x.toList = false := by rw [less_bl]; exact decide_eq_false hlss
            have HT2 := Lib.hid (HTRI.out hlss)
            clear HTRI HNX hlss
            refine wp_region_pi [(0, 3), (1, 3), (2, 3), (3, 3), (4, 3), (5, 3), (6, 3), (7, 3), (8, 0), (9, 3), (10, 3), (11, 3), (12, 0), (13, 0), (14, 3)] [] (fun w' => Mod NoB w8 w') (by kernel_rfl) (by kernel_rfl) (by kernel_rfl) (by kernel_rfl) (fun _ _ _ _ hd h => ⟨hd.trans h.1, h.2⟩) hS ?_
            simp only [List.map_cons, List.map_nil, List.getD_cons_zero, List.getD_cons_succ]
            refine wpPi_move _ rfl rfl ?_
            simp only [pl, pn, el, ec, sz, ss, gz, gs, if_true, if_false, Bool.false_eq_true, Bool.not_true, Bool.not_false, Nat.add_zero, Nat.zero_add, Nat.reduceAdd]
            refine wpPi_move _ rfl rfl ?_
            simp only [pl, pn, el, ec, sz, ss, gz, gs, if_true, if_false, Bool.false_eq_true, Bool.not_true, Bool.not_false, Nat.add_zero, Nat.zero_add, Nat.reduceAdd]
            refine wpPi_len _ _ _ _ _ rfl rfl rfl (by kernel_rfl) ?_
            simp only [pl, pn, el, ec, sz, ss, gz, gs, if_true, if_false, Bool.false_eq_true, Bool.not_true, Bool.not_false, Nat.add_zero, Nat.zero_add, Nat.reduceAdd]
            refine wpPi_cmp _ _ _ _ _ _ _ _ rfl rfl rfl rfl rfl true (decide_eq_true hzj) ?_
            simp only [pl, pn, el, ec, sz, ss, gz, gs, if_true, if_false, Bool.false_eq_true, Bool.not_true, Bool.not_false, Nat.add_zero, Nat.zero_add, Nat.reduceAdd]
            refine wpPi_move _ rfl rfl ?_
            simp only [pl, pn, el, ec, sz, ss, gz, gs, if_true, if_false, Bool.false_eq_true, Bool.not_true, Bool.not_false, Nat.add_zero, Nat.zero_add, Nat.reduceAdd]
            refine wpPi_move _ rfl rfl ?_
            simp only [pl, pn, el, ec, sz, ss, gz, gs, if_true, if_false, Bool.false_eq_true, Bool.not_true, Bool.not_false, Nat.add_zero, Nat.zero_add, Nat.reduceAdd]
            refine wpPi_move _ rfl rfl ?_
            simp only [pl, pn, el, ec, sz, ss, gz, gs, if_true, if_false, Bool.false_eq_true, Bool.not_true, Bool.not_false, Nat.add_zero, Nat.zero_add, Nat.reduceAdd]
            refine wpPi_index _ _ _ _ _ _ _ _ _ rfl rfl rfl rfl Try.underlying26 (n := 1) (by kernel_rfl) hjl ?_
            simp only [pl, pn, el, ec, sz, ss, gz, gs, if_true, if_false, Bool.false_eq_true, Bool.not_true, Bool.not_false, Nat.add_zero, Nat.zero_add, Nat.reduceAdd]
            refine wpPi_val rfl (fun w' hS => exec_load1 9 _ (by rfl) b3 (off3 + j * 1) (by rfl) (.string y) (hS.cell id hky) _ Try.underlying9 rfl) ?_
            simp only [pl, pn, el, ec, sz, ss, gz, gs, if_true, if_false, Bool.false_eq_true, Bool.not_true, Bool.not_false, Nat.add_zero, Nat.zero_add, Nat.reduceAdd]
            refine wpPi_move _ rfl rfl ?_
            simp only [pl, pn, el, ec, sz, ss, gz, gs, if_true, if_false, Bool.false_eq_true, Bool.not_true, Bool.not_false, Nat.add_zero, Nat.zero_add, Nat.reduceAdd]
            refine wpPi_move _ rfl rfl ?_
            simp only [pl, pn, el, ec, sz, ss, gz, gs, if_true, if_false, Bool.false_eq_true, Bool.not_true, Bool.not_false, Nat.add_zero, Nat.zero_add, Nat.reduceAdd]
            refine wpPi_index _ _ _ _ _ _ _ _ _ rfl rfl rfl rfl Try.underlying26 (n := 1) (by kernel_rfl) hlt ?_
            simp only [pl, pn, el, ec, sz, ss, gz, gs, if_true, if_false, Bool.false_eq_true, Bool.not_true, Bool.not_false, Nat.add_zero, Nat.zero_add, Nat.reduceAdd]
            refine wpPi_val rfl (fun w' hS => exec_load1 9 _ (by rfl) b1 (off1 + k * 1) (by rfl) (.string x) (hS.cell id hkx8) _ Try.underlying9 rfl) ?_
            simp only [pl, pn, el, ec, sz, ss, gz, gs, if_true, if_false, Bool.false_eq_true, Bool.not_true, Bool.not_false, Nat.add_zero, Nat.zero_add, Nat.reduceAdd]
            refine wpPi_val rfl (fun w' hS => exec_lss_str _ _ _ _ rfl y x rfl rfl false hbl) ?_
            simp only [pl, pn, el, ec, sz, ss, gz, gs, if_true, if_false, Bool.false_eq_true, Bool.not_true, Bool.not_false, Nat.add_zero, Nat.zero_add, Nat.reduceAdd]
            refine wpPi_pick _ _ _ _ rfl rfl rfl ?_
            simp only [pl, pn, el, ec, sz, ss, gz, gs, if_true, if_false, Bool.false_eq_true, Bool.not_true, Bool.not_false, Nat.add_zero, Nat.zero_add, Nat.reduceAdd]
            refine wpPi_nil ?_
            clear hbl
            replace hM8 := hM8.trans0 hS
            replace HG8 := Lib.hid (HG8.out.keep0 hS)
            replace hkx8 := hS.cell id hkx8
            replace hky := hS.cell id hky
            clear hS hs8 hm8 hkx hm
            generalize w8.drew = we at *
            go_upto_region 8 with (fail)
            have hS : Mod NoB we we.drew := (Mod.refl _ _).drew
            by_cases hyx : y = x
            · have HOLD := Lib.hid (show Rise (l.take (k + 1)) out by rw [HTK.out]; exact rise_old HR.out (by rw [← hyx]; exact HMEM.out))
              clear HT2 HINS HMEM hy
              refine wp_region_pi [(0, 3), (1, 3), (2, 3), (3, 3), (4, 3), (5, 3), (6, 3), (7, 3), (8, 0), (9, 3), (10, 3), (11, 3), (12, 0), (13, 0), (14, 3)] [] (fun w' => Mod NoB we w') (by kernel_rfl) (by kernel_rfl) (by kernel_rfl) (by kernel_rfl) (fun _ _ _ _ hd h => ⟨hd.trans h.1, h.2⟩) hS ?_
              simp only [List.map_cons, List.map_nil, List.getD_cons_zero, List.getD_cons_succ]
              refine wpPi_move _ rfl rfl ?_
              simp only [pl, pn, el, ec, sz, ss, gz, gs, if_true, if_false, Bool.false_eq_true, Bool.not_true, Bool.not_false, Nat.add_zero, Nat.zero_add, Nat.reduceAdd]
              refine wpPi_move _ rfl rfl ?_
              simp only [pl, pn, el, ec, sz, ss, gz, gs, if_true, if_false, Bool.false_eq_true, Bool.not_true, Bool.not_false, Nat.add_zero, Nat.zero_add, Nat.reduceAdd]
              refine wpPi_len _ _ _ _ _ rfl rfl rfl (by kernel_rfl) ?_
              simp only [pl, pn, el, ec, sz, ss, gz, gs, if_true, if_false, Bool.false_eq_true, Bool.not_true, Bool.not_false, Nat.add_zero, Nat.zero_add, Nat.reduceAdd]
              refine wpPi_cmp _ _ _ _ _ _ _ _ rfl rfl rfl rfl rfl true (decide_eq_true hzj) ?_
              simp only [pl, pn, el, ec, sz, ss, gz, gs, if_true, if_false, Bool.false_eq_true, Bool.not_true, Bool.not_false, Nat.add_zero, Nat.zero_add, Nat.reduceAdd]
              refine wpPi_move _ rfl rfl ?_
              simp only [pl, pn, el, ec, sz, ss, gz, gs, if_true, if_false, Bool.false_eq_true, Bool.not_true, Bool.not_false, Nat.add_zero, Nat.zero_add, Nat.reduceAdd]
              refine wpPi_move _ rfl rfl ?_
              simp only [pl, pn, el, ec, sz, ss, gz, gs, if_true, if_false, Bool.false_eq_true, Bool.not_true, Bool.not_false, Nat.add_zero, Nat.zero_add, Nat.reduceAdd]
              refine wpPi_move _ rfl rfl ?_
              simp only [pl, pn, el, ec, sz, ss, gz, gs, if_true, if_false, Bool.false_eq_true, Bool.not_true, Bool.not_false, Nat.add_zero, Nat.zero_add, Nat.reduceAdd]
              refine wpPi_index _ _ _ _ _ _ _ _ _ rfl rfl rfl rfl Try.underlying26 (n := 1) (by kernel_rfl) hjl ?_
              simp only [pl, pn, el, ec, sz, ss, gz, gs, if_true, if_false, Bool.false_eq_true, Bool.not_true, Bool.not_false, Nat.add_zero, Nat.zero_add, Nat.reduceAdd]
              refine wpPi_val rfl (fun w' hS => exec_load1 9 _ (by rfl) b3 (off3 + j * 1) (by rfl) (.string y) (hS.cell id hky) _ Try.underlying9 rfl) ?_
              simp only [pl, pn, el, ec, sz, ss, gz, gs, if_true, if_false, Bool.false_eq_true, Bool.not_true, Bool.not_false, Nat.add_zero, Nat.zero_add, Nat.reduceAdd]
              refine wpPi_move _ rfl rfl ?_
              simp only [pl, pn, el, ec, sz, ss, gz, gs, if_true, if_false, Bool.false_eq_true, Bool.not_true, Bool.not_false, Nat.add_zero, Nat.zero_add, Nat.reduceAdd]
              refine wpPi_move _ rfl rfl ?_
              simp only [pl, pn, el, ec, sz, ss, gz, gs, if_true, if_false, Bool.false_eq_true, Bool.not_true, Bool.not_false, Nat.add_zero, Nat.zero_add, Nat.reduceAdd]
              refine wpPi_index _ _ _ _ _ _ _ _ _ rfl rfl rfl rfl Try.underlying26 (n := 1) (by kernel_rfl) hlt ?_
              simp only [pl, pn, el, ec, sz, ss, gz, gs, if_true, if_false, Bool.false_eq_true, Bool.not_true, Bool.not_false, Nat.add_zero, Nat.zero_add, Nat.reduceAdd]
              refine wpPi_val rfl (fun w' hS => exec_load1 9 _ (by rfl) b1 (off1 + k * 1) (by rfl) (.string x) (hS.cell id hkx8) _ Try.underlying9 rfl) ?_
              simp only [pl, pn, el, ec, sz, ss, gz, gs, if_true, if_false, Bool.false_eq_true, Bool.not_true, Bool.not_false, Nat.add_zero, Nat.zero_add, Nat.reduceAdd]
              refine wpPi_val rfl (fun w' hS => exec_eql_str _ _ _ _ rfl y x rfl rfl true (decide_eq_true hyx)) ?_
              simp only [pl, pn, el, ec, sz, ss, gz, gs, if_true, if_false, Bool.false_eq_true, Bool.not_true, Bool.not_false, Nat.add_zero, Nat.zero_add, Nat.reduceAdd]
              refine wpPi_pick _ _ _ _ rfl rfl rfl ?_
              simp only [pl, pn, el, ec, sz, ss, gz, gs, if_true, if_false, Bool.false_eq_true, Bool.not_true, Bool.not_false, Nat.add_zero, Nat.zero_add, Nat.reduceAdd]
              refine wpPi_nil ?_
              have hMx := hM8.trans0 hS
              have hgx := HG8.out.keep0 hS
              clear hS hM8 HG8 hyx
              go_wp2
              go_roundw
              case rel => exact ⟨k + 1, out, by omega, by go_num, HOLD.out, by omega, hgx, hMx⟩
              case measure => simp [intOf]; omega
            · have hins : Rise (l.take (k + 1)) (out.take j ++ [x] ++ out.drop j) := by rw [HTK.out]; exact HINS.out (HT2.out hyx)
              clear HT2 HINS HMEM hy
              refine wp_region_pi [(0, 3), (1, 3), (2, 3), (3, 3), (4, 3), (5, 3), (6, 3), (7, 3), (8, 0), (9, 3), (10, 3), (11, 3), (12, 0), (13, 0), (14, 3)] [] (fun w' => Mod NoB we w') (by kernel_rfl) (by kernel_rfl) (by kernel_rfl) (by kernel_rfl) (fun _ _ _ _ hd h => ⟨hd.trans h.1, h.2⟩) hS ?_
              simp only [List.map_cons, List.map_nil, List.getD_cons_zero, List.getD_cons_succ]
              refine wpPi_move _ rfl rfl ?_
              simp only [pl, pn, el, ec, sz, ss, gz, gs, if_true, if_false, Bool.false_eq_true, Bool.not_true, Bool.not_false, Nat.add_zero, Nat.zero_add, Nat.reduceAdd]
              refine wpPi_move _ rfl rfl ?_
              simp only [pl, pn, el, ec, sz, ss, gz, gs, if_true, if_false, Bool.false_eq_true, Bool.not_true, Bool.not_false, Nat.add_zero, Nat.zero_add, Nat.reduceAdd]
              refine wpPi_len _ _ _ _ _ rfl rfl rfl (by kernel_rfl) ?_
              simp only [pl, pn, el, ec, sz, ss, gz, gs, if_true, if_false, Bool.false_eq_true, Bool.not_true, Bool.not_false, Nat.add_zero, Nat.zero_add, Nat.reduceAdd]
              refine wpPi_cmp _ _ _ _ _ _ _ _ rfl rfl rfl rfl rfl true (decide_eq_true hzj) ?_
              simp only [pl, pn, el, ec, sz, ss, gz, gs, if_true, if_false, Bool.false_eq_true, Bool.not_true, Bool.not_false, Nat.add_zero, Nat.zero_add, Nat.reduceAdd]
              refine wpPi_move _ rfl rfl ?_
              simp only [pl, pn, el, ec, sz, ss, gz, gs, if_true, if_false, Bool.false_eq_true, Bool.not_true, Bool.not_false, Nat.add_zero, Nat.zero_add, Nat.reduceAdd]
              refine wpPi_move _ rfl rfl ?_
              simp only [pl, pn, el, ec, sz, ss, gz, gs, if_true, if_false, Bool.false_eq_true, Bool.not_true, Bool.not_false, Nat.add_zero, Nat.zero_add, Nat.reduceAdd]
              refine wpPi_move _ rfl rfl ?_
              simp only [pl, pn, el, ec, sz, ss, gz, gs, if_true, if_false, Bool.false_eq_true, Bool.not_true, Bool.not_false, Nat.add_zero, Nat.zero_add, Nat.reduceAdd]
              refine wpPi_index _ _ _ _ _ _ _ _ _ rfl rfl rfl rfl Try.underlying26 (n := 1) (by kernel_rfl) hjl ?_
              simp only [pl, pn, el, ec, sz, ss, gz, gs, if_true, if_false, Bool.false_eq_true, Bool.not_true, Bool.not_false, Nat.add_zero, Nat.zero_add, Nat.reduceAdd]
              refine wpPi_val rfl (fun w' hS => exec_load1 9 _ (by rfl) b3 (off3 + j * 1) (by rfl) (.string y) (hS.cell id hky) _ Try.underlying9 rfl) ?_
              simp only [pl, pn, el, ec, sz, ss, gz, gs, if_true, if_false, Bool.false_eq_true, Bool.not_true, Bool.not_false, Nat.add_zero, Nat.zero_add, Nat.reduceAdd]
              refine wpPi_move _ rfl rfl ?_
              simp only [pl, pn, el, ec, sz, ss, gz, gs, if_true, if_false, Bool.false_eq_true, Bool.not_true, Bool.not_false, Nat.add_zero, Nat.zero_add, Nat.reduceAdd]
              refine wpPi_move _ rfl rfl ?_
              simp only [pl, pn, el, ec, sz, ss, gz, gs, if_true, if_false, Bool.false_eq_true, Bool.not_true, Bool.not_false, Nat.add_zero, Nat.zero_add, Nat.reduceAdd]
              refine wpPi_index _ _ _ _ _ _ _ _ _ rfl rfl rfl rfl Try.underlying26 (n := 1) (by kernel_rfl) hlt ?_
              simp only [pl, pn, el, ec, sz, ss, gz, gs, if_true, if_false, Bool.false_eq_true, Bool.not_true, Bool.not_false, Nat.add_zero, Nat.zero_add, Nat.reduceAdd]
              refine wpPi_val rfl (fun w' hS => exec_load1 9 _ (by rfl) b1 (off1 + k * 1) (by rfl) (.string x) (hS.cell id hkx8) _ Try.underlying9 rfl) ?_
              simp only [pl, pn, el, ec, sz, ss, gz, gs, if_true, if_false, Bool.false_eq_true, Bool.not_true, Bool.not_false, Nat.add_zero, Nat.zero_add, Nat.reduceAdd]
              refine wpPi_val rfl (fun w' hS => exec_eql_str _ _ _ _ rfl y x rfl rfl false (decide_eq_false hyx)) ?_
              simp only [pl, pn, el, ec, sz, ss, gz, gs, if_true, if_false, Bool.false_eq_true, Bool.not_true, Bool.not_false, Nat.add_zero, Nat.zero_add, Nat.reduceAdd]
              refine wpPi_pick _ _ _ _ rfl rfl rfl ?_
              simp only [pl, pn, el, ec, sz, ss, gz, gs, if_true, if_false, Bool.false_eq_true, Bool.not_true, Bool.not_false, Nat.add_zero, Nat.zero_add, Nat.reduceAdd]
              refine wpPi_nil ?_
              replace hM8 := hM8.trans0 hS
              replace HG8 := Lib.hid (HG8.out.keep0 hS)
              replace hkx8 := hS.cell id hkx8
              clear hS hyx hky
              generalize we.drew = wi at *
              have hjle : j ≤ out.length := by omega
              have hcap := gat_cap HG8.out
              have hsz8 := hM8.size
              go_upto_region 9 with (fail)
              refine wp_region_seq [1, 3, 3, 3, 1, 3] (fun _ => True) (by rfl) (by rfl) trivial ?_
              simp only [List.zip_cons_cons, List.zip_nil_right]
              refine wpPi_do rfl (fun K hK => ?_)
              refine wp_buildSlice0 26 9 (by rfl) Try.underlying26 (by kernel_rfl) (fun w9 hB9 hm9 hs9 => ?_)
              refine hK _ _ trivial ?_
              clear hK K
              try simp only [pl, pn, el, ec, sz, ss, gz, gs, if_true, if_false, Bool.false_eq_true, Bool.not_true, Bool.not_false, Nat.add_zero, Nat.zero_add, Nat.reduceAdd]
              refine wpPi_move _ rfl rfl ?_
              simp only [pl, pn, el, ec, sz, ss, gz, gs, if_true, if_false, Bool.false_eq_true, Bool.not_true, Bool.not_false, Nat.add_zero, Nat.zero_add, Nat.reduceAdd]
              refine wpPi_move _ rfl rfl ?_
              simp only [pl, pn, el, ec, sz, ss, gz, gs, if_true, if_false, Bool.false_eq_true, Bool.not_true, Bool.not_false, Nat.add_zero, Nat.zero_add, Nat.reduceAdd]
              refine wpPi_sliceFrom 26 9 _ _ _ _ _ j 1 rfl rfl rfl rfl Try.underlying26 (by kernel_rfl) hjle ?_
              simp only [pl, pn, el, ec, sz, ss, gz, gs, if_true, if_false, Bool.false_eq_true, Bool.not_true, Bool.not_false, Nat.add_zero, Nat.zero_add, Nat.reduceAdd]
              refine wpPi_do rfl (fun K hK => ?_)
              refine wp_gatB strEnc _ _ 26 9 (.string ⟨#[]⟩) 1 16 (by rfl) Try.underlying26 str_i (by kernel_rfl) (by omega) strEnc_one wi.heap.size _ [] (by rfl) (owns_empty _ hB9 (Nat.le_refl _)) _ (out.drop j) (by rfl) (src_drop (HG8.out.keep0 hm9) hjle) (by simp only [List.length_nil, List.length_drop]; unfold maxLen; omega) (by simp only [List.length_nil, List.length_drop]; omega) hm9.size (fun v10 w10 hg10 hm10 hn10 => ?_)
              have hM10 : Mod NoB wi w10 := hm9.trans hm10 (fun k hk e => by
                have e' : some wi.heap.size = some k := e
                cases e'; omega)
              refine hK _ _ trivial ?_
              clear hK K
              try simp only [pl, pn, el, ec, sz, ss, gz, gs, if_true, if_false, Bool.false_eq_true, Bool.not_true, Bool.not_false, Nat.add_zero, Nat.zero_add, Nat.reduceAdd]
              refine wpPi_assign _ rfl rfl ?_
              simp only [pl, pn, el, ec, sz, ss, gz, gs, if_true, if_false, Bool.false_eq_true, Bool.not_true, Bool.not_false, Nat.add_zero, Nat.zero_add, Nat.reduceAdd]
              refine wpPi_nil ?_
              rw [List.nil_append] at hg10
              have HG10 := Lib.hid hg10
              have HGX := Lib.hid (HG8.out.keep0 hM10)
              have hsz10 := hM10.size
              have hown : ∀ q, (Value.slice (some ⟨b3, off3, none⟩) out.length cap3).ownBlock = some q → q < wi.heap.size := fun q hq => (HG8.out.lt hq).2
              have hkx' := hM10.cell id (hkx8)
              clear hg10 hm9 hm10 hn10 hB9
              go_upto_region 10 with (fail)
              have hT : Mod NoB w10 w10.drew := (Mod.refl _ _).drew
              have hS : Mod (fun q => w.heap.size ≤ q) w10 w10.drew := (Mod.refl _ _).drew
              have hto := gat_to (HGX.out.keep0 hT) hjle
              refine wp_region_pi [(0, 3), (1, 3), (2, 3), (3, 3), (4, 3), (5, 3), (6, 0), (9, 3), (7, 1), (8, 1), (10, 1), (11, 3)] [] (fun w' => Mod (fun q => w.heap.size ≤ q) w10 w') (by kernel_rfl) (by kernel_rfl) (by kernel_rfl) (by kernel_rfl) (fun _ _ _ _ hd h => ⟨hd.trans h.1, h.2⟩) hS ?_
              simp only [List.map_cons, List.map_nil, List.getD_cons_zero, List.getD_cons_succ]
              refine wpPi_move _ rfl rfl ?_
              simp only [pl, pn, el, ec, sz, ss, gz, gs, if_true, if_false, Bool.false_eq_true, Bool.not_true, Bool.not_false, Nat.add_zero, Nat.zero_add, Nat.reduceAdd]
              refine wpPi_move _ rfl rfl ?_
              simp only [pl, pn, el, ec, sz, ss, gz, gs, if_true, if_false, Bool.false_eq_true, Bool.not_true, Bool.not_false, Nat.add_zero, Nat.zero_add, Nat.reduceAdd]
              refine wpPi_sliceTo 26 9 _ _ _ _ _ j 1 rfl rfl rfl rfl Try.underlying26 (by kernel_rfl) (by omega) ?_
              simp only [pl, pn, el, ec, sz, ss, gz, gs, if_true, if_false, Bool.false_eq_true, Bool.not_true, Bool.not_false, Nat.add_zero, Nat.zero_add, Nat.reduceAdd]
              refine wpPi_move _ rfl rfl ?_
              simp only [pl, pn, el, ec, sz, ss, gz, gs, if_true, if_false, Bool.false_eq_true, Bool.not_true, Bool.not_false, Nat.add_zero, Nat.zero_add, Nat.reduceAdd]
              refine wpPi_move _ rfl rfl ?_
              simp only [pl, pn, el, ec, sz, ss, gz, gs, if_true, if_false, Bool.false_eq_true, Bool.not_true, Bool.not_false, Nat.add_zero, Nat.zero_add, Nat.reduceAdd]
              refine wpPi_index _ _ _ _ _ _ _ _ _ rfl rfl rfl rfl Try.underlying26 (n := 1) (by kernel_rfl) hlt ?_
              simp only [pl, pn, el, ec, sz, ss, gz, gs, if_true, if_false, Bool.false_eq_true, Bool.not_true, Bool.not_false, Nat.add_zero, Nat.zero_add, Nat.reduceAdd]
              refine wpPi_val rfl (fun w' hS => exec_load1 9 _ (by rfl) b1 (off1 + k * 1) (by rfl) (.string x) (hS.cell hnb hkx') _ Try.underlying9 rfl) ?_
              simp only [pl, pn, el, ec, sz, ss, gz, gs, if_true, if_false, Bool.false_eq_true, Bool.not_true, Bool.not_false, Nat.add_zero, Nat.zero_add, Nat.reduceAdd]
              refine wpPi_move _ rfl rfl ?_
              simp only [pl, pn, el, ec, sz, ss, gz, gs, if_true, if_false, Bool.false_eq_true, Bool.not_true, Bool.not_false, Nat.add_zero, Nat.zero_add, Nat.reduceAdd]
              refine wpPi_do rfl (fun K hK => ?_)
              refine wp_buildSlice1 26 9 _ (.string x) (.string ⟨#[]⟩) 1 (by rfl) (by rfl) Try.underlying26 str_i2 (by omega) (by omega) rfl (fun w11 hB11 hm11 hs11 => ?_)
              replace hT := hT.trans0 hm11
              refine hK _ _ (hT.mono fun _ _ h => h.elim) ?_
              clear hK K
              try simp only [pl, pn, el, ec, sz, ss, gz, gs, if_true, if_false, Bool.false_eq_true, Bool.not_true, Bool.not_false, Nat.add_zero, Nat.zero_add, Nat.reduceAdd]
              refine wpPi_do rfl (fun K hK => ?_)
              refine wp_gat strEnc _ _ 26 9 (.string ⟨#[]⟩) 1 16 (by rfl) Try.underlying26 str_i (by kernel_rfl) (by omega) strEnc_one w.heap.size _ _ (by rfl) (hto.1.keep0 hm11) (.slice (some ⟨w10.heap.size, 0, none⟩) 1 1) [x] (by rfl) (src_lit (enc := strEnc) (x := x) (e := 9) (fun _ => rfl) hB11) (by simp only [List.length_singleton, List.length_take]; unfold maxLen; omega) (by simp only [List.length_singleton, List.length_take]; omega) (by have := hT.size; omega) (fun v12 w12 hg12 hm12 => ?_)
              have hr12 := (HG10.out.keep0 hT).keep hm12 (fun q h1 h2 => by
                have h3 := (HG10.out.lt h1).1
                have h4 := hown q (hto.2 q h2)
                omega)
              have hT12 : Mod (fun q => w.heap.size ≤ q) w10 w12 := (hT.mono fun _ _ h => h.elim).trans hm12 (fun q hq e => (HGX.out.lt (hto.2 q e)).1)
              refine hK _ _ hT12 ?_
              clear hK K
              try simp only [pl, pn, el, ec, sz, ss, gz, gs, if_true, if_false, Bool.false_eq_true, Bool.not_true, Bool.not_false, Nat.add_zero, Nat.zero_add, Nat.reduceAdd]
              refine wpPi_do rfl (fun K hK => ?_)
              refine wp_gat strEnc _ _ 26 9 (.string ⟨#[]⟩) 1 16 (by rfl) Try.underlying26 str_i (by kernel_rfl) (by omega) strEnc_one w.heap.size _ _ (by rfl) hg12 v10 (out.drop j) (by rfl) hr12.src (by simp only [List.length_append, List.length_singleton, List.length_take, List.length_drop]; unfold maxLen; omega) (by simp only [List.length_append, List.length_singleton, List.length_take, List.length_drop]; omega) (by have := hT12.size; omega) (fun v13 w13 hg13 hm13 => ?_)
              have hT13 : Mod (fun q => w.heap.size ≤ q) w10 w13 := hT12.trans hm13 (fun q hq e => (hg12.lt e).1)
              refine hK _ _ hT13 ?_
              clear hK K
              try simp only [pl, pn, el, ec, sz, ss, gz, gs, if_true, if_false, Bool.false_eq_true, Bool.not_true, Bool.not_false, Nat.add_zero, Nat.zero_add, Nat.reduceAdd]
              refine wpPi_assign _ rfl rfl ?_
              simp only [pl, pn, el, ec, sz, ss, gz, gs, if_true, if_false, Bool.false_eq_true, Bool.not_true, Bool.not_false, Nat.add_zero, Nat.zero_add, Nat.reduceAdd]
              refine wpPi_nil ?_
              have hMr : Mod NoB w w13 := (hM8.trans0 hM10).trans hT13 (fun q hq e => by have e' : w.heap.size ≤ q := e; omega)
              generalize sliced (some ⟨b3, off3, none⟩) 0 j cap3 1 = sl1
              generalize sliced (some ⟨b3, off3, none⟩) j out.length cap3 1 = sl2
              have hlen' : (out.take j ++ [x] ++ out.drop j).length ≤ k + 1 := by simp only [List.length_append, List.length_singleton, List.length_take, List.length_drop]; omega
              have HINS := Lib.hid hins
              clear hT hS hm11 hm12 hm13 hT12 hT13 hM8 hM10 hB11 hto hr12 hg12 HG10 HGX HG8 hown hins
              go_wp2
              go_roundw
              case rel => exact ⟨k + 1, _, by omega, by go_num, HINS.out, hlen', hg13, hMr⟩
              case measure => simp [intOf]; omega
        · have hzj : ¬ (j : Int) < (out.length : Int) := by omega
          go_upto_region 6 with (fail)
          have hS : Mod NoB w8 w8.drew := (Mod.refl _ _).drew
          refine wp_region_pi [(0, 3), (1, 3), (2, 3), (3, 3), (4, 3), (5, 3), (6, 3), (7, 3), (8, 0), (9, 3), (10, 3), (11, 3), (12, 0), (13, 3), (14, 3)] [] (fun w' => Mod NoB w8 w') (by kernel_rfl) (by kernel_rfl) (by kernel_rfl) (by kernel_rfl) (fun _ _ _ _ hd h => ⟨hd.trans h.1, h.2⟩) hS ?_
          simp only [List.map_cons, List.map_nil, List.getD_cons_zero, List.getD_cons_succ]
          refine wpPi_move _ rfl rfl ?_
          simp only [pl, pn, el, ec, sz, ss, gz, gs, if_true, if_false, Bool.false_eq_true, Bool.not_true, Bool.not_false, Nat.add_zero, Nat.zero_add, Nat.reduceAdd]
          refine wpPi_move _ rfl rfl ?_
          simp only [pl, pn, el, ec, sz, ss, gz, gs, if_true, if_false, Bool.false_eq_true, Bool.not_true, Bool.not_false, Nat.add_zero, Nat.zero_add, Nat.reduceAdd]
          refine wpPi_len _ _ _ _ _ rfl rfl rfl (by kernel_rfl) ?_
          simp only [pl, pn, el, ec, sz, ss, gz, gs, if_true, if_false, Bool.false_eq_true, Bool.not_true, Bool.not_false, Nat.add_zero, Nat.zero_add, Nat.reduceAdd]
          refine wpPi_cmp _ _ _ _ _ _ _ _ rfl rfl rfl rfl rfl false (decide_eq_false hzj) ?_
          simp only [pl, pn, el, ec, sz, ss, gz, gs, if_true, if_false, Bool.false_eq_true, Bool.not_true, Bool.not_false, Nat.add_zero, Nat.zero_add, Nat.reduceAdd]
          refine wpPi_move _ rfl rfl ?_
          simp only [pl, pn, el, ec, sz, ss, gz, gs, if_true, if_false, Bool.false_eq_true, Bool.not_true, Bool.not_false, Nat.add_zero, Nat.zero_add, Nat.reduceAdd]
          refine wpPi_skip rfl ?_
          simp only [pl, pn, el, ec, sz, ss, gz, gs, if_true, if_false, Bool.false_eq_true, Bool.not_true, Bool.not_false, Nat.add_zero, Nat.zero_add, Nat.reduceAdd]
          refine wpPi_skip rfl ?_
          simp only [pl, pn, el, ec, sz, ss, gz, gs, if_true, if_false, Bool.false_eq_true, Bool.not_true, Bool.not_false, Nat.add_zero, Nat.zero_add, Nat.reduceAdd]
          refine wpPi_skip rfl ?_
          simp only [pl, pn, el, ec, sz, ss, gz, gs, if_true, if_false, Bool.false_eq_true, Bool.not_true, Bool.not_false, Nat.add_zero, Nat.zero_add, Nat.reduceAdd]
          refine wpPi_skip0 rfl ?_
          simp only [pl, pn, el, ec, sz, ss, gz, gs, if_true, if_false, Bool.false_eq_true, Bool.not_true, Bool.not_false, Nat.add_zero, Nat.zero_add, Nat.reduceAdd]
          refine wpPi_skip rfl ?_
          simp only [pl, pn, el, ec, sz, ss, gz, gs, if_true, if_false, Bool.false_eq_true, Bool.not_true, Bool.not_false, Nat.add_zero, Nat.zero_add, Nat.reduceAdd]
          refine wpPi_skip rfl ?_
          simp only [pl, pn, el, ec, sz, ss, gz, gs, if_true, if_false, Bool.false_eq_true, Bool.not_true, Bool.not_false, Nat.add_zero, Nat.zero_add, Nat.reduceAdd]
          refine wpPi_skip rfl ?_
          simp only [pl, pn, el, ec, sz, ss, gz, gs, if_true, if_false, Bool.false_eq_true, Bool.not_true, Bool.not_false, Nat.add_zero, Nat.zero_add, Nat.reduceAdd]
          refine wpPi_skip0 rfl ?_
          simp only [pl, pn, el, ec, sz, ss, gz, gs, if_true, if_false, Bool.false_eq_true, Bool.not_true, Bool.not_false, Nat.add_zero, Nat.zero_add, Nat.reduceAdd]
          refine wpPi_skip rfl ?_
          simp only [pl, pn, el, ec, sz, ss, gz, gs, if_true, if_false, Bool.false_eq_true, Bool.not_true, Bool.not_false, Nat.add_zero, Nat.zero_add, Nat.reduceAdd]
          refine wpPi_pick _ _ _ _ rfl rfl rfl ?_
          simp only [pl, pn, el, ec, sz, ss, gz, gs, if_true, if_false, Bool.false_eq_true, Bool.not_true, Bool.not_false, Nat.add_zero, Nat.zero_add, Nat.reduceAdd]
          refine wpPi_nil ?_
          have hins : Rise (l.take (k + 1)) (out.take j ++ [x] ++ out.drop j) := by rw [HTK.out]; exact rise_ins HR.out hj HALL.out (fun h => absurd h hjl)
          replace hM8 := hM8.trans0 hS
          replace HG8 := Lib.hid (HG8.out.keep0 hS)
          replace hkx8 := hS.cell id hkx8
          clear hS hm8 hkx hm HALL
          generalize w8.drew = we at *
          go_upto_region 8 with (fail)
          have hS : Mod NoB we we.drew := (Mod.refl _ _).drew
          refine wp_region_pi [(0, 3), (1, 3), (2, 3), (3, 3), (4, 3), (5, 3), (6, 3), (7, 3), (8, 0), (9, 3), (10, 3), (11, 3), (12, 0), (13, 3), (14, 3)] [] (fun w' => Mod NoB we w') (by kernel_rfl) (by kernel_rfl) (by kernel_rfl) (by kernel_rfl) (fun _ _ _ _ hd h => ⟨hd.trans h.1, h.2⟩) hS ?_
          simp only [List.map_cons, List.map_nil, List.getD_cons_zero, List.getD_cons_succ]
          refine wpPi_move _ rfl rfl ?_
          simp only [pl, pn, el, ec, sz, ss, gz, gs, if_true, if_false, Bool.false_eq_true, Bool.not_true, Bool.not_false, Nat.add_zero, Nat.zero_add, Nat.reduceAdd]
          refine wpPi_move _ rfl rfl ?_
          simp only [pl, pn, el, ec, sz, ss, gz, gs, if_true, if_false, Bool.false_eq_true, Bool.not_true, Bool.not_false, Nat.add_zero, Nat.zero_add, Nat.reduceAdd]
          refine wpPi_len _ _ _ _ _ rfl rfl rfl (by kernel_rfl) ?_
          simp only [pl, pn, el, ec, sz, ss, gz, gs, if_true, if_false, Bool.false_eq_true, Bool.not_true, Bool.not_false, Nat.add_zero, Nat.zero_add, Nat.reduceAdd]
          refine wpPi_cmp _ _ _ _ _ _ _ _ rfl rfl rfl rfl rfl false (decide_eq_false hzj) ?_
          simp only [pl, pn, el, ec, sz, ss, gz, gs, if_true, if_false, Bool.false_eq_true, Bool.not_true, Bool.not_false, Nat.add_zero, Nat.zero_add, Nat.reduceAdd]
          refine wpPi_move _ rfl rfl ?_
          simp only [pl, pn, el, ec, sz, ss, gz, gs, if_true, if_false, Bool.false_eq_true, Bool.not_true, Bool.not_false, Nat.add_zero, Nat.zero_add, Nat.reduceAdd]
          refine wpPi_skip rfl ?_
          simp only [pl, pn, el, ec, sz, ss, gz, gs, if_true, if_false, Bool.false_eq_true, Bool.not_true, Bool.not_false, Nat.add_zero, Nat.zero_add, Nat.reduceAdd]
          refine wpPi_skip rfl ?_
          simp only [pl, pn, el, ec, sz, ss, gz, gs, if_true, if_false, Bool.false_eq_true, Bool.not_true, Bool.not_false, Nat.add_zero, Nat.zero_add, Nat.reduceAdd]
          refine wpPi_skip rfl ?_
          simp only [pl, pn, el, ec, sz, ss, gz, gs, if_true, if_false, Bool.false_eq_true, Bool.not_true, Bool.not_false, Nat.add_zero, Nat.zero_add, Nat.reduceAdd]
          refine wpPi_skip0 rfl ?_
          simp only [pl, pn, el, ec, sz, ss, gz, gs, if_true, if_false, Bool.false_eq_true, Bool.not_true, Bool.not_false, Nat.add_zero, Nat.zero_add, Nat.reduceAdd]
          refine wpPi_skip rfl ?_
          simp only [pl, pn, el, ec, sz, ss, gz, gs, if_true, if_false, Bool.false_eq_true, Bool.not_true, Bool.not_false, Nat.add_zero, Nat.zero_add, Nat.reduceAdd]
          refine wpPi_skip rfl ?_
          simp only [pl, pn, el, ec, sz, ss, gz, gs, if_true, if_false, Bool.false_eq_true, Bool.not_true, Bool.not_false, Nat.add_zero, Nat.zero_add, Nat.reduceAdd]
          refine wpPi_skip rfl ?_
          simp only [pl, pn, el, ec, sz, ss, gz, gs, if_true, if_false, Bool.false_eq_true, Bool.not_true, Bool.not_false, Nat.add_zero, Nat.zero_add, Nat.reduceAdd]
          refine wpPi_skip0 rfl ?_
          simp only [pl, pn, el, ec, sz, ss, gz, gs, if_true, if_false, Bool.false_eq_true, Bool.not_true, Bool.not_false, Nat.add_zero, Nat.zero_add, Nat.reduceAdd]
          refine wpPi_skip rfl ?_
          simp only [pl, pn, el, ec, sz, ss, gz, gs, if_true, if_false, Bool.false_eq_true, Bool.not_true, Bool.not_false, Nat.add_zero, Nat.zero_add, Nat.reduceAdd]
          refine wpPi_pick _ _ _ _ rfl rfl rfl ?_
          simp only [pl, pn, el, ec, sz, ss, gz, gs, if_true, if_false, Bool.false_eq_true, Bool.not_true, Bool.not_false, Nat.add_zero, Nat.zero_add, Nat.reduceAdd]
          refine wpPi_nil ?_
          replace hM8 := hM8.trans0 hS
          replace HG8 := Lib.hid (HG8.out.keep0 hS)
          replace hkx8 := hS.cell id hkx8
          clear hS
          generalize we.drew = wi at *
          have hjle : j ≤ out.length := by omega
          have hcap := gat_cap HG8.out
          have hsz8 := hM8.size
          go_upto_region 9 with (fail)
          refine wp_region_seq [1, 3, 3, 3, 1, 3] (fun _ => True) (by rfl) (by rfl) trivial ?_
          simp only [List.zip_cons_cons, List.zip_nil_right]
          refine wpPi_do rfl (fun K hK => ?_)
          refine wp_buildSlice0 26 9 (by rfl) Try.underlying26 (by kernel_rfl) (fun w9 hB9 hm9 hs9 => ?_)
          refine hK _ _ trivial ?_
          clear hK K
          try simp only [pl, pn, el, ec, sz, ss, gz, gs, if_true, if_false, Bool.false_eq_true, Bool.not_true, Bool.not_false, Nat.add_zero, Nat.zero_add, Nat.reduceAdd]
          refine wpPi_move _ rfl rfl ?_
          simp only [pl, pn, el, ec, sz, ss, gz, gs, if_true, if_false, Bool.false_eq_true, Bool.not_true, Bool.not_false, Nat.add_zero, Nat.zero_add, Nat.reduceAdd]
          refine wpPi_move _ rfl rfl ?_
          simp only [pl, pn, el, ec, sz, ss, gz, gs, if_true, if_false, Bool.false_eq_true, Bool.not_true, Bool.not_false, Nat.add_zero, Nat.zero_add, Nat.reduceAdd]
          refine wpPi_sliceFrom 26 9 _ _ _ _ _ j 1 rfl rfl rfl rfl Try.underlying26 (by kernel_rfl) hjle ?_
          simp only [pl, pn, el, ec, sz, ss, gz, gs, if_true, if_false, Bool.false_eq_true, Bool.not_true, Bool.not_false, Nat.add_zero, Nat.zero_add, Nat.reduceAdd]
          refine wpPi_do rfl (fun K hK => ?_)
          refine wp_gatB strEnc _ _ 26 9 (.string ⟨#[]⟩) 1 16 (by rfl) Try.underlying26 str_i (by kernel_rfl) (by omega) strEnc_one wi.heap.size _ [] (by rfl) (owns_empty _ hB9 (Nat.le_refl _)) _ (out.drop j) (by rfl) (src_drop (HG8.out.keep0 hm9) hjle) (by simp only [List.length_nil, List.length_drop]; unfold maxLen; omega) (by simp only [List.length_nil, List.length_drop]; omega) hm9.size (fun v10 w10 hg10 hm10 hn10 => ?_)
          have hM10 : Mod NoB wi w10 := hm9.trans hm10 (fun k hk e => by
            have e' : some wi.heap.size = some k := e
            cases e'; omega)
          refine hK _ _ trivial ?_
          clear hK K
          try simp only [pl, pn, el, ec, sz, ss, gz, gs, if_true, if_false, Bool.false_eq_true, Bool.not_true, Bool.not_false, Nat.add_zero, Nat.zero_add, Nat.reduceAdd]
          refine wpPi_assign _ rfl rfl ?_
          simp only [pl, pn, el, ec, sz, ss, gz, gs, if_true, if_false, Bool.false_eq_true, Bool.not_true, Bool.not_false, Nat.add_zero, Nat.zero_add, Nat.reduceAdd]
          refine wpPi_nil ?_
          rw [List.nil_append] at hg10
          have HG10 := Lib.hid hg10
          have HGX := Lib.hid (HG8.out.keep0 hM10)
          have hsz10 := hM10.size
          have hown : ∀ q, (Value.slice ad3 out.length cap3).ownBlock = some q → q < wi.heap.size := fun q hq => (HG8.out.lt hq).2
          have hkx' := hM10.cell id (hkx8)
          clear hg10 hm9 hm10 hn10 hB9
          go_upto_region 10 with (fail)
          have hT : Mod NoB w10 w10.drew := (Mod.refl _ _).drew
          have hS : Mod (fun q => w.heap.size ≤ q) w10 w10.drew := (Mod.refl _ _).drew
          have hto := gat_to (HGX.out.keep0 hT) hjle
          refine wp_region_pi [(0, 3), (1, 3), (2, 3), (3, 3), (4, 3), (5, 3), (6, 0), (9, 3), (7, 1), (8, 1), (10, 1), (11, 3)] [] (fun w' => Mod (fun q => w.heap.size ≤ q) w10 w') (by kernel_rfl) (by kernel_rfl) (by kernel_rfl) (by kernel_rfl) (fun _ _ _ _ hd h => ⟨hd.trans h.1, h.2⟩) hS ?_
          simp only [List.map_cons, List.map_nil, List.getD_cons_zero, List.getD_cons_succ]
          refine wpPi_move _ rfl rfl ?_
          simp only [pl, pn, el, ec, sz, ss, gz, gs, if_true, if_false, Bool.false_eq_true, Bool.not_true, Bool.not_false, Nat.add_zero, Nat.zero_add, Nat.reduceAdd]
          refine wpPi_move _ rfl rfl ?_
          simp only [pl, pn, el, ec, sz, ss, gz, gs, if_true, if_false, Bool.false_eq_true, Bool.not_true, Bool.not_false, Nat.add_zero, Nat.zero_add, Nat.reduceAdd]
          refine wpPi_sliceTo 26 9 _ _ _ _ _ j 1 rfl rfl rfl rfl Try.underlying26 (by kernel_rfl) (by omega) ?_
          simp only [pl, pn, el, ec, sz, ss, gz, gs, if_true, if_false, Bool.false_eq_true, Bool.not_true, Bool.not_false, Nat.add_zero, Nat.zero_add, Nat.reduceAdd]
          refine wpPi_move _ rfl rfl ?_
          simp only [pl, pn, el, ec, sz, ss, gz, gs, if_true, if_false, Bool.false_eq_true, Bool.not_true, Bool.not_false, Nat.add_zero, Nat.zero_add, Nat.reduceAdd]
          refine wpPi_move _ rfl rfl ?_
          simp only [pl, pn, el, ec, sz, ss, gz, gs, if_true, if_false, Bool.false_eq_true, Bool.not_true, Bool.not_false, Nat.add_zero, Nat.zero_add, Nat.reduceAdd]
          refine wpPi_index _ _ _ _ _ _ _ _ _ rfl rfl rfl rfl Try.underlying26 (n := 1) (by kernel_rfl) hlt ?_
          simp only [pl, pn, el, ec, sz, ss, gz, gs, if_true, if_false, Bool.false_eq_true, Bool.not_true, Bool.not_false, Nat.add_zero, Nat.zero_add, Nat.reduceAdd]
          refine wpPi_val rfl (fun w' hS => exec_load1 9 _ (by rfl) b1 (off1 + k * 1) (by rfl) (.string x) (hS.cell hnb hkx') _ Try.underlying9 rfl) ?_
          simp only [pl, pn, el, ec, sz, ss, gz, gs, if_true, if_false, Bool.false_eq_true, Bool.not_true, Bool.not_false, Nat.add_zero, Nat.zero_add, Nat.reduceAdd]
          refine wpPi_move _ rfl rfl ?_
          simp only [pl, pn, el, ec, sz, ss, gz, gs, if_true, if_false, Bool.false_eq_true, Bool.not_true, Bool.not_false, Nat.add_zero, Nat.zero_add, Nat.reduceAdd]
          refine wpPi_do rfl (fun K hK => ?_)
          refine wp_buildSlice1 26 9 _ (.string x) (.string ⟨#[]⟩) 1 (by rfl) (by rfl) Try.underlying26 str_i2 (by omega) (by omega) rfl (fun w11 hB11 hm11 hs11 => ?_)
          replace hT := hT.trans0 hm11
          refine hK _ _ (hT.mono fun _ _ h => h.elim) ?_
          clear hK K
          try simp only [pl, pn, el, ec, sz, ss, gz, gs, if_true, if_false, Bool.false_eq_true, Bool.not_true, Bool.not_false, Nat.add_zero, Nat.zero_add, Nat.reduceAdd]
          refine wpPi_do rfl (fun K hK => ?_)
          refine wp_gat strEnc _ _ 26 9 (.string ⟨#[]⟩) 1 16 (by rfl) Try.underlying26 str_i (by kernel_rfl) (by omega) strEnc_one w.heap.size _ _ (by rfl) (hto.1.keep0 hm11) (.slice (some ⟨w10.heap.size, 0, none⟩) 1 1) [x] (by rfl) (src_lit (enc := strEnc) (x := x) (e := 9) (fun _ => rfl) hB11) (by simp only [List.length_singleton, List.length_take]; unfold maxLen; omega) (by simp only [List.length_singleton, List.length_take]; omega) (by have := hT.size; omega) (fun v12 w12 hg12 hm12 => ?_)
          have hr12 := (HG10.out.keep0 hT).keep hm12 (fun q h1 h2 => by
            have h3 := (HG10.out.lt h1).1
            have h4 := hown q (hto.2 q h2)
            omega)
          have hT12 : Mod (fun q => w.heap.size ≤ q) w10 w12 := (hT.mono fun _ _ h => h.elim).trans hm12 (fun q hq e => (HGX.out.lt (hto.2 q e)).1)
          refine hK _ _ hT12 ?_
          clear hK K
          try simp only [pl, pn, el, ec, sz, ss, gz, gs, if_true, if_false, Bool.false_eq_true, Bool.not_true, Bool.not_false, Nat.add_zero, Nat.zero_add, Nat.reduceAdd]
          refine wpPi_do rfl (fun K hK => ?_)
          refine wp_gat strEnc _ _ 26 9 (.string ⟨#[]⟩) 1 16 (by rfl) Try.underlying26 str_i (by kernel_rfl) (by omega) strEnc_one w.heap.size _ _ (by rfl) hg12 v10 (out.drop j) (by rfl) hr12.src (by simp only [List.length_append, List.length_singleton, List.length_take, List.length_drop]; unfold maxLen; omega) (by simp only [List.length_append, List.length_singleton, List.length_take, List.length_drop]; omega) (by have := hT12.size; omega) (fun v13 w13 hg13 hm13 => ?_)
          have hT13 : Mod (fun q => w.heap.size ≤ q) w10 w13 := hT12.trans hm13 (fun q hq e => (hg12.lt e).1)
          refine hK _ _ hT13 ?_
          clear hK K
          try simp only [pl, pn, el, ec, sz, ss, gz, gs, if_true, if_false, Bool.false_eq_true, Bool.not_true, Bool.not_false, Nat.add_zero, Nat.zero_add, Nat.reduceAdd]
          refine wpPi_assign _ rfl rfl ?_
          simp only [pl, pn, el, ec, sz, ss, gz, gs, if_true, if_false, Bool.false_eq_true, Bool.not_true, Bool.not_false, Nat.add_zero, Nat.zero_add, Nat.reduceAdd]
          refine wpPi_nil ?_
          have hMr : Mod NoB w w13 := (hM8.trans0 hM10).trans hT13 (fun q hq e => by have e' : w.heap.size ≤ q := e; omega)
          generalize sliced ad3 0 j cap3 1 = sl1
          generalize sliced ad3 j out.length cap3 1 = sl2
          have hlen' : (out.take j ++ [x] ++ out.drop j).length ≤ k + 1 := by simp only [List.length_append, List.length_singleton, List.length_take, List.length_drop]; omega
          have HINS := Lib.hid hins
          clear hT hS hm11 hm12 hm13 hT12 hT13 hM8 hM10 hB11 hto hr12 hg12 HG10 HGX HG8 hown hins
          go_wp2
          go_roundw
          case rel => exact ⟨k + 1, _, by omega, by go_num, HINS.out, hlen', hg13, hMr⟩
          case measure => simp [intOf]; omega
    · have hz : ¬ (k : Int) < (l.length : Int) := by omega
      obtain rfl : k = l.length := by omega
      rw [List.take_length] at HR
      go_wp2
      go_ret
      exact ⟨_, out, rfl, HG.out, HR.out, hm⟩
end Go.Proofs.Ytchkikmmcmjcgaa
