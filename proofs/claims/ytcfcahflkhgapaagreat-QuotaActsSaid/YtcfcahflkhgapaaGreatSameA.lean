/- Lists of texts and of digests, side by side. -/
import Derived.Test.YtcfcahflkhgapaaGreatQJ
namespace Go.Proofs.YtcfcahflkhgapaaGreat
set_option linter.unusedSimpArgs false
set_option linter.unusedVariables false
set_option linter.unnecessarySimpa false
set_option linter.unusedSectionVars false
open Go.RowKit

set_option maxHeartbeats 400000 in
theorem sameTexts_any (o o' : Bool) (G G' : Nat → Prop) (va vb : Value) (la lb : List ByteArray) (w : World) (ha : Sl o w G 1 StrC va la) (hb : Sl o' w G' 1 StrC vb lb) :
    Calls Tryz.prog 20 #[va, vb] w (RetM (.bool (decide (la = lb))) w) := by
  obtain ⟨aa, ca, rfl, hla, ha⟩ := ha.at
  obtain ⟨ab, cb, rfl, hlb, hb⟩ := hb.at
  by_cases hlen : la.length = lb.length
  · have e1 : ((la.length : Int) == (lb.length : Int)) = true := by simp [hlen]
    have H := Lib.hid hlen; have HA := Lib.hid ha; have HB := Lib.hid hb; clear hlen ha hb
    go_enter Tryz.func20, Tryz.ntmps20
    go_wp2
    go_loopw [5, 6] (SameRel la lb w) (fun _ i _ => la.length - (intOf i).toNat)
    case atStart => exact ⟨0, by omega, rfl, by rw [pre_zero], Mod.refl _ _⟩
    case round =>
      obtain ⟨k, hk, rfl, rfl, hm⟩ := hrel
      rename_i wr
      by_cases hs : pre k la lb = true
      · by_cases hlt : k < la.length
        · have hlt' : k < lb.length := by rw [← H.out]; exact hlt
          obtain ⟨ba, oa, rfl, -, -, hca⟩ := HA.out k hlt
          obtain ⟨bb, ob, rfl, -, -, hcb⟩ := HB.out k hlt'
          obtain ⟨_, -, rfl, hca⟩ := hca k hlt
          obtain ⟨_, -, rfl, hcb⟩ := hcb k hlt'
          have hps := Lib.hid (pre_succ hlt hlt' hs)
          clear HA HB
          go_wp2_with fail
          have hS := hm.drew
          refine wp_region_pi [(0, 3), (1, 3), (2, 3), (3, 0), (4, 3), (5, 3), (6, 3), (7, 0), (8, 0), (9, 3)] [] (fun w' => Mod NoB w w') (by kernel_rfl) (by kernel_rfl) (by kernel_rfl) (by kernel_rfl) (fun _ _ _ _ hd h => ⟨hd.trans h.1, h.2⟩) hS ?_
          simp only [List.map_cons, List.map_nil, List.getD_cons_zero, List.getD_cons_succ]
          refine wpPi_move _ rfl rfl ?_
          simp only [pl, pn, el, ec, sz, ss, gz, gs, if_true, if_false, Bool.false_eq_true, Bool.not_true, Bool.not_false, Nat.add_zero, Nat.zero_add, Nat.reduceAdd]
          refine wpPi_move _ rfl rfl ?_
          simp only [pl, pn, el, ec, sz, ss, gz, gs, if_true, if_false, Bool.false_eq_true, Bool.not_true, Bool.not_false, Nat.add_zero, Nat.zero_add, Nat.reduceAdd]
          refine wpPi_index _ _ _ _ _ _ _ _ _ rfl rfl rfl rfl Tryz.underlying41 (n := 1) (by kernel_rfl) hlt ?_
          simp only [pl, pn, el, ec, sz, ss, gz, gs, if_true, if_false, Bool.false_eq_true, Bool.not_true, Bool.not_false, Nat.add_zero, Nat.zero_add, Nat.reduceAdd]
          refine wpPi_val rfl (fun w' hS => exec_load1 _ _ rfl _ _ rfl _ (CellsAt.one.1 (hca.keep hS id)) _ Tryz.underlying9 rfl) ?_
          simp only [pl, pn, el, ec, sz, ss, gz, gs, if_true, if_false, Bool.false_eq_true, Bool.not_true, Bool.not_false, Nat.add_zero, Nat.zero_add, Nat.reduceAdd]
          refine wpPi_move _ rfl rfl ?_
          simp only [pl, pn, el, ec, sz, ss, gz, gs, if_true, if_false, Bool.false_eq_true, Bool.not_true, Bool.not_false, Nat.add_zero, Nat.zero_add, Nat.reduceAdd]
          refine wpPi_move _ rfl rfl ?_
          simp only [pl, pn, el, ec, sz, ss, gz, gs, if_true, if_false, Bool.false_eq_true, Bool.not_true, Bool.not_false, Nat.add_zero, Nat.zero_add, Nat.reduceAdd]
          refine wpPi_index _ _ _ _ _ _ _ _ _ rfl rfl rfl rfl Tryz.underlying41 (n := 1) (by kernel_rfl) hlt' ?_
          simp only [pl, pn, el, ec, sz, ss, gz, gs, if_true, if_false, Bool.false_eq_true, Bool.not_true, Bool.not_false, Nat.add_zero, Nat.zero_add, Nat.reduceAdd]
          refine wpPi_val rfl (fun w' hS => exec_load1 _ _ rfl _ _ rfl _ (CellsAt.one.1 (hcb.keep hS id)) _ Tryz.underlying9 rfl) ?_
          simp only [pl, pn, el, ec, sz, ss, gz, gs, if_true, if_false, Bool.false_eq_true, Bool.not_true, Bool.not_false, Nat.add_zero, Nat.zero_add, Nat.reduceAdd]
          refine wpPi_val rfl (fun w' hS => exec_eql_str _ _ _ _ rfl _ _ rfl rfl _ rfl) ?_
          simp only [pl, pn, el, ec, sz, ss, gz, gs, if_true, if_false, Bool.false_eq_true, Bool.not_true, Bool.not_false, Nat.add_zero, Nat.zero_add, Nat.reduceAdd]
          refine wpPi_assign _ rfl rfl ?_
          simp only [pl, pn, el, ec, sz, ss, gz, gs, if_true, if_false, Bool.false_eq_true, Bool.not_true, Bool.not_false, Nat.add_zero, Nat.zero_add, Nat.reduceAdd]
          refine wpPi_nil ?_
          go_wp2
          go_roundw
          case rel => exact ⟨k + 1, by omega, by go_num, by rw [hps.out], hS⟩
          case measure => simp [intOf]; omega
        · go_wp2
          go_ret
          exact ⟨by rw [← pre_full H.out (Nat.le_of_not_lt hlt), hs]; rfl, hm⟩
      · have hs' : pre k la lb = false := by simpa using hs
        have hps := Lib.hid (pre_false hs'); clear hs
        go_wp2
        go_ret
        exact ⟨by rw [hps.out]; rfl, hm⟩
  · have e1 : ((la.length : Int) == (lb.length : Int)) = false := by simp; omega
    have hps := Lib.hid (decide_eq_false (show ¬ la = lb by rintro rfl; exact hlen rfl)); clear hlen
    go_enter Tryz.func20, Tryz.ntmps20
    go_wp2
    refine wp_loop_once ?_
    go_wp2
    go_ret
    exact ⟨by rw [hps.out]; rfl, Mod.refl _ _⟩
set_option maxHeartbeats 400000 in
theorem sameIDs_any (o o' : Bool) (G G' : Nat → Prop) (va vb : Value) (la lb : List (List UInt8)) (w : World) (ha : Sl o w G 32 IdC va la) (hb : Sl o' w G' 32 IdC vb lb) :
    Calls Tryz.prog 36 #[va, vb] w (RetM (.bool (decide (la = lb))) w) := by
  obtain ⟨aa, ca, rfl, hla, ha⟩ := ha.at
  obtain ⟨ab, cb, rfl, hlb, hb⟩ := hb.at
  by_cases hlen : la.length = lb.length
  · have e1 : ((la.length : Int) == (lb.length : Int)) = true := by simp [hlen]
    have H := Lib.hid hlen; have HA := Lib.hid ha; have HB := Lib.hid hb; clear hlen ha hb
    go_enter Tryz.func36, Tryz.ntmps36
    go_wp2
    go_loopw [5, 6] (SameRel la lb w) (fun _ i _ => la.length - (intOf i).toNat)
    case atStart => exact ⟨0, by omega, rfl, by rw [pre_zero], Mod.refl _ _⟩
    case round =>
      obtain ⟨k, hk, rfl, rfl, hm⟩ := hrel
      rename_i wr
      by_cases hs : pre k la lb = true
      · by_cases hlt : k < la.length
        · have hlt' : k < lb.length := by rw [← H.out]; exact hlt
          obtain ⟨ba, oa, rfl, -, -, hca⟩ := HA.out k hlt
          obtain ⟨bb, ob, rfl, -, -, hcb⟩ := HB.out k hlt'
          obtain ⟨_, -, ⟨rfl, hc32⟩, hca⟩ := hca k hlt
          obtain ⟨_, -, ⟨rfl, hd32⟩, hcb⟩ := hcb k hlt'
          have hps := Lib.hid (pre_succ hlt hlt' hs)
          clear HA HB
          go_wp2_with fail
          have hS := hm.drew
          refine wp_region_pi [(0, 3), (1, 3), (2, 3), (3, 0), (4, 3), (5, 3), (6, 3), (7, 0), (8, 0), (9, 3)] [] (fun w' => Mod NoB w w') (by kernel_rfl) (by kernel_rfl) (by kernel_rfl) (by kernel_rfl) (fun _ _ _ _ hd h => ⟨hd.trans h.1, h.2⟩) hS ?_
          simp only [List.map_cons, List.map_nil, List.getD_cons_zero, List.getD_cons_succ]
          refine wpPi_move _ rfl rfl ?_
          simp only [pl, pn, el, ec, sz, ss, gz, gs, if_true, if_false, Bool.false_eq_true, Bool.not_true, Bool.not_false, Nat.add_zero, Nat.zero_add, Nat.reduceAdd]
          refine wpPi_move _ rfl rfl ?_
          simp only [pl, pn, el, ec, sz, ss, gz, gs, if_true, if_false, Bool.false_eq_true, Bool.not_true, Bool.not_false, Nat.add_zero, Nat.zero_add, Nat.reduceAdd]
          refine wpPi_index _ _ _ _ _ _ _ _ _ rfl rfl rfl rfl Tryz.underlying75 (n := 32) (by kernel_rfl) hlt ?_
          simp only [pl, pn, el, ec, sz, ss, gz, gs, if_true, if_false, Bool.false_eq_true, Bool.not_true, Bool.not_false, Nat.add_zero, Nat.zero_add, Nat.reduceAdd]
          refine wpPi_val rfl (fun w' hS => exec_loadA _ _ rfl _ _ rfl _ (hca.keep hS id) _ Tryz.underlying32 rfl 32 (by kernel_rfl) (by rw [idCells_size, hc32])) ?_
          simp only [pl, pn, el, ec, sz, ss, gz, gs, if_true, if_false, Bool.false_eq_true, Bool.not_true, Bool.not_false, Nat.add_zero, Nat.zero_add, Nat.reduceAdd]
          refine wpPi_move _ rfl rfl ?_
          simp only [pl, pn, el, ec, sz, ss, gz, gs, if_true, if_false, Bool.false_eq_true, Bool.not_true, Bool.not_false, Nat.add_zero, Nat.zero_add, Nat.reduceAdd]
          refine wpPi_move _ rfl rfl ?_
          simp only [pl, pn, el, ec, sz, ss, gz, gs, if_true, if_false, Bool.false_eq_true, Bool.not_true, Bool.not_false, Nat.add_zero, Nat.zero_add, Nat.reduceAdd]
          refine wpPi_index _ _ _ _ _ _ _ _ _ rfl rfl rfl rfl Tryz.underlying75 (n := 32) (by kernel_rfl) hlt' ?_
          simp only [pl, pn, el, ec, sz, ss, gz, gs, if_true, if_false, Bool.false_eq_true, Bool.not_true, Bool.not_false, Nat.add_zero, Nat.zero_add, Nat.reduceAdd]
          refine wpPi_val rfl (fun w' hS => exec_loadA _ _ rfl _ _ rfl _ (hcb.keep hS id) _ Tryz.underlying32 rfl 32 (by kernel_rfl) (by rw [idCells_size, hd32])) ?_
          simp only [pl, pn, el, ec, sz, ss, gz, gs, if_true, if_false, Bool.false_eq_true, Bool.not_true, Bool.not_false, Nat.add_zero, Nat.zero_add, Nat.reduceAdd]
          refine wpPi_val rfl (fun w' hS => exec_eql_id _ _ _ _ rfl _ _ rfl rfl 32 5 Tryz.underlying32 Tryz.underlying5 (by kernel_rfl) (by kernel_rfl) hc32 hd32 _ rfl) ?_
          simp only [pl, pn, el, ec, sz, ss, gz, gs, if_true, if_false, Bool.false_eq_true, Bool.not_true, Bool.not_false, Nat.add_zero, Nat.zero_add, Nat.reduceAdd]
          refine wpPi_assign _ rfl rfl ?_
          simp only [pl, pn, el, ec, sz, ss, gz, gs, if_true, if_false, Bool.false_eq_true, Bool.not_true, Bool.not_false, Nat.add_zero, Nat.zero_add, Nat.reduceAdd]
          refine wpPi_nil ?_
          go_wp2
          go_roundw
          case rel => exact ⟨k + 1, by omega, by go_num, by rw [hps.out], hS⟩
          case measure => simp [intOf]; omega
        · go_wp2
          go_ret
          exact ⟨by rw [← pre_full H.out (Nat.le_of_not_lt hlt), hs]; rfl, hm⟩
      · have hs' : pre k la lb = false := by simpa using hs
        have hps := Lib.hid (pre_false hs'); clear hs
        go_wp2
        go_ret
        exact ⟨by rw [hps.out]; rfl, hm⟩
  · have e1 : ((la.length : Int) == (lb.length : Int)) = false := by simp; omega
    have hps := Lib.hid (decide_eq_false (show ¬ la = lb by rintro rfl; exact hlen rfl)); clear hlen
    go_enter Tryz.func36, Tryz.ntmps36
    go_wp2
    refine wp_loop_once ?_
    go_wp2
    go_ret
    exact ⟨by rw [hps.out]; rfl, Mod.refl _ _⟩
end Go.Proofs.YtcfcahflkhgapaaGreat
