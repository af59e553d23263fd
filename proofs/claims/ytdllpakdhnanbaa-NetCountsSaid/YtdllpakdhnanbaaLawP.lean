/- NetCounts: the walk itself. -/
import Derived.Test.YtdllpakdhnanbaaLawO
namespace Go.Proofs.Ytdllpakdhnanbaa
set_option linter.unusedSimpArgs false
set_option linter.unusedVariables false
set_option linter.unnecessarySimpa false
open Go.RowKit

set_option maxRecDepth 10000 in
set_option maxHeartbeats 8000000 in
theorem netCounts_any (w : World) (n0 : Int) (hn0 : -9223372036854775808 ≤ n0 ∧ n0 ≤ 9223372036854775807) (v : Value) (l : List Actn) (hv : Sl false w (fun k => k < w.heap.size) 43 (ActR w (fun k => k < w.heap.size)) v l) :
    Calls Try.prog 8 #[.int .i64 n0, v] w (RetM (.bool true) w) := by
  obtain ⟨av, cap, rfl, hlen, hat⟩ := hv.at
  have HA := Lib.hid hat; clear hat
  obtain ⟨k1, hk1⟩ : ∃ k, k = pickZ n0 16 := ⟨_, rfl⟩
  have hk1b := pickZ_lt n0 16 (by omega)
  rw [← hk1] at hk1b
  have HK1 := Lib.hid hk1; clear hk1
  go_enter Try.func8, Try.ntmps8
  go_upto_region 1 with (fail)
  refine wp_region_seq [1, 3] (fun _ => True) (by rfl) (by rfl) trivial ?_
  simp only [List.zip_cons_cons, List.zip_nil_right]
  refine wpPi_do rfl (fun K hK => ?_)
  go_wp2_with (go_at_call 4; refine (netKnown_any w).mono ?_; rintro _ w1 ⟨rfl, hM⟩)
  refine hK _ _ trivial ?_
  clear hK K
  try simp only [pl, pn, el, ec, sz, ss, gz, gs, if_true, if_false, Bool.false_eq_true, Bool.not_true, Bool.not_false, Nat.add_zero, Nat.zero_add, Nat.reduceAdd]
  refine wpPi_assign _ rfl rfl ?_
  simp only [pl, pn, el, ec, sz, ss, gz, gs, if_true, if_false, Bool.false_eq_true, Bool.not_true, Bool.not_false, Nat.add_zero, Nat.zero_add, Nat.reduceAdd]
  refine wpPi_nil ?_
  go_upto_region 2 with (fail)
  refine wp_region_seq [3, 1] (fun _ => True) (by rfl) (by rfl) trivial ?_
  simp only [List.zip_cons_cons, List.zip_nil_right]
  refine wpPi_move _ rfl rfl ?_
  simp only [pl, pn, el, ec, sz, ss, gz, gs, if_true, if_false, Bool.false_eq_true, Bool.not_true, Bool.not_false, Nat.add_zero, Nat.zero_add, Nat.reduceAdd]
  refine wpPi_do rfl (fun K hK => ?_)
  go_wp2_with (go_at_call 29; refine (longActs_any _ _ _ l w1 (SlAct.keep0 hv hM)).mono ?_; rintro _ w2 ⟨t, rfl, hm2, hsm⟩)
  replace hM := hM.trans0 hm2
  refine hK _ _ trivial ?_
  clear hK K hm2
  try simp only [pl, pn, el, ec, sz, ss, gz, gs, if_true, if_false, Bool.false_eq_true, Bool.not_true, Bool.not_false, Nat.add_zero, Nat.zero_add, Nat.reduceAdd]
  refine wpPi_nil ?_
  cases t
  · obtain ⟨hl40, hoks⟩ := hsm rfl
    clear hsm
    go_upto_region 4 with (fail)
    refine wp_region_seq [3, 1, 3, 1, 3, 1, 1, 3, 3] (fun _ => True) (by rfl) (by rfl) trivial ?_
    simp only [List.zip_cons_cons, List.zip_nil_right]
    refine wpPi_move _ rfl rfl ?_
    simp only [pl, pn, el, ec, sz, ss, gz, gs, if_true, if_false, Bool.false_eq_true, Bool.not_true, Bool.not_false, Nat.add_zero, Nat.zero_add, Nat.reduceAdd]
    refine wpPi_do rfl (fun K hK => ?_)
    go_wp2_with (go_at_call 9; refine (pick_any n0 16 hn0 (by omega) w2).mono ?_; rintro _ w3 ⟨rfl, hw3⟩; obtain rfl := hw3.symm; rw [← HK1.out])
    refine hK _ _ trivial ?_
    clear hK K
    try simp only [pl, pn, el, ec, sz, ss, gz, gs, if_true, if_false, Bool.false_eq_true, Bool.not_true, Bool.not_false, Nat.add_zero, Nat.zero_add, Nat.reduceAdd]
    refine wpPi_add _ _ _ _ _ _ rfl rfl rfl rfl (by omega) (by omega) ?_
    simp only [pl, pn, el, ec, sz, ss, gz, gs, if_true, if_false, Bool.false_eq_true, Bool.not_true, Bool.not_false, Nat.add_zero, Nat.zero_add, Nat.reduceAdd]
    refine wpPi_do rfl (fun K hK => ?_)
    go_wp2_with (go_at_call 10; refine (new_at (1 + k1) w (by omega) w2 hM).mono ?_; rintro _ w3 ⟨bp, F0, rfl, hN, hm3, hF0⟩)
    refine hK _ _ trivial ?_
    clear hK K
    try simp only [pl, pn, el, ec, sz, ss, gz, gs, if_true, if_false, Bool.false_eq_true, Bool.not_true, Bool.not_false, Nat.add_zero, Nat.zero_add, Nat.reduceAdd]
    refine wpPi_move _ rfl rfl ?_
    simp only [pl, pn, el, ec, sz, ss, gz, gs, if_true, if_false, Bool.false_eq_true, Bool.not_true, Bool.not_false, Nat.add_zero, Nat.zero_add, Nat.reduceAdd]
    refine wpPi_do rfl (fun K hK => ?_)
    go_wp2
    refine hK _ _ trivial ?_
    clear hK K
    try simp only [pl, pn, el, ec, sz, ss, gz, gs, if_true, if_false, Bool.false_eq_true, Bool.not_true, Bool.not_false, Nat.add_zero, Nat.zero_add, Nat.reduceAdd]
    refine wpPi_do rfl (fun K hK => ?_)
    go_wp2
    refine hK _ _ trivial ?_
    clear hK K
    try simp only [pl, pn, el, ec, sz, ss, gz, gs, if_true, if_false, Bool.false_eq_true, Bool.not_true, Bool.not_false, Nat.add_zero, Nat.zero_add, Nat.reduceAdd]
    refine wpPi_assign _ rfl rfl ?_
    simp only [pl, pn, el, ec, sz, ss, gz, gs, if_true, if_false, Bool.false_eq_true, Bool.not_true, Bool.not_false, Nat.add_zero, Nat.zero_add, Nat.reduceAdd]
    refine wpPi_assign _ rfl rfl ?_
    simp only [pl, pn, el, ec, sz, ss, gz, gs, if_true, if_false, Bool.false_eq_true, Bool.not_true, Bool.not_false, Nat.add_zero, Nat.zero_add, Nat.reduceAdd]
    refine wpPi_nil ?_
    clear HK1
    have hCI : CI w w3 (.pointer (some ⟨bp, 0, none⟩)) ⟨1 + k1, 0, fun _ => false, []⟩ [] (.slice none 0 0) F0 := ⟨hN, LtAcc.nil, fun j _ e => by cases e⟩
    clear hN hF0 hm3 hM
    go_wp2
    go_loopw [8, 9, 10, 11] (CntRel w (.pointer (some ⟨bp, 0, none⟩)) l.length) (fun _ _ _ i _ => l.length - (intOf i).toNat)
    case atStart => exact ⟨0, _, F0, [], 0, 0, by omega, rfl, rfl, rfl, by simp, hCI, ⟨by omega, by simp, by simp, by simp, by simp⟩⟩
    case round =>
      clear hCI
      obtain ⟨k, N, F, S, T, A, hk, rfl, rfl, rfl, hA, hCI, hC⟩ := hrel
      rename_i wr
      have hMr := hCI.mod
      have HAA := Lib.hid hA; clear hA
      by_cases hlt : k < l.length
      · obtain ⟨b, off, rfl, -, -, hat⟩ := HA.out k hlt
        obtain ⟨cs, hcs, hR, hcells⟩ := hat k hlt
        obtain ⟨ls, hc⟩ := hR.cells
        have hok : LtrOk l[k].l := hoks _ (List.getElem_mem _)
        have hcw := hcells.keep hMr id
        obtain ⟨x, hx⟩ : ∃ x, x = l[k] := ⟨_, rfl⟩
        rw [← hx] at hc hok
        have HS := Lib.hid hcs; clear hcs HA hR hcells hoks hx hv
        obtain ⟨kd, hkd⟩ : ∃ t, t = x.kind := ⟨_, rfl⟩
        obtain ⟨xa, hxa⟩ : ∃ t, t = x.a := ⟨_, rfl⟩
        obtain ⟨xb, hxb⟩ : ∃ t, t = x.b := ⟨_, rfl⟩
        have c0 := hc.c0; rw [← hkd] at c0
        have c1 := hc.c1; rw [← hxa] at c1
        have c2 := hc.c2; rw [← hxb] at c2
        have hc0 := hc.isL
        have hlsz := hc0.size
        obtain ⟨y, hy⟩ : ∃ t, t = x.l := ⟨_, rfl⟩
        rw [← hy] at hc0 hok
        clear hkd hxa hxb hy
        have hkb : k ≤ 40 := by omega
        have hlost : 0 ≤ N.lost ∧ N.lost ≤ 1000000000 := by
          have h1 := hC.l0; have h2 := hC.le; have h3 := hC.t0
          omega
        have hTb : 0 ≤ T ∧ T ≤ 40 := by
          have h1 := hC.l0; have h2 := hC.le; have h3 := hC.t0
          omega
        have hAb : 0 ≤ A ∧ A ≤ 40 := by
          have h1 := hC.l0; have h2 := hC.le; have h3 := hC.t0; have h4 := HAA.out
          omega
        go_upto_region 12 with (fail)
        refine wp_region_seq [3, 3, 3, 1, 1, 1] (fun _ => True) (by rfl) (by rfl) trivial ?_
        simp only [List.zip_cons_cons, List.zip_nil_right]
        refine wpPi_move _ rfl rfl ?_
        simp only [pl, pn, el, ec, sz, ss, gz, gs, if_true, if_false, Bool.false_eq_true, Bool.not_true, Bool.not_false, Nat.add_zero, Nat.zero_add, Nat.reduceAdd]
        refine wpPi_move _ rfl rfl ?_
        simp only [pl, pn, el, ec, sz, ss, gz, gs, if_true, if_false, Bool.false_eq_true, Bool.not_true, Bool.not_false, Nat.add_zero, Nat.zero_add, Nat.reduceAdd]
        refine wpPi_index _ _ _ _ _ _ _ _ _ rfl rfl rfl rfl Try.underlying57 (n := 43) (by kernel_rfl) hlt ?_
        simp only [pl, pn, el, ec, sz, ss, gz, gs, if_true, if_false, Bool.false_eq_true, Bool.not_true, Bool.not_false, Nat.add_zero, Nat.zero_add, Nat.reduceAdd]
        refine wpPi_do rfl (fun K hK => ?_)
        refine wp_exec (exec_loadA 60 _ (by rfl) b (off + k * 43) (by rfl) _ hcw _ Try.underlying60 rfl 43 (by kernel_rfl) HS.out) ?_
        refine hK _ _ trivial ?_
        clear hK K
        try simp only [pl, pn, el, ec, sz, ss, gz, gs, if_true, if_false, Bool.false_eq_true, Bool.not_true, Bool.not_false, Nat.add_zero, Nat.zero_add, Nat.reduceAdd]
        refine wpPi_do rfl (fun K hK => ?_)
        refine wp_alloc 60 actZero (by rfl) zero60 (fun w4 hB0 hm4 hs4 => ?_)
        refine hK _ _ trivial ?_
        clear hK K
        try simp only [pl, pn, el, ec, sz, ss, gz, gs, if_true, if_false, Bool.false_eq_true, Bool.not_true, Bool.not_false, Nat.add_zero, Nat.zero_add, Nat.reduceAdd]
        refine wpPi_do rfl (fun K hK => ?_)
        refine wp_storeA 60 _ _ wr.heap.size 0 cs (by rfl) (by rfl) (by rfl) hc.one 43 (by kernel_rfl) HS.out _ _ hB0 (by rw [HS.out]; exact Nat.le_refl 43) (fun w5 hB hm5 => ?_)
        rw [putRow_whole (by rw [HS.out]; rfl)] at hB
        clear hB0
        have hm45 : Mod NoB wr w5 := hm4.transB hm5 (Nat.le_refl _)
        refine hK _ _ trivial ?_
        clear hK K
        try simp only [pl, pn, el, ec, sz, ss, gz, gs, if_true, if_false, Bool.false_eq_true, Bool.not_true, Bool.not_false, Nat.add_zero, Nat.zero_add, Nat.reduceAdd]
        refine wpPi_nil ?_
        have hFlt := hCI.net.lt
        replace hCI := hCI.keep0 hm45
        have hlet := hc0.keep0 hCI.mod
        have hk0 : w5.cell? ⟨wr.heap.size, 0, none⟩ = some (.int .i64 kd) := by rw [cell_of_row _ _ _ _ _ _ hB, c0]
        have hk1 : w5.cell? ⟨wr.heap.size, 1, none⟩ = some (.int .i64 xa) := by rw [cell_of_row _ _ _ _ _ _ hB, c1]
        have hk2 : w5.cell? ⟨wr.heap.size, 2, none⟩ = some (.int .i64 xb) := by rw [cell_of_row _ _ _ _ _ _ hB, c2]
        have hkl : CellsAt w5 wr.heap.size 3 ls := by
          have := (CellsAt.whole hB).part (i := 3) (j := 43) (by rw [hc.size]; exact Nat.le_refl 43)
          rw [hc.let'] at this; simpa using this
        clear hm4 hm5 hs4 hB hm45 hcw c0 c1 c2 hat hc HS hMr
        go_upto_region 13 with (fail)
        refine wp_region_seq [3, 1] (fun _ => True) (by rfl) (by rfl) trivial ?_
        simp only [List.zip_cons_cons, List.zip_nil_right]
        refine wpPi_field _ _ _ _ _ _ rfl rfl rfl fo_60_0 ?_
        simp only [pl, pn, el, ec, sz, ss, gz, gs, if_true, if_false, Bool.false_eq_true, Bool.not_true, Bool.not_false, Nat.add_zero, Nat.zero_add, Nat.reduceAdd]
        refine wpPi_do rfl (fun K hK => ?_)
        refine wp_exec (exec_load1 3 _ (by rfl) wr.heap.size 0 (by rfl) _ hk0 _ Try.underlying3 rfl) ?_
        refine hK _ _ trivial ?_
        clear hK K
        try simp only [pl, pn, el, ec, sz, ss, gz, gs, if_true, if_false, Bool.false_eq_true, Bool.not_true, Bool.not_false, Nat.add_zero, Nat.zero_add, Nat.reduceAdd]
        refine wpPi_nil ?_
        go_upto_block 2 with (fail)
        go_cut [8, 9, 10] (fun s a t wx => CntMid w (.pointer (some ⟨bp, 0, none⟩)) (k + 1) s a t wx)
        case first =>
          by_cases h0 : kd = 0
          · subst h0
            obtain ⟨tw, htw⟩ : ∃ t, t = twoB N.n y.src y.dst := ⟨_, rfl⟩
            cases tw
            · obtain ⟨hsb, hse, hsn⟩ := hC.sendNo y htw.symm
              clear htw
              go_upto_region 15 with (fail)
              refine wp_region_seq [3, 3, 1, 1, 3, 1, 1, 3, 3] (fun _ => True) (by rfl) (by rfl) trivial ?_
              simp only [List.zip_cons_cons, List.zip_nil_right]
              refine wpPi_move _ rfl rfl ?_
              simp only [pl, pn, el, ec, sz, ss, gz, gs, if_true, if_false, Bool.false_eq_true, Bool.not_true, Bool.not_false, Nat.add_zero, Nat.zero_add, Nat.reduceAdd]
              refine wpPi_field _ _ _ _ _ _ rfl rfl rfl fo_60_3 ?_
              simp only [pl, pn, el, ec, sz, ss, gz, gs, if_true, if_false, Bool.false_eq_true, Bool.not_true, Bool.not_false, Nat.add_zero, Nat.zero_add, Nat.reduceAdd]
              refine wpPi_do rfl (fun K hK => ?_)
              refine wp_exec (exec_loadA 38 _ (by rfl) wr.heap.size 3 (by rfl) _ hkl _ Try.underlying38 rfl 40 (by kernel_rfl) hlsz) ?_
              refine hK _ _ trivial ?_
              clear hK K
              try simp only [pl, pn, el, ec, sz, ss, gz, gs, if_true, if_false, Bool.false_eq_true, Bool.not_true, Bool.not_false, Nat.add_zero, Nat.zero_add, Nat.reduceAdd]
              refine wpPi_do rfl (fun K hK => ?_)
              go_wp2_with (go_at_call 12; refine (send_ci hCI hlost false _ _ _ _ hlet hok false 2 hsb hse).mono ?_; rintro _ w6 ⟨rfl, hmF, F6, hCI6⟩)
              have hlet6 := hc0.keep0 hCI6.mod
              have hkl6 := hkl.keep hmF (fun h => by have := hFlt _ h; omega)
              refine hK _ _ trivial ?_
              clear hK K
              try simp only [pl, pn, el, ec, sz, ss, gz, gs, if_true, if_false, Bool.false_eq_true, Bool.not_true, Bool.not_false, Nat.add_zero, Nat.zero_add, Nat.reduceAdd]
              refine wpPi_move _ rfl rfl ?_
              simp only [pl, pn, el, ec, sz, ss, gz, gs, if_true, if_false, Bool.false_eq_true, Bool.not_true, Bool.not_false, Nat.add_zero, Nat.zero_add, Nat.reduceAdd]
              refine wpPi_do rfl (fun K hK => ?_)
              go_wp2
              refine hK _ _ trivial ?_
              clear hK K
              try simp only [pl, pn, el, ec, sz, ss, gz, gs, if_true, if_false, Bool.false_eq_true, Bool.not_true, Bool.not_false, Nat.add_zero, Nat.zero_add, Nat.reduceAdd]
              refine wpPi_do rfl (fun K hK => ?_)
              go_wp2
              refine hK _ _ trivial ?_
              clear hK K
              try simp only [pl, pn, el, ec, sz, ss, gz, gs, if_true, if_false, Bool.false_eq_true, Bool.not_true, Bool.not_false, Nat.add_zero, Nat.zero_add, Nat.reduceAdd]
              refine wpPi_assign _ rfl rfl ?_
              simp only [pl, pn, el, ec, sz, ss, gz, gs, if_true, if_false, Bool.false_eq_true, Bool.not_true, Bool.not_false, Nat.add_zero, Nat.zero_add, Nat.reduceAdd]
              refine wpPi_assign _ rfl rfl ?_
              simp only [pl, pn, el, ec, sz, ss, gz, gs, if_true, if_false, Bool.false_eq_true, Bool.not_true, Bool.not_false, Nat.add_zero, Nat.zero_add, Nat.reduceAdd]
              refine wpPi_nil ?_
              rw [hsn] at hCI6
              go_wp2
              go_meet
              exact ⟨N, F6, S, T, A, rfl, rfl, HAA.out, hCI6, hC.up⟩
            · obtain ⟨sb, hsb⟩ : ∃ t, t = sendB N y := ⟨_, rfl⟩
              cases sb
              · obtain ⟨hse, hCs, hls1, hls2⟩ := hC.sendLost y htw.symm hsb.symm
                replace hsb := hsb.symm
                clear htw
                go_upto_region 15 with (fail)
                refine wp_region_seq [3, 3, 1, 1, 3, 1, 1, 3, 3] (fun _ => True) (by rfl) (by rfl) trivial ?_
                simp only [List.zip_cons_cons, List.zip_nil_right]
                refine wpPi_move _ rfl rfl ?_
                simp only [pl, pn, el, ec, sz, ss, gz, gs, if_true, if_false, Bool.false_eq_true, Bool.not_true, Bool.not_false, Nat.add_zero, Nat.zero_add, Nat.reduceAdd]
                refine wpPi_field _ _ _ _ _ _ rfl rfl rfl fo_60_3 ?_
                simp only [pl, pn, el, ec, sz, ss, gz, gs, if_true, if_false, Bool.false_eq_true, Bool.not_true, Bool.not_false, Nat.add_zero, Nat.zero_add, Nat.reduceAdd]
                refine wpPi_do rfl (fun K hK => ?_)
                refine wp_exec (exec_loadA 38 _ (by rfl) wr.heap.size 3 (by rfl) _ hkl _ Try.underlying38 rfl 40 (by kernel_rfl) hlsz) ?_
                refine hK _ _ trivial ?_
                clear hK K
                try simp only [pl, pn, el, ec, sz, ss, gz, gs, if_true, if_false, Bool.false_eq_true, Bool.not_true, Bool.not_false, Nat.add_zero, Nat.zero_add, Nat.reduceAdd]
                refine wpPi_do rfl (fun K hK => ?_)
                go_wp2_with (go_at_call 12; refine (send_ci hCI hlost false _ _ _ _ hlet hok false 0 hsb hse).mono ?_; rintro _ w6 ⟨rfl, hmF, F6, hCI6⟩)
                have hlet6 := hc0.keep0 hCI6.mod
                have hkl6 := hkl.keep hmF (fun h => by have := hFlt _ h; omega)
                refine hK _ _ trivial ?_
                clear hK K
                try simp only [pl, pn, el, ec, sz, ss, gz, gs, if_true, if_false, Bool.false_eq_true, Bool.not_true, Bool.not_false, Nat.add_zero, Nat.zero_add, Nat.reduceAdd]
                refine wpPi_move _ rfl rfl ?_
                simp only [pl, pn, el, ec, sz, ss, gz, gs, if_true, if_false, Bool.false_eq_true, Bool.not_true, Bool.not_false, Nat.add_zero, Nat.zero_add, Nat.reduceAdd]
                refine wpPi_do rfl (fun K hK => ?_)
                go_wp2
                refine hK _ _ trivial ?_
                clear hK K
                try simp only [pl, pn, el, ec, sz, ss, gz, gs, if_true, if_false, Bool.false_eq_true, Bool.not_true, Bool.not_false, Nat.add_zero, Nat.zero_add, Nat.reduceAdd]
                refine wpPi_do rfl (fun K hK => ?_)
                go_wp2
                refine hK _ _ trivial ?_
                clear hK K
                try simp only [pl, pn, el, ec, sz, ss, gz, gs, if_true, if_false, Bool.false_eq_true, Bool.not_true, Bool.not_false, Nat.add_zero, Nat.zero_add, Nat.reduceAdd]
                refine wpPi_assign _ rfl rfl ?_
                simp only [pl, pn, el, ec, sz, ss, gz, gs, if_true, if_false, Bool.false_eq_true, Bool.not_true, Bool.not_false, Nat.add_zero, Nat.zero_add, Nat.reduceAdd]
                refine wpPi_assign _ rfl rfl ?_
                simp only [pl, pn, el, ec, sz, ss, gz, gs, if_true, if_false, Bool.false_eq_true, Bool.not_true, Bool.not_false, Nat.add_zero, Nat.zero_add, Nat.reduceAdd]
                refine wpPi_nil ?_
                go_upto_region 17 with (fail)
                refine wp_region_seq [3, 3, 3] (fun _ => True) (by rfl) (by rfl) trivial ?_
                simp only [List.zip_cons_cons, List.zip_nil_right]
                refine wpPi_move _ rfl rfl ?_
                simp only [pl, pn, el, ec, sz, ss, gz, gs, if_true, if_false, Bool.false_eq_true, Bool.not_true, Bool.not_false, Nat.add_zero, Nat.zero_add, Nat.reduceAdd]
                refine wpPi_add _ _ _ _ _ _ rfl rfl rfl rfl (by omega) (by omega) ?_
                simp only [pl, pn, el, ec, sz, ss, gz, gs, if_true, if_false, Bool.false_eq_true, Bool.not_true, Bool.not_false, Nat.add_zero, Nat.zero_add, Nat.reduceAdd]
                refine wpPi_assign _ rfl rfl ?_
                simp only [pl, pn, el, ec, sz, ss, gz, gs, if_true, if_false, Bool.false_eq_true, Bool.not_true, Bool.not_false, Nat.add_zero, Nat.zero_add, Nat.reduceAdd]
                refine wpPi_nil ?_
                go_wp2
                go_meet
                exact ⟨_, F6, S, T, A + 1, rfl, rfl, by rw [hls1, hls2, HAA.out]; omega, hCI6, hCs⟩
              · obtain ⟨hse, hCs, hls1, hls2⟩ := hC.sendIs y htw.symm hsb.symm
                replace hsb := hsb.symm
                clear htw
                go_upto_region 15 with (fail)
                refine wp_region_seq [3, 3, 1, 1, 3, 1, 1, 3, 3] (fun _ => True) (by rfl) (by rfl) trivial ?_
                simp only [List.zip_cons_cons, List.zip_nil_right]
                refine wpPi_move _ rfl rfl ?_
                simp only [pl, pn, el, ec, sz, ss, gz, gs, if_true, if_false, Bool.false_eq_true, Bool.not_true, Bool.not_false, Nat.add_zero, Nat.zero_add, Nat.reduceAdd]
                refine wpPi_field _ _ _ _ _ _ rfl rfl rfl fo_60_3 ?_
                simp only [pl, pn, el, ec, sz, ss, gz, gs, if_true, if_false, Bool.false_eq_true, Bool.not_true, Bool.not_false, Nat.add_zero, Nat.zero_add, Nat.reduceAdd]
                refine wpPi_do rfl (fun K hK => ?_)
                refine wp_exec (exec_loadA 38 _ (by rfl) wr.heap.size 3 (by rfl) _ hkl _ Try.underlying38 rfl 40 (by kernel_rfl) hlsz) ?_
                refine hK _ _ trivial ?_
                clear hK K
                try simp only [pl, pn, el, ec, sz, ss, gz, gs, if_true, if_false, Bool.false_eq_true, Bool.not_true, Bool.not_false, Nat.add_zero, Nat.zero_add, Nat.reduceAdd]
                refine wpPi_do rfl (fun K hK => ?_)
                go_wp2_with (go_at_call 12; refine (send_ci hCI hlost false _ _ _ _ hlet hok true 0 hsb hse).mono ?_; rintro _ w6 ⟨rfl, hmF, F6, hCI6⟩)
                have hlet6 := hc0.keep0 hCI6.mod
                have hkl6 := hkl.keep hmF (fun h => by have := hFlt _ h; omega)
                refine hK _ _ trivial ?_
                clear hK K
                try simp only [pl, pn, el, ec, sz, ss, gz, gs, if_true, if_false, Bool.false_eq_true, Bool.not_true, Bool.not_false, Nat.add_zero, Nat.zero_add, Nat.reduceAdd]
                refine wpPi_move _ rfl rfl ?_
                simp only [pl, pn, el, ec, sz, ss, gz, gs, if_true, if_false, Bool.false_eq_true, Bool.not_true, Bool.not_false, Nat.add_zero, Nat.zero_add, Nat.reduceAdd]
                refine wpPi_do rfl (fun K hK => ?_)
                go_wp2
                refine hK _ _ trivial ?_
                clear hK K
                try simp only [pl, pn, el, ec, sz, ss, gz, gs, if_true, if_false, Bool.false_eq_true, Bool.not_true, Bool.not_false, Nat.add_zero, Nat.zero_add, Nat.reduceAdd]
                refine wpPi_do rfl (fun K hK => ?_)
                go_wp2
                refine hK _ _ trivial ?_
                clear hK K
                try simp only [pl, pn, el, ec, sz, ss, gz, gs, if_true, if_false, Bool.false_eq_true, Bool.not_true, Bool.not_false, Nat.add_zero, Nat.zero_add, Nat.reduceAdd]
                refine wpPi_assign _ rfl rfl ?_
                simp only [pl, pn, el, ec, sz, ss, gz, gs, if_true, if_false, Bool.false_eq_true, Bool.not_true, Bool.not_false, Nat.add_zero, Nat.zero_add, Nat.reduceAdd]
                refine wpPi_assign _ rfl rfl ?_
                simp only [pl, pn, el, ec, sz, ss, gz, gs, if_true, if_false, Bool.false_eq_true, Bool.not_true, Bool.not_false, Nat.add_zero, Nat.zero_add, Nat.reduceAdd]
                refine wpPi_nil ?_
                go_upto_region 17 with (fail)
                refine wp_region_seq [3, 3, 3] (fun _ => True) (by rfl) (by rfl) trivial ?_
                simp only [List.zip_cons_cons, List.zip_nil_right]
                refine wpPi_move _ rfl rfl ?_
                simp only [pl, pn, el, ec, sz, ss, gz, gs, if_true, if_false, Bool.false_eq_true, Bool.not_true, Bool.not_false, Nat.add_zero, Nat.zero_add, Nat.reduceAdd]
                refine wpPi_add _ _ _ _ _ _ rfl rfl rfl rfl (by omega) (by omega) ?_
                simp only [pl, pn, el, ec, sz, ss, gz, gs, if_true, if_false, Bool.false_eq_true, Bool.not_true, Bool.not_false, Nat.add_zero, Nat.zero_add, Nat.reduceAdd]
                refine wpPi_assign _ rfl rfl ?_
                simp only [pl, pn, el, ec, sz, ss, gz, gs, if_true, if_false, Bool.false_eq_true, Bool.not_true, Bool.not_false, Nat.add_zero, Nat.zero_add, Nat.reduceAdd]
                refine wpPi_nil ?_
                have hsl := hC.sl
                go_upto_region 19 with (fail)
                refine wp_region_seq [3, 3, 1, 1, 1, 3] (fun _ => True) (by rfl) (by rfl) trivial ?_
                simp only [List.zip_cons_cons, List.zip_nil_right]
                refine wpPi_move _ rfl rfl ?_
                simp only [pl, pn, el, ec, sz, ss, gz, gs, if_true, if_false, Bool.false_eq_true, Bool.not_true, Bool.not_false, Nat.add_zero, Nat.zero_add, Nat.reduceAdd]
                refine wpPi_field _ _ _ _ _ _ rfl rfl rfl fo_60_3 ?_
                simp only [pl, pn, el, ec, sz, ss, gz, gs, if_true, if_false, Bool.false_eq_true, Bool.not_true, Bool.not_false, Nat.add_zero, Nat.zero_add, Nat.reduceAdd]
                refine wpPi_do rfl (fun K hK => ?_)
                refine wp_exec (exec_loadA 38 _ (by rfl) wr.heap.size 3 (by rfl) _ hkl6 _ Try.underlying38 rfl 40 (by kernel_rfl) hlsz) ?_
                refine hK _ _ trivial ?_
                clear hK K
                try simp only [pl, pn, el, ec, sz, ss, gz, gs, if_true, if_false, Bool.false_eq_true, Bool.not_true, Bool.not_false, Nat.add_zero, Nat.zero_add, Nat.reduceAdd]
                refine wpPi_do rfl (fun K hK => ?_)
                refine wp_buildSlice1 43 38 _ (.agg ls) ltrZero 40 (by rfl) (by rfl) Try.underlying43 (by kernel_rfl) (by omega) (by omega) hlsz (fun w7 hb7 hm7 hs7 => ?_)
                replace hb7 : w7.heap[w6.heap.size]? = some (.cells ls 38 (0, 0)) := hb7
                replace hCI6 := hCI6.keep0 hm7
                replace hlet6 := hlet6.keep0 hm7
                refine hK _ _ trivial ?_
                clear hK K
                try simp only [pl, pn, el, ec, sz, ss, gz, gs, if_true, if_false, Bool.false_eq_true, Bool.not_true, Bool.not_false, Nat.add_zero, Nat.zero_add, Nat.reduceAdd]
                refine wpPi_do rfl (fun K hK => ?_)
                obtain ⟨css, h1, h2, h3⟩ := hCI6.acc
                have hM7 := hCI6.mod
                refine wp_append _ _ 43 38 ltrZero 40 144 (by rfl) Try.underlying43 info38 (by rfl) (by omega) w.heap.size u8 S.length (css.flatMap Array.toList) (by rfl) h1 _ 1 ls.toList (by rfl)
                  (⟨by simp [hlsz], _, _, rfl, fun _ => ⟨_, _, rfl, fun j x hx => by rw [Nat.zero_add, cell_of_row w7 _ _ _ _ _ hb7]; simpa using hx⟩⟩ : Src w7 40 _ 1 ls.toList)
                  (fun c hc => hlet6.one c (by simpa using hc)) (by unfold maxLen; omega) (by omega) hM7.size (fun v1 w8 hown hgrow hvv => ?_)
                have hCI8 := hCI6.more h2 h3 hlet6 hown hgrow hvv
                refine hK _ _ trivial ?_
                clear hK K
                try simp only [pl, pn, el, ec, sz, ss, gz, gs, if_true, if_false, Bool.false_eq_true, Bool.not_true, Bool.not_false, Nat.add_zero, Nat.zero_add, Nat.reduceAdd]
                refine wpPi_assign _ rfl rfl ?_
                simp only [pl, pn, el, ec, sz, ss, gz, gs, if_true, if_false, Bool.false_eq_true, Bool.not_true, Bool.not_false, Nat.add_zero, Nat.zero_add, Nat.reduceAdd]
                refine wpPi_nil ?_
                go_wp2
                go_meet
                exact ⟨_, F6, S ++ [y], T, A + 1, rfl, rfl, by rw [hls1, hls2, HAA.out]; omega, hCI8, hCs⟩
          · have h0' : (kd == 0) = false := by simp [h0]
            by_cases h1 : kd = 1
            · subst h1
              obtain ⟨tr, htr⟩ : ∃ t, t = inR N xa := ⟨_, rfl⟩
              cases tr
              · obtain ⟨hCt, htn⟩ := hC.takeNo xa htr.symm
                have hte : takeE N xa = 26 := by simp [takeE, ← htr]
                clear htr
                go_upto_region 23 with (fail)
                refine wp_region_seq [3, 3, 1, 1, 3, 1, 1, 1, 1, 3] (fun _ => True) (by rfl) (by rfl) trivial ?_
                simp only [List.zip_cons_cons, List.zip_nil_right]
                refine wpPi_move _ rfl rfl ?_
                simp only [pl, pn, el, ec, sz, ss, gz, gs, if_true, if_false, Bool.false_eq_true, Bool.not_true, Bool.not_false, Nat.add_zero, Nat.zero_add, Nat.reduceAdd]
                refine wpPi_field _ _ _ _ _ _ rfl rfl rfl fo_60_1 ?_
                simp only [pl, pn, el, ec, sz, ss, gz, gs, if_true, if_false, Bool.false_eq_true, Bool.not_true, Bool.not_false, Nat.add_zero, Nat.zero_add, Nat.reduceAdd]
                refine wpPi_do rfl (fun K hK => ?_)
                refine wp_exec (exec_load1 3 _ (by rfl) wr.heap.size 1 (by rfl) _ hk1 _ Try.underlying3 rfl) ?_
                refine hK _ _ trivial ?_
                clear hK K
                try simp only [pl, pn, el, ec, sz, ss, gz, gs, if_true, if_false, Bool.false_eq_true, Bool.not_true, Bool.not_false, Nat.add_zero, Nat.zero_add, Nat.reduceAdd]
                refine wpPi_do rfl (fun K hK => ?_)
                go_wp2_with (go_at_call 18; refine (take_ci hCI xa 26 hte).mono ?_; rintro _ w6 ⟨cs6, E6, G6, F6, rfl, htl, hCI6⟩)
                refine hK _ _ trivial ?_
                clear hK K
                try simp only [pl, pn, el, ec, sz, ss, gz, gs, if_true, if_false, Bool.false_eq_true, Bool.not_true, Bool.not_false, Nat.add_zero, Nat.zero_add, Nat.reduceAdd]
                refine wpPi_move _ rfl rfl ?_
                simp only [pl, pn, el, ec, sz, ss, gz, gs, if_true, if_false, Bool.false_eq_true, Bool.not_true, Bool.not_false, Nat.add_zero, Nat.zero_add, Nat.reduceAdd]
                refine wpPi_do rfl (fun K hK => ?_)
                go_wp2
                refine hK _ _ trivial ?_
                clear hK K
                try simp only [pl, pn, el, ec, sz, ss, gz, gs, if_true, if_false, Bool.false_eq_true, Bool.not_true, Bool.not_false, Nat.add_zero, Nat.zero_add, Nat.reduceAdd]
                refine wpPi_do rfl (fun K hK => ?_)
                go_wp2
                refine hK _ _ trivial ?_
                clear hK K
                try simp only [pl, pn, el, ec, sz, ss, gz, gs, if_true, if_false, Bool.false_eq_true, Bool.not_true, Bool.not_false, Nat.add_zero, Nat.zero_add, Nat.reduceAdd]
                refine wpPi_do rfl (fun K hK => ?_)
                refine wp_alloc 38 ltrZero (by rfl) zero38 (fun w7 hB15 hm7 hs7 => ?_)
                refine hK _ _ trivial ?_
                clear hK K
                try simp only [pl, pn, el, ec, sz, ss, gz, gs, if_true, if_false, Bool.false_eq_true, Bool.not_true, Bool.not_false, Nat.add_zero, Nat.zero_add, Nat.reduceAdd]
                refine wpPi_do rfl (fun K hK => ?_)
                refine wp_storeA 38 _ _ w6.heap.size 0 cs6 (by rfl) (by rfl) (by rfl) htl.one 40 (by kernel_rfl) htl.size _ _ hB15 (by rw [htl.size]; exact Nat.le_refl 40) (fun w8 hB15' hm8 => ?_)
                rw [putRow_whole (by rw [htl.size]; rfl)] at hB15'
                clear hB15
                have hB15 := hB15'
                have hm78 : Mod NoB w6 w8 := hm7.transB hm8 (Nat.le_refl _)
                replace htl := htl.keep0 hm78
                replace hCI6 := hCI6.keep0 hm78
                refine hK _ _ trivial ?_
                clear hK K
                try simp only [pl, pn, el, ec, sz, ss, gz, gs, if_true, if_false, Bool.false_eq_true, Bool.not_true, Bool.not_false, Nat.add_zero, Nat.zero_add, Nat.reduceAdd]
                refine wpPi_assign _ rfl rfl ?_
                simp only [pl, pn, el, ec, sz, ss, gz, gs, if_true, if_false, Bool.false_eq_true, Bool.not_true, Bool.not_false, Nat.add_zero, Nat.zero_add, Nat.reduceAdd]
                refine wpPi_nil ?_
                rw [htn] at hCI6
                go_wp2
                go_meet
                exact ⟨N, F6, S, T, A, rfl, rfl, HAA.out, hCI6, hC.up⟩
              · obtain ⟨hCt, hsum, hmem⟩ := hC.take xa htr.symm
                have hte : takeE N xa = 0 := by simp [takeE, ← htr]
                clear htr
                go_upto_region 23 with (fail)
                refine wp_region_seq [3, 3, 1, 1, 3, 1, 1, 1, 1, 3] (fun _ => True) (by rfl) (by rfl) trivial ?_
                simp only [List.zip_cons_cons, List.zip_nil_right]
                refine wpPi_move _ rfl rfl ?_
                simp only [pl, pn, el, ec, sz, ss, gz, gs, if_true, if_false, Bool.false_eq_true, Bool.not_true, Bool.not_false, Nat.add_zero, Nat.zero_add, Nat.reduceAdd]
                refine wpPi_field _ _ _ _ _ _ rfl rfl rfl fo_60_1 ?_
                simp only [pl, pn, el, ec, sz, ss, gz, gs, if_true, if_false, Bool.false_eq_true, Bool.not_true, Bool.not_false, Nat.add_zero, Nat.zero_add, Nat.reduceAdd]
                refine wpPi_do rfl (fun K hK => ?_)
                refine wp_exec (exec_load1 3 _ (by rfl) wr.heap.size 1 (by rfl) _ hk1 _ Try.underlying3 rfl) ?_
                refine hK _ _ trivial ?_
                clear hK K
                try simp only [pl, pn, el, ec, sz, ss, gz, gs, if_true, if_false, Bool.false_eq_true, Bool.not_true, Bool.not_false, Nat.add_zero, Nat.zero_add, Nat.reduceAdd]
                refine wpPi_do rfl (fun K hK => ?_)
                go_wp2_with (go_at_call 18; refine (take_ci hCI xa 0 hte).mono ?_; rintro _ w6 ⟨cs6, E6, G6, F6, rfl, htl, hCI6⟩)
                refine hK _ _ trivial ?_
                clear hK K
                try simp only [pl, pn, el, ec, sz, ss, gz, gs, if_true, if_false, Bool.false_eq_true, Bool.not_true, Bool.not_false, Nat.add_zero, Nat.zero_add, Nat.reduceAdd]
                refine wpPi_move _ rfl rfl ?_
                simp only [pl, pn, el, ec, sz, ss, gz, gs, if_true, if_false, Bool.false_eq_true, Bool.not_true, Bool.not_false, Nat.add_zero, Nat.zero_add, Nat.reduceAdd]
                refine wpPi_do rfl (fun K hK => ?_)
                go_wp2
                refine hK _ _ trivial ?_
                clear hK K
                try simp only [pl, pn, el, ec, sz, ss, gz, gs, if_true, if_false, Bool.false_eq_true, Bool.not_true, Bool.not_false, Nat.add_zero, Nat.zero_add, Nat.reduceAdd]
                refine wpPi_do rfl (fun K hK => ?_)
                go_wp2
                refine hK _ _ trivial ?_
                clear hK K
                try simp only [pl, pn, el, ec, sz, ss, gz, gs, if_true, if_false, Bool.false_eq_true, Bool.not_true, Bool.not_false, Nat.add_zero, Nat.zero_add, Nat.reduceAdd]
                refine wpPi_do rfl (fun K hK => ?_)
                refine wp_alloc 38 ltrZero (by rfl) zero38 (fun w7 hB15 hm7 hs7 => ?_)
                refine hK _ _ trivial ?_
                clear hK K
                try simp only [pl, pn, el, ec, sz, ss, gz, gs, if_true, if_false, Bool.false_eq_true, Bool.not_true, Bool.not_false, Nat.add_zero, Nat.zero_add, Nat.reduceAdd]
                refine wpPi_do rfl (fun K hK => ?_)
                refine wp_storeA 38 _ _ w6.heap.size 0 cs6 (by rfl) (by rfl) (by rfl) htl.one 40 (by kernel_rfl) htl.size _ _ hB15 (by rw [htl.size]; exact Nat.le_refl 40) (fun w8 hB15' hm8 => ?_)
                rw [putRow_whole (by rw [htl.size]; rfl)] at hB15'
                clear hB15
                have hB15 := hB15'
                have hm78 : Mod NoB w6 w8 := hm7.transB hm8 (Nat.le_refl _)
                replace htl := htl.keep0 hm78
                replace hCI6 := hCI6.keep0 hm78
                refine hK _ _ trivial ?_
                clear hK K
                try simp only [pl, pn, el, ec, sz, ss, gz, gs, if_true, if_false, Bool.false_eq_true, Bool.not_true, Bool.not_false, Nat.add_zero, Nat.zero_add, Nat.reduceAdd]
                refine wpPi_assign _ rfl rfl ?_
                simp only [pl, pn, el, ec, sz, ss, gz, gs, if_true, if_false, Bool.false_eq_true, Bool.not_true, Bool.not_false, Nat.add_zero, Nat.zero_add, Nat.reduceAdd]
                refine wpPi_nil ?_
                have hlst := hCI6.acc.done
                go_upto_region 24 with (fail)
                refine wp_region_seq [3, 3, 3, 3, 1, 1, 3, 3] (fun _ => True) (by rfl) (by rfl) trivial ?_
                simp only [List.zip_cons_cons, List.zip_nil_right]
                refine wpPi_move _ rfl rfl ?_
                simp only [pl, pn, el, ec, sz, ss, gz, gs, if_true, if_false, Bool.false_eq_true, Bool.not_true, Bool.not_false, Nat.add_zero, Nat.zero_add, Nat.reduceAdd]
                refine wpPi_cmp _ _ _ _ _ _ _ _ rfl rfl rfl rfl rfl true (by rfl) ?_
                simp only [pl, pn, el, ec, sz, ss, gz, gs, if_true, if_false, Bool.false_eq_true, Bool.not_true, Bool.not_false, Nat.add_zero, Nat.zero_add, Nat.reduceAdd]
                refine wpPi_move _ rfl rfl ?_
                simp only [pl, pn, el, ec, sz, ss, gz, gs, if_true, if_false, Bool.false_eq_true, Bool.not_true, Bool.not_false, Nat.add_zero, Nat.zero_add, Nat.reduceAdd]
                refine wpPi_move _ rfl rfl ?_
                simp only [pl, pn, el, ec, sz, ss, gz, gs, if_true, if_false, Bool.false_eq_true, Bool.not_true, Bool.not_false, Nat.add_zero, Nat.zero_add, Nat.reduceAdd]
                refine wpPi_do rfl (fun K hK => ?_)
                refine wp_exec (exec_loadA 38 _ (by rfl) w6.heap.size 0 (by rfl) _ (CellsAt.whole hB15) _ Try.underlying38 rfl 40 (by kernel_rfl) htl.size) ?_
                refine hK _ _ trivial ?_
                clear hK K
                try simp only [pl, pn, el, ec, sz, ss, gz, gs, if_true, if_false, Bool.false_eq_true, Bool.not_true, Bool.not_false, Nat.add_zero, Nat.zero_add, Nat.reduceAdd]
                refine wpPi_do rfl (fun K hK => ?_)
                go_wp2_with (go_at_call 39; refine (among_any _ _ _ _ _ _ _ _ S _ _ w8 hlst htl.weak).mono ?_; rintro _ w9 ⟨rfl, hm9⟩; simp only [hmem, decide_true])
                replace hCI6 := hCI6.keep0 hm9
                refine hK _ _ trivial ?_
                clear hK K
                try simp only [pl, pn, el, ec, sz, ss, gz, gs, if_true, if_false, Bool.false_eq_true, Bool.not_true, Bool.not_false, Nat.add_zero, Nat.zero_add, Nat.reduceAdd]
                refine wpPi_not _ _ _ rfl rfl rfl ?_
                simp only [pl, pn, el, ec, sz, ss, gz, gs, if_true, if_false, Bool.false_eq_true, Bool.not_true, Bool.not_false, Nat.add_zero, Nat.zero_add, Nat.reduceAdd]
                refine wpPi_pick _ _ _ _ rfl rfl rfl ?_
                simp only [pl, pn, el, ec, sz, ss, gz, gs, if_true, if_false, Bool.false_eq_true, Bool.not_true, Bool.not_false, Nat.add_zero, Nat.zero_add, Nat.reduceAdd]
                refine wpPi_nil ?_
                go_upto_region 27 with (fail)
                refine wp_region_seq [3, 3, 3] (fun _ => True) (by rfl) (by rfl) trivial ?_
                simp only [List.zip_cons_cons, List.zip_nil_right]
                refine wpPi_move _ rfl rfl ?_
                simp only [pl, pn, el, ec, sz, ss, gz, gs, if_true, if_false, Bool.false_eq_true, Bool.not_true, Bool.not_false, Nat.add_zero, Nat.zero_add, Nat.reduceAdd]
                refine wpPi_add _ _ _ _ _ _ rfl rfl rfl rfl (by omega) (by omega) ?_
                simp only [pl, pn, el, ec, sz, ss, gz, gs, if_true, if_false, Bool.false_eq_true, Bool.not_true, Bool.not_false, Nat.add_zero, Nat.zero_add, Nat.reduceAdd]
                refine wpPi_assign _ rfl rfl ?_
                simp only [pl, pn, el, ec, sz, ss, gz, gs, if_true, if_false, Bool.false_eq_true, Bool.not_true, Bool.not_false, Nat.add_zero, Nat.zero_add, Nat.reduceAdd]
                refine wpPi_nil ?_
                go_wp2
                go_meet
                exact ⟨_, F6, S, T + 1, A, rfl, rfl, by rw [HAA.out]; omega, hCI6, hCt⟩
            · have h1' : (kd == 1) = false := by simp [h1]
              by_cases h2 : kd = 2
              · subst h2
                go_upto_region 29 with (fail)
                refine wp_region_seq [3, 3, 1, 1] (fun _ => True) (by rfl) (by rfl) trivial ?_
                simp only [List.zip_cons_cons, List.zip_nil_right]
                refine wpPi_move _ rfl rfl ?_
                simp only [pl, pn, el, ec, sz, ss, gz, gs, if_true, if_false, Bool.false_eq_true, Bool.not_true, Bool.not_false, Nat.add_zero, Nat.zero_add, Nat.reduceAdd]
                refine wpPi_field _ _ _ _ _ _ rfl rfl rfl fo_60_1 ?_
                simp only [pl, pn, el, ec, sz, ss, gz, gs, if_true, if_false, Bool.false_eq_true, Bool.not_true, Bool.not_false, Nat.add_zero, Nat.zero_add, Nat.reduceAdd]
                refine wpPi_do rfl (fun K hK => ?_)
                refine wp_exec (exec_load1 3 _ (by rfl) wr.heap.size 1 (by rfl) _ hk1 _ Try.underlying3 rfl) ?_
                refine hK _ _ trivial ?_
                clear hK K
                try simp only [pl, pn, el, ec, sz, ss, gz, gs, if_true, if_false, Bool.false_eq_true, Bool.not_true, Bool.not_false, Nat.add_zero, Nat.zero_add, Nat.reduceAdd]
                refine wpPi_do rfl (fun K hK => ?_)
                go_wp2_with (go_at_call 28; refine (drop_ci hCI hlost xa).mono ?_; rintro _ w6 ⟨rfl, F6, hCI6⟩)
                refine hK _ _ trivial ?_
                clear hK K
                try simp only [pl, pn, el, ec, sz, ss, gz, gs, if_true, if_false, Bool.false_eq_true, Bool.not_true, Bool.not_false, Nat.add_zero, Nat.zero_add, Nat.reduceAdd]
                refine wpPi_nil ?_
                go_wp2
                go_meet
                exact ⟨_, F6, S, T, A, rfl, rfl, by have := (hC.drop xa).2; rw [HAA.out]; omega, hCI6, (hC.drop xa).1⟩
              · have h2' : (kd == 2) = false := by simp [h2]
                by_cases h3 : kd = 3
                · subst h3
                  by_cases hce : copyE N xa = 0
                  · go_upto_region 31 with (fail)
                    refine wp_region_seq [3, 3, 1, 1, 3] (fun _ => True) (by rfl) (by rfl) trivial ?_
                    simp only [List.zip_cons_cons, List.zip_nil_right]
                    refine wpPi_move _ rfl rfl ?_
                    simp only [pl, pn, el, ec, sz, ss, gz, gs, if_true, if_false, Bool.false_eq_true, Bool.not_true, Bool.not_false, Nat.add_zero, Nat.zero_add, Nat.reduceAdd]
                    refine wpPi_field _ _ _ _ _ _ rfl rfl rfl fo_60_1 ?_
                    simp only [pl, pn, el, ec, sz, ss, gz, gs, if_true, if_false, Bool.false_eq_true, Bool.not_true, Bool.not_false, Nat.add_zero, Nat.zero_add, Nat.reduceAdd]
                    refine wpPi_do rfl (fun K hK => ?_)
                    refine wp_exec (exec_load1 3 _ (by rfl) wr.heap.size 1 (by rfl) _ hk1 _ Try.underlying3 rfl) ?_
                    refine hK _ _ trivial ?_
                    clear hK K
                    try simp only [pl, pn, el, ec, sz, ss, gz, gs, if_true, if_false, Bool.false_eq_true, Bool.not_true, Bool.not_false, Nat.add_zero, Nat.zero_add, Nat.reduceAdd]
                    refine wpPi_do rfl (fun K hK => ?_)
                    go_wp2_with (go_at_call 14; refine (copy_ci hCI xa).mono ?_; rintro _ w6 ⟨rfl, F6, hCI6⟩)
                    refine hK _ _ trivial ?_
                    clear hK K
                    try simp only [pl, pn, el, ec, sz, ss, gz, gs, if_true, if_false, Bool.false_eq_true, Bool.not_true, Bool.not_false, Nat.add_zero, Nat.zero_add, Nat.reduceAdd]
                    refine wpPi_cmp _ _ _ _ _ _ _ _ rfl rfl rfl rfl rfl true (by simp only [cmpB]; simp [hce]) ?_
                    simp only [pl, pn, el, ec, sz, ss, gz, gs, if_true, if_false, Bool.false_eq_true, Bool.not_true, Bool.not_false, Nat.add_zero, Nat.zero_add, Nat.reduceAdd]
                    refine wpPi_nil ?_
                    obtain ⟨hCc, hc1, hc2⟩ := hC.copy xa hce
                    go_upto_region 32 with (fail)
                    refine wp_region_seq [3, 3, 3] (fun _ => True) (by rfl) (by rfl) trivial ?_
                    simp only [List.zip_cons_cons, List.zip_nil_right]
                    refine wpPi_move _ rfl rfl ?_
                    simp only [pl, pn, el, ec, sz, ss, gz, gs, if_true, if_false, Bool.false_eq_true, Bool.not_true, Bool.not_false, Nat.add_zero, Nat.zero_add, Nat.reduceAdd]
                    refine wpPi_add _ _ _ _ _ _ rfl rfl rfl rfl (by omega) (by omega) ?_
                    simp only [pl, pn, el, ec, sz, ss, gz, gs, if_true, if_false, Bool.false_eq_true, Bool.not_true, Bool.not_false, Nat.add_zero, Nat.zero_add, Nat.reduceAdd]
                    refine wpPi_assign _ rfl rfl ?_
                    simp only [pl, pn, el, ec, sz, ss, gz, gs, if_true, if_false, Bool.false_eq_true, Bool.not_true, Bool.not_false, Nat.add_zero, Nat.zero_add, Nat.reduceAdd]
                    refine wpPi_nil ?_
                    go_wp2
                    go_meet
                    exact ⟨_, F6, S, T, A + 1, rfl, rfl, by rw [hc1, hc2, HAA.out]; omega, hCI6, hCc⟩
                  · go_upto_region 31 with (fail)
                    refine wp_region_seq [3, 3, 1, 1, 3] (fun _ => True) (by rfl) (by rfl) trivial ?_
                    simp only [List.zip_cons_cons, List.zip_nil_right]
                    refine wpPi_move _ rfl rfl ?_
                    simp only [pl, pn, el, ec, sz, ss, gz, gs, if_true, if_false, Bool.false_eq_true, Bool.not_true, Bool.not_false, Nat.add_zero, Nat.zero_add, Nat.reduceAdd]
                    refine wpPi_field _ _ _ _ _ _ rfl rfl rfl fo_60_1 ?_
                    simp only [pl, pn, el, ec, sz, ss, gz, gs, if_true, if_false, Bool.false_eq_true, Bool.not_true, Bool.not_false, Nat.add_zero, Nat.zero_add, Nat.reduceAdd]
                    refine wpPi_do rfl (fun K hK => ?_)
                    refine wp_exec (exec_load1 3 _ (by rfl) wr.heap.size 1 (by rfl) _ hk1 _ Try.underlying3 rfl) ?_
                    refine hK _ _ trivial ?_
                    clear hK K
                    try simp only [pl, pn, el, ec, sz, ss, gz, gs, if_true, if_false, Bool.false_eq_true, Bool.not_true, Bool.not_false, Nat.add_zero, Nat.zero_add, Nat.reduceAdd]
                    refine wpPi_do rfl (fun K hK => ?_)
                    go_wp2_with (go_at_call 14; refine (copy_ci hCI xa).mono ?_; rintro _ w6 ⟨rfl, F6, hCI6⟩)
                    refine hK _ _ trivial ?_
                    clear hK K
                    try simp only [pl, pn, el, ec, sz, ss, gz, gs, if_true, if_false, Bool.false_eq_true, Bool.not_true, Bool.not_false, Nat.add_zero, Nat.zero_add, Nat.reduceAdd]
                    refine wpPi_cmp _ _ _ _ _ _ _ _ rfl rfl rfl rfl rfl false (by simp only [cmpB]; simp [hce]) ?_
                    simp only [pl, pn, el, ec, sz, ss, gz, gs, if_true, if_false, Bool.false_eq_true, Bool.not_true, Bool.not_false, Nat.add_zero, Nat.zero_add, Nat.reduceAdd]
                    refine wpPi_nil ?_
                    obtain ⟨hCc, hcn⟩ := hC.copyNo xa hce
                    rw [hcn] at hCI6
                    go_wp2
                    go_meet
                    exact ⟨_, F6, S, T, A, rfl, rfl, HAA.out, hCI6, hC.up⟩
                · have h3' : (kd == 3) = false := by simp [h3]
                  by_cases h4 : kd = 4
                  · subst h4
                    go_upto_region 34 with (fail)
                    refine wp_region_seq [3, 3, 1, 3, 1, 1] (fun _ => True) (by rfl) (by rfl) trivial ?_
                    simp only [List.zip_cons_cons, List.zip_nil_right]
                    refine wpPi_move _ rfl rfl ?_
                    simp only [pl, pn, el, ec, sz, ss, gz, gs, if_true, if_false, Bool.false_eq_true, Bool.not_true, Bool.not_false, Nat.add_zero, Nat.zero_add, Nat.reduceAdd]
                    refine wpPi_field _ _ _ _ _ _ rfl rfl rfl fo_60_1 ?_
                    simp only [pl, pn, el, ec, sz, ss, gz, gs, if_true, if_false, Bool.false_eq_true, Bool.not_true, Bool.not_false, Nat.add_zero, Nat.zero_add, Nat.reduceAdd]
                    refine wpPi_do rfl (fun K hK => ?_)
                    refine wp_exec (exec_load1 3 _ (by rfl) wr.heap.size 1 (by rfl) _ hk1 _ Try.underlying3 rfl) ?_
                    refine hK _ _ trivial ?_
                    clear hK K
                    try simp only [pl, pn, el, ec, sz, ss, gz, gs, if_true, if_false, Bool.false_eq_true, Bool.not_true, Bool.not_false, Nat.add_zero, Nat.zero_add, Nat.reduceAdd]
                    refine wpPi_field _ _ _ _ _ _ rfl rfl rfl fo_60_2 ?_
                    simp only [pl, pn, el, ec, sz, ss, gz, gs, if_true, if_false, Bool.false_eq_true, Bool.not_true, Bool.not_false, Nat.add_zero, Nat.zero_add, Nat.reduceAdd]
                    refine wpPi_do rfl (fun K hK => ?_)
                    refine wp_exec (exec_load1 3 _ (by rfl) wr.heap.size 2 (by rfl) _ hk2 _ Try.underlying3 rfl) ?_
                    refine hK _ _ trivial ?_
                    clear hK K
                    try simp only [pl, pn, el, ec, sz, ss, gz, gs, if_true, if_false, Bool.false_eq_true, Bool.not_true, Bool.not_false, Nat.add_zero, Nat.zero_add, Nat.reduceAdd]
                    refine wpPi_do rfl (fun K hK => ?_)
                    go_wp2_with (go_at_call 25; refine (cut_ci hCI xa xb).mono ?_; rintro _ w6 ⟨rfl, F6, hCI6⟩)
                    refine hK _ _ trivial ?_
                    clear hK K
                    try simp only [pl, pn, el, ec, sz, ss, gz, gs, if_true, if_false, Bool.false_eq_true, Bool.not_true, Bool.not_false, Nat.add_zero, Nat.zero_add, Nat.reduceAdd]
                    refine wpPi_nil ?_
                    go_wp2
                    go_meet
                    exact ⟨_, F6, S, T, A, rfl, rfl, by have h1 := (hC.cut xa xb).2; rw [h1.1, h1.2]; exact HAA.out, hCI6, (hC.cut xa xb).1⟩
                  · have h4' : (kd == 4) = false := by simp [h4]
                    by_cases h5 : kd = 5
                    · subst h5
                      go_upto_region 36 with (fail)
                      refine wp_region_seq [3, 3, 1, 3, 1, 1] (fun _ => True) (by rfl) (by rfl) trivial ?_
                      simp only [List.zip_cons_cons, List.zip_nil_right]
                      refine wpPi_move _ rfl rfl ?_
                      simp only [pl, pn, el, ec, sz, ss, gz, gs, if_true, if_false, Bool.false_eq_true, Bool.not_true, Bool.not_false, Nat.add_zero, Nat.zero_add, Nat.reduceAdd]
                      refine wpPi_field _ _ _ _ _ _ rfl rfl rfl fo_60_1 ?_
                      simp only [pl, pn, el, ec, sz, ss, gz, gs, if_true, if_false, Bool.false_eq_true, Bool.not_true, Bool.not_false, Nat.add_zero, Nat.zero_add, Nat.reduceAdd]
                      refine wpPi_do rfl (fun K hK => ?_)
                      refine wp_exec (exec_load1 3 _ (by rfl) wr.heap.size 1 (by rfl) _ hk1 _ Try.underlying3 rfl) ?_
                      refine hK _ _ trivial ?_
                      clear hK K
                      try simp only [pl, pn, el, ec, sz, ss, gz, gs, if_true, if_false, Bool.false_eq_true, Bool.not_true, Bool.not_false, Nat.add_zero, Nat.zero_add, Nat.reduceAdd]
                      refine wpPi_field _ _ _ _ _ _ rfl rfl rfl fo_60_2 ?_
                      simp only [pl, pn, el, ec, sz, ss, gz, gs, if_true, if_false, Bool.false_eq_true, Bool.not_true, Bool.not_false, Nat.add_zero, Nat.zero_add, Nat.reduceAdd]
                      refine wpPi_do rfl (fun K hK => ?_)
                      refine wp_exec (exec_load1 3 _ (by rfl) wr.heap.size 2 (by rfl) _ hk2 _ Try.underlying3 rfl) ?_
                      refine hK _ _ trivial ?_
                      clear hK K
                      try simp only [pl, pn, el, ec, sz, ss, gz, gs, if_true, if_false, Bool.false_eq_true, Bool.not_true, Bool.not_false, Nat.add_zero, Nat.zero_add, Nat.reduceAdd]
                      refine wpPi_do rfl (fun K hK => ?_)
                      go_wp2_with (go_at_call 27; refine (heal_ci hCI xa xb).mono ?_; rintro _ w6 ⟨rfl, F6, hCI6⟩)
                      refine hK _ _ trivial ?_
                      clear hK K
                      try simp only [pl, pn, el, ec, sz, ss, gz, gs, if_true, if_false, Bool.false_eq_true, Bool.not_true, Bool.not_false, Nat.add_zero, Nat.zero_add, Nat.reduceAdd]
                      refine wpPi_nil ?_
                      go_wp2
                      go_meet
                      exact ⟨_, F6, S, T, A, rfl, rfl, by have h1 := (hC.heal xa xb).2; rw [h1.1, h1.2]; exact HAA.out, hCI6, (hC.heal xa xb).1⟩
                    · have h5' : (kd == 5) = false := by simp [h5]
                      go_wp2
                      go_meet
                      exact ⟨_, F, S, T, A, rfl, rfl, HAA.out, hCI, hC.up⟩
        case rest =>
          clear hk0 hk1 hk2 hkl hlet hCI hC HAA hok
          obtain ⟨N', F', S', T', A', rfl, rfl, hA', hCI, hC⟩ := hcut
          have hb : 0 ≤ N'.lost ∧ 0 ≤ T' ∧ T' + N'.lost + N'.ls.length ≤ 41 := by
            have h1 := hC.l0; have h2 := hC.le; have h3 := hC.t0
            omega
          obtain ⟨lo, hlo⟩ : ∃ t, t = N'.lost := ⟨_, rfl⟩
          obtain ⟨le, hle⟩ : ∃ t : Int, t = N'.ls.length := ⟨_, rfl⟩
          rw [← hlo, ← hle] at hb hA'
          have HLO := Lib.hid hlo; have HLE := Lib.hid hle; have hle0 : 0 ≤ le := by omega
          clear hlo hle
          have hsum : A' = T' + lo + le := hA'
          clear hA'
          go_upto_region 37 with (fail)
          refine wp_region_seq [3, 3, 3, 1, 3, 3, 1, 3, 3, 3, 3, 1, 3, 1, 3, 3, 3] (fun _ => True) (by rfl) (by rfl) trivial ?_
          simp only [List.zip_cons_cons, List.zip_nil_right]
          refine wpPi_move _ rfl rfl ?_
          simp only [pl, pn, el, ec, sz, ss, gz, gs, if_true, if_false, Bool.false_eq_true, Bool.not_true, Bool.not_false, Nat.add_zero, Nat.zero_add, Nat.reduceAdd]
          refine wpPi_move _ rfl rfl ?_
          simp only [pl, pn, el, ec, sz, ss, gz, gs, if_true, if_false, Bool.false_eq_true, Bool.not_true, Bool.not_false, Nat.add_zero, Nat.zero_add, Nat.reduceAdd]
          refine wpPi_move _ rfl rfl ?_
          simp only [pl, pn, el, ec, sz, ss, gz, gs, if_true, if_false, Bool.false_eq_true, Bool.not_true, Bool.not_false, Nat.add_zero, Nat.zero_add, Nat.reduceAdd]
          refine wpPi_do rfl (fun K hK => ?_)
          go_wp2_with (go_at_call 17; refine (lost_ci hCI).mono ?_; rintro _ w6 ⟨rfl, F6, hCI6⟩; rw [← HLO.out])
          refine hK _ _ trivial ?_
          clear hK K
          try simp only [pl, pn, el, ec, sz, ss, gz, gs, if_true, if_false, Bool.false_eq_true, Bool.not_true, Bool.not_false, Nat.add_zero, Nat.zero_add, Nat.reduceAdd]
          refine wpPi_add _ _ _ _ _ _ rfl rfl rfl rfl (by omega) (by omega) ?_
          simp only [pl, pn, el, ec, sz, ss, gz, gs, if_true, if_false, Bool.false_eq_true, Bool.not_true, Bool.not_false, Nat.add_zero, Nat.zero_add, Nat.reduceAdd]
          refine wpPi_move _ rfl rfl ?_
          simp only [pl, pn, el, ec, sz, ss, gz, gs, if_true, if_false, Bool.false_eq_true, Bool.not_true, Bool.not_false, Nat.add_zero, Nat.zero_add, Nat.reduceAdd]
          refine wpPi_do rfl (fun K hK => ?_)
          go_wp2_with (go_at_call 16; refine (len_ci hCI6).mono ?_; rintro _ w7 ⟨rfl, F7, hCI7⟩; rw [← HLE.out])
          refine hK _ _ trivial ?_
          clear hK K
          try simp only [pl, pn, el, ec, sz, ss, gz, gs, if_true, if_false, Bool.false_eq_true, Bool.not_true, Bool.not_false, Nat.add_zero, Nat.zero_add, Nat.reduceAdd]
          refine wpPi_add _ _ _ _ _ _ rfl rfl rfl rfl (by omega) (by omega) ?_
          simp only [pl, pn, el, ec, sz, ss, gz, gs, if_true, if_false, Bool.false_eq_true, Bool.not_true, Bool.not_false, Nat.add_zero, Nat.zero_add, Nat.reduceAdd]
          refine wpPi_cmp _ _ _ _ _ _ _ _ rfl rfl rfl rfl rfl false (by simp only [cmpB]; simp [hsum]) ?_
          simp only [pl, pn, el, ec, sz, ss, gz, gs, if_true, if_false, Bool.false_eq_true, Bool.not_true, Bool.not_false, Nat.add_zero, Nat.zero_add, Nat.reduceAdd]
          refine wpPi_move _ rfl rfl ?_
          simp only [pl, pn, el, ec, sz, ss, gz, gs, if_true, if_false, Bool.false_eq_true, Bool.not_true, Bool.not_false, Nat.add_zero, Nat.zero_add, Nat.reduceAdd]
          refine wpPi_move _ rfl rfl ?_
          simp only [pl, pn, el, ec, sz, ss, gz, gs, if_true, if_false, Bool.false_eq_true, Bool.not_true, Bool.not_false, Nat.add_zero, Nat.zero_add, Nat.reduceAdd]
          refine wpPi_do rfl (fun K hK => ?_)
          go_wp2_with (go_at_call 16; refine (len_ci hCI7).mono ?_; rintro _ w8 ⟨rfl, F8, hCI8⟩; rw [← HLE.out])
          refine hK _ _ trivial ?_
          clear hK K
          try simp only [pl, pn, el, ec, sz, ss, gz, gs, if_true, if_false, Bool.false_eq_true, Bool.not_true, Bool.not_false, Nat.add_zero, Nat.zero_add, Nat.reduceAdd]
          refine wpPi_move _ rfl rfl ?_
          simp only [pl, pn, el, ec, sz, ss, gz, gs, if_true, if_false, Bool.false_eq_true, Bool.not_true, Bool.not_false, Nat.add_zero, Nat.zero_add, Nat.reduceAdd]
          refine wpPi_do rfl (fun K hK => ?_)
          go_wp2_with (go_at_call 35; refine (list_ci hCI8).mono ?_; rintro _ w9 ⟨⟨la, lc, rfl⟩, hCI9⟩)
          refine hK _ _ trivial ?_
          clear hK K
          try simp only [pl, pn, el, ec, sz, ss, gz, gs, if_true, if_false, Bool.false_eq_true, Bool.not_true, Bool.not_false, Nat.add_zero, Nat.zero_add, Nat.reduceAdd]
          refine wpPi_len _ _ _ _ _ rfl rfl rfl (by kernel_rfl) ?_
          simp only [pl, pn, el, ec, sz, ss, gz, gs, if_true, if_false, Bool.false_eq_true, Bool.not_true, Bool.not_false, Nat.add_zero, Nat.zero_add, Nat.reduceAdd]
          refine wpPi_cmp _ _ _ _ _ _ _ _ rfl rfl rfl rfl rfl false (by simp only [cmpB]; simp [HLE.out]) ?_
          simp only [pl, pn, el, ec, sz, ss, gz, gs, if_true, if_false, Bool.false_eq_true, Bool.not_true, Bool.not_false, Nat.add_zero, Nat.zero_add, Nat.reduceAdd]
          refine wpPi_pick _ _ _ _ rfl rfl rfl ?_
          simp only [pl, pn, el, ec, sz, ss, gz, gs, if_true, if_false, Bool.false_eq_true, Bool.not_true, Bool.not_false, Nat.add_zero, Nat.zero_add, Nat.reduceAdd]
          refine wpPi_nil ?_
          go_wp2
          go_roundw
          case rel => exact ⟨k + 1, N', F8, S', T', _, by omega, by go_num, rfl, rfl, by rw [HLO.out, HLE.out], hCI9, hC⟩
          case measure => simp [intOf]; omega
      · have hkl : k = l.length := by omega
        have HKL := Lib.hid hkl; clear hkl HA
        go_wp2
        go_ret
        exact ⟨rfl, hMr⟩
  · go_wp2
    go_ret
    exact ⟨rfl, hM⟩
end Go.Proofs.Ytdllpakdhnanbaa
