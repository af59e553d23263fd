/- LongEvent, LongEvents, LongLetter: what is not long is small. -/
import Derived.Test.YtdllpakdhnanbaaLawE
namespace Go.Proofs.Ytdllpakdhnanbaa
set_option linter.unusedSimpArgs false
set_option linter.unusedVariables false
set_option linter.unnecessarySimpa false
open Go.RowKit

def longEv (e : Evt) : Bool := decide (20 < e.deps.length ∨ 300 < e.refs.length ∨ 200 < e.repo.size ∨ 200 < e.tag.size)

set_option maxRecDepth 10000 in
set_option maxHeartbeats 800000 in
theorem longEvent_any (own : Bool) (G : Nat → Prop) (cs : Array Value) (e : Evt) (w : World) (h : EvR own w G cs e) : Calls Try.prog 71 #[.agg cs] w (RetM (.bool (longEv e)) w) := by
  obtain ⟨dv, rv, hca, hi, hd, hr, hrepo, htag⟩ := h
  have cA := evCells_spec e dv rv hi; rw [← hca] at cA; clear hca
  obtain ⟨da, dc, rfl, hdl, -⟩ := hd.at
  obtain ⟨ra, rc, rfl, hrl, -⟩ := hr.at
  obtain ⟨t, ht⟩ : ∃ t, t = longEv e := ⟨_, rfl⟩
  rw [← ht]
  have HT := Lib.hid ht; clear ht
  go_enter Try.func71, Try.ntmps71
  go_upto_region 0 with (fail)
  refine wp_region_seq [1, 3] (fun _ => True) (by rfl) (by rfl) trivial ?_
  simp only [List.zip_cons_cons, List.zip_nil_right]
  refine wpPi_do rfl (fun K hK => ?_)
  refine wp_box 104 _ _ (by rfl) (by rfl) (fun w1 hB0 hM hs1 => ?_)
  replace hB0 : w1.heap[w.heap.size]? = some (.cells cs 104 (0, 0)) := hB0
  refine hK _ _ trivial ?_
  clear hK K
  try simp only [pl, pn, el, ec, sz, ss, gz, gs, if_true, if_false, Bool.false_eq_true, Bool.not_true, Bool.not_false, Nat.add_zero, Nat.zero_add, Nat.reduceAdd]
  refine wpPi_assign _ rfl rfl ?_
  simp only [pl, pn, el, ec, sz, ss, gz, gs, if_true, if_false, Bool.false_eq_true, Bool.not_true, Bool.not_false, Nat.add_zero, Nat.zero_add, Nat.reduceAdd]
  refine wpPi_nil ?_
  have hc2 : w1.cell? ⟨w.heap.size, 2, none⟩ = some (.slice da e.deps.length dc) := by rw [cell_of_row _ _ _ _ _ _ hB0, cA.c2]
  have hc38 : w1.cell? ⟨w.heap.size, 38, none⟩ = some (.slice ra e.refs.length rc) := by rw [cell_of_row _ _ _ _ _ _ hB0, cA.c38]
  have hc4 : w1.cell? ⟨w.heap.size, 4, none⟩ = some (.string e.repo) := by rw [cell_of_row _ _ _ _ _ _ hB0, cA.c4]
  have hc5 : w1.cell? ⟨w.heap.size, 5, none⟩ = some (.string e.tag) := by rw [cell_of_row _ _ _ _ _ _ hB0, cA.c5]
  clear cA hB0
  go_wp2
  all_goals
    go_ret
    refine ⟨ret_bool ?_, hM⟩
    rw [HT.out]
    unfold longEv
    rw [Bool.eq_iff_iff]
    simp
    all_goals omega

def LongRel (w : World) (l : List Evt) (n i : Value) (w' : World) : Prop :=
  ∃ (k m : Nat), k ≤ l.length ∧ k ≤ 13 ∧ m ≤ 300 * k ∧ i = .int .i64 k ∧ n = .int .i64 m ∧ Mod NoB w w' ∧ ∀ j (h : j < l.length), j < k → longEv l[j] = false

/-- What LongEvents tells, as far as it is asked: what is not long is small. -/
def LongR {α : Type} (Small : α → Prop) (l : α) (w : World) (e : Ending) (w' : World) : Prop := ∃ b, e = .returned (.bool b) ∧ Mod NoB w w' ∧ (b = false → Small l)
def SmallEvs (l : List Evt) : Prop := l.length ≤ 12 ∧ ∀ e ∈ l, longEv e = false

set_option maxRecDepth 10000 in
set_option maxHeartbeats 1000000 in
theorem longEvents_any (own : Bool) (E G : Nat → Prop) (v : Value) (l : List Evt) (w : World) (h : Sl own w E 39 (EvR own w G) v l) : Calls Try.prog 63 #[v, .int .i64 12] w (LongR SmallEvs l w) := by
  obtain ⟨av, cap, rfl, hlen, hat⟩ := h.at
  have HA := Lib.hid hat; clear hat
  go_enter Try.func63, Try.ntmps63
  go_wp2
  go_loopw [5, 6] (LongRel w l) (fun _ i _ => l.length - (intOf i).toNat)
  case atStart => exact ⟨0, 0, by omega, by omega, by omega, rfl, rfl, Mod.refl _ _, fun j h hj => by omega⟩
  case round =>
    obtain ⟨k, m, hk, hk13, hm, rfl, rfl, hM, hall⟩ := hrel
    rename_i wr
    by_cases hlt : k < l.length ∧ k ≤ 12
    · obtain ⟨hlt, hk12⟩ := hlt
      obtain ⟨b, off, rfl, -, -, hat⟩ := HA.out k hlt
      obtain ⟨cs, hcs, hev, hcells⟩ := hat k hlt
      clear hat HA
      have hev := hev.keep0 hM
      have hcells := hcells.keep hM id
      obtain ⟨t, ht⟩ : ∃ t, t = longEv l[k] := ⟨_, rfl⟩
      have HT := Lib.hid ht; clear ht
      go_upto_region 5 with (fail)
      cases t
      · skip
        refine wp_region_seq [3, 3, 3, 1, 1] (fun _ => True) (by rfl) (by rfl) trivial ?_
        simp only [List.zip_cons_cons, List.zip_nil_right]
        refine wpPi_move _ rfl rfl ?_
        simp only [pl, pn, el, ec, sz, ss, gz, gs, if_true, if_false, Bool.false_eq_true, Bool.not_true, Bool.not_false, Nat.add_zero, Nat.zero_add, Nat.reduceAdd]
        refine wpPi_move _ rfl rfl ?_
        simp only [pl, pn, el, ec, sz, ss, gz, gs, if_true, if_false, Bool.false_eq_true, Bool.not_true, Bool.not_false, Nat.add_zero, Nat.zero_add, Nat.reduceAdd]
        refine wpPi_index _ _ _ _ _ _ _ _ _ rfl rfl rfl rfl Try.underlying31 (n := 39) (by kernel_rfl) hlt ?_
        simp only [pl, pn, el, ec, sz, ss, gz, gs, if_true, if_false, Bool.false_eq_true, Bool.not_true, Bool.not_false, Nat.add_zero, Nat.zero_add, Nat.reduceAdd]
        refine wpPi_do rfl (fun K hK => ?_)
        refine wp_exec (exec_loadA 104 _ (by rfl) b (off + k * 39) (by rfl) _ hcells _ Try.underlying104 rfl 39 (by kernel_rfl) hcs) ?_
        refine hK _ _ trivial ?_
        clear hK K
        try simp only [pl, pn, el, ec, sz, ss, gz, gs, if_true, if_false, Bool.false_eq_true, Bool.not_true, Bool.not_false, Nat.add_zero, Nat.zero_add, Nat.reduceAdd]
        refine wpPi_do rfl (fun K hK => ?_)
        go_wp2_with (go_at_call 71; refine (longEvent_any own G cs l[k] wr hev).mono ?_; rintro _ w1 ⟨rfl, hm1⟩; rw [← HT.out])
        refine hK _ _ trivial ?_
        clear hK K
        try simp only [pl, pn, el, ec, sz, ss, gz, gs, if_true, if_false, Bool.false_eq_true, Bool.not_true, Bool.not_false, Nat.add_zero, Nat.zero_add, Nat.reduceAdd]
        refine wpPi_nil ?_
        obtain ⟨dv, rv, hca, hi, hd, hr, hrepo, htag⟩ := id hev
        have cA := evCells_spec l[k] dv rv hi; rw [← hca] at cA; clear hca
        obtain ⟨ra, rc, rfl, hrl, -⟩ := hr.at
        have hsm : l[k].refs.length ≤ 300 := by
          have h1 := HT.out
          unfold longEv at h1
          have h2 := of_decide_eq_false h1.symm
          omega
        obtain ⟨rl, hrl0⟩ : ∃ t, t = l[k].refs.length := ⟨_, rfl⟩
        have hc38 : w1.cell? ⟨b, off + k * 39 + 38, none⟩ = some (.slice ra rl rc) := by rw [hrl0]; exact hm1.cell id (hcells.cell cA.c38)
        rw [← hrl0] at hsm
        clear cA hd hr hrl hrl0
        have hMn := hM.trans0 hm1
        go_upto_region 7 with (fail)
        refine wp_region_seq [3, 3, 3, 3, 3, 1, 3, 3, 3] (fun _ => True) (by rfl) (by rfl) trivial ?_
        simp only [List.zip_cons_cons, List.zip_nil_right]
        refine wpPi_move _ rfl rfl ?_
        simp only [pl, pn, el, ec, sz, ss, gz, gs, if_true, if_false, Bool.false_eq_true, Bool.not_true, Bool.not_false, Nat.add_zero, Nat.zero_add, Nat.reduceAdd]
        refine wpPi_move _ rfl rfl ?_
        simp only [pl, pn, el, ec, sz, ss, gz, gs, if_true, if_false, Bool.false_eq_true, Bool.not_true, Bool.not_false, Nat.add_zero, Nat.zero_add, Nat.reduceAdd]
        refine wpPi_move _ rfl rfl ?_
        simp only [pl, pn, el, ec, sz, ss, gz, gs, if_true, if_false, Bool.false_eq_true, Bool.not_true, Bool.not_false, Nat.add_zero, Nat.zero_add, Nat.reduceAdd]
        refine wpPi_index _ _ _ _ _ _ _ _ _ rfl rfl rfl rfl Try.underlying31 (n := 39) (by kernel_rfl) hlt ?_
        simp only [pl, pn, el, ec, sz, ss, gz, gs, if_true, if_false, Bool.false_eq_true, Bool.not_true, Bool.not_false, Nat.add_zero, Nat.zero_add, Nat.reduceAdd]
        refine wpPi_field _ _ _ _ _ _ rfl rfl rfl fo_104_6 ?_
        simp only [pl, pn, el, ec, sz, ss, gz, gs, if_true, if_false, Bool.false_eq_true, Bool.not_true, Bool.not_false, Nat.add_zero, Nat.zero_add, Nat.reduceAdd]
        refine wpPi_do rfl (fun K hK => ?_)
        refine wp_exec (exec_load1 102 _ (by rfl) _ _ (by rfl) _ hc38 _ Try.underlying102 rfl) ?_
        refine hK _ _ trivial ?_
        clear hK K
        try simp only [pl, pn, el, ec, sz, ss, gz, gs, if_true, if_false, Bool.false_eq_true, Bool.not_true, Bool.not_false, Nat.add_zero, Nat.zero_add, Nat.reduceAdd]
        refine wpPi_len _ _ _ _ _ rfl rfl rfl (by kernel_rfl) ?_
        simp only [pl, pn, el, ec, sz, ss, gz, gs, if_true, if_false, Bool.false_eq_true, Bool.not_true, Bool.not_false, Nat.add_zero, Nat.zero_add, Nat.reduceAdd]
        refine wpPi_add _ _ _ _ _ _ rfl rfl rfl rfl (by omega) (by omega) ?_
        simp only [pl, pn, el, ec, sz, ss, gz, gs, if_true, if_false, Bool.false_eq_true, Bool.not_true, Bool.not_false, Nat.add_zero, Nat.zero_add, Nat.reduceAdd]
        refine wpPi_assign _ rfl rfl ?_
        simp only [pl, pn, el, ec, sz, ss, gz, gs, if_true, if_false, Bool.false_eq_true, Bool.not_true, Bool.not_false, Nat.add_zero, Nat.zero_add, Nat.reduceAdd]
        refine wpPi_nil ?_
        go_wp2
        go_roundw
        case rel => exact ⟨k + 1, m + rl, by omega, by omega, by omega, by go_num, by go_num, hMn, fun j h hj => by
          rcases Nat.lt_or_ge j k with h' | h'
          · exact hall j h h'
          · have e : j = k := by omega
            subst e; exact HT.out.symm⟩
        case measure => simp [intOf]; omega
      · skip
        refine wp_region_seq [3, 3, 3, 1, 1] (fun _ => True) (by rfl) (by rfl) trivial ?_
        simp only [List.zip_cons_cons, List.zip_nil_right]
        refine wpPi_move _ rfl rfl ?_
        simp only [pl, pn, el, ec, sz, ss, gz, gs, if_true, if_false, Bool.false_eq_true, Bool.not_true, Bool.not_false, Nat.add_zero, Nat.zero_add, Nat.reduceAdd]
        refine wpPi_move _ rfl rfl ?_
        simp only [pl, pn, el, ec, sz, ss, gz, gs, if_true, if_false, Bool.false_eq_true, Bool.not_true, Bool.not_false, Nat.add_zero, Nat.zero_add, Nat.reduceAdd]
        refine wpPi_index _ _ _ _ _ _ _ _ _ rfl rfl rfl rfl Try.underlying31 (n := 39) (by kernel_rfl) hlt ?_
        simp only [pl, pn, el, ec, sz, ss, gz, gs, if_true, if_false, Bool.false_eq_true, Bool.not_true, Bool.not_false, Nat.add_zero, Nat.zero_add, Nat.reduceAdd]
        refine wpPi_do rfl (fun K hK => ?_)
        refine wp_exec (exec_loadA 104 _ (by rfl) b (off + k * 39) (by rfl) _ hcells _ Try.underlying104 rfl 39 (by kernel_rfl) hcs) ?_
        refine hK _ _ trivial ?_
        clear hK K
        try simp only [pl, pn, el, ec, sz, ss, gz, gs, if_true, if_false, Bool.false_eq_true, Bool.not_true, Bool.not_false, Nat.add_zero, Nat.zero_add, Nat.reduceAdd]
        refine wpPi_do rfl (fun K hK => ?_)
        go_wp2_with (go_at_call 71; refine (longEvent_any own G cs l[k] wr hev).mono ?_; rintro _ w1 ⟨rfl, hm1⟩; rw [← HT.out])
        refine hK _ _ trivial ?_
        clear hK K
        try simp only [pl, pn, el, ec, sz, ss, gz, gs, if_true, if_false, Bool.false_eq_true, Bool.not_true, Bool.not_false, Nat.add_zero, Nat.zero_add, Nat.reduceAdd]
        refine wpPi_nil ?_
        go_wp2
        go_ret
        exact ⟨true, rfl, hM.trans0 hm1, fun h => by cases h⟩
    · clear HA
      have hfin : l.length ≤ 12 → SmallEvs l := fun h12 => ⟨h12, fun e he => by
        obtain ⟨j, hj, rfl⟩ := List.getElem_of_mem he
        exact hall j hj (by omega)⟩
      have hkk : (k : Int) < l.length → 12 < (k : Int) := by omega
      go_wp2
      all_goals
        go_ret
        refine ⟨_, rfl, hM, fun hb => hfin ?_⟩
        first
          | omega
          | (simp at hb; done)
          | (simp at hb; omega)

theorem small_ok {e : Evt} (h : longEv e = false) : EvOk e := by
  unfold longEv at h
  have h2 := of_decide_eq_false h
  exact ⟨by omega, by omega⟩

set_option maxRecDepth 10000 in
set_option maxHeartbeats 1000000 in
theorem longLetter_any (own : Bool) (E G : Nat → Prop) (cs : Array Value) (l : Ltr) (w : World) (h : LetR own w E G cs l) : Calls Try.prog 38 #[.agg cs] w (LongR LtrOk l w) := by
  obtain ⟨sv, ev, bv, hca, hi, hs, he, hb⟩ := h
  have cA := ltrCells_spec l sv ev bv hi; rw [← hca] at cA; clear hca
  obtain ⟨sa, sc, rfl, hsl, -⟩ := hs.at
  obtain ⟨ba, bc, rfl, hbl, -⟩ := hb.at
  go_enter Try.func38, Try.ntmps38
  go_upto_region 0 with (fail)
  refine wp_region_seq [1, 3] (fun _ => True) (by rfl) (by rfl) trivial ?_
  simp only [List.zip_cons_cons, List.zip_nil_right]
  refine wpPi_do rfl (fun K hK => ?_)
  refine wp_box 38 _ _ (by rfl) (by rfl) (fun w1 hB0 hM hs1 => ?_)
  replace hB0 : w1.heap[w.heap.size]? = some (.cells cs 38 (0, 0)) := hB0
  refine hK _ _ trivial ?_
  clear hK K
  try simp only [pl, pn, el, ec, sz, ss, gz, gs, if_true, if_false, Bool.false_eq_true, Bool.not_true, Bool.not_false, Nat.add_zero, Nat.zero_add, Nat.reduceAdd]
  refine wpPi_assign _ rfl rfl ?_
  simp only [pl, pn, el, ec, sz, ss, gz, gs, if_true, if_false, Bool.false_eq_true, Bool.not_true, Bool.not_false, Nat.add_zero, Nat.zero_add, Nat.reduceAdd]
  refine wpPi_nil ?_
  have hc3 : w1.cell? ⟨w.heap.size, 3, none⟩ = some (.slice sa l.seen.length sc) := by rw [cell_of_row _ _ _ _ _ _ hB0, cA.c3]
  have hc4 : w1.cell? ⟨w.heap.size, 4, none⟩ = some ev := by rw [cell_of_row _ _ _ _ _ _ hB0, cA.c4]
  have hc39 : w1.cell? ⟨w.heap.size, 39, none⟩ = some (.slice ba l.b.length bc) := by rw [cell_of_row _ _ _ _ _ _ hB0, cA.c39]
  clear cA hB0
  have hcall := longEvents_any own E G ev l.events w1 (SlEv.keep0 he hM)
  have hfin : ∀ w2, SmallEvs l.events → l.seen.length ≤ 20 → l.b.length ≤ 5000 → Mod NoB w1 w2 → LtrOk l := fun w2 h1 h2 h3 _ => ⟨by omega, by have := h1.1; omega, fun e he => small_ok (h1.2 e he), by omega⟩
  obtain ⟨bl, hbl0⟩ : ∃ t, t = l.b.length := ⟨_, rfl⟩
  rw [← hbl0] at hc39
  have HB := Lib.hid hbl0; clear hbl0
  go_wp2_with (go_at_call 63; refine hcall.mono ?_; rintro _ w2 ⟨t, rfl, hm2, hsm⟩; have hc39' := hm2.cell id hc39; cases t)
  all_goals
    try go_wp2
  all_goals
    go_ret
    first
      | exact ⟨true, rfl, hM, fun h => by cases h⟩
      | exact ⟨true, rfl, hM.trans0 hm2, fun h => by cases h⟩
      | (refine ⟨_, rfl, hM.trans0 hm2, fun hb => hfin w2 (by first | exact hsm rfl | exact hsm trivial | exact hsm) (by omega) (by have h1 := HB.out; simp at hb; omega) hm2⟩)
end Go.Proofs.Ytdllpakdhnanbaa
