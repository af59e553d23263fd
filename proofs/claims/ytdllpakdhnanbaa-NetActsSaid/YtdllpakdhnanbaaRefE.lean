/- The document's net: Take, Drop. -/
import Derived.Test.YtdllpakdhnanbaaRefD
import Derived.Test.YtdllpakdhnanbaaLawC
namespace Go.Proofs.Ytdllpakdhnanbaa
set_option linter.unusedSimpArgs false
set_option linter.unusedVariables false
set_option linter.unnecessarySimpa false
open Go.RowKit

section
variable {w0 w : World} {N : Ns} {R : Nat → Prop} {br bw : Nat} {Lv : Value} {ways : Array Value}
/-- The list is new, in a new row. -/
theorem ref_taken {w3 w4 w5 w6 : World} {v0 v1 v2 : Value} {css : List (Array Value)} {k : Nat} (h : RefAt w0 w (.pointer (some ⟨br, 0, none⟩)) N R) (ho : RefOk w br bw Lv ways N) (hne : br ≠ bw) (hRr : R br) (hRw : R bw)
    (hg : ∀ g, Lv.ownBlock = some g → R g ∧ g ≠ br ∧ g ≠ bw) (hk : k < N.ls.length) (hM3 : Mod NoB w w3) (h2 : ∀ c ∈ css, c.size = 40) (h3 : All2 (LetR false w3 (Fp (RQ w R br bw) v0 w3) (Fp (RQ w R br bw) v0 w3)) css N.ls)
    (hv0 : ∃ g, v0.ownBlock = some g ∧ New w w3 g)
    (hown1 : w4.ownsRow w0.heap.size 38 40 v1 (0 + k) ([] ++ (css.take k).flatMap Array.toList)) (hgrow1 : w3.grownBy w4 v0.ownBlock) (hvv1 : v1.ownBlock = v0.ownBlock ∨ v1.ownBlock = some w3.heap.size)
    (hown2 : w5.ownsRow w0.heap.size 38 40 v2 (k + (N.ls.length - (k + 1))) ((css.take k).flatMap Array.toList ++ (css.drop (k + 1)).flatMap Array.toList)) (hgrow2 : w4.grownBy w5 v1.ownBlock) (hvv2 : v2.ownBlock = v1.ownBlock ∨ v2.ownBlock = some w4.heap.size)
    (hb6 : w6.heap[br]? = some (.cells ((refCells N.n N.lost Lv bw).setIfInBounds 2 v2) 46 (0, 0))) (hm6 : Mod (fun k => k = br) w5 w6) :
    RStep w0 w (.pointer (some ⟨br, 0, none⟩)) R w6 ⟨N.n, N.lost, N.cut, N.ls.eraseIdx k⟩ ∧ Mod (fun k => k = br) w w6 := by
  have hbr := h.lt br hRr
  have hbw := h.lt bw hRw
  have hs3 := hM3.size
  obtain ⟨g0, hg0, hn0⟩ := hv0
  have hm4 : Mod (fun k => v0.ownBlock = some k) w3 w4 := (Mod.refl _ _).grown hgrow1 (fun k hk _ => hk)
  have hm5 : Mod (fun k => v1.ownBlock = some k) w4 w5 := (Mod.refl _ _).grown hgrow2 (fun k hk _ => hk)
  have hs4 := hm4.size; have hs5 := hm5.size; have hs6 := hm6.size
  have ha0 : LtAcc false w0.heap.size (RQ w R br bw) ([] ++ N.ls.take k) v1 w4 := LtAcc.steps (css := []) (by simp) (fun c hc => h2 c (List.mem_of_mem_take hc)) All2.nil (h3.take k) (by
      have e : (N.ls.take k).length = k := by simp; omega
      simpa [e] using hown1) hgrow1 hvv1
  rw [List.nil_append] at ha0
  have hn1 : ∀ g, v1.ownBlock = some g → New w w4 g := fun g e => by
    have hlt := (ha0.lt g e).2
    rcases hvv1 with hv | hv <;> rw [hv] at e
    · rw [hg0] at e; cases e; exact ⟨hn0.1, hlt⟩
    · cases e; exact ⟨hs3, hlt⟩
  have mv : ∀ k, Fp (RQ w R br bw) v0 w3 k → Fp (RQ w R br bw) v1 w4 k := fun k hk => ⟨hk.1, Nat.lt_of_lt_of_le hk.2.1 hs4, by
      rcases hvv1 with hv | hv <;> rw [hv]
      · exact hk.2.2
      · have := hk.2.1; intro e; cases e; omega⟩
  have up : ∀ x y, LetR false w3 (Fp (RQ w R br bw) v0 w3) (Fp (RQ w R br bw) v0 w3) x y → LetR false w4 (Fp (RQ w R br bw) v1 w4) (Fp (RQ w R br bw) v1 w4) x y := fun x y h =>
    (h.keep hm4 (fun k hk => hk.2.2) (fun k hk => hk.2.2)).mono mv mv
  have h4 := h3.imp up
  have hl1 : (N.ls.take k).length = k := by simp; omega
  have hl2 : (N.ls.drop (k + 1)).length = N.ls.length - (k + 1) := by simp
  have ha : LtAcc false w0.heap.size (RQ w R br bw) (N.ls.take k ++ N.ls.drop (k + 1)) v2 w5 := LtAcc.steps (fun c hc => h2 c (List.mem_of_mem_take hc)) (fun c hc => h2 c (List.mem_of_mem_drop hc)) (h4.take k) (h4.drop (k + 1)) (by rw [hl1, hl2]; exact hown2) hgrow2 hvv2
  rw [← List.eraseIdx_eq_take_drop_succ] at ha
  have hn2 : ∀ g, v2.ownBlock = some g → New w w5 g := fun g e => by
    have hlt := (ha.lt g e).2
    rcases hvv2 with hv | hv <;> rw [hv] at e
    · exact ⟨(hn1 g e).1, hlt⟩
    · cases e; exact ⟨by omega, hlt⟩
  have hM4 : Mod NoB w w4 := hM3.trans hm4 (fun j hj e => by rw [hg0] at e; cases e; have := hn0.1; omega)
  have hM5 : Mod NoB w w5 := hM4.trans hm5 (fun j hj e => by have := (hn1 j e).1; omega)
  have hM6 : Mod (fun k => k = br) w w6 := (hM5.mono (fun _ _ h => False.elim h)).trans hm6 (fun _ _ h => h)
  refine ⟨RStep.mk h hRr hRw hne ⟨hb6, hm6.objB (fun e => hne e.symm) (hM5.obj id ho.wobj), ho.wsz, ho.way, ho.hn, by have := ho.few; simp only [List.length_eraseIdx]; split <;> omega, fun x hx => ho.oks x (List.mem_of_mem_eraseIdx hx)⟩
    ((ha.keep hm6 (fun k hk => hk.1.2.1) (fun k hk => by have := (hn2 k hk).1; omega)).monoQ (fun k hlt hk => ⟨hk.1.imp id (fun hk1 => ⟨hk1, hlt⟩), hk.2⟩))
    (fun g e => ⟨.inr ⟨(hn2 g e).1, by have := (hn2 g e).2; omega⟩, by have := (hn2 g e).1; omega, by have := (hn2 g e).1; omega⟩) hM6 (fun k hk => by rw [show k = br from hk]; exact hRr), hM6⟩
end

section
variable {w0 w : World} {q : Value} {N : Ns} {R : Nat → Prop}

/-- What Take tells. -/
def RTakeR (w0 w : World) (q : Value) (N : Ns) (R : Nat → Prop) (i : Int) (e : Ending) (w' : World) : Prop :=
  ∃ cs E G, e = .returned (.tuple #[.agg cs, .int .i64 (takeE N i)]) ∧ LetR false w' E G cs (takeL N i) ∧ RStep w0 w q R w' (takeN N i)

set_option maxRecDepth 10000 in
set_option maxHeartbeats 2000000 in
theorem refTake_at (h : RefAt w0 w q N R) (i : Int) : Calls Try.prog 19 #[q, .int .i64 i] w (RTakeR w0 w q N R i) := by
  have h' := h
  obtain ⟨hM, ⟨br, bw, Lv, ways, rfl, ho, ha, hne, hRr, hRw, hg⟩, hold, hlt⟩ := h
  have hbr := hlt br hRr
  have hc2 := ho.cell.2.2.1
  have hlen := ho.few
  obtain ⟨la, lc, hLv, hlm, hat⟩ := ha.done.at
  have HA := Lib.hid hat; clear hat
  have hlc : N.ls.length ≤ lc := by
    obtain ⟨a, c, hv, hl, _⟩ := ha.done
    rw [hLv] at hv; cases hv; exact hl
  have hz : zeroLet.size = 40 := (ltrCells_spec ltr0 _ _ _ (by rfl)).size
  go_enter Try.func19, Try.ntmps19
  go_upto_region 0 with (fail)
  refine wp_region_seq [1, 3] (fun _ => True) (by rfl) (by rfl) trivial ?_
  simp only [List.zip_cons_cons, List.zip_nil_right]
  refine wpPi_do rfl (fun K hK => ?_)
  refine wp_alloc 38 ltrZero (by rfl) zero38 (fun w1 hB0 hM1 hs1 => ?_)
  replace hB0 : w1.heap[w.heap.size]? = some (.cells zeroLet 38 (0, 0)) := hB0
  refine hK _ _ trivial ?_
  clear hK K
  try simp only [pl, pn, el, ec, sz, ss, gz, gs, if_true, if_false, Bool.false_eq_true, Bool.not_true, Bool.not_false, Nat.add_zero, Nat.zero_add, Nat.reduceAdd]
  refine wpPi_assign _ rfl rfl ?_
  simp only [pl, pn, el, ec, sz, ss, gz, gs, if_true, if_false, Bool.false_eq_true, Bool.not_true, Bool.not_false, Nat.add_zero, Nat.zero_add, Nat.reduceAdd]
  refine wpPi_nil ?_
  have h1 := h'.keep0 hM1
  have ho1 := ho.keep hM1 id id
  have hcv : w1.cell? ⟨br, 2, none⟩ = some (.slice la N.ls.length lc) := hLv ▸ hM1.cell id hc2
  go_upto_region 1 with (fail)
  by_cases hi0 : i < 0
  · have hin : inR N i = false := decide_eq_false (by omega)
    refine wp_region_seq [3, 3, 3, 3, 3, 3, 3, 0, 3, 3, 3] (fun _ => True) (by rfl) (by rfl) trivial ?_
    simp only [List.zip_cons_cons, List.zip_nil_right]
    refine wpPi_move _ rfl rfl ?_
    simp only [pl, pn, el, ec, sz, ss, gz, gs, if_true, if_false, Bool.false_eq_true, Bool.not_true, Bool.not_false, Nat.add_zero, Nat.zero_add, Nat.reduceAdd]
    refine wpPi_cmp _ _ _ _ _ _ _ _ rfl rfl rfl rfl rfl true (by simp only [cmpB]; simp; omega) ?_
    simp only [pl, pn, el, ec, sz, ss, gz, gs, if_true, if_false, Bool.false_eq_true, Bool.not_true, Bool.not_false, Nat.add_zero, Nat.zero_add, Nat.reduceAdd]
    refine wpPi_move _ rfl rfl ?_
    simp only [pl, pn, el, ec, sz, ss, gz, gs, if_true, if_false, Bool.false_eq_true, Bool.not_true, Bool.not_false, Nat.add_zero, Nat.zero_add, Nat.reduceAdd]
    refine wpPi_skip rfl ?_
    simp only [pl, pn, el, ec, sz, ss, gz, gs, if_true, if_false, Bool.false_eq_true, Bool.not_true, Bool.not_false, Nat.add_zero, Nat.zero_add, Nat.reduceAdd]
    refine wpPi_skip rfl ?_
    simp only [pl, pn, el, ec, sz, ss, gz, gs, if_true, if_false, Bool.false_eq_true, Bool.not_true, Bool.not_false, Nat.add_zero, Nat.zero_add, Nat.reduceAdd]
    refine wpPi_skip rfl ?_
    simp only [pl, pn, el, ec, sz, ss, gz, gs, if_true, if_false, Bool.false_eq_true, Bool.not_true, Bool.not_false, Nat.add_zero, Nat.zero_add, Nat.reduceAdd]
    refine wpPi_skip rfl ?_
    simp only [pl, pn, el, ec, sz, ss, gz, gs, if_true, if_false, Bool.false_eq_true, Bool.not_true, Bool.not_false, Nat.add_zero, Nat.zero_add, Nat.reduceAdd]
    refine wpPi_skip0 rfl ?_
    simp only [pl, pn, el, ec, sz, ss, gz, gs, if_true, if_false, Bool.false_eq_true, Bool.not_true, Bool.not_false, Nat.add_zero, Nat.zero_add, Nat.reduceAdd]
    refine wpPi_skip rfl ?_
    simp only [pl, pn, el, ec, sz, ss, gz, gs, if_true, if_false, Bool.false_eq_true, Bool.not_true, Bool.not_false, Nat.add_zero, Nat.zero_add, Nat.reduceAdd]
    refine wpPi_skip rfl ?_
    simp only [pl, pn, el, ec, sz, ss, gz, gs, if_true, if_false, Bool.false_eq_true, Bool.not_true, Bool.not_false, Nat.add_zero, Nat.zero_add, Nat.reduceAdd]
    refine wpPi_pick _ _ _ _ rfl rfl rfl ?_
    simp only [pl, pn, el, ec, sz, ss, gz, gs, if_true, if_false, Bool.false_eq_true, Bool.not_true, Bool.not_false, Nat.add_zero, Nat.zero_add, Nat.reduceAdd]
    refine wpPi_nil ?_
    go_upto_region 2 with (fail)
    refine wp_region_seq [1, 1, 3] (fun _ => True) (by rfl) (by rfl) trivial ?_
    simp only [List.zip_cons_cons, List.zip_nil_right]
    refine wpPi_do rfl (fun K hK => ?_)
    refine wp_exec (exec_build_zero (by rfl)) ?_
    refine hK _ _ trivial ?_
    clear hK K
    try simp only [pl, pn, el, ec, sz, ss, gz, gs, if_true, if_false, Bool.false_eq_true, Bool.not_true, Bool.not_false, Nat.add_zero, Nat.zero_add, Nat.reduceAdd]
    refine wpPi_do rfl (fun K hK => ?_)
    refine wp_storeA 38 _ _ w.heap.size 0 zeroLet (by rfl) (by rfl) (by rfl) (ltrCells_one _ _ _ _ rfl rfl rfl) 40 (by kernel_rfl) hz _ _ hB0 (by omega) (fun w4 hB4 hm4 => ?_)
    rw [putRow_whole rfl] at hB4
    refine hK _ _ trivial ?_
    clear hK K
    try simp only [pl, pn, el, ec, sz, ss, gz, gs, if_true, if_false, Bool.false_eq_true, Bool.not_true, Bool.not_false, Nat.add_zero, Nat.zero_add, Nat.reduceAdd]
    refine wpPi_assign _ rfl rfl ?_
    simp only [pl, pn, el, ec, sz, ss, gz, gs, if_true, if_false, Bool.false_eq_true, Bool.not_true, Bool.not_false, Nat.add_zero, Nat.zero_add, Nat.reduceAdd]
    refine wpPi_nil ?_
    go_wp2
    refine bodyPost_ret (results_cell_tmp rfl _ _ w.heap.size _ _ _ (by rfl) hB4 Try.underlying38 rfl (by rw [hz]; kernel_rfl)) rfl ?_
    refine ⟨zeroLet, NoB, NoB, by simp [takeE, hin], by simp only [takeL, hin]; exact LetR.zero _ _ _ _, ?_⟩
    rw [show takeN N i = N by simp [takeN, hin]]
    exact h'.step (hM1.transB hm4 (Nat.le_refl _))
  · by_cases hi1 : i < N.ls.length
    · have hin : inR N i = true := decide_eq_true (by omega)
      obtain ⟨k, hk⟩ : ∃ k : Nat, i = k := ⟨i.toNat, by omega⟩
      have hkl : k < N.ls.length := by omega
      subst hk
      obtain ⟨b, off, rfl, -, -, hat⟩ := HA.out k hkl
      obtain ⟨cs, hcs, hR, hcells⟩ := hat k hkl
      clear hat HA
      have hLk : takeL N k = N.ls[k] := by
        simp only [takeL, hin, if_true, Int.toNat_natCast]
        rw [List.getD, List.getElem?_eq_getElem hkl]; rfl
      have hNk : takeN N k = ⟨N.n, N.lost, N.cut, N.ls.eraseIdx k⟩ := by simp [takeN, hin]
      have hEk : takeE N k = 0 := by simp [takeE, hin]
      obtain ⟨l, hl⟩ : ∃ l, l = N.ls[k] := ⟨_, rfl⟩
      rw [← hl] at hR hLk
      clear hl
      have HLK := Lib.hid hLk; have HNK := Lib.hid hNk; have HEK := Lib.hid hEk; clear hLk hNk hEk
      refine wp_region_seq [3, 3, 3, 3, 3, 3, 3, 1, 3, 3, 3] (fun _ => True) (by rfl) (by rfl) trivial ?_
      simp only [List.zip_cons_cons, List.zip_nil_right]
      refine wpPi_move _ rfl rfl ?_
      simp only [pl, pn, el, ec, sz, ss, gz, gs, if_true, if_false, Bool.false_eq_true, Bool.not_true, Bool.not_false, Nat.add_zero, Nat.zero_add, Nat.reduceAdd]
      refine wpPi_cmp _ _ _ _ _ _ _ _ rfl rfl rfl rfl rfl false (by simp only [cmpB]; simp) ?_
      simp only [pl, pn, el, ec, sz, ss, gz, gs, if_true, if_false, Bool.false_eq_true, Bool.not_true, Bool.not_false, Nat.add_zero, Nat.zero_add, Nat.reduceAdd]
      refine wpPi_move _ rfl rfl ?_
      simp only [pl, pn, el, ec, sz, ss, gz, gs, if_true, if_false, Bool.false_eq_true, Bool.not_true, Bool.not_false, Nat.add_zero, Nat.zero_add, Nat.reduceAdd]
      refine wpPi_move _ rfl rfl ?_
      simp only [pl, pn, el, ec, sz, ss, gz, gs, if_true, if_false, Bool.false_eq_true, Bool.not_true, Bool.not_false, Nat.add_zero, Nat.zero_add, Nat.reduceAdd]
      refine wpPi_move _ rfl rfl ?_
      simp only [pl, pn, el, ec, sz, ss, gz, gs, if_true, if_false, Bool.false_eq_true, Bool.not_true, Bool.not_false, Nat.add_zero, Nat.zero_add, Nat.reduceAdd]
      refine wpPi_nilCheck _ _ rfl rfl rfl ?_
      simp only [pl, pn, el, ec, sz, ss, gz, gs, if_true, if_false, Bool.false_eq_true, Bool.not_true, Bool.not_false, Nat.add_zero, Nat.zero_add, Nat.reduceAdd]
      refine wpPi_field _ _ _ _ _ _ rfl rfl rfl fo_46_2 ?_
      simp only [pl, pn, el, ec, sz, ss, gz, gs, if_true, if_false, Bool.false_eq_true, Bool.not_true, Bool.not_false, Nat.add_zero, Nat.zero_add, Nat.reduceAdd]
      refine wpPi_do rfl (fun K hK => ?_)
      refine wp_exec (exec_load1 43 _ (by rfl) br 2 (by rfl) _ hcv _ Try.underlying43 rfl) ?_
      refine hK _ _ trivial ?_
      clear hK K
      try simp only [pl, pn, el, ec, sz, ss, gz, gs, if_true, if_false, Bool.false_eq_true, Bool.not_true, Bool.not_false, Nat.add_zero, Nat.zero_add, Nat.reduceAdd]
      refine wpPi_len _ _ _ _ _ rfl rfl rfl (by kernel_rfl) ?_
      simp only [pl, pn, el, ec, sz, ss, gz, gs, if_true, if_false, Bool.false_eq_true, Bool.not_true, Bool.not_false, Nat.add_zero, Nat.zero_add, Nat.reduceAdd]
      refine wpPi_cmp _ _ _ _ _ _ _ _ rfl rfl rfl rfl rfl false (by simp only [cmpB]; simp; omega) ?_
      simp only [pl, pn, el, ec, sz, ss, gz, gs, if_true, if_false, Bool.false_eq_true, Bool.not_true, Bool.not_false, Nat.add_zero, Nat.zero_add, Nat.reduceAdd]
      refine wpPi_pick _ _ _ _ rfl rfl rfl ?_
      simp only [pl, pn, el, ec, sz, ss, gz, gs, if_true, if_false, Bool.false_eq_true, Bool.not_true, Bool.not_false, Nat.add_zero, Nat.zero_add, Nat.reduceAdd]
      refine wpPi_nil ?_
      go_upto_region 3 with (fail)
      refine wp_region_seq [3, 3, 3, 1, 3, 3, 1, 1, 1] (fun _ => True) (by rfl) (by rfl) trivial ?_
      simp only [List.zip_cons_cons, List.zip_nil_right]
      refine wpPi_move _ rfl rfl ?_
      simp only [pl, pn, el, ec, sz, ss, gz, gs, if_true, if_false, Bool.false_eq_true, Bool.not_true, Bool.not_false, Nat.add_zero, Nat.zero_add, Nat.reduceAdd]
      refine wpPi_nilCheck _ _ rfl rfl rfl ?_
      simp only [pl, pn, el, ec, sz, ss, gz, gs, if_true, if_false, Bool.false_eq_true, Bool.not_true, Bool.not_false, Nat.add_zero, Nat.zero_add, Nat.reduceAdd]
      refine wpPi_field _ _ _ _ _ _ rfl rfl rfl fo_46_2 ?_
      simp only [pl, pn, el, ec, sz, ss, gz, gs, if_true, if_false, Bool.false_eq_true, Bool.not_true, Bool.not_false, Nat.add_zero, Nat.zero_add, Nat.reduceAdd]
      refine wpPi_do rfl (fun K hK => ?_)
      refine wp_exec (exec_load1 43 _ (by rfl) br 2 (by rfl) _ hcv _ Try.underlying43 rfl) ?_
      refine hK _ _ trivial ?_
      clear hK K
      try simp only [pl, pn, el, ec, sz, ss, gz, gs, if_true, if_false, Bool.false_eq_true, Bool.not_true, Bool.not_false, Nat.add_zero, Nat.zero_add, Nat.reduceAdd]
      refine wpPi_move _ rfl rfl ?_
      simp only [pl, pn, el, ec, sz, ss, gz, gs, if_true, if_false, Bool.false_eq_true, Bool.not_true, Bool.not_false, Nat.add_zero, Nat.zero_add, Nat.reduceAdd]
      refine wpPi_index _ _ _ _ _ _ _ _ _ rfl rfl rfl rfl Try.underlying43 (n := 40) (by kernel_rfl) hkl ?_
      simp only [pl, pn, el, ec, sz, ss, gz, gs, if_true, if_false, Bool.false_eq_true, Bool.not_true, Bool.not_false, Nat.add_zero, Nat.zero_add, Nat.reduceAdd]
      refine wpPi_do rfl (fun K hK => ?_)
      refine wp_exec (exec_loadA 38 _ (by rfl) b (off + k * 40) (by rfl) _ (hcells.keep hM1 id) _ Try.underlying38 rfl 40 (by kernel_rfl) hcs) ?_
      refine hK _ _ trivial ?_
      clear hK K
      try simp only [pl, pn, el, ec, sz, ss, gz, gs, if_true, if_false, Bool.false_eq_true, Bool.not_true, Bool.not_false, Nat.add_zero, Nat.zero_add, Nat.reduceAdd]
      refine wpPi_do rfl (fun K hK => ?_)
      refine wp_alloc 38 ltrZero (by rfl) zero38 (fun w2 hB6 hm2 hs2 => ?_)
      refine hK _ _ trivial ?_
      clear hK K
      try simp only [pl, pn, el, ec, sz, ss, gz, gs, if_true, if_false, Bool.false_eq_true, Bool.not_true, Bool.not_false, Nat.add_zero, Nat.zero_add, Nat.reduceAdd]
      refine wpPi_do rfl (fun K hK => ?_)
      refine wp_storeA 38 _ _ w1.heap.size 0 cs (by rfl) (by rfl) (by rfl) hR.one 40 (by kernel_rfl) hcs _ _ hB6 (by rw [hcs]; exact Nat.le_refl 40) (fun w3 hB6' hm3 => ?_)
      rw [putRow_whole (by rw [hcs]; rfl)] at hB6'
      clear hB6
      have hm23 : Mod NoB w1 w3 := hm2.transB hm3 (Nat.le_refl _)
      have hs23 := hm23.size
      have hs33 := hm3.size
      refine hK _ _ trivial ?_
      clear hK K
      try simp only [pl, pn, el, ec, sz, ss, gz, gs, if_true, if_false, Bool.false_eq_true, Bool.not_true, Bool.not_false, Nat.add_zero, Nat.zero_add, Nat.reduceAdd]
      refine wpPi_nil ?_
      have hM3 := hM1.trans0 hm23
      have hcv3 := hm23.cell id hcv
      have ha3 := (ha.keep0 hM3).monoQ (Q' := fun k => RQ w3 R br bw k ∧ k < w3.heap.size) (fun k hlt hk => ⟨⟨.inl hk.1, hk.2⟩, hlt⟩)
      go_upto_region 4 with (fail)
      have hS : w3.drew.cell? ⟨br, 2, none⟩ = some (.slice (some ⟨b, off, none⟩) N.ls.length lc) := hcv3
      refine wp_region_pi [(0, 3), (2, 3), (3, 3), (4, 3), (5, 0), (6, 3), (7, 3), (9, 3), (10, 3), (11, 3), (12, 0), (13, 3), (14, 3), (15, 3), (1, 1), (8, 1), (16, 1), (17, 3), (18, 3), (19, 2)] [19] (fun w' => w'.cell? ⟨br, 2, none⟩ = some (.slice (some ⟨b, off, none⟩) N.ls.length lc)) (by kernel_rfl) (by kernel_rfl) (by kernel_rfl) (by kernel_rfl) (fun _ _ _ _ hd h => ⟨hd.trans h.1, h.2⟩) hS ?_
      simp only [List.map_cons, List.map_nil, List.getD_cons_zero, List.getD_cons_succ]
      refine wpPi_move _ rfl rfl ?_
      simp only [pl, pn, el, ec, sz, ss, gz, gs, if_true, if_false, Bool.false_eq_true, Bool.not_true, Bool.not_false, Nat.add_zero, Nat.zero_add, Nat.reduceAdd]
      refine wpPi_move _ rfl rfl ?_
      simp only [pl, pn, el, ec, sz, ss, gz, gs, if_true, if_false, Bool.false_eq_true, Bool.not_true, Bool.not_false, Nat.add_zero, Nat.zero_add, Nat.reduceAdd]
      refine wpPi_nilCheck _ _ rfl rfl rfl ?_
      simp only [pl, pn, el, ec, sz, ss, gz, gs, if_true, if_false, Bool.false_eq_true, Bool.not_true, Bool.not_false, Nat.add_zero, Nat.zero_add, Nat.reduceAdd]
      refine wpPi_field _ _ _ _ _ _ rfl rfl rfl fo_46_2 ?_
      simp only [pl, pn, el, ec, sz, ss, gz, gs, if_true, if_false, Bool.false_eq_true, Bool.not_true, Bool.not_false, Nat.add_zero, Nat.zero_add, Nat.reduceAdd]
      refine wpPi_val rfl (fun w' hS => exec_load1 _ _ rfl _ _ rfl _ hS _ Try.underlying43 rfl) ?_
      simp only [pl, pn, el, ec, sz, ss, gz, gs, if_true, if_false, Bool.false_eq_true, Bool.not_true, Bool.not_false, Nat.add_zero, Nat.zero_add, Nat.reduceAdd]
      refine wpPi_move _ rfl rfl ?_
      simp only [pl, pn, el, ec, sz, ss, gz, gs, if_true, if_false, Bool.false_eq_true, Bool.not_true, Bool.not_false, Nat.add_zero, Nat.zero_add, Nat.reduceAdd]
      refine wpPi_sliceTo 43 38 _ _ _ _ _ k 40 rfl rfl rfl rfl Try.underlying43 (by kernel_rfl) (by omega) ?_
      simp only [pl, pn, el, ec, sz, ss, gz, gs, if_true, if_false, Bool.false_eq_true, Bool.not_true, Bool.not_false, Nat.add_zero, Nat.zero_add, Nat.reduceAdd]
      refine wpPi_move _ rfl rfl ?_
      simp only [pl, pn, el, ec, sz, ss, gz, gs, if_true, if_false, Bool.false_eq_true, Bool.not_true, Bool.not_false, Nat.add_zero, Nat.zero_add, Nat.reduceAdd]
      refine wpPi_nilCheck _ _ rfl rfl rfl ?_
      simp only [pl, pn, el, ec, sz, ss, gz, gs, if_true, if_false, Bool.false_eq_true, Bool.not_true, Bool.not_false, Nat.add_zero, Nat.zero_add, Nat.reduceAdd]
      refine wpPi_field _ _ _ _ _ _ rfl rfl rfl fo_46_2 ?_
      simp only [pl, pn, el, ec, sz, ss, gz, gs, if_true, if_false, Bool.false_eq_true, Bool.not_true, Bool.not_false, Nat.add_zero, Nat.zero_add, Nat.reduceAdd]
      refine wpPi_val rfl (fun w' hS => exec_load1 _ _ rfl _ _ rfl _ hS _ Try.underlying43 rfl) ?_
      simp only [pl, pn, el, ec, sz, ss, gz, gs, if_true, if_false, Bool.false_eq_true, Bool.not_true, Bool.not_false, Nat.add_zero, Nat.zero_add, Nat.reduceAdd]
      refine wpPi_move _ rfl rfl ?_
      simp only [pl, pn, el, ec, sz, ss, gz, gs, if_true, if_false, Bool.false_eq_true, Bool.not_true, Bool.not_false, Nat.add_zero, Nat.zero_add, Nat.reduceAdd]
      refine wpPi_add _ _ _ _ _ _ rfl rfl rfl rfl (by omega) (by omega) ?_
      simp only [pl, pn, el, ec, sz, ss, gz, gs, if_true, if_false, Bool.false_eq_true, Bool.not_true, Bool.not_false, Nat.add_zero, Nat.zero_add, Nat.reduceAdd]
      refine wpPi_sliceFrom 43 38 _ _ _ _ _ (k + 1) 40 rfl rfl rfl (by rfl) Try.underlying43 (by kernel_rfl) (by omega) ?_
      simp only [pl, pn, el, ec, sz, ss, gz, gs, if_true, if_false, Bool.false_eq_true, Bool.not_true, Bool.not_false, Nat.add_zero, Nat.zero_add, Nat.reduceAdd]
      refine wpPi_do rfl (fun K hK => ?_)
      refine wp_buildSlice0 43 38 (by rfl) Try.underlying43 (by kernel_rfl) (fun w4 hb4 hm4 hs4 => ?_)
      replace hm4 := (Mod.refl NoB w3).drew.trans0 hm4
      replace hS := hm4.cell id hcv3
      replace hs4 : w3.heap.size < w4.heap.size := hs4
      replace hb4 : w4.heap[w3.heap.size]? = some (.cells #[] 38 (0, 0)) := hb4
      refine hK _ _ hS ?_
      clear hK K
      try simp only [pl, pn, el, ec, sz, ss, gz, gs, if_true, if_false, Bool.false_eq_true, Bool.not_true, Bool.not_false, Nat.add_zero, Nat.zero_add, Nat.reduceAdd]
      refine wpPi_do rfl (fun K hK => ?_)
      have ha4 := ha3.keep0 hm4
      obtain ⟨css, g3, g2, gS⟩ := ha4.done.src (by omega)
      have hM4 := hM3.trans0 hm4
      have hs3 := hM3.size
      have hsd : w3.drew.heap.size = w3.heap.size := rfl
      have gl := g3.1
      rw [hLv] at gS
      have own0 : w4.ownsRow w0.heap.size 38 40 (.slice (some ⟨w3.heap.size, 0, none⟩) 0 0) 0 [] := ⟨by simp, .inr ⟨w3.heap.size, 0, #[], rfl, by have := hM.size; omega, hb4, by omega, by unfold maxLen; omega, by simp, by simp⟩⟩
      have hone : ∀ c ∈ css.flatMap Array.toList, c.oneCell' = true := fun c hc => by
        obtain ⟨x, hx, hcx⟩ := List.mem_flatMap.1 hc
        obtain ⟨j, hj, rfl⟩ := List.getElem_of_mem hx
        exact (g3.2 j hj (by omega)).one c (by simpa using hcx)
      refine wp_append _ _ 43 38 ltrZero 40 144 (by rfl) Try.underlying43 info38 (by rfl) (by omega) w0.heap.size (.slice (some ⟨w3.heap.size, 0, none⟩) 0 0) 0 [] (by rfl) own0 _ k ((css.take k).flatMap Array.toList) (by rfl)
        (gS.to g2 (by omega) gl) (fun c hc => hone c (by
          obtain ⟨x, hx, hcx⟩ := List.mem_flatMap.1 hc
          exact List.mem_flatMap.2 ⟨x, List.mem_of_mem_take hx, hcx⟩)) (by unfold maxLen; omega) (by omega) (by have := hM.size; omega) (fun v1 w5 hown1 hgrow1 hvv1 => ?_)
      have hm5 : Mod (fun k => k = w3.heap.size) w4 w5 := (Mod.refl _ _).grown hgrow1 (fun k hk _ => by simpa [Value.ownBlock] using hk.symm)
      have hnb : br ≠ w3.heap.size := by omega
      replace hS := hm5.cell hnb hS
      have hmv : ∀ j, Fp (fun k => RQ w3 R br bw k ∧ k < w3.heap.size) Lv w4 j → Fp (RQ w3 R br bw) (.slice (some ⟨w3.heap.size, 0, none⟩) 0 0) w4 j := fun j hj => ⟨hj.1.1, hj.2.1, fun e => by
        have e' : w3.heap.size = j := by simpa [Value.ownBlock] using e
        have := hj.1.2
        omega⟩
      have hnl : ∀ j, Lv.ownBlock = some j → j ≠ w3.heap.size := fun j e => by have := hlt j (hg j e).1; omega
      refine hK _ _ hS ?_
      clear hK K
      try simp only [pl, pn, el, ec, sz, ss, gz, gs, if_true, if_false, Bool.false_eq_true, Bool.not_true, Bool.not_false, Nat.add_zero, Nat.zero_add, Nat.reduceAdd]
      refine wpPi_do rfl (fun K hK => ?_)
      have hm45 : Mod NoB w w5 := hM4.transB hm5 (by omega)
      have gS5 : Src w5 40 (.slice (some ⟨b, off, none⟩) N.ls.length lc) N.ls.length (css.flatMap Array.toList) := by
        obtain ⟨e1, ad, c, e2, e3⟩ := gS
        refine ⟨e1, ad, c, e2, fun hne => ?_⟩
        obtain ⟨b', off', rfl, hc⟩ := e3 hne
        have e4 : b = b' := by cases e2; rfl
        subst e4
        exact ⟨_, _, rfl, fun j x hx => hm5.cell (hnl b (by rw [hLv]; rfl)) (hc j x hx)⟩
      refine wp_append _ _ 43 38 ltrZero 40 144 (by rfl) Try.underlying43 info38 (by rfl) (by omega) w0.heap.size v1 (0 + k) ([] ++ (css.take k).flatMap Array.toList) (by rfl) hown1 _ (N.ls.length - (k + 1)) ((css.drop (k + 1)).flatMap Array.toList) (by rfl)
        (gS5.from g2 (by omega) hlc gl) (fun c hc => hone c (by
          obtain ⟨x, hx, hcx⟩ := List.mem_flatMap.1 hc
          exact List.mem_flatMap.2 ⟨x, List.mem_of_mem_drop hx, hcx⟩)) (by unfold maxLen; omega) (by omega) (by have := hM.size; have := hm45.size; omega) (fun v2 w6 hown2 hgrow2 hvv2 => ?_)
      have hm6 : Mod (fun k => v1.ownBlock = some k) w5 w6 := (Mod.refl _ _).grown hgrow2 (fun k hk _ => hk)
      have hnb1 : v1.ownBlock ≠ some br := fun e => by
        rcases hvv1 with hv | hv <;> rw [hv] at e
        · have : w3.heap.size = br := by simpa [Value.ownBlock] using e
          omega
        · cases e; omega
      replace hS := hm6.cell hnb1 hS
      have ho6 := hm6.obj hnb1 (hm45.obj id ho.obj)
      refine hK _ _ hS ?_
      clear hK K
      try simp only [pl, pn, el, ec, sz, ss, gz, gs, if_true, if_false, Bool.false_eq_true, Bool.not_true, Bool.not_false, Nat.add_zero, Nat.zero_add, Nat.reduceAdd]
      refine wpPi_nilCheck _ _ rfl rfl rfl ?_
      simp only [pl, pn, el, ec, sz, ss, gz, gs, if_true, if_false, Bool.false_eq_true, Bool.not_true, Bool.not_false, Nat.add_zero, Nat.zero_add, Nat.reduceAdd]
      refine wpPi_field _ _ _ _ _ _ rfl rfl rfl fo_46_2 ?_
      simp only [pl, pn, el, ec, sz, ss, gz, gs, if_true, if_false, Bool.false_eq_true, Bool.not_true, Bool.not_false, Nat.add_zero, Nat.zero_add, Nat.reduceAdd]
      refine wpPi_last rfl (fun K hK => ?_)
      refine wp_store1 43 _ _ br 2 v2 (by rfl) (by rfl) (by rfl) (owns_one hown2) (by kernel_rfl) _ _ ho6 (by show 2 < 4; omega) (fun w7 hb7 hm7 => ?_)
      refine hK _ _ ?_
      clear hK K
      try simp only [pl, pn, el, ec, sz, ss, gz, gs, if_true, if_false, Bool.false_eq_true, Bool.not_true, Bool.not_false, Nat.add_zero, Nat.zero_add, Nat.reduceAdd]
      refine wpPi_nil ?_
      obtain ⟨hst, hm17⟩ := ref_taken (v0 := .slice (some ⟨w3.heap.size, 0, none⟩) 0 0) (h'.keep0 hM3) (ho.keep hM3 id id) hne hRr hRw hg hkl hm4 g2 (g3.imp fun _ _ hx => hx.mono hmv hmv) ⟨_, rfl, ⟨Nat.le_refl _, hs4⟩⟩ hown1 hgrow1 hvv1 (by rw [Nat.zero_add, List.nil_append] at hown2; exact hown2) hgrow2 hvv2 hb7 hm7
      have hs17 := hm17.size
      have hl7 : LetR false w7 (fun j => R j ∧ j ≠ br) (fun j => R j ∧ j ≠ br) cs l := by
        have : LetR false w _ _ cs l := hR
        exact ((this.keep0 hM3).keep hm17 (fun j hj e => hj.1.2.1 e) (fun j hj e => hj.1.2.1 e)).mono (fun j hj => ⟨hj.1.1, hj.1.2.1⟩) (fun j hj => ⟨hj.1.1, hj.1.2.1⟩)
      have hB6 := hm17.objB (show w1.heap.size ≠ br by omega) hB6'
      have hB0' := hm17.objB (show w.heap.size ≠ br by omega) (hm23.obj id hB0)
      clear hvv1 hvv2 hgrow1 hgrow2 hown1 hown2
      go_upto_region 5 with (fail)
      refine wp_region_seq [1, 1, 3] (fun _ => True) (by rfl) (by rfl) trivial ?_
      simp only [List.zip_cons_cons, List.zip_nil_right]
      refine wpPi_do rfl (fun K hK => ?_)
      refine wp_exec (exec_loadA 38 _ (by rfl) w1.heap.size 0 (by rfl) _ (CellsAt.whole hB6) _ Try.underlying38 rfl 40 (by kernel_rfl) hcs) ?_
      refine hK _ _ trivial ?_
      clear hK K
      try simp only [pl, pn, el, ec, sz, ss, gz, gs, if_true, if_false, Bool.false_eq_true, Bool.not_true, Bool.not_false, Nat.add_zero, Nat.zero_add, Nat.reduceAdd]
      refine wpPi_do rfl (fun K hK => ?_)
      refine wp_storeA 38 _ _ w.heap.size 0 cs (by rfl) (by rfl) (by rfl) hl7.one 40 (by kernel_rfl) hcs _ _ hB0' (by rw [hcs, hz]; exact Nat.le_refl 40) (fun w8 hB8 hm8 => ?_)
      rw [putRow_whole (by rw [hcs, hz])] at hB8
      refine hK _ _ trivial ?_
      clear hK K
      try simp only [pl, pn, el, ec, sz, ss, gz, gs, if_true, if_false, Bool.false_eq_true, Bool.not_true, Bool.not_false, Nat.add_zero, Nat.zero_add, Nat.reduceAdd]
      refine wpPi_assign _ rfl rfl ?_
      simp only [pl, pn, el, ec, sz, ss, gz, gs, if_true, if_false, Bool.false_eq_true, Bool.not_true, Bool.not_false, Nat.add_zero, Nat.zero_add, Nat.reduceAdd]
      refine wpPi_nil ?_
      obtain ⟨R', hr1, hr2, hr3⟩ := hst
      have hs8 := hm8.size
      have hl8 : LetR false w8 (fun j => R j ∧ j ≠ br) (fun j => R j ∧ j ≠ br) cs (takeL N k) := by
        rw [HLK.out]
        refine hl7.keep hm8 (fun j hj e => ?_) (fun j hj e => ?_)
        all_goals
          have h1 := hlt j hj.1
          have h2 : j = w.heap.size := e
          omega
      have hfin : RStep w0 w (.pointer (some ⟨br, 0, none⟩)) R w8 (takeN N k) := by
        rw [HNK.out]
        refine ⟨R', hr1.keep hm8 (fun j hj e => ?_) (fun j hj e => ?_), ((hM3.mono (S' := R) (fun _ _ h => False.elim h)).trans hr2 (fun _ _ h => h)).trans hm8 (fun j hj e => ?_), fun j hj => (hr3 j hj).imp id (fun hn => ⟨by have := hn.1; omega, by have := hn.2; omega⟩)⟩
        · have h2 : j = w.heap.size := e
          rcases hr3 j hj with h3 | h3
          · have h1 := hlt j h3; omega
          · have h1 := h3.1; omega
        · have h2 : j = w.heap.size := e
          have := hM.size; omega
        · have h2 : j = w.heap.size := e
          omega
      clear hr1 hr2 hr3
      go_wp2
      all_goals
        refine bodyPost_ret (results_cell_tmp rfl _ _ w.heap.size _ _ _ (by rfl) hB8 Try.underlying38 rfl (by rw [hcs]; kernel_rfl)) rfl ?_
        exact ⟨cs, _, _, by rw [HEK.out]; rfl, hl8, hfin⟩
    · have hin : inR N i = false := decide_eq_false (by omega)
      clear HA
      refine wp_region_seq [3, 3, 3, 3, 3, 3, 3, 1, 3, 3, 3] (fun _ => True) (by rfl) (by rfl) trivial ?_
      simp only [List.zip_cons_cons, List.zip_nil_right]
      refine wpPi_move _ rfl rfl ?_
      simp only [pl, pn, el, ec, sz, ss, gz, gs, if_true, if_false, Bool.false_eq_true, Bool.not_true, Bool.not_false, Nat.add_zero, Nat.zero_add, Nat.reduceAdd]
      refine wpPi_cmp _ _ _ _ _ _ _ _ rfl rfl rfl rfl rfl false (by simp only [cmpB]; simp; omega) ?_
      simp only [pl, pn, el, ec, sz, ss, gz, gs, if_true, if_false, Bool.false_eq_true, Bool.not_true, Bool.not_false, Nat.add_zero, Nat.zero_add, Nat.reduceAdd]
      refine wpPi_move _ rfl rfl ?_
      simp only [pl, pn, el, ec, sz, ss, gz, gs, if_true, if_false, Bool.false_eq_true, Bool.not_true, Bool.not_false, Nat.add_zero, Nat.zero_add, Nat.reduceAdd]
      refine wpPi_move _ rfl rfl ?_
      simp only [pl, pn, el, ec, sz, ss, gz, gs, if_true, if_false, Bool.false_eq_true, Bool.not_true, Bool.not_false, Nat.add_zero, Nat.zero_add, Nat.reduceAdd]
      refine wpPi_move _ rfl rfl ?_
      simp only [pl, pn, el, ec, sz, ss, gz, gs, if_true, if_false, Bool.false_eq_true, Bool.not_true, Bool.not_false, Nat.add_zero, Nat.zero_add, Nat.reduceAdd]
      refine wpPi_nilCheck _ _ rfl rfl rfl ?_
      simp only [pl, pn, el, ec, sz, ss, gz, gs, if_true, if_false, Bool.false_eq_true, Bool.not_true, Bool.not_false, Nat.add_zero, Nat.zero_add, Nat.reduceAdd]
      refine wpPi_field _ _ _ _ _ _ rfl rfl rfl fo_46_2 ?_
      simp only [pl, pn, el, ec, sz, ss, gz, gs, if_true, if_false, Bool.false_eq_true, Bool.not_true, Bool.not_false, Nat.add_zero, Nat.zero_add, Nat.reduceAdd]
      refine wpPi_do rfl (fun K hK => ?_)
      refine wp_exec (exec_load1 43 _ (by rfl) br 2 (by rfl) _ hcv _ Try.underlying43 rfl) ?_
      refine hK _ _ trivial ?_
      clear hK K
      try simp only [pl, pn, el, ec, sz, ss, gz, gs, if_true, if_false, Bool.false_eq_true, Bool.not_true, Bool.not_false, Nat.add_zero, Nat.zero_add, Nat.reduceAdd]
      refine wpPi_len _ _ _ _ _ rfl rfl rfl (by kernel_rfl) ?_
      simp only [pl, pn, el, ec, sz, ss, gz, gs, if_true, if_false, Bool.false_eq_true, Bool.not_true, Bool.not_false, Nat.add_zero, Nat.zero_add, Nat.reduceAdd]
      refine wpPi_cmp _ _ _ _ _ _ _ _ rfl rfl rfl rfl rfl true (by simp only [cmpB]; simp; omega) ?_
      simp only [pl, pn, el, ec, sz, ss, gz, gs, if_true, if_false, Bool.false_eq_true, Bool.not_true, Bool.not_false, Nat.add_zero, Nat.zero_add, Nat.reduceAdd]
      refine wpPi_pick _ _ _ _ rfl rfl rfl ?_
      simp only [pl, pn, el, ec, sz, ss, gz, gs, if_true, if_false, Bool.false_eq_true, Bool.not_true, Bool.not_false, Nat.add_zero, Nat.zero_add, Nat.reduceAdd]
      refine wpPi_nil ?_
      go_upto_region 2 with (fail)
      refine wp_region_seq [1, 1, 3] (fun _ => True) (by rfl) (by rfl) trivial ?_
      simp only [List.zip_cons_cons, List.zip_nil_right]
      refine wpPi_do rfl (fun K hK => ?_)
      refine wp_exec (exec_build_zero (by rfl)) ?_
      refine hK _ _ trivial ?_
      clear hK K
      try simp only [pl, pn, el, ec, sz, ss, gz, gs, if_true, if_false, Bool.false_eq_true, Bool.not_true, Bool.not_false, Nat.add_zero, Nat.zero_add, Nat.reduceAdd]
      refine wpPi_do rfl (fun K hK => ?_)
      refine wp_storeA 38 _ _ w.heap.size 0 zeroLet (by rfl) (by rfl) (by rfl) (ltrCells_one _ _ _ _ rfl rfl rfl) 40 (by kernel_rfl) hz _ _ hB0 (by omega) (fun w4 hB4 hm4 => ?_)
      rw [putRow_whole rfl] at hB4
      refine hK _ _ trivial ?_
      clear hK K
      try simp only [pl, pn, el, ec, sz, ss, gz, gs, if_true, if_false, Bool.false_eq_true, Bool.not_true, Bool.not_false, Nat.add_zero, Nat.zero_add, Nat.reduceAdd]
      refine wpPi_assign _ rfl rfl ?_
      simp only [pl, pn, el, ec, sz, ss, gz, gs, if_true, if_false, Bool.false_eq_true, Bool.not_true, Bool.not_false, Nat.add_zero, Nat.zero_add, Nat.reduceAdd]
      refine wpPi_nil ?_
      go_wp2
      refine bodyPost_ret (results_cell_tmp rfl _ _ w.heap.size _ _ _ (by rfl) hB4 Try.underlying38 rfl (by rw [hz]; kernel_rfl)) rfl ?_
      refine ⟨zeroLet, NoB, NoB, by simp [takeE, hin], by simp only [takeL, hin]; exact LetR.zero _ _ _ _, ?_⟩
      rw [show takeN N i = N by simp [takeN, hin]]
      exact h'.step (hM1.transB hm4 (Nat.le_refl _))

set_option maxRecDepth 10000 in
set_option maxHeartbeats 800000 in
theorem refDrop_at (h : RefAt w0 w q N R) (hl : 0 ≤ N.lost ∧ N.lost ≤ 1000000000) (i : Int) : Calls Try.prog 32 #[q, .int .i64 i] w fun e w' => e = .returned (.int .i64 (takeE N i)) ∧ RStep w0 w q R w' (dropN N i) := by
  have hw := h.lt
  go_enter Try.func32, Try.ntmps32
  go_upto_region 1 with (fail)
  refine wp_region_seq [3, 3, 1, 3, 1, 1, 1, 1, 3] (fun _ => True) (by rfl) (by rfl) trivial ?_
  simp only [List.zip_cons_cons, List.zip_nil_right]
  refine wpPi_move _ rfl rfl ?_
  simp only [pl, pn, el, ec, sz, ss, gz, gs, if_true, if_false, Bool.false_eq_true, Bool.not_true, Bool.not_false, Nat.add_zero, Nat.zero_add, Nat.reduceAdd]
  refine wpPi_move _ rfl rfl ?_
  simp only [pl, pn, el, ec, sz, ss, gz, gs, if_true, if_false, Bool.false_eq_true, Bool.not_true, Bool.not_false, Nat.add_zero, Nat.zero_add, Nat.reduceAdd]
  refine wpPi_do rfl (fun K hK => ?_)
  go_wp2_with (go_at_call 19; refine (refTake_at h i).mono ?_; rintro _ w1 ⟨cs, E, G, rfl, htl, hst⟩)
  refine hK _ _ trivial ?_
  clear hK K
  try simp only [pl, pn, el, ec, sz, ss, gz, gs, if_true, if_false, Bool.false_eq_true, Bool.not_true, Bool.not_false, Nat.add_zero, Nat.zero_add, Nat.reduceAdd]
  refine wpPi_move _ rfl rfl ?_
  simp only [pl, pn, el, ec, sz, ss, gz, gs, if_true, if_false, Bool.false_eq_true, Bool.not_true, Bool.not_false, Nat.add_zero, Nat.zero_add, Nat.reduceAdd]
  refine wpPi_do rfl (fun K hK => ?_)
  go_wp2
  refine hK _ _ trivial ?_
  clear hK K
  try simp only [pl, pn, el, ec, sz, ss, gz, gs, if_true, if_false, Bool.false_eq_true, Bool.not_true, Bool.not_false, Nat.add_zero, Nat.zero_add, Nat.reduceAdd]
  refine wpPi_do rfl (fun K hK => ?_)
  go_wp2
  refine hK _ _ trivial ?_
  clear hK K
  try simp only [pl, pn, el, ec, sz, ss, gz, gs, if_true, if_false, Bool.false_eq_true, Bool.not_true, Bool.not_false, Nat.add_zero, Nat.zero_add, Nat.reduceAdd]
  refine wpPi_do rfl (fun K hK => ?_)
  refine wp_alloc 38 ltrZero (by rfl) zero38 (fun w2 hB5 hm2 hs2 => ?_)
  refine hK _ _ trivial ?_
  clear hK K
  try simp only [pl, pn, el, ec, sz, ss, gz, gs, if_true, if_false, Bool.false_eq_true, Bool.not_true, Bool.not_false, Nat.add_zero, Nat.zero_add, Nat.reduceAdd]
  refine wpPi_do rfl (fun K hK => ?_)
  refine wp_storeA 38 _ _ w1.heap.size 0 cs (by rfl) (by rfl) (by rfl) htl.one 40 (by kernel_rfl) htl.size _ _ hB5 (by rw [htl.size]; exact Nat.le_refl 40) (fun w3 hB5' hm3 => ?_)
  have hm13 : Mod NoB w1 w3 := hm2.transB hm3 (Nat.le_refl _)
  refine hK _ _ trivial ?_
  clear hK K
  try simp only [pl, pn, el, ec, sz, ss, gz, gs, if_true, if_false, Bool.false_eq_true, Bool.not_true, Bool.not_false, Nat.add_zero, Nat.zero_add, Nat.reduceAdd]
  refine wpPi_assign _ rfl rfl ?_
  simp only [pl, pn, el, ec, sz, ss, gz, gs, if_true, if_false, Bool.false_eq_true, Bool.not_true, Bool.not_false, Nat.add_zero, Nat.zero_add, Nat.reduceAdd]
  refine wpPi_nil ?_
  obtain ⟨R1, hr1, hr2, hr3⟩ := hst
  have hr1' := hr1.keep0 hm13
  have hM3 : Mod R w w3 := hr2.trans hm13 (fun _ _ h => False.elim h)
  have hs13 := hm13.size
  obtain ⟨tr, htr⟩ : ∃ t, t = inR N i := ⟨_, rfl⟩
  cases tr
  · have hte : takeE N i = 26 := by simp [takeE, ← htr]
    have hdn : dropN N i = N := by simp [dropN, ← htr]
    have htn : takeN N i = N := by simp [takeN, ← htr]
    rw [htn] at hr1'
    rw [hte]
    have HTE := Lib.hid hte; have HDN := Lib.hid hdn
    clear htr hte hdn htn
    go_wp2
    go_ret
    exact ⟨by rw [HTE.out]; rfl, R1, by rw [HDN.out]; exact hr1', hM3, fun j hj => (hr3 j hj).imp id (fun hn => ⟨hn.1, by have := hn.2; omega⟩)⟩
  · have hte : takeE N i = 0 := by simp [takeE, ← htr]
    have htn : takeN N i = ⟨N.n, N.lost, N.cut, N.ls.eraseIdx i.toNat⟩ := by simp [takeN, ← htr]
    have hdn : dropN N i = ⟨N.n, N.lost + 1, N.cut, N.ls.eraseIdx i.toNat⟩ := by simp [dropN, ← htr]
    have HDN := Lib.hid hdn
    rw [hte]
    have HTE := Lib.hid hte
    rw [htn] at hr1'
    clear htr hte htn hdn
    have hr2' := hr1'
    obtain ⟨hM1, ⟨br, bw, Lv, ways, rfl, ho, ha, hne, hRr, hRw, hg⟩, hold, hlt⟩ := hr1'
    have hc1 := ho.cell.2.1
    go_upto_region 3 with (fail)
    refine wp_region_seq [3, 3, 3, 1, 3, 3, 3, 1] (fun _ => True) (by rfl) (by rfl) trivial ?_
    simp only [List.zip_cons_cons, List.zip_nil_right]
    refine wpPi_move _ rfl rfl ?_
    simp only [pl, pn, el, ec, sz, ss, gz, gs, if_true, if_false, Bool.false_eq_true, Bool.not_true, Bool.not_false, Nat.add_zero, Nat.zero_add, Nat.reduceAdd]
    refine wpPi_nilCheck _ _ rfl rfl rfl ?_
    simp only [pl, pn, el, ec, sz, ss, gz, gs, if_true, if_false, Bool.false_eq_true, Bool.not_true, Bool.not_false, Nat.add_zero, Nat.zero_add, Nat.reduceAdd]
    refine wpPi_field _ _ _ _ _ _ rfl rfl rfl fo_46_1 ?_
    simp only [pl, pn, el, ec, sz, ss, gz, gs, if_true, if_false, Bool.false_eq_true, Bool.not_true, Bool.not_false, Nat.add_zero, Nat.zero_add, Nat.reduceAdd]
    refine wpPi_do rfl (fun K hK => ?_)
    refine wp_exec (exec_load1 3 _ (by rfl) br 1 (by rfl) _ hc1 _ Try.underlying3 rfl) ?_
    refine hK _ _ trivial ?_
    clear hK K
    try simp only [pl, pn, el, ec, sz, ss, gz, gs, if_true, if_false, Bool.false_eq_true, Bool.not_true, Bool.not_false, Nat.add_zero, Nat.zero_add, Nat.reduceAdd]
    refine wpPi_add _ _ _ _ _ _ rfl rfl rfl rfl (by omega) (by omega) ?_
    simp only [pl, pn, el, ec, sz, ss, gz, gs, if_true, if_false, Bool.false_eq_true, Bool.not_true, Bool.not_false, Nat.add_zero, Nat.zero_add, Nat.reduceAdd]
    refine wpPi_nilCheck _ _ rfl rfl rfl ?_
    simp only [pl, pn, el, ec, sz, ss, gz, gs, if_true, if_false, Bool.false_eq_true, Bool.not_true, Bool.not_false, Nat.add_zero, Nat.zero_add, Nat.reduceAdd]
    refine wpPi_field _ _ _ _ _ _ rfl rfl rfl fo_46_1 ?_
    simp only [pl, pn, el, ec, sz, ss, gz, gs, if_true, if_false, Bool.false_eq_true, Bool.not_true, Bool.not_false, Nat.add_zero, Nat.zero_add, Nat.reduceAdd]
    refine wpPi_do rfl (fun K hK => ?_)
    refine wp_store1 3 _ _ br 1 (.int .i64 (N.lost + 1)) (by rfl) (by rfl) (by rfl) rfl (by kernel_rfl) _ _ ho.obj (by show 1 < 4; omega) (fun w5 hb5 hm5 => ?_)
    refine hK _ _ trivial ?_
    clear hK K
    try simp only [pl, pn, el, ec, sz, ss, gz, gs, if_true, if_false, Bool.false_eq_true, Bool.not_true, Bool.not_false, Nat.add_zero, Nat.zero_add, Nat.reduceAdd]
    refine wpPi_nil ?_
    go_wp2
    go_ret
    obtain ⟨R2, hq1, hq2, hq3⟩ := ref_lose hr2' ho ha hne hRr hRw hg _ hb5 hm5
    have hs5 := hm5.size
    refine ⟨by rw [HTE.out]; rfl, R2, by rw [HDN.out]; exact hq1, hM3.trans hq2 (fun j hj h1 => ?_), fun j hj => ?_⟩
    · rcases hr3 j h1 with h2 | h2
      · exact h2
      · have := h2.1; omega
    · rcases hq3 j hj with h1 | h1
      · rcases hr3 j h1 with h2 | h2
        · exact .inl h2
        · exact .inr ⟨h2.1, by have := h2.2; omega⟩
      · exact .inr ⟨by have := h1.1; have := hM3.size; omega, h1.2⟩
end
end Go.Proofs.Ytdllpakdhnanbaa
