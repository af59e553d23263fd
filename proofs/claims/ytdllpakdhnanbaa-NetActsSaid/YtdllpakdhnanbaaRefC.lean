/- The document's net: Send, Copy. -/
import Derived.Test.YtdllpakdhnanbaaRefB
namespace Go.Proofs.Ytdllpakdhnanbaa
set_option linter.unusedSimpArgs false
set_option linter.unusedVariables false
set_option linter.unnecessarySimpa false
open Go.RowKit

/-- The places that a net's letters may lie in, behind calls that made memory. -/
def RQ (w : World) (R : Nat → Prop) (br bw : Nat) (k : Nat) : Prop := (R k ∨ w.heap.size ≤ k) ∧ k ≠ br ∧ k ≠ bw

section
variable {w0 w : World} {N : Ns} {R : Nat → Prop} {br bw : Nat} {Lv : Value} {ways : Array Value}

theorem ref_push {w3 w4 w5 : World} {v1 : Value} {css : List (Array Value)} {cs' : Array Value} {l : Ltr} (h : RefAt w0 w (.pointer (some ⟨br, 0, none⟩)) N R) (ho : RefOk w br bw Lv ways N) (hne : br ≠ bw) (hRr : R br) (hRw : R bw)
    (hg : ∀ g, Lv.ownBlock = some g → R g ∧ g ≠ br ∧ g ≠ bw) (hM3 : Mod NoB w w3) (h2 : ∀ c ∈ css, c.size = 40) (h3 : All2 (LetR false w3 (Fp (RQ w R br bw) Lv w3) (Fp (RQ w R br bw) Lv w3)) css N.ls)
    (hc : LetR false w3 (fun k => New w w3 k) (fun k => New w w3 k) cs' l) (hown : w4.ownsRow w0.heap.size 38 40 v1 (N.ls.length + 1) (css.flatMap Array.toList ++ cs'.toList)) (hgrow : w3.grownBy w4 Lv.ownBlock)
    (hvv : v1.ownBlock = Lv.ownBlock ∨ v1.ownBlock = some w3.heap.size) (hb5 : w5.heap[br]? = some (.cells ((refCells N.n N.lost Lv bw).setIfInBounds 2 v1) 46 (0, 0))) (hm5 : Mod (fun k => k = br) w4 w5) (hlen : N.ls.length < 4096) (hok : LtrOk l) :
    RStep w0 w (.pointer (some ⟨br, 0, none⟩)) R w5 ⟨N.n, N.lost, N.cut, N.ls ++ [l]⟩ := by
  have hbr := h.lt br hRr
  have hbw := h.lt bw hRw
  have hs3 := hM3.size
  have hmo : Mod (fun k => Lv.ownBlock = some k) w3 w4 := (Mod.refl _ _).grown hgrow (fun k hk _ => hk)
  have hs4 := hmo.size; have hs5 := hm5.size
  have hlo : ∀ k, New w w3 k → Fp (RQ w R br bw) Lv w3 k := fun k hk => ⟨⟨.inr hk.1, by have := hk.1; omega, by have := hk.1; omega⟩, hk.2, fun e => by
    have h1 := h.lt k (hg k e).1
    have h2 := hk.1
    omega⟩
  have ha := LtAcc.step h2 h3 (hc.mono hlo hlo) hown hgrow hvv
  have hv1 : ∀ g, v1.ownBlock = some g → (R g ∨ New w w5 g) ∧ g ≠ br ∧ g ≠ bw := fun g e => by
    rcases hvv with hv | hv <;> rw [hv] at e
    · exact ⟨.inl (hg g e).1, (hg g e).2⟩
    · cases e
      have hlt : w3.heap.size < w4.heap.size := by
        obtain ⟨hl, hh⟩ := hown
        rcases hh with ⟨rfl, _⟩ | ⟨g, cap, cur, rfl, _, hgg, _⟩
        · cases hv
        · have e : g = w3.heap.size := by simpa [Value.ownBlock] using hv
          rw [← e]; exact lt_of_obj hgg
      exact ⟨.inr ⟨hs3, by omega⟩, by omega, by omega⟩
  have hM4 : Mod R w w4 := (hM3.mono (S' := R) (fun _ _ h => False.elim h)).trans hmo (fun k _ e => (hg k e).1)
  have hM5 : Mod R w w5 := hM4.trans hm5 (fun k _ e => by have e' : k = br := e; rw [e']; exact hRr)
  have hb4 : w4.heap[bw]? = some (.cells ways 4 (0, 0)) := hmo.obj (fun e => (hg bw e).2.2 rfl) (hM3.obj id ho.wobj)
  refine RStep.mk h hRr hRw hne ⟨hb5, hm5.objB (fun e => hne e.symm) hb4, ho.wsz, ho.way, ho.hn, by simp only [List.length_append, List.length_singleton]; omega, fun x hx => ?_⟩
    ((ha.keep hm5 (fun k hk => hk.1.2.1) (fun k hk => (hv1 k hk).2.1)).monoQ (fun k hlt hk => ⟨hk.1.imp id (fun hk1 => ⟨hk1, hlt⟩), hk.2⟩)) hv1 hM5 (fun k hk => hk)
  rcases List.mem_append.1 hx with hx | hx
  · exact ho.oks x hx
  · have e : x = l := by simpa using hx
    rw [e]; exact hok

theorem ref_lose {w5 : World} (h : RefAt w0 w (.pointer (some ⟨br, 0, none⟩)) N R) (ho : RefOk w br bw Lv ways N) (ha : LtAcc false w0.heap.size (fun k => R k ∧ k ≠ br ∧ k ≠ bw) N.ls Lv w) (hne : br ≠ bw) (hRr : R br) (hRw : R bw)
    (hg : ∀ g, Lv.ownBlock = some g → R g ∧ g ≠ br ∧ g ≠ bw) (c : Int) (hb5 : w5.heap[br]? = some (.cells ((refCells N.n N.lost Lv bw).setIfInBounds 1 (.int .i64 c)) 46 (0, 0))) (hm5 : Mod (fun k => k = br) w w5) :
    RStep w0 w (.pointer (some ⟨br, 0, none⟩)) R w5 ⟨N.n, c, N.cut, N.ls⟩ :=
  RStep.mk h hRr hRw hne ⟨hb5, hm5.objB (fun e => hne e.symm) ho.wobj, ho.wsz, ho.way, ho.hn, ho.few, ho.oks⟩
    ((ha.keep hm5 (fun k hk => hk.1.2.1) (fun k hk => (hg k hk).2.1)).monoQ (fun k _ hk => ⟨.inl hk.1, hk.2⟩)) (fun g e => ⟨.inl (hg g e).1, (hg g e).2⟩) hm5 (fun k hk => by have e' : k = br := hk; rw [e']; exact hRr)
theorem RStep.trans0 {q : Value} {w1 w' : World} {N' : Ns} (hm : Mod NoB w w1) (h : RStep w0 w1 q R w' N') : RStep w0 w q R w' N' := by
  obtain ⟨F', h1, h2, h3⟩ := h
  exact ⟨F', h1, (hm.mono (S' := R) (fun _ _ h => False.elim h)).trans h2 (fun _ _ h => h), fun k hk => (h3 k hk).imp id (fun hn => ⟨Nat.le_trans hm.size hn.1, hn.2⟩)⟩
end

theorem owns_one {w : World} {base e size n : Nat} {v : Value} {xs : List Value} (h : w.ownsRow base e size v n xs) : v.oneCell' = true := by
  rcases h.2 with ⟨rfl, _⟩ | ⟨g, cap, cur, rfl, _⟩ <;> rfl

section
variable {w0 w : World} {q : Value} {N : Ns} {R : Nat → Prop}

set_option maxRecDepth 10000 in
set_option maxHeartbeats 2000000 in
theorem refSend_at (h : RefAt w0 w q N R) (hl : 0 ≤ N.lost ∧ N.lost ≤ 1000000000) (own : Bool) (E G : Nat → Prop) (cs : Array Value) (l : Ltr) (hlet : LetR own w E G cs l) (hok : LtrOk l) :
    Calls Try.prog 13 #[q, .agg cs] w fun e w' => e = .returned (.tuple #[.bool (sendB N l), .int .i64 (sendE N l)]) ∧ RStep w0 w q R w' (sendN N l) := by
  have h' := h
  obtain ⟨hM, ⟨br, bw, Lv, ways, rfl, ho, ha, hne, hRr, hRw, hg⟩, hold, hlt⟩ := h
  have hlet0 := hlet
  obtain ⟨sv, ev, bv, hca, hi32, -, -, -⟩ := hlet0
  have cA := ltrCells_spec l sv ev bv hi32; rw [← hca] at cA; clear hca
  have hbr := hlt br hRr
  obtain ⟨sx, hsx⟩ : ∃ t, t = l.src := ⟨_, rfl⟩
  obtain ⟨dx, hdx⟩ : ∃ t, t = l.dst := ⟨_, rfl⟩
  have c1 := cA.c1; have c2 := cA.c2; have csz := cA.size
  rw [← hsx] at c1; rw [← hdx] at c2
  obtain ⟨tw, htw⟩ : ∃ t, t = twoB N.n sx dx := ⟨_, rfl⟩
  obtain ⟨op, hop⟩ : ∃ t, t = openB N.n N.cut sx dx := ⟨_, rfl⟩
  have HSX := Lib.hid hsx; have HDX := Lib.hid hdx; clear hsx hdx cA
  have HT := Lib.hid htw; have HO := Lib.hid hop; clear htw hop
  go_enter Try.func13, Try.ntmps13
  go_upto_region 0 with (fail)
  refine wp_region_seq [1, 3, 3] (fun _ => True) (by rfl) (by rfl) trivial ?_
  simp only [List.zip_cons_cons, List.zip_nil_right]
  refine wpPi_do rfl (fun K hK => ?_)
  refine wp_box 38 _ _ (by rfl) (by rfl) (fun w1 hB0 hM1 hs1 => ?_)
  replace hB0 : w1.heap[w.heap.size]? = some (.cells cs 38 (0, 0)) := hB0
  refine hK _ _ trivial ?_
  clear hK K
  try simp only [pl, pn, el, ec, sz, ss, gz, gs, if_true, if_false, Bool.false_eq_true, Bool.not_true, Bool.not_false, Nat.add_zero, Nat.zero_add, Nat.reduceAdd]
  refine wpPi_assign _ rfl rfl ?_
  simp only [pl, pn, el, ec, sz, ss, gz, gs, if_true, if_false, Bool.false_eq_true, Bool.not_true, Bool.not_false, Nat.add_zero, Nat.zero_add, Nat.reduceAdd]
  refine wpPi_assign _ rfl rfl ?_
  simp only [pl, pn, el, ec, sz, ss, gz, gs, if_true, if_false, Bool.false_eq_true, Bool.not_true, Bool.not_false, Nat.add_zero, Nat.zero_add, Nat.reduceAdd]
  refine wpPi_nil ?_
  have h1 := h'.keep0 hM1
  have ho1 := ho.keep hM1 id id
  have hc := ho1.cell
  have k1 : w1.cell? ⟨w.heap.size, 1, none⟩ = some (.int .i64 sx) := by rw [cell_of_row _ _ _ _ _ _ hB0, c1]
  have k2 : w1.cell? ⟨w.heap.size, 2, none⟩ = some (.int .i64 dx) := by rw [cell_of_row _ _ _ _ _ _ hB0, c2]
  have kA := CellsAt.whole hB0
  have hc0 := hc.1; have hc1 := hc.2.1; have hc2 := hc.2.2.1
  clear hc hB0
  cases tw
  · go_upto_region 1 with (fail)
    refine wp_region_seq [3, 3, 1, 3, 1, 1, 3, 3] (fun _ => True) (by rfl) (by rfl) trivial ?_
    simp only [List.zip_cons_cons, List.zip_nil_right]
    refine wpPi_move _ rfl rfl ?_
    simp only [pl, pn, el, ec, sz, ss, gz, gs, if_true, if_false, Bool.false_eq_true, Bool.not_true, Bool.not_false, Nat.add_zero, Nat.zero_add, Nat.reduceAdd]
    refine wpPi_field _ _ _ _ _ _ rfl rfl rfl fo_38_1 ?_
    simp only [pl, pn, el, ec, sz, ss, gz, gs, if_true, if_false, Bool.false_eq_true, Bool.not_true, Bool.not_false, Nat.add_zero, Nat.zero_add, Nat.reduceAdd]
    refine wpPi_do rfl (fun K hK => ?_)
    refine wp_exec (exec_load1 3 _ (by rfl) w.heap.size 1 (by rfl) _ k1 _ Try.underlying3 rfl) ?_
    refine hK _ _ trivial ?_
    clear hK K
    try simp only [pl, pn, el, ec, sz, ss, gz, gs, if_true, if_false, Bool.false_eq_true, Bool.not_true, Bool.not_false, Nat.add_zero, Nat.zero_add, Nat.reduceAdd]
    refine wpPi_field _ _ _ _ _ _ rfl rfl rfl fo_38_2 ?_
    simp only [pl, pn, el, ec, sz, ss, gz, gs, if_true, if_false, Bool.false_eq_true, Bool.not_true, Bool.not_false, Nat.add_zero, Nat.zero_add, Nat.reduceAdd]
    refine wpPi_do rfl (fun K hK => ?_)
    refine wp_exec (exec_load1 3 _ (by rfl) w.heap.size 2 (by rfl) _ k2 _ Try.underlying3 rfl) ?_
    refine hK _ _ trivial ?_
    clear hK K
    try simp only [pl, pn, el, ec, sz, ss, gz, gs, if_true, if_false, Bool.false_eq_true, Bool.not_true, Bool.not_false, Nat.add_zero, Nat.zero_add, Nat.reduceAdd]
    refine wpPi_do rfl (fun K hK => ?_)
    go_wp2_with (go_at_call 44; refine (two44 br N.n sx dx w1 hc0).mono ?_; rintro _ w2 ⟨rfl, hw2⟩; obtain rfl := hw2.symm; rw [← HT.out])
    refine hK _ _ trivial ?_
    clear hK K
    try simp only [pl, pn, el, ec, sz, ss, gz, gs, if_true, if_false, Bool.false_eq_true, Bool.not_true, Bool.not_false, Nat.add_zero, Nat.zero_add, Nat.reduceAdd]
    refine wpPi_not _ _ _ rfl rfl rfl ?_
    simp only [pl, pn, el, ec, sz, ss, gz, gs, if_true, if_false, Bool.false_eq_true, Bool.not_true, Bool.not_false, Nat.add_zero, Nat.zero_add, Nat.reduceAdd]
    refine wpPi_assign _ rfl rfl ?_
    simp only [pl, pn, el, ec, sz, ss, gz, gs, if_true, if_false, Bool.false_eq_true, Bool.not_true, Bool.not_false, Nat.add_zero, Nat.zero_add, Nat.reduceAdd]
    refine wpPi_nil ?_
    go_wp2
    go_ret2
    have ht : twoB N.n l.src l.dst = false := by rw [← HSX.out, ← HDX.out]; exact HT.out.symm
    refine ⟨by simp [sendB, sendE, ht], ?_⟩
    rw [show sendN N l = N by simp [sendN, ht]]
    exact h'.step hM1
  · have ht : twoB N.n l.src l.dst = true := by rw [← HSX.out, ← HDX.out]; exact HT.out.symm
    go_upto_region 1 with (fail)
    refine wp_region_seq [3, 3, 1, 3, 1, 1, 3, 3] (fun _ => True) (by rfl) (by rfl) trivial ?_
    simp only [List.zip_cons_cons, List.zip_nil_right]
    refine wpPi_move _ rfl rfl ?_
    simp only [pl, pn, el, ec, sz, ss, gz, gs, if_true, if_false, Bool.false_eq_true, Bool.not_true, Bool.not_false, Nat.add_zero, Nat.zero_add, Nat.reduceAdd]
    refine wpPi_field _ _ _ _ _ _ rfl rfl rfl fo_38_1 ?_
    simp only [pl, pn, el, ec, sz, ss, gz, gs, if_true, if_false, Bool.false_eq_true, Bool.not_true, Bool.not_false, Nat.add_zero, Nat.zero_add, Nat.reduceAdd]
    refine wpPi_do rfl (fun K hK => ?_)
    refine wp_exec (exec_load1 3 _ (by rfl) w.heap.size 1 (by rfl) _ k1 _ Try.underlying3 rfl) ?_
    refine hK _ _ trivial ?_
    clear hK K
    try simp only [pl, pn, el, ec, sz, ss, gz, gs, if_true, if_false, Bool.false_eq_true, Bool.not_true, Bool.not_false, Nat.add_zero, Nat.zero_add, Nat.reduceAdd]
    refine wpPi_field _ _ _ _ _ _ rfl rfl rfl fo_38_2 ?_
    simp only [pl, pn, el, ec, sz, ss, gz, gs, if_true, if_false, Bool.false_eq_true, Bool.not_true, Bool.not_false, Nat.add_zero, Nat.zero_add, Nat.reduceAdd]
    refine wpPi_do rfl (fun K hK => ?_)
    refine wp_exec (exec_load1 3 _ (by rfl) w.heap.size 2 (by rfl) _ k2 _ Try.underlying3 rfl) ?_
    refine hK _ _ trivial ?_
    clear hK K
    try simp only [pl, pn, el, ec, sz, ss, gz, gs, if_true, if_false, Bool.false_eq_true, Bool.not_true, Bool.not_false, Nat.add_zero, Nat.zero_add, Nat.reduceAdd]
    refine wpPi_do rfl (fun K hK => ?_)
    go_wp2_with (go_at_call 44; refine (two44 br N.n sx dx w1 hc0).mono ?_; rintro _ w2 ⟨rfl, hw2⟩; obtain rfl := hw2.symm; rw [← HT.out])
    refine hK _ _ trivial ?_
    clear hK K
    try simp only [pl, pn, el, ec, sz, ss, gz, gs, if_true, if_false, Bool.false_eq_true, Bool.not_true, Bool.not_false, Nat.add_zero, Nat.zero_add, Nat.reduceAdd]
    refine wpPi_not _ _ _ rfl rfl rfl ?_
    simp only [pl, pn, el, ec, sz, ss, gz, gs, if_true, if_false, Bool.false_eq_true, Bool.not_true, Bool.not_false, Nat.add_zero, Nat.zero_add, Nat.reduceAdd]
    refine wpPi_assign _ rfl rfl ?_
    simp only [pl, pn, el, ec, sz, ss, gz, gs, if_true, if_false, Bool.false_eq_true, Bool.not_true, Bool.not_false, Nat.add_zero, Nat.zero_add, Nat.reduceAdd]
    refine wpPi_nil ?_
    cases op
    · have hcut : N.cut (l.src, l.dst) = true := by
        have h1 := HO.out
        rw [HSX.out, HDX.out] at h1
        simp [openB, ht] at h1; exact h1
      go_upto_region 3 with (fail)
      refine wp_region_seq [3, 3, 1, 3, 1, 1, 3, 3, 3, 3, 3, 0, 3, 3, 3, 3] (fun _ => True) (by rfl) (by rfl) trivial ?_
      simp only [List.zip_cons_cons, List.zip_nil_right]
      refine wpPi_move _ rfl rfl ?_
      simp only [pl, pn, el, ec, sz, ss, gz, gs, if_true, if_false, Bool.false_eq_true, Bool.not_true, Bool.not_false, Nat.add_zero, Nat.zero_add, Nat.reduceAdd]
      refine wpPi_field _ _ _ _ _ _ rfl rfl rfl fo_38_1 ?_
      simp only [pl, pn, el, ec, sz, ss, gz, gs, if_true, if_false, Bool.false_eq_true, Bool.not_true, Bool.not_false, Nat.add_zero, Nat.zero_add, Nat.reduceAdd]
      refine wpPi_do rfl (fun K hK => ?_)
      refine wp_exec (exec_load1 3 _ (by rfl) w.heap.size 1 (by rfl) _ k1 _ Try.underlying3 rfl) ?_
      refine hK _ _ trivial ?_
      clear hK K
      try simp only [pl, pn, el, ec, sz, ss, gz, gs, if_true, if_false, Bool.false_eq_true, Bool.not_true, Bool.not_false, Nat.add_zero, Nat.zero_add, Nat.reduceAdd]
      refine wpPi_field _ _ _ _ _ _ rfl rfl rfl fo_38_2 ?_
      simp only [pl, pn, el, ec, sz, ss, gz, gs, if_true, if_false, Bool.false_eq_true, Bool.not_true, Bool.not_false, Nat.add_zero, Nat.zero_add, Nat.reduceAdd]
      refine wpPi_do rfl (fun K hK => ?_)
      refine wp_exec (exec_load1 3 _ (by rfl) w.heap.size 2 (by rfl) _ k2 _ Try.underlying3 rfl) ?_
      refine hK _ _ trivial ?_
      clear hK K
      try simp only [pl, pn, el, ec, sz, ss, gz, gs, if_true, if_false, Bool.false_eq_true, Bool.not_true, Bool.not_false, Nat.add_zero, Nat.zero_add, Nat.reduceAdd]
      refine wpPi_do rfl (fun K hK => ?_)
      go_wp2_with (go_at_call 36; refine (refOpen_at h1 sx dx).mono ?_; rintro _ w2 ⟨rfl, hm2⟩; rw [← HO.out])
      refine hK _ _ trivial ?_
      clear hK K
      try simp only [pl, pn, el, ec, sz, ss, gz, gs, if_true, if_false, Bool.false_eq_true, Bool.not_true, Bool.not_false, Nat.add_zero, Nat.zero_add, Nat.reduceAdd]
      refine wpPi_not _ _ _ rfl rfl rfl ?_
      simp only [pl, pn, el, ec, sz, ss, gz, gs, if_true, if_false, Bool.false_eq_true, Bool.not_true, Bool.not_false, Nat.add_zero, Nat.zero_add, Nat.reduceAdd]
      refine wpPi_move _ rfl rfl ?_
      simp only [pl, pn, el, ec, sz, ss, gz, gs, if_true, if_false, Bool.false_eq_true, Bool.not_true, Bool.not_false, Nat.add_zero, Nat.zero_add, Nat.reduceAdd]
      refine wpPi_skip rfl ?_
      simp only [pl, pn, el, ec, sz, ss, gz, gs, if_true, if_false, Bool.false_eq_true, Bool.not_true, Bool.not_false, Nat.add_zero, Nat.zero_add, Nat.reduceAdd]
      refine wpPi_skip rfl ?_
      simp only [pl, pn, el, ec, sz, ss, gz, gs, if_true, if_false, Bool.false_eq_true, Bool.not_true, Bool.not_false, Nat.add_zero, Nat.zero_add, Nat.reduceAdd]
      refine wpPi_skip rfl ?_
      simp only [pl, pn, el, ec, sz, ss, gz, gs, if_true, if_false, Bool.false_eq_true, Bool.not_true, Bool.not_false, Nat.add_zero, Nat.zero_add, Nat.reduceAdd]
      refine wpPi_skip0 rfl ?_
      simp only [pl, pn, el, ec, sz, ss, gz, gs, if_true, if_false, Bool.false_eq_true, Bool.not_true, Bool.not_false, Nat.add_zero, Nat.zero_add, Nat.reduceAdd]
      refine wpPi_skip rfl ?_
      simp only [pl, pn, el, ec, sz, ss, gz, gs, if_true, if_false, Bool.false_eq_true, Bool.not_true, Bool.not_false, Nat.add_zero, Nat.zero_add, Nat.reduceAdd]
      refine wpPi_skip rfl ?_
      simp only [pl, pn, el, ec, sz, ss, gz, gs, if_true, if_false, Bool.false_eq_true, Bool.not_true, Bool.not_false, Nat.add_zero, Nat.zero_add, Nat.reduceAdd]
      refine wpPi_pick _ _ _ _ rfl rfl rfl ?_
      simp only [pl, pn, el, ec, sz, ss, gz, gs, if_true, if_false, Bool.false_eq_true, Bool.not_true, Bool.not_false, Nat.add_zero, Nat.zero_add, Nat.reduceAdd]
      refine wpPi_assign _ rfl rfl ?_
      simp only [pl, pn, el, ec, sz, ss, gz, gs, if_true, if_false, Bool.false_eq_true, Bool.not_true, Bool.not_false, Nat.add_zero, Nat.zero_add, Nat.reduceAdd]
      refine wpPi_nil ?_
      have h2 := h1.keep0 hm2
      have ho2 := ho1.keep hm2 id id
      have hcl := hm2.cell id hc1
      go_upto_region 4 with (fail)
      refine wp_region_seq [3, 3, 3, 1, 3, 3, 3, 1] (fun _ => True) (by rfl) (by rfl) trivial ?_
      simp only [List.zip_cons_cons, List.zip_nil_right]
      refine wpPi_move _ rfl rfl ?_
      simp only [pl, pn, el, ec, sz, ss, gz, gs, if_true, if_false, Bool.false_eq_true, Bool.not_true, Bool.not_false, Nat.add_zero, Nat.zero_add, Nat.reduceAdd]
      refine wpPi_nilCheck _ _ rfl rfl rfl ?_
      simp only [pl, pn, el, ec, sz, ss, gz, gs, if_true, if_false, Bool.false_eq_true, Bool.not_true, Bool.not_false, Nat.add_zero, Nat.zero_add, Nat.reduceAdd]
      refine wpPi_field _ _ _ _ _ _ rfl rfl rfl fo_46_1 ?_
      simp only [pl, pn, el, ec, sz, ss, gz, gs, if_true, if_false, Bool.false_eq_true, Bool.not_true, Bool.not_false, Nat.add_zero, Nat.zero_add, Nat.reduceAdd]
      refine wpPi_do rfl (fun K hK => ?_)
      refine wp_exec (exec_load1 3 _ (by rfl) br 1 (by rfl) _ hcl _ Try.underlying3 rfl) ?_
      refine hK _ _ trivial ?_
      clear hK K
      try simp only [pl, pn, el, ec, sz, ss, gz, gs, if_true, if_false, Bool.false_eq_true, Bool.not_true, Bool.not_false, Nat.add_zero, Nat.zero_add, Nat.reduceAdd]
      refine wpPi_add _ _ _ _ _ _ rfl rfl rfl rfl (by omega) (by omega) ?_
      simp only [pl, pn, el, ec, sz, ss, gz, gs, if_true, if_false, Bool.false_eq_true, Bool.not_true, Bool.not_false, Nat.add_zero, Nat.zero_add, Nat.reduceAdd]
      refine wpPi_nilCheck _ _ rfl rfl rfl ?_
      simp only [pl, pn, el, ec, sz, ss, gz, gs, if_true, if_false, Bool.false_eq_true, Bool.not_true, Bool.not_false, Nat.add_zero, Nat.zero_add, Nat.reduceAdd]
      refine wpPi_field _ _ _ _ _ _ rfl rfl rfl fo_46_1 ?_
      simp only [pl, pn, el, ec, sz, ss, gz, gs, if_true, if_false, Bool.false_eq_true, Bool.not_true, Bool.not_false, Nat.add_zero, Nat.zero_add, Nat.reduceAdd]
      refine wpPi_do rfl (fun K hK => ?_)
      refine wp_store1 3 _ _ br 1 (.int .i64 (N.lost + 1)) (by rfl) (by rfl) (by rfl) rfl (by kernel_rfl) _ _ ho2.obj (by show 1 < 4; omega) (fun w5 hb5 hm5 => ?_)
      refine hK _ _ trivial ?_
      clear hK K
      try simp only [pl, pn, el, ec, sz, ss, gz, gs, if_true, if_false, Bool.false_eq_true, Bool.not_true, Bool.not_false, Nat.add_zero, Nat.zero_add, Nat.reduceAdd]
      refine wpPi_nil ?_
      go_wp2
      go_ret2
      have hb : sendB N l = false := by simp [sendB, hcut]
      refine ⟨by simp [hb, sendE, ht], ?_⟩
      rw [show sendN N l = ⟨N.n, N.lost + 1, N.cut, N.ls⟩ by simp [sendN, ht, hb]]
      exact RStep.trans0 (hM1.trans0 hm2) (ref_lose h2 ho2 ((ha.keep0 hM1).keep0 hm2) hne hRr hRw hg _ hb5 hm5)
    · have hcut : N.cut (l.src, l.dst) = false := by
        have h1 := HO.out
        rw [HSX.out, HDX.out] at h1
        simp [openB, ht] at h1; exact h1
      obtain ⟨la, lc, hLv⟩ := ha.shape
      by_cases hfew : N.ls.length < 4096
      · skip
        go_upto_region 3 with (fail)
        refine wp_region_seq [3, 3, 1, 3, 1, 1, 3, 3, 3, 3, 3, 1, 3, 3, 3, 3] (fun _ => True) (by rfl) (by rfl) trivial ?_
        simp only [List.zip_cons_cons, List.zip_nil_right]
        refine wpPi_move _ rfl rfl ?_
        simp only [pl, pn, el, ec, sz, ss, gz, gs, if_true, if_false, Bool.false_eq_true, Bool.not_true, Bool.not_false, Nat.add_zero, Nat.zero_add, Nat.reduceAdd]
        refine wpPi_field _ _ _ _ _ _ rfl rfl rfl fo_38_1 ?_
        simp only [pl, pn, el, ec, sz, ss, gz, gs, if_true, if_false, Bool.false_eq_true, Bool.not_true, Bool.not_false, Nat.add_zero, Nat.zero_add, Nat.reduceAdd]
        refine wpPi_do rfl (fun K hK => ?_)
        refine wp_exec (exec_load1 3 _ (by rfl) w.heap.size 1 (by rfl) _ k1 _ Try.underlying3 rfl) ?_
        refine hK _ _ trivial ?_
        clear hK K
        try simp only [pl, pn, el, ec, sz, ss, gz, gs, if_true, if_false, Bool.false_eq_true, Bool.not_true, Bool.not_false, Nat.add_zero, Nat.zero_add, Nat.reduceAdd]
        refine wpPi_field _ _ _ _ _ _ rfl rfl rfl fo_38_2 ?_
        simp only [pl, pn, el, ec, sz, ss, gz, gs, if_true, if_false, Bool.false_eq_true, Bool.not_true, Bool.not_false, Nat.add_zero, Nat.zero_add, Nat.reduceAdd]
        refine wpPi_do rfl (fun K hK => ?_)
        refine wp_exec (exec_load1 3 _ (by rfl) w.heap.size 2 (by rfl) _ k2 _ Try.underlying3 rfl) ?_
        refine hK _ _ trivial ?_
        clear hK K
        try simp only [pl, pn, el, ec, sz, ss, gz, gs, if_true, if_false, Bool.false_eq_true, Bool.not_true, Bool.not_false, Nat.add_zero, Nat.zero_add, Nat.reduceAdd]
        refine wpPi_do rfl (fun K hK => ?_)
        go_wp2_with (go_at_call 36; refine (refOpen_at h1 sx dx).mono ?_; rintro _ w2 ⟨rfl, hm2⟩; rw [← HO.out])
        refine hK _ _ trivial ?_
        clear hK K
        try simp only [pl, pn, el, ec, sz, ss, gz, gs, if_true, if_false, Bool.false_eq_true, Bool.not_true, Bool.not_false, Nat.add_zero, Nat.zero_add, Nat.reduceAdd]
        refine wpPi_not _ _ _ rfl rfl rfl ?_
        simp only [pl, pn, el, ec, sz, ss, gz, gs, if_true, if_false, Bool.false_eq_true, Bool.not_true, Bool.not_false, Nat.add_zero, Nat.zero_add, Nat.reduceAdd]
        refine wpPi_move _ rfl rfl ?_
        simp only [pl, pn, el, ec, sz, ss, gz, gs, if_true, if_false, Bool.false_eq_true, Bool.not_true, Bool.not_false, Nat.add_zero, Nat.zero_add, Nat.reduceAdd]
        refine wpPi_move _ rfl rfl ?_
        simp only [pl, pn, el, ec, sz, ss, gz, gs, if_true, if_false, Bool.false_eq_true, Bool.not_true, Bool.not_false, Nat.add_zero, Nat.zero_add, Nat.reduceAdd]
        refine wpPi_nilCheck _ _ rfl rfl rfl ?_
        simp only [pl, pn, el, ec, sz, ss, gz, gs, if_true, if_false, Bool.false_eq_true, Bool.not_true, Bool.not_false, Nat.add_zero, Nat.zero_add, Nat.reduceAdd]
        refine wpPi_field _ _ _ _ _ _ rfl rfl rfl fo_46_2 ?_
        simp only [pl, pn, el, ec, sz, ss, gz, gs, if_true, if_false, Bool.false_eq_true, Bool.not_true, Bool.not_false, Nat.add_zero, Nat.zero_add, Nat.reduceAdd]
        refine wpPi_do rfl (fun K hK => ?_)
        refine wp_exec (exec_load1 43 _ (by rfl) br 2 (by rfl) _ (hLv ▸ hm2.cell id hc2) _ Try.underlying43 rfl) ?_
        refine hK _ _ trivial ?_
        clear hK K
        try simp only [pl, pn, el, ec, sz, ss, gz, gs, if_true, if_false, Bool.false_eq_true, Bool.not_true, Bool.not_false, Nat.add_zero, Nat.zero_add, Nat.reduceAdd]
        refine wpPi_len _ _ _ _ _ rfl rfl rfl (by kernel_rfl) ?_
        simp only [pl, pn, el, ec, sz, ss, gz, gs, if_true, if_false, Bool.false_eq_true, Bool.not_true, Bool.not_false, Nat.add_zero, Nat.zero_add, Nat.reduceAdd]
        refine wpPi_cmp _ _ _ _ _ _ _ _ rfl rfl rfl rfl rfl false (by simp only [cmpB]; simp; omega) ?_
        simp only [pl, pn, el, ec, sz, ss, gz, gs, if_true, if_false, Bool.false_eq_true, Bool.not_true, Bool.not_false, Nat.add_zero, Nat.zero_add, Nat.reduceAdd]
        refine wpPi_pick _ _ _ _ rfl rfl rfl ?_
        simp only [pl, pn, el, ec, sz, ss, gz, gs, if_true, if_false, Bool.false_eq_true, Bool.not_true, Bool.not_false, Nat.add_zero, Nat.zero_add, Nat.reduceAdd]
        refine wpPi_assign _ rfl rfl ?_
        simp only [pl, pn, el, ec, sz, ss, gz, gs, if_true, if_false, Bool.false_eq_true, Bool.not_true, Bool.not_false, Nat.add_zero, Nat.zero_add, Nat.reduceAdd]
        refine wpPi_nil ?_
        have h2 := h1.keep0 hm2
        have ho2 := ho1.keep hm2 id id
        have hc22 := hm2.cell id hc2
        have kA2 := kA.keep hm2 id
        have hlet2 := (hlet.keep0 hM1).keep0 hm2
        have ha2 := ((ha.keep0 hM1).keep0 hm2).monoQ (Q' := RQ w R br bw) (fun k _ hk => ⟨.inl hk.1, hk.2⟩)
        have hM2 := hM1.trans0 hm2
        go_upto_region 6 with (fail)
        have hS : w2.drew.cell? ⟨br, 2, none⟩ = some Lv ∧ CellsAt w2.drew w.heap.size 0 cs := ⟨hc22, kA2⟩
        refine wp_region_pi [(0, 3), (1, 3), (2, 3), (3, 3), (4, 0), (5, 0), (6, 1), (7, 1), (8, 1), (9, 3), (10, 3), (11, 2)] [11] (fun w' => w'.cell? ⟨br, 2, none⟩ = some Lv ∧ CellsAt w' w.heap.size 0 cs) (by kernel_rfl) (by kernel_rfl) (by kernel_rfl) (by kernel_rfl) (fun _ _ _ _ hd h => ⟨hd.trans h.1, h.2⟩) hS ?_
        simp only [List.map_cons, List.map_nil, List.getD_cons_zero, List.getD_cons_succ]
        refine wpPi_move _ rfl rfl ?_
        simp only [pl, pn, el, ec, sz, ss, gz, gs, if_true, if_false, Bool.false_eq_true, Bool.not_true, Bool.not_false, Nat.add_zero, Nat.zero_add, Nat.reduceAdd]
        refine wpPi_move _ rfl rfl ?_
        simp only [pl, pn, el, ec, sz, ss, gz, gs, if_true, if_false, Bool.false_eq_true, Bool.not_true, Bool.not_false, Nat.add_zero, Nat.zero_add, Nat.reduceAdd]
        refine wpPi_nilCheck _ _ rfl rfl rfl ?_
        simp only [pl, pn, el, ec, sz, ss, gz, gs, if_true, if_false, Bool.false_eq_true, Bool.not_true, Bool.not_false, Nat.add_zero, Nat.zero_add, Nat.reduceAdd]
        refine wpPi_field _ _ _ _ _ _ rfl rfl rfl fo_46_2 ?_
        simp only [pl, pn, el, ec, sz, ss, gz, gs, if_true, if_false, Bool.false_eq_true, Bool.not_true, Bool.not_false, Nat.add_zero, Nat.zero_add, Nat.reduceAdd]
        refine wpPi_val rfl (fun w' hS => exec_load1 _ _ rfl _ _ rfl _ hS.1 _ Try.underlying43 rfl) ?_
        simp only [pl, pn, el, ec, sz, ss, gz, gs, if_true, if_false, Bool.false_eq_true, Bool.not_true, Bool.not_false, Nat.add_zero, Nat.zero_add, Nat.reduceAdd]
        refine wpPi_val rfl (fun w' hS => exec_loadA _ _ rfl _ _ rfl _ hS.2 _ Try.underlying38 rfl 40 (by kernel_rfl) csz) ?_
        simp only [pl, pn, el, ec, sz, ss, gz, gs, if_true, if_false, Bool.false_eq_true, Bool.not_true, Bool.not_false, Nat.add_zero, Nat.zero_add, Nat.reduceAdd]
        refine wpPi_do rfl (fun K hK => ?_)
        go_wp2_with (go_at_call 30; refine (copyLetter_any own _ _ _ _ _ (hlet2.keep0 (Mod.refl _ _).drew) hok).mono ?_; rintro _ w3 ⟨_, rfl, hm3, cs', E3, G3, rfl, hl3, hE, hG, hEG⟩)
        replace hm3 := (Mod.refl NoB w2).drew.trans0 hm3
        replace hS := And.intro (hm3.cell id hc22) (kA2.keep hm3 id)
        have hM3 := hM2.trans0 hm3
        have hsd : w2.drew.heap.size = w2.heap.size := rfl
        have hs2 := hM2.size
        have hl4 : LetR false w3 (fun k => New w w3 k) (fun k => New w w3 k) cs' l := hl3.weak.mono (fun k hk => ⟨by have := (hE k hk).1; omega, (hE k hk).2⟩) (fun k hk => ⟨by have := (hG k hk).1; omega, (hG k hk).2⟩)
        refine hK _ _ hS ?_
        clear hK K hE hG hEG
        try simp only [pl, pn, el, ec, sz, ss, gz, gs, if_true, if_false, Bool.false_eq_true, Bool.not_true, Bool.not_false, Nat.add_zero, Nat.zero_add, Nat.reduceAdd]
        refine wpPi_do rfl (fun K hK => ?_)
        refine wp_buildSlice1 43 38 _ (.agg cs') ltrZero 40 (by rfl) (by rfl) Try.underlying43 (by kernel_rfl) (by omega) (by omega) hl4.size (fun w4 hb4 hm4 hs4 => ?_)
        replace hb4 : w4.heap[w3.heap.size]? = some (.cells cs' 38 (0, 0)) := hb4
        replace hS := And.intro (hm4.cell id hS.1) (hS.2.keep hm4 id)
        replace hl4 := (hl4.keep0 hm4).mono (fun k hk => (⟨hk.1, Nat.lt_of_lt_of_le hk.2 hm4.size⟩ : New w w4 k)) (fun k hk => (⟨hk.1, Nat.lt_of_lt_of_le hk.2 hm4.size⟩ : New w w4 k))
        have hM4 := hM3.trans0 hm4
        have ha4 := (ha2.keep0 hm3).keep0 hm4
        refine hK _ _ hS ?_
        clear hK K
        try simp only [pl, pn, el, ec, sz, ss, gz, gs, if_true, if_false, Bool.false_eq_true, Bool.not_true, Bool.not_false, Nat.add_zero, Nat.zero_add, Nat.reduceAdd]
        refine wpPi_do rfl (fun K hK => ?_)
        obtain ⟨css, g1, g2, g3⟩ := ha4
        refine wp_append _ _ 43 38 ltrZero 40 144 (by rfl) Try.underlying43 info38 (by rfl) (by omega) w0.heap.size Lv N.ls.length (css.flatMap Array.toList) (by rw [hLv]; rfl) g1 _ 1 cs'.toList (by rfl)
          (⟨by simp [hl4.size], _, _, rfl, fun _ => ⟨_, _, rfl, fun j x hx => by rw [Nat.zero_add, cell_of_row w4 _ _ _ _ _ hb4]; simpa using hx⟩⟩ : Src w4 40 _ 1 cs'.toList)
          (fun c hc => hl4.one c (by simpa using hc)) (by unfold maxLen; omega) (by omega) (by have := hM.size; have := hM4.size; omega) (fun v1 w5 hown hgrow hvv => ?_)
        have hmo : Mod (fun k => Lv.ownBlock = some k) w4 w5 := (Mod.refl _ _).grown hgrow (fun k hk _ => hk)
        have hnb : Lv.ownBlock ≠ some br := fun e => (hg br e).2.1 rfl
        have hnw : Lv.ownBlock ≠ some w.heap.size := fun e => by have := hlt _ (hg _ e).1; omega
        replace hS := And.intro (hmo.cell hnb hS.1) (hS.2.keep hmo hnw)
        have ho5 := ((hmo.obj hnb (hM4.obj id ho.obj)))
        refine hK _ _ hS ?_
        clear hK K
        try simp only [pl, pn, el, ec, sz, ss, gz, gs, if_true, if_false, Bool.false_eq_true, Bool.not_true, Bool.not_false, Nat.add_zero, Nat.zero_add, Nat.reduceAdd]
        refine wpPi_nilCheck _ _ rfl rfl rfl ?_
        simp only [pl, pn, el, ec, sz, ss, gz, gs, if_true, if_false, Bool.false_eq_true, Bool.not_true, Bool.not_false, Nat.add_zero, Nat.zero_add, Nat.reduceAdd]
        refine wpPi_field _ _ _ _ _ _ rfl rfl rfl fo_46_2 ?_
        simp only [pl, pn, el, ec, sz, ss, gz, gs, if_true, if_false, Bool.false_eq_true, Bool.not_true, Bool.not_false, Nat.add_zero, Nat.zero_add, Nat.reduceAdd]
        refine wpPi_last rfl (fun K hK => ?_)
        refine wp_store1 43 _ _ br 2 v1 (by rfl) (by rfl) (by rfl) (owns_one hown) (by kernel_rfl) _ _ ho5 (by show 2 < 4; omega) (fun w6 hb6 hm6 => ?_)
        refine hK _ _ ?_
        clear hK K
        try simp only [pl, pn, el, ec, sz, ss, gz, gs, if_true, if_false, Bool.false_eq_true, Bool.not_true, Bool.not_false, Nat.add_zero, Nat.zero_add, Nat.reduceAdd]
        refine wpPi_nil ?_
        go_wp2
        go_ret2
        have hb : sendB N l = true := by simp [sendB, ht, hcut, hfew]
        refine ⟨by simp [hb, sendE, ht], ?_⟩
        rw [show sendN N l = ⟨N.n, N.lost, N.cut, N.ls ++ [l]⟩ by simp [sendN, ht, hb]]
        exact ref_push h' ho hne hRr hRw hg hM4 g2 g3 hl4 hown hgrow hvv hb6 hm6 hfew hok
      · skip
        go_upto_region 3 with (fail)
        refine wp_region_seq [3, 3, 1, 3, 1, 1, 3, 3, 3, 3, 3, 1, 3, 3, 3, 3] (fun _ => True) (by rfl) (by rfl) trivial ?_
        simp only [List.zip_cons_cons, List.zip_nil_right]
        refine wpPi_move _ rfl rfl ?_
        simp only [pl, pn, el, ec, sz, ss, gz, gs, if_true, if_false, Bool.false_eq_true, Bool.not_true, Bool.not_false, Nat.add_zero, Nat.zero_add, Nat.reduceAdd]
        refine wpPi_field _ _ _ _ _ _ rfl rfl rfl fo_38_1 ?_
        simp only [pl, pn, el, ec, sz, ss, gz, gs, if_true, if_false, Bool.false_eq_true, Bool.not_true, Bool.not_false, Nat.add_zero, Nat.zero_add, Nat.reduceAdd]
        refine wpPi_do rfl (fun K hK => ?_)
        refine wp_exec (exec_load1 3 _ (by rfl) w.heap.size 1 (by rfl) _ k1 _ Try.underlying3 rfl) ?_
        refine hK _ _ trivial ?_
        clear hK K
        try simp only [pl, pn, el, ec, sz, ss, gz, gs, if_true, if_false, Bool.false_eq_true, Bool.not_true, Bool.not_false, Nat.add_zero, Nat.zero_add, Nat.reduceAdd]
        refine wpPi_field _ _ _ _ _ _ rfl rfl rfl fo_38_2 ?_
        simp only [pl, pn, el, ec, sz, ss, gz, gs, if_true, if_false, Bool.false_eq_true, Bool.not_true, Bool.not_false, Nat.add_zero, Nat.zero_add, Nat.reduceAdd]
        refine wpPi_do rfl (fun K hK => ?_)
        refine wp_exec (exec_load1 3 _ (by rfl) w.heap.size 2 (by rfl) _ k2 _ Try.underlying3 rfl) ?_
        refine hK _ _ trivial ?_
        clear hK K
        try simp only [pl, pn, el, ec, sz, ss, gz, gs, if_true, if_false, Bool.false_eq_true, Bool.not_true, Bool.not_false, Nat.add_zero, Nat.zero_add, Nat.reduceAdd]
        refine wpPi_do rfl (fun K hK => ?_)
        go_wp2_with (go_at_call 36; refine (refOpen_at h1 sx dx).mono ?_; rintro _ w2 ⟨rfl, hm2⟩; rw [← HO.out])
        refine hK _ _ trivial ?_
        clear hK K
        try simp only [pl, pn, el, ec, sz, ss, gz, gs, if_true, if_false, Bool.false_eq_true, Bool.not_true, Bool.not_false, Nat.add_zero, Nat.zero_add, Nat.reduceAdd]
        refine wpPi_not _ _ _ rfl rfl rfl ?_
        simp only [pl, pn, el, ec, sz, ss, gz, gs, if_true, if_false, Bool.false_eq_true, Bool.not_true, Bool.not_false, Nat.add_zero, Nat.zero_add, Nat.reduceAdd]
        refine wpPi_move _ rfl rfl ?_
        simp only [pl, pn, el, ec, sz, ss, gz, gs, if_true, if_false, Bool.false_eq_true, Bool.not_true, Bool.not_false, Nat.add_zero, Nat.zero_add, Nat.reduceAdd]
        refine wpPi_move _ rfl rfl ?_
        simp only [pl, pn, el, ec, sz, ss, gz, gs, if_true, if_false, Bool.false_eq_true, Bool.not_true, Bool.not_false, Nat.add_zero, Nat.zero_add, Nat.reduceAdd]
        refine wpPi_nilCheck _ _ rfl rfl rfl ?_
        simp only [pl, pn, el, ec, sz, ss, gz, gs, if_true, if_false, Bool.false_eq_true, Bool.not_true, Bool.not_false, Nat.add_zero, Nat.zero_add, Nat.reduceAdd]
        refine wpPi_field _ _ _ _ _ _ rfl rfl rfl fo_46_2 ?_
        simp only [pl, pn, el, ec, sz, ss, gz, gs, if_true, if_false, Bool.false_eq_true, Bool.not_true, Bool.not_false, Nat.add_zero, Nat.zero_add, Nat.reduceAdd]
        refine wpPi_do rfl (fun K hK => ?_)
        refine wp_exec (exec_load1 43 _ (by rfl) br 2 (by rfl) _ (hLv ▸ hm2.cell id hc2) _ Try.underlying43 rfl) ?_
        refine hK _ _ trivial ?_
        clear hK K
        try simp only [pl, pn, el, ec, sz, ss, gz, gs, if_true, if_false, Bool.false_eq_true, Bool.not_true, Bool.not_false, Nat.add_zero, Nat.zero_add, Nat.reduceAdd]
        refine wpPi_len _ _ _ _ _ rfl rfl rfl (by kernel_rfl) ?_
        simp only [pl, pn, el, ec, sz, ss, gz, gs, if_true, if_false, Bool.false_eq_true, Bool.not_true, Bool.not_false, Nat.add_zero, Nat.zero_add, Nat.reduceAdd]
        refine wpPi_cmp _ _ _ _ _ _ _ _ rfl rfl rfl rfl rfl true (by simp only [cmpB]; simp; omega) ?_
        simp only [pl, pn, el, ec, sz, ss, gz, gs, if_true, if_false, Bool.false_eq_true, Bool.not_true, Bool.not_false, Nat.add_zero, Nat.zero_add, Nat.reduceAdd]
        refine wpPi_pick _ _ _ _ rfl rfl rfl ?_
        simp only [pl, pn, el, ec, sz, ss, gz, gs, if_true, if_false, Bool.false_eq_true, Bool.not_true, Bool.not_false, Nat.add_zero, Nat.zero_add, Nat.reduceAdd]
        refine wpPi_assign _ rfl rfl ?_
        simp only [pl, pn, el, ec, sz, ss, gz, gs, if_true, if_false, Bool.false_eq_true, Bool.not_true, Bool.not_false, Nat.add_zero, Nat.zero_add, Nat.reduceAdd]
        refine wpPi_nil ?_
        have h2 := h1.keep0 hm2
        have ho2 := ho1.keep hm2 id id
        have hcl := hm2.cell id hc1
        go_upto_region 4 with (fail)
        refine wp_region_seq [3, 3, 3, 1, 3, 3, 3, 1] (fun _ => True) (by rfl) (by rfl) trivial ?_
        simp only [List.zip_cons_cons, List.zip_nil_right]
        refine wpPi_move _ rfl rfl ?_
        simp only [pl, pn, el, ec, sz, ss, gz, gs, if_true, if_false, Bool.false_eq_true, Bool.not_true, Bool.not_false, Nat.add_zero, Nat.zero_add, Nat.reduceAdd]
        refine wpPi_nilCheck _ _ rfl rfl rfl ?_
        simp only [pl, pn, el, ec, sz, ss, gz, gs, if_true, if_false, Bool.false_eq_true, Bool.not_true, Bool.not_false, Nat.add_zero, Nat.zero_add, Nat.reduceAdd]
        refine wpPi_field _ _ _ _ _ _ rfl rfl rfl fo_46_1 ?_
        simp only [pl, pn, el, ec, sz, ss, gz, gs, if_true, if_false, Bool.false_eq_true, Bool.not_true, Bool.not_false, Nat.add_zero, Nat.zero_add, Nat.reduceAdd]
        refine wpPi_do rfl (fun K hK => ?_)
        refine wp_exec (exec_load1 3 _ (by rfl) br 1 (by rfl) _ hcl _ Try.underlying3 rfl) ?_
        refine hK _ _ trivial ?_
        clear hK K
        try simp only [pl, pn, el, ec, sz, ss, gz, gs, if_true, if_false, Bool.false_eq_true, Bool.not_true, Bool.not_false, Nat.add_zero, Nat.zero_add, Nat.reduceAdd]
        refine wpPi_add _ _ _ _ _ _ rfl rfl rfl rfl (by omega) (by omega) ?_
        simp only [pl, pn, el, ec, sz, ss, gz, gs, if_true, if_false, Bool.false_eq_true, Bool.not_true, Bool.not_false, Nat.add_zero, Nat.zero_add, Nat.reduceAdd]
        refine wpPi_nilCheck _ _ rfl rfl rfl ?_
        simp only [pl, pn, el, ec, sz, ss, gz, gs, if_true, if_false, Bool.false_eq_true, Bool.not_true, Bool.not_false, Nat.add_zero, Nat.zero_add, Nat.reduceAdd]
        refine wpPi_field _ _ _ _ _ _ rfl rfl rfl fo_46_1 ?_
        simp only [pl, pn, el, ec, sz, ss, gz, gs, if_true, if_false, Bool.false_eq_true, Bool.not_true, Bool.not_false, Nat.add_zero, Nat.zero_add, Nat.reduceAdd]
        refine wpPi_do rfl (fun K hK => ?_)
        refine wp_store1 3 _ _ br 1 (.int .i64 (N.lost + 1)) (by rfl) (by rfl) (by rfl) rfl (by kernel_rfl) _ _ ho2.obj (by show 1 < 4; omega) (fun w5 hb5 hm5 => ?_)
        refine hK _ _ trivial ?_
        clear hK K
        try simp only [pl, pn, el, ec, sz, ss, gz, gs, if_true, if_false, Bool.false_eq_true, Bool.not_true, Bool.not_false, Nat.add_zero, Nat.zero_add, Nat.reduceAdd]
        refine wpPi_nil ?_
        go_wp2
        go_ret2
        have hb : sendB N l = false := by simp [sendB, hfew]
        refine ⟨by simp [hb, sendE, ht], ?_⟩
        rw [show sendN N l = ⟨N.n, N.lost + 1, N.cut, N.ls⟩ by simp [sendN, ht, hb]]
        exact RStep.trans0 (hM1.trans0 hm2) (ref_lose h2 ho2 ((ha.keep0 hM1).keep0 hm2) hne hRr hRw hg _ hb5 hm5)
end
end Go.Proofs.Ytdllpakdhnanbaa
