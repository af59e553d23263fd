/- The document's links: their memory; New, at, Has. -/
import Derived.Test.YtcfcahflkhgapaaGreatRfA
import Derived.Test.YtcfcahflkhgapaaGreatRfB
import Derived.Test.YtcfcahflkhgapaaGreatFixA
namespace Go.Proofs.YtcfcahflkhgapaaGreat
set_option linter.unusedSimpArgs false
set_option linter.unusedVariables false
set_option linter.unnecessarySimpa false
set_option linter.unusedSectionVars false
open Go.RowKit


theorem lex_lt : ∀ {x y : List UInt8} {n : Nat} (hx : n < x.length) (hy : n < y.length), x.take n = y.take n → x[n] < y[n] → x < y
  | a :: x, b :: y, 0, _, _, _, h => by
    exact List.cons_lt_cons_iff.2 (.inl h)
  | a :: x, b :: y, n + 1, hx, hy, ht, h => by
    simp only [List.take_succ_cons, List.cons.injEq] at ht
    exact List.cons_lt_cons_iff.2 (.inr ⟨ht.1, lex_lt (by simpa using hx) (by simpa using hy) ht.2 (by simpa using h)⟩)
theorem cmpI_less {x y : List UInt8} (h : x < y) : cmpI x y = -1 := by
  have h1 := (cmpI_neg x y).2 h
  rcases cmpI_lt x y with h2 | h2 | h2 <;> omega
theorem cmpI_more {x y : List UInt8} (h : y < x) : cmpI x y = 1 := by
  rcases cmpI_lt x y with h2 | h2 | h2
  · exact absurd ((cmpI_neg x y).1 (by omega)) (fun h3 => List.lt_irrefl _ (ltB_trans h h3))
  · rw [cmpI_zero] at h2; subst h2; exact absurd h (List.lt_irrefl _)
  · exact h2
def CmpRel (x y : List UInt8) (w0 : World) (v : Value) (w : World) : Prop := ∃ n : Nat, n ≤ 32 ∧ v = .int .i64 n ∧ x.take n = y.take n ∧ Mod NoB w0 w
theorem id_cell {w : World} {b : Nat} {x : List UInt8} {T : TypeId} (hB : w.heap[b]? = some (.cells (idCells x) T (0, 0))) {n : Nat} (h : n < x.length) : w.cell? ⟨b, n, none⟩ = some (.int .u8 (x[n].toNat : Int)) := by
  rw [cell_of_row _ _ _ _ _ _ hB]
  simp [idCells, h, byteV]
set_option maxRecDepth 10000 in
set_option maxHeartbeats 1000000 in
theorem refCompare_any (x y : List UInt8) (hx : x.length = 32) (hy : y.length = 32) (w : World) : Calls Tryz.prog 43 #[.agg (idCells x), .agg (idCells y)] w (RetM (.int .i64 (cmpI x y)) w) := by
  go_enter Tryz.func43, Tryz.ntmps43
  go_upto_region 0 with (fail)
  refine wp_region_seq [1, 1, 3] (fun _ => True) (by rfl) (by rfl) trivial ?_
  simp only [List.zip_cons_cons, List.zip_nil_right]
  refine wpPi_do rfl (fun K hK => ?_)
  refine wp_box 32 _ _ (by rfl) (by rfl) (fun w1 hB1 hm1 hs1 => ?_)
  replace hB1 : w1.heap[w.heap.size]? = some (.cells (idCells x) 32 (0, 0)) := hB1
  refine hK _ _ trivial ?_
  clear hK K
  try simp only [pl, pn, el, ec, sz, ss, gz, gs, if_true, if_false, Bool.false_eq_true, Bool.not_true, Bool.not_false, Nat.add_zero, Nat.zero_add, Nat.reduceAdd]
  refine wpPi_do rfl (fun K hK => ?_)
  refine wp_box 32 _ _ (by rfl) (by rfl) (fun w2 hB2 hm2 hs2 => ?_)
  replace hB2 : w2.heap[w1.heap.size]? = some (.cells (idCells y) 32 (0, 0)) := hB2
  refine hK _ _ trivial ?_
  clear hK K
  try simp only [pl, pn, el, ec, sz, ss, gz, gs, if_true, if_false, Bool.false_eq_true, Bool.not_true, Bool.not_false, Nat.add_zero, Nat.zero_add, Nat.reduceAdd]
  refine wpPi_assign _ rfl rfl ?_
  simp only [pl, pn, el, ec, sz, ss, gz, gs, if_true, if_false, Bool.false_eq_true, Bool.not_true, Bool.not_false, Nat.add_zero, Nat.zero_add, Nat.reduceAdd]
  refine wpPi_nil ?_
  have hM2 := hm1.trans0 hm2
  have hB1 := hm2.obj id hB1
  clear hm1 hm2 hs1 hs2
  go_wp2
  go_loopw [5] (CmpRel x y w2) (fun i _ => 32 - (intOf i).toNat)
  case atStart => exact ⟨0, by omega, rfl, rfl, Mod.refl _ _⟩
  case round =>
    rename World => wr
    obtain ⟨n, hn, rfl, hpre, hM⟩ := hrel
    by_cases hlt : n < 32
    · have hz : (n : Int) < 32 := by omega
      have hxn : n < x.length := by omega
      have hyn : n < y.length := by omega
      have h1 := id_cell (hM.obj id hB1) hxn
      have h2 := id_cell (hM.obj id hB2) hyn
      have e1 : x.take (n + 1) = x.take n ++ [x[n]] := List.take_succ_eq_append_getElem hxn
      have e2 : y.take (n + 1) = y.take n ++ [y[n]] := List.take_succ_eq_append_getElem hyn
      have hlx := @lex_lt x y n hxn hyn hpre
      have hly := @lex_lt y x n hyn hxn hpre.symm
      have heq : x[n] = y[n] → x.take (n + 1) = y.take (n + 1) := fun e => by rw [e1, e2, hpre, e]
      generalize x[n] = p at *
      generalize y[n] = q at *
      have HLX := Lib.hid hlx; have HLY := Lib.hid hly; have HEQ := Lib.hid heq
      clear hlx hly heq e1 e2 hpre
      go_upto_region 4 with (fail)
      have hS : Mod NoB wr wr.drew := (Mod.refl _ _).drew
      obtain ⟨t, ht⟩ : ∃ t, cmpB .lss (p.toNat : Int) (q.toNat : Int) = t := ⟨_, rfl⟩
      have HT := Lib.hid ht; clear ht
      refine wp_region_pi [(0, 3), (1, 3), (2, 0), (3, 3), (4, 3), (5, 0), (6, 3)] [] (fun w' => Mod NoB wr w') (by kernel_rfl) (by kernel_rfl) (by kernel_rfl) (by kernel_rfl) (fun _ _ _ _ hd h => ⟨hd.trans h.1, h.2⟩) hS ?_
      simp only [List.map_cons, List.map_nil, List.getD_cons_zero, List.getD_cons_succ]
      refine wpPi_move _ rfl rfl ?_
      simp only [pl, pn, el, ec, sz, ss, gz, gs, if_true, if_false, Bool.false_eq_true, Bool.not_true, Bool.not_false, Nat.add_zero, Nat.zero_add, Nat.reduceAdd]
      refine wpPi_indexA _ _ _ _ _ _ _ _ rfl rfl rfl rfl Tryz.underlying32 (n := 1) (by kernel_rfl) hlt ?_
      simp only [pl, pn, el, ec, sz, ss, gz, gs, if_true, if_false, Bool.false_eq_true, Bool.not_true, Bool.not_false, Nat.add_zero, Nat.zero_add, Nat.reduceAdd]
      refine wpPi_val rfl (fun w' hS => exec_load1 5 _ (by rfl) w.heap.size (n * 1) (by rfl) _ (by rw [Nat.mul_one]; exact hS.cell id h1) _ Tryz.underlying5 rfl) ?_
      simp only [pl, pn, el, ec, sz, ss, gz, gs, if_true, if_false, Bool.false_eq_true, Bool.not_true, Bool.not_false, Nat.add_zero, Nat.zero_add, Nat.reduceAdd]
      refine wpPi_move _ rfl rfl ?_
      simp only [pl, pn, el, ec, sz, ss, gz, gs, if_true, if_false, Bool.false_eq_true, Bool.not_true, Bool.not_false, Nat.add_zero, Nat.zero_add, Nat.reduceAdd]
      refine wpPi_indexA _ _ _ _ _ _ _ _ rfl rfl rfl rfl Tryz.underlying32 (n := 1) (by kernel_rfl) hlt ?_
      simp only [pl, pn, el, ec, sz, ss, gz, gs, if_true, if_false, Bool.false_eq_true, Bool.not_true, Bool.not_false, Nat.add_zero, Nat.zero_add, Nat.reduceAdd]
      refine wpPi_val rfl (fun w' hS => exec_load1 5 _ (by rfl) w1.heap.size (n * 1) (by rfl) _ (by rw [Nat.mul_one]; exact hS.cell id h2) _ Tryz.underlying5 rfl) ?_
      simp only [pl, pn, el, ec, sz, ss, gz, gs, if_true, if_false, Bool.false_eq_true, Bool.not_true, Bool.not_false, Nat.add_zero, Nat.zero_add, Nat.reduceAdd]
      refine wpPi_cmp _ _ _ _ _ _ _ _ rfl rfl rfl rfl rfl t HT.out ?_
      simp only [pl, pn, el, ec, sz, ss, gz, gs, if_true, if_false, Bool.false_eq_true, Bool.not_true, Bool.not_false, Nat.add_zero, Nat.zero_add, Nat.reduceAdd]
      refine wpPi_nil ?_
      cases t
      · have hnl : ¬ p.toNat < q.toNat := by have := HT.out; simpa [cmpB] using this
        go_upto_region 6 with (fail)
        have hS2 : Mod NoB wr wr.drew.drew := hS.drew
        obtain ⟨t, ht⟩ : ∃ t, cmpB .gtr (p.toNat : Int) (q.toNat : Int) = t := ⟨_, rfl⟩
        have HT2 := Lib.hid ht; clear ht
        refine wp_region_pi [(0, 3), (1, 3), (2, 0), (3, 3), (4, 3), (5, 0), (6, 3)] [] (fun w' => Mod NoB wr w') (by kernel_rfl) (by kernel_rfl) (by kernel_rfl) (by kernel_rfl) (fun _ _ _ _ hd h => ⟨hd.trans h.1, h.2⟩) hS2 ?_
        simp only [List.map_cons, List.map_nil, List.getD_cons_zero, List.getD_cons_succ]
        refine wpPi_move _ rfl rfl ?_
        simp only [pl, pn, el, ec, sz, ss, gz, gs, if_true, if_false, Bool.false_eq_true, Bool.not_true, Bool.not_false, Nat.add_zero, Nat.zero_add, Nat.reduceAdd]
        refine wpPi_indexA _ _ _ _ _ _ _ _ rfl rfl rfl rfl Tryz.underlying32 (n := 1) (by kernel_rfl) hlt ?_
        simp only [pl, pn, el, ec, sz, ss, gz, gs, if_true, if_false, Bool.false_eq_true, Bool.not_true, Bool.not_false, Nat.add_zero, Nat.zero_add, Nat.reduceAdd]
        refine wpPi_val rfl (fun w' hS => exec_load1 5 _ (by rfl) w.heap.size (n * 1) (by rfl) _ (by rw [Nat.mul_one]; exact hS.cell id h1) _ Tryz.underlying5 rfl) ?_
        simp only [pl, pn, el, ec, sz, ss, gz, gs, if_true, if_false, Bool.false_eq_true, Bool.not_true, Bool.not_false, Nat.add_zero, Nat.zero_add, Nat.reduceAdd]
        refine wpPi_move _ rfl rfl ?_
        simp only [pl, pn, el, ec, sz, ss, gz, gs, if_true, if_false, Bool.false_eq_true, Bool.not_true, Bool.not_false, Nat.add_zero, Nat.zero_add, Nat.reduceAdd]
        refine wpPi_indexA _ _ _ _ _ _ _ _ rfl rfl rfl rfl Tryz.underlying32 (n := 1) (by kernel_rfl) hlt ?_
        simp only [pl, pn, el, ec, sz, ss, gz, gs, if_true, if_false, Bool.false_eq_true, Bool.not_true, Bool.not_false, Nat.add_zero, Nat.zero_add, Nat.reduceAdd]
        refine wpPi_val rfl (fun w' hS => exec_load1 5 _ (by rfl) w1.heap.size (n * 1) (by rfl) _ (by rw [Nat.mul_one]; exact hS.cell id h2) _ Tryz.underlying5 rfl) ?_
        simp only [pl, pn, el, ec, sz, ss, gz, gs, if_true, if_false, Bool.false_eq_true, Bool.not_true, Bool.not_false, Nat.add_zero, Nat.zero_add, Nat.reduceAdd]
        refine wpPi_cmp _ _ _ _ _ _ _ _ rfl rfl rfl rfl rfl t HT2.out ?_
        simp only [pl, pn, el, ec, sz, ss, gz, gs, if_true, if_false, Bool.false_eq_true, Bool.not_true, Bool.not_false, Nat.add_zero, Nat.zero_add, Nat.reduceAdd]
        refine wpPi_nil ?_
        cases t
        · have hng : ¬ q.toNat < p.toNat := by have := HT2.out; simpa [cmpB] using this
          have e : p = q := UInt8.toNat_inj.1 (by omega)
          have hM' := hM.trans0 hS2
          clear hM hS hS2 h1 h2
          go_wp2
          go_roundw
          case rel => exact ⟨n + 1, by omega, by go_num, HEQ.out e, hM'⟩
          case measure => simp [intOf]; omega
        · have hg : q.toNat < p.toNat := by have := HT2.out; simpa [cmpB] using this
          have hc := cmpI_more (HLY.out hg)
          have hM' := (hM2.trans0 hM).trans0 hS2
          clear hM hS hS2 h1 h2
          go_wp2
          go_ret
          refine ⟨?_, hM'⟩
          first | rfl | (rw [hc]; rfl)
      · have hl : p.toNat < q.toNat := by have := HT.out; simpa [cmpB] using this
        have hc := cmpI_less (HLX.out hl)
        have hM' := (hM2.trans0 hM).trans0 hS
        clear hM hS h1 h2
        go_wp2
        go_ret
        refine ⟨?_, hM'⟩
        first | rfl | (rw [hc]; rfl)
    · have hz : ¬ (n : Int) < 32 := by omega
      obtain rfl : n = 32 := by omega
      have e : x = y := by rw [List.take_of_length_le (by omega), List.take_of_length_le (by omega)] at hpre; exact hpre
      have hc : cmpI x y = 0 := (cmpI_zero x y).2 e
      have hM' := hM2.trans0 hM
      clear hM hpre e
      go_wp2
      go_ret
      refine ⟨?_, hM'⟩
      first | rfl | (rw [hc]; rfl)

/-! ### The links' memory -/
def entCells (p : Key × Int) : Array Value := #[.string p.1.1] ++ idCells p.1.2 ++ #[.int .i64 p.2]
def EntC (cs : Array Value) (p : Key × Int) : Prop := cs = entCells p ∧ KeyOk p.1
def entL (p : Key × Int) : List Value := (entCells p).toList
theorem entCells_size {p : Key × Int} (h : KeyOk p.1) : (entCells p).size = 34 := by unfold entCells; have h : p.1.2.length = 32 := h; simp [idCells_size, h]
theorem entCells_at (p : Key × Int) : (entCells p)[0]? = some (.string p.1.1) := by
  unfold entCells
  rw [Array.getElem?_append_left (by simp; omega), Array.getElem?_append_left (by simp)]; rfl
theorem entCells_id {p : Key × Int} (h : KeyOk p.1) : (∀ j, j < (idCells p.1.2).size → (entCells p)[1 + j]? = (idCells p.1.2)[j]?) ∧ (entCells p)[33]? = some (.int .i64 p.2) := by
  have h : p.1.2.length = 32 := h
  constructor
  · intro j hj
    have hj' : j < 32 := by rw [idCells_size] at hj; omega
    unfold entCells
    rw [Array.getElem?_append_left (by simp [idCells_size]; omega), Array.getElem?_append_right (by simp)]
    simp
  · unfold entCells
    rw [Array.getElem?_append_right (by simp [idCells_size, h])]
    simp [idCells_size, h]
structure RAt (w0 w : World) (q : Value) (limit : Int) (r : LinkL) (R : Nat → Prop) : Prop where
  mod : Mod NoB w0 w
  ok : ∃ b v, q = .pointer (some ⟨b, 0, none⟩) ∧ w.heap[b]? = some (.cells #[.int .i64 limit, v] 56 (0, 0)) ∧ w.ownsRow w0.heap.size 61 34 v r.length (r.flatMap entL) ∧ R b ∧ ∀ g, v.ownBlock = some g → R g ∧ g ≠ b
  keys : ∀ p ∈ r, KeyOk p.1
  few : r.length ≤ 65536
  vals : ∀ p ∈ r, 0 ≤ p.2 ∧ p.2 ≤ 4096
  old : ∀ k, R k → w0.heap.size ≤ k
  lt : ∀ k, R k → k < w.heap.size
def RfStep (w0 w : World) (q : Value) (limit : Int) (R : Nat → Prop) (w' : World) (r : LinkL) : Prop := ∃ R', RAt w0 w' q limit r R' ∧ Mod R w w' ∧ ∀ k, R' k → R k ∨ New w w' k
section
variable {w0 w w' : World} {q : Value} {limit : Int} {r r' : LinkL} {R : Nat → Prop}
theorem owns_keep {S : Nat → Prop} {base e size n : Nat} {v : Value} {xs : List Value} (h : w.ownsRow base e size v n xs) (hm : Mod S w w') (hS : ∀ g, v.ownBlock = some g → ¬ S g) : w'.ownsRow base e size v n xs := by
  refine ⟨h.1, ?_⟩
  rcases h.2 with h | ⟨g, cap, cur, rfl, hb, hg, h1, h2, h3, h4⟩
  · exact .inl h
  · exact .inr ⟨g, cap, cur, rfl, hb, hm.obj (hS g rfl) hg, h1, h2, h3, h4⟩
theorem RAt.keep {S : Nat → Prop} (h : RAt w0 w q limit r R) (hm : Mod S w w') (hS : ∀ k, R k → ¬ S k) (hS0 : ∀ k, k < w0.heap.size → ¬ S k) : RAt w0 w' q limit r R := by
  obtain ⟨hM, ⟨b, v, rfl, hb, ho, hR, hg⟩, hk, hf, hv, hold, hlt⟩ := h
  exact ⟨hM.trans hm (fun k hk hs => hS0 k hk hs), ⟨b, v, rfl, hm.obj (hS b hR) hb, owns_keep ho hm (fun g h => hS g (hg g h).1), hR, hg⟩, hk, hf, hv, hold, fun k hk => Nat.lt_of_lt_of_le (hlt k hk) hm.size⟩
theorem RAt.keep0 (h : RAt w0 w q limit r R) (hm : Mod NoB w w') : RAt w0 w' q limit r R := h.keep hm (fun _ _ => id) (fun _ _ => id)
theorem RAt.step (h : RAt w0 w q limit r R) (hm : Mod NoB w w') : RfStep w0 w q limit R w' r := ⟨R, h.keep0 hm, hm.mono (fun _ _ h => False.elim h), fun k hk => .inl hk⟩
theorem RfStep.trans0 {w1 : World} (hm : Mod NoB w w1) (h : RfStep w0 w1 q limit R w' r') : RfStep w0 w q limit R w' r' := by
  obtain ⟨F', h1, h2, h3⟩ := h
  exact ⟨F', h1, (hm.mono (S' := R) (fun _ _ h => False.elim h)).trans h2 (fun _ _ h => h), fun k hk => (h3 k hk).imp id (fun hn => ⟨Nat.le_trans hm.size hn.1, hn.2⟩)⟩
theorem flat_ents (r : LinkL) : r.flatMap entL = (r.map entCells).flatMap Array.toList := by rw [List.flatMap_map]; rfl
/-- What is read of them. -/
theorem RAt.read (h : RAt w0 w q limit r R) : ∃ b a cap, q = .pointer (some ⟨b, 0, none⟩) ∧ w.cell? ⟨b, 0, none⟩ = some (.int .i64 limit) ∧ w.cell? ⟨b, 1, none⟩ = some (.slice a r.length cap) ∧ r.length ≤ cap ∧
    (∀ i, i < r.length → ∃ g off, a = some ⟨g, off, none⟩ ∧ ∀ i (h : i < r.length), CellsAt w g (off + i * 34) (entCells r[i])) := by
  obtain ⟨hM, ⟨b, v, rfl, hb, ho, hR, hg⟩, hk, hf, hv, hold, hlt⟩ := h
  have hsl := Sl.of_owns (R := EntC) (l := r) ho (flat_ents r) (fun c hc => by obtain ⟨p, hp, rfl⟩ := List.mem_map.1 hc; exact entCells_size (hk p hp)) ⟨by simp, fun i h1 h2 => ⟨by simp, hk _ (List.getElem_mem _)⟩⟩ rfl
  obtain ⟨a, cap, rfl, hl, hc, hat⟩ := hsl
  refine ⟨b, a, cap, rfl, by rw [cell_of_row _ _ _ _ _ _ hb]; rfl, by rw [cell_of_row _ _ _ _ _ _ hb]; rfl, hl, fun i hi => ?_⟩
  obtain ⟨g, off, ha, _, _, hc⟩ := hat (by rintro rfl; simp at hi)
  refine ⟨g, off, ha, fun j hj => ?_⟩
  obtain ⟨cs, _, ⟨rfl, _⟩, h⟩ := hc j hj
  exact h
end
end Go.Proofs.YtcfcahflkhgapaaGreat
