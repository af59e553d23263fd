/- The document's links: Forget, Unlink, Add, Mount. -/
import Derived.Test.YtcfcahflkhgapaaGreatRfF
namespace Go.Proofs.YtcfcahflkhgapaaGreat
set_option linter.unusedSimpArgs false
set_option linter.unusedVariables false
set_option linter.unnecessarySimpa false
set_option linter.unusedSectionVars false
open Go.RowKit


theorem entZ : (Tryz.prog.info? 61).bind (·.zero) = some (.agg (entCells ((⟨#[]⟩, List.replicate 32 0), 0))) := by kernel_rfl
theorem entP : placesOf Tryz.prog 61 = some [(0, 1), (1, 32), (33, 1)] := by kernel_rfl
theorem fill_ent (z : Array Value) (hz : z.size = 34) (s : ByteArray) (x : List UInt8) (hx : x.length = 32) (n : Int) :
    Instr.fill ([(0, 1), (1, 32), (33, 1)].toArray[·]?) z [(0, .string s), (1, .agg (idCells x)), (2, .int .i64 n)] = some (#[.string s] ++ idCells x ++ #[.int .i64 n]) := by
  have c1 : (Value.string s).cells = #[.string s] := rfl
  have c2 : (Value.agg (idCells x)).cells = idCells x := rfl
  have c3 : (Value.int .i64 n).cells = #[.int .i64 n] := rfl
  have s2 : (idCells x).size = 32 := by rw [idCells_size, hx]
  have s1 : (putRow z 0 #[.string s]).size = 34 := by rw [putRow_size (by simp; omega)]; exact hz
  have s3 : (putRow (putRow z 0 #[.string s]) 1 (idCells x)).size = 34 := by rw [putRow_size (by rw [s1, s2]; omega)]; exact s1
  rw [fill_cons (off := 0) (size := 1) rfl (by rw [c1]; rfl) (by omega), c1, fill_cons (off := 1) (size := 32) rfl (by rw [c2, s2]) (by omega), c2, fill_cons (off := 33) (size := 1) rfl (by rw [c3]; rfl) (by omega), c3, fill_nil]
  congr 1
  apply Array.toList_inj.1
  have hZ : z.toList.length = 34 := by simpa using hz
  have h2 : (idCells x).toList.length = 32 := by simpa using s2
  have e : ∀ (a : Array Value) (o : Nat) (c : Array Value), (putRow a o c).toList = a.toList.take o ++ c.toList ++ a.toList.drop (o + c.size) := fun _ _ _ => rfl
  rw [e, e, e, s2, Array.toList_append, Array.toList_append]
  generalize z.toList = Z at *
  generalize (idCells x).toList = I at *
  simp [List.take_append, List.drop_append, hZ, h2]
theorem built_ent {p : Key × Int} (h : KeyOk p.1) : Tryz.prog.built 61 [(0, .string p.1.1), (1, .agg (idCells p.1.2)), (2, .int .i64 p.2)] = some (entCells p) := by
  rw [built_struct entZ entP]
  exact fill_ent _ (by kernel_rfl) _ _ h _
theorem owns_slice {w : World} {base e sz n : Nat} {v : Value} {xs : List Value} (h : w.ownsRow base e sz v n xs) : ∃ a cap, v = .slice a n cap := by
  rcases h.2 with ⟨rfl, rfl⟩ | ⟨g, cap, cur, rfl, _⟩
  · exact ⟨_, _, rfl⟩
  · exact ⟨_, _, rfl⟩
section
variable {w0 w : World} {q : Value} {limit : Int} {r : LinkL} {R : Nat → Prop}
/-- The list's own field. -/
theorem RAt.own (h : RAt w0 w q limit r R) : ∃ b a cap, q = .pointer (some ⟨b, 0, none⟩) ∧ w.heap[b]? = some (.cells #[.int .i64 limit, .slice a r.length cap] 56 (0, 0)) ∧ w.ownsRow w0.heap.size 61 34 (.slice a r.length cap) r.length (r.flatMap entL) ∧ R b ∧ (∀ g, (Value.slice a r.length cap).ownBlock = some g → R g ∧ g ≠ b) ∧ r.length ≤ cap ∧ ∀ x, a = some x → ∃ g o, x = ⟨g, o, none⟩ := by
  obtain ⟨hM, ⟨b, v, rfl, hb, ho, hR, hg⟩, hk, hf, hv, hold, hlt⟩ := h
  rcases id ho.2 with ⟨rfl, h2⟩ | ⟨g, cap, cur, rfl, h1, h2, h3, h4⟩
  · have e : r.length = 0 := h2
    refine ⟨b, none, 0, rfl, by rw [e]; exact hb, by rw [e] at ho ⊢; exact ho, hR, fun g h => (nomatch h), by omega, fun x h => (nomatch h)⟩
  · exact ⟨b, some ⟨g, 0, none⟩, cap, rfl, hb, ho, hR, hg, h3, fun x h => ⟨g, 0, by cases h; rfl⟩⟩
def FgtRel (r : LinkL) (x : List UInt8) (w0 : World) (v i : Value) (w : World) : Prop := ∃ j : Nat, j ≤ r.length ∧ i = .int .i64 j ∧ w.ownsRow w0.heap.size 61 34 v (forgetL (r.take j) x).length ((forgetL (r.take j) x).flatMap entL) ∧ Mod NoB w0 w
theorem forget_take {r : LinkL} {x : List UInt8} {i : Nat} (h : i < r.length) : forgetL (r.take (i + 1)) x = if r[i].1.2 = x then forgetL (r.take i) x else forgetL (r.take i) x ++ [r[i]] := by
  unfold forgetL
  rw [List.take_succ_eq_append_getElem h, List.filter_append]
  split <;> rename_i hn <;> simp [hn]
set_option maxRecDepth 10000 in
set_option maxHeartbeats 2000000 in
theorem refForget_at (h : RAt w0 w q limit r R) (x : List UInt8) (hx : x.length = 32) : Calls Tryz.prog 15 #[q, .agg (idCells x)] w (fun e w' => e = .returned (.int .i64 (forgetN r x)) ∧ RfStep w0 w q limit R w' (forgetL r x)) := by
  have h0 := Lib.hid h
  obtain ⟨b, ra, rc, rfl, hbb, hown, hRb, hgb, hlc, -⟩ := h.own
  obtain ⟨_, _, _, e1, hlim, hLc, -, hat⟩ := h.read
  cases e1
  have hfew := h.few
  have hkeys := h.keys
  have hLb : w.cell? ⟨b, 1, none⟩ = some (.slice ra r.length rc) := by rw [cell_of_row _ _ _ _ _ _ hbb]; rfl
  rw [hLb] at hLc
  cases hLc
  have HA := Lib.hid hat; have HKY := Lib.hid hkeys; have HG := Lib.hid hgb
  clear hat hlim h hkeys hgb hown
  go_enter Tryz.func15, Tryz.ntmps15
  go_upto_region 0 with (fail)
  refine wp_region_seq [1, 3] (fun _ => True) (by rfl) (by rfl) trivial ?_
  simp only [List.zip_cons_cons, List.zip_nil_right]
  refine wpPi_do rfl (fun K hK => ?_)
  refine wp_box 32 _ _ (by rfl) (by rfl) (fun w1 hB1 hm1 hs1 => ?_)
  replace hB1 : w1.heap[w.heap.size]? = some (.cells (idCells x) 32 (0, 0)) := hB1
  refine hK _ _ trivial ?_
  clear hK K
  try simp only [pl, pn, el, ec, sz, ss, gz, gs, if_true, if_false, Bool.false_eq_true, Bool.not_true, Bool.not_false, Nat.add_zero, Nat.zero_add, Nat.reduceAdd]
  refine wpPi_assign _ rfl rfl ?_
  simp only [pl, pn, el, ec, sz, ss, gz, gs, if_true, if_false, Bool.false_eq_true, Bool.not_true, Bool.not_false, Nat.add_zero, Nat.zero_add, Nat.reduceAdd]
  refine wpPi_nil ?_
  have hLc := hm1.cell id hLb
  go_wp2
  go_loopw [5, 6] (FgtRel r x w1) (fun _ i _ => r.length - (intOf i).toNat)
  case atStart => exact ⟨0, by omega, rfl, ⟨rfl, .inl ⟨rfl, rfl⟩⟩, Mod.refl _ _⟩
  case round =>
    rename World => wr
    obtain ⟨i, hi, rfl, hacc, hM⟩ := hrel
    go_upto_region 3 with (fail)
    have hLc' := hM.cell id hLc
    have hbx : CellsAt wr w.heap.size 0 (idCells x) := (CellsAt.whole hB1).keep hM id
    by_cases hlt : i < r.length
    · have hz : (i : Int) < (r.length : Int) := by omega
      obtain ⟨g, off, rfl, hcells⟩ := HA.out i hlt
      have hc := ((hcells i hlt).keep hm1 id).keep hM id
      have hkn := HKY.out r[i] (List.getElem_mem hlt)
      have hsucc := forget_take (x := x) hlt
      have hlen : (forgetL (r.take i) x).length ≤ r.length := Nat.le_trans (List.length_filter_le _ _) (by simp; omega)
      generalize r[i] = p at *
      have hids : p.1.2.length = 32 := hkn
      have hcid : CellsAt wr g (off + i * 34 + 1) (idCells p.1.2) := fun j hj => by
        have h1 := (entCells_id hkn).1 j hj
        have hj2 : 1 + j < (entCells p).size := by rw [entCells_size hkn]; rw [idCells_size, hids] at hj; omega
        rw [← h1, ← hc (1 + j) hj2, Nat.add_assoc]
      have HSU := Lib.hid hsucc
      clear hsucc hcells
      refine wp_region_seq [3, 3, 3, 3, 1, 3, 3] (fun _ => True) (by rfl) (by rfl) trivial ?_
      simp only [List.zip_cons_cons, List.zip_nil_right]
      refine wpPi_move _ rfl rfl ?_
      simp only [pl, pn, el, ec, sz, ss, gz, gs, if_true, if_false, Bool.false_eq_true, Bool.not_true, Bool.not_false, Nat.add_zero, Nat.zero_add, Nat.reduceAdd]
      refine wpPi_move _ rfl rfl ?_
      simp only [pl, pn, el, ec, sz, ss, gz, gs, if_true, if_false, Bool.false_eq_true, Bool.not_true, Bool.not_false, Nat.add_zero, Nat.zero_add, Nat.reduceAdd]
      refine wpPi_nilCheck _ _ rfl rfl rfl ?_
      simp only [pl, pn, el, ec, sz, ss, gz, gs, if_true, if_false, Bool.false_eq_true, Bool.not_true, Bool.not_false, Nat.add_zero, Nat.zero_add, Nat.reduceAdd]
      refine wpPi_field _ _ _ _ _ _ rfl rfl rfl fo_56_1 ?_
      simp only [pl, pn, el, ec, sz, ss, gz, gs, if_true, if_false, Bool.false_eq_true, Bool.not_true, Bool.not_false, Nat.add_zero, Nat.zero_add, Nat.reduceAdd]
      refine wpPi_do rfl (fun K hK => ?_)
      refine wp_exec (exec_load1 54 _ (by rfl) b 1 (by rfl) _ hLc' _ Tryz.underlying54 rfl) ?_
      refine hK _ _ trivial ?_
      clear hK K
      try simp only [pl, pn, el, ec, sz, ss, gz, gs, if_true, if_false, Bool.false_eq_true, Bool.not_true, Bool.not_false, Nat.add_zero, Nat.zero_add, Nat.reduceAdd]
      refine wpPi_len _ _ _ _ _ rfl rfl rfl (by kernel_rfl) ?_
      simp only [pl, pn, el, ec, sz, ss, gz, gs, if_true, if_false, Bool.false_eq_true, Bool.not_true, Bool.not_false, Nat.add_zero, Nat.zero_add, Nat.reduceAdd]
      refine wpPi_cmp _ _ _ _ _ _ _ _ rfl rfl rfl rfl rfl true (decide_eq_true hz) ?_
      simp only [pl, pn, el, ec, sz, ss, gz, gs, if_true, if_false, Bool.false_eq_true, Bool.not_true, Bool.not_false, Nat.add_zero, Nat.zero_add, Nat.reduceAdd]
      refine wpPi_nil ?_
      go_upto_region 5 with (fail)
      have hS : Mod NoB wr wr.drew := (Mod.refl _ _).drew
      obtain ⟨t, ht⟩ : ∃ t, decide (p.1.2 ≠ x) = t := ⟨_, rfl⟩
      have HT := Lib.hid ht
      clear ht
      refine wp_region_pi [(0, 3), (1, 3), (2, 3), (3, 0), (4, 3), (5, 3), (6, 3), (7, 0), (8, 0), (9, 0)] [] (fun w' => Mod NoB wr w') (by kernel_rfl) (by kernel_rfl) (by kernel_rfl) (by kernel_rfl) (fun _ _ _ _ hd h => ⟨hd.trans h.1, h.2⟩) hS ?_
      simp only [List.map_cons, List.map_nil, List.getD_cons_zero, List.getD_cons_succ]
      refine wpPi_move _ rfl rfl ?_
      simp only [pl, pn, el, ec, sz, ss, gz, gs, if_true, if_false, Bool.false_eq_true, Bool.not_true, Bool.not_false, Nat.add_zero, Nat.zero_add, Nat.reduceAdd]
      refine wpPi_nilCheck _ _ rfl rfl rfl ?_
      simp only [pl, pn, el, ec, sz, ss, gz, gs, if_true, if_false, Bool.false_eq_true, Bool.not_true, Bool.not_false, Nat.add_zero, Nat.zero_add, Nat.reduceAdd]
      refine wpPi_field _ _ _ _ _ _ rfl rfl rfl fo_56_1 ?_
      simp only [pl, pn, el, ec, sz, ss, gz, gs, if_true, if_false, Bool.false_eq_true, Bool.not_true, Bool.not_false, Nat.add_zero, Nat.zero_add, Nat.reduceAdd]
      refine wpPi_val rfl (fun w' hS => exec_load1 54 _ (by rfl) b 1 (by rfl) _ (hS.cell id hLc') _ Tryz.underlying54 rfl) ?_
      simp only [pl, pn, el, ec, sz, ss, gz, gs, if_true, if_false, Bool.false_eq_true, Bool.not_true, Bool.not_false, Nat.add_zero, Nat.zero_add, Nat.reduceAdd]
      refine wpPi_move _ rfl rfl ?_
      simp only [pl, pn, el, ec, sz, ss, gz, gs, if_true, if_false, Bool.false_eq_true, Bool.not_true, Bool.not_false, Nat.add_zero, Nat.zero_add, Nat.reduceAdd]
      refine wpPi_index _ _ _ _ _ _ _ _ _ rfl rfl rfl rfl Tryz.underlying54 (n := 34) (by kernel_rfl) hlt ?_
      simp only [pl, pn, el, ec, sz, ss, gz, gs, if_true, if_false, Bool.false_eq_true, Bool.not_true, Bool.not_false, Nat.add_zero, Nat.zero_add, Nat.reduceAdd]
      refine wpPi_field _ _ _ _ _ _ rfl rfl rfl fo_61_1 ?_
      simp only [pl, pn, el, ec, sz, ss, gz, gs, if_true, if_false, Bool.false_eq_true, Bool.not_true, Bool.not_false, Nat.add_zero, Nat.zero_add, Nat.reduceAdd]
      refine wpPi_val rfl (fun w' hS => exec_loadA 32 _ (by rfl) g (off + i * 34 + 1) (by rfl) (idCells p.1.2) (hcid.keep hS id) _ Tryz.underlying32 rfl 32 (by kernel_rfl) (by rw [idCells_size]; exact hids)) ?_
      simp only [pl, pn, el, ec, sz, ss, gz, gs, if_true, if_false, Bool.false_eq_true, Bool.not_true, Bool.not_false, Nat.add_zero, Nat.zero_add, Nat.reduceAdd]
      refine wpPi_val rfl (fun w' hS => exec_loadA 32 _ (by rfl) w.heap.size 0 (by rfl) (idCells x) (hbx.keep hS id) _ Tryz.underlying32 rfl 32 (by kernel_rfl) (by rw [idCells_size]; exact hx)) ?_
      simp only [pl, pn, el, ec, sz, ss, gz, gs, if_true, if_false, Bool.false_eq_true, Bool.not_true, Bool.not_false, Nat.add_zero, Nat.zero_add, Nat.reduceAdd]
      refine wpPi_val rfl (fun w' hS => exec_neq_id _ _ _ _ rfl _ _ rfl rfl 32 5 Tryz.underlying32 Tryz.underlying5 (by kernel_rfl) (by kernel_rfl) hids hx t HT.out) ?_
      simp only [pl, pn, el, ec, sz, ss, gz, gs, if_true, if_false, Bool.false_eq_true, Bool.not_true, Bool.not_false, Nat.add_zero, Nat.zero_add, Nat.reduceAdd]
      refine wpPi_nil ?_
      replace hM := hM.trans0 hS
      replace hLc' := hS.cell id hLc'
      replace hc := hc.keep hS id
      replace hacc := ownsRow_mod hacc hS (fun _ _ => id)
      clear hS hcid hbx
      generalize wr.drew = wy at *
      cases t
      · have e : p.1.2 = x := by have := of_decide_eq_false HT.out; simpa using this
        go_wp2
        go_roundw
        case rel => exact ⟨i + 1, by omega, by go_num, by rw [HSU.out, if_pos e]; exact hacc, hM⟩
        case measure => simp [intOf]; omega
      · have e : ¬ p.1.2 = x := of_decide_eq_true HT.out
        go_upto_region 6 with (fail)
        refine wp_region_seq [3, 3, 3, 3, 1, 3, 3, 1, 1, 1, 3] (fun _ => True) (by rfl) (by rfl) trivial ?_
        simp only [List.zip_cons_cons, List.zip_nil_right]
        refine wpPi_move _ rfl rfl ?_
        simp only [pl, pn, el, ec, sz, ss, gz, gs, if_true, if_false, Bool.false_eq_true, Bool.not_true, Bool.not_false, Nat.add_zero, Nat.zero_add, Nat.reduceAdd]
        refine wpPi_move _ rfl rfl ?_
        simp only [pl, pn, el, ec, sz, ss, gz, gs, if_true, if_false, Bool.false_eq_true, Bool.not_true, Bool.not_false, Nat.add_zero, Nat.zero_add, Nat.reduceAdd]
        refine wpPi_nilCheck _ _ rfl rfl rfl ?_
        simp only [pl, pn, el, ec, sz, ss, gz, gs, if_true, if_false, Bool.false_eq_true, Bool.not_true, Bool.not_false, Nat.add_zero, Nat.zero_add, Nat.reduceAdd]
        refine wpPi_field _ _ _ _ _ _ rfl rfl rfl fo_56_1 ?_
        simp only [pl, pn, el, ec, sz, ss, gz, gs, if_true, if_false, Bool.false_eq_true, Bool.not_true, Bool.not_false, Nat.add_zero, Nat.zero_add, Nat.reduceAdd]
        refine wpPi_do rfl (fun K hK => ?_)
        refine wp_exec (exec_load1 54 _ (by rfl) b 1 (by rfl) _ hLc' _ Tryz.underlying54 rfl) ?_
        refine hK _ _ trivial ?_
        clear hK K
        try simp only [pl, pn, el, ec, sz, ss, gz, gs, if_true, if_false, Bool.false_eq_true, Bool.not_true, Bool.not_false, Nat.add_zero, Nat.zero_add, Nat.reduceAdd]
        refine wpPi_move _ rfl rfl ?_
        simp only [pl, pn, el, ec, sz, ss, gz, gs, if_true, if_false, Bool.false_eq_true, Bool.not_true, Bool.not_false, Nat.add_zero, Nat.zero_add, Nat.reduceAdd]
        refine wpPi_index _ _ _ _ _ _ _ _ _ rfl rfl rfl rfl Tryz.underlying54 (n := 34) (by kernel_rfl) hlt ?_
        simp only [pl, pn, el, ec, sz, ss, gz, gs, if_true, if_false, Bool.false_eq_true, Bool.not_true, Bool.not_false, Nat.add_zero, Nat.zero_add, Nat.reduceAdd]
        refine wpPi_do rfl (fun K hK => ?_)
        refine wp_exec (exec_loadA 61 _ (by rfl) g (off + i * 34) (by rfl) (entCells p) hc _ Tryz.underlying61 rfl 34 (by kernel_rfl) (entCells_size hkn)) ?_
        refine hK _ _ trivial ?_
        clear hK K
        try simp only [pl, pn, el, ec, sz, ss, gz, gs, if_true, if_false, Bool.false_eq_true, Bool.not_true, Bool.not_false, Nat.add_zero, Nat.zero_add, Nat.reduceAdd]
        refine wpPi_do rfl (fun K hK => ?_)
        refine wp_buildSlice1 54 61 _ (.agg (entCells p)) (.agg (entCells ((⟨#[]⟩, List.replicate 32 0), 0))) 34 (by rfl) (by rfl) Tryz.underlying54 (by kernel_rfl) (by omega) (by omega) (entCells_size hkn) (fun w6 hB6 hm6 hs6 => ?_)
        replace hB6 : w6.heap[wy.heap.size]? = some (.cells (entCells p) 61 (0, 0)) := hB6
        refine hK _ _ trivial ?_
        clear hK K
        try simp only [pl, pn, el, ec, sz, ss, gz, gs, if_true, if_false, Bool.false_eq_true, Bool.not_true, Bool.not_false, Nat.add_zero, Nat.zero_add, Nat.reduceAdd]
        refine wpPi_do rfl (fun K hK => ?_)
        have hrow6 := ownsRow_mod hacc hm6 (fun _ _ => id)
        have hs6' := hm6.size
        have hMs := hM.size
        refine wp_append _ _ 54 61 (.agg (entCells ((⟨#[]⟩, List.replicate 32 0), 0))) 34 56 (by rfl) Tryz.underlying54 entry_i (by kernel_rfl) (by omega) w1.heap.size _ _ _ (by rfl) hrow6 (.slice (some ⟨wy.heap.size, 0, none⟩) 1 1) 1 (entL p) (by rfl) ⟨by simp [entL, entCells_size hkn], _, _, rfl, fun _ => ⟨wy.heap.size, 0, rfl, fun j z hj => ?_⟩⟩ (entL_one p) (by unfold maxLen; omega) (by omega) (by omega) (fun v' w7 hrow7 hg7 hv7 => ?_)
        · have : (entCells p)[j]? = some z := by simpa [entL] using hj
          exact (CellsAt.whole hB6).cell this
        refine hK _ _ trivial ?_
        clear hK K
        try simp only [pl, pn, el, ec, sz, ss, gz, gs, if_true, if_false, Bool.false_eq_true, Bool.not_true, Bool.not_false, Nat.add_zero, Nat.zero_add, Nat.reduceAdd]
        refine wpPi_assign _ rfl rfl ?_
        simp only [pl, pn, el, ec, sz, ss, gz, gs, if_true, if_false, Bool.false_eq_true, Bool.not_true, Bool.not_false, Nat.add_zero, Nat.zero_add, Nat.reduceAdd]
        refine wpPi_nil ?_
        have hM6 := hM.trans0 hm6
        have hm7 : Mod (fun j => Value.ownBlock _ = some j) w6 w7 := (Mod.refl _ _).grown hg7 (fun k hk _ => hk)
        have hM7 : Mod NoB w1 w7 := hM6.trans hm7 (fun k hk e => by have := (hacc.lt k e).1; omega)
        have HR : Hid (FgtRel r x w1 v' (.int .i64 ((i : Int) + 1)) w7) := ⟨i + 1, by omega, by go_num, by rw [HSU.out, if_neg e]; simpa using hrow7, hM7⟩
        clear hM7 hm7 hrow7 hg7 hv7 hacc hM6 hM e
        go_wp2
        go_roundw
        case rel => exact HR.out
        case measure => simp [intOf]; omega
    · have hz : ¬ (i : Int) < (r.length : Int) := by omega
      rw [List.take_of_length_le (by omega)] at hacc
      have hflen := forget_length r x
      have hM1 := hm1.trans0 hM
      have hbr := hM1.obj id hbb
      have hn : (r.length : Int) - ((forgetL r x).length : Int) = (forgetN r x : Int) := by omega
      have hk' : ∀ p ∈ forgetL r x, KeyOk p.1 := fun p hp => h0.out.keys p (List.mem_filter.1 hp).1
      have hv' : ∀ p ∈ forgetL r x, 0 ≤ p.2 ∧ p.2 ≤ 4096 := fun p hp => h0.out.vals p (List.mem_filter.1 hp).1
      have HKV := Lib.hid (And.intro hk' hv')
      clear hk' hv'
      obtain ⟨rl, hrl⟩ : ∃ rl, forgetL r x = rl := ⟨_, rfl⟩
      obtain ⟨fn, hfn⟩ : ∃ fn, forgetN r x = fn := ⟨_, rfl⟩
      rw [hrl] at hacc hn hflen HKV
      rw [hfn] at hn hflen
      have HRL := Lib.hid hrl
      have HFN := Lib.hid hfn
      clear hrl hfn
      obtain ⟨va, vc, rfl⟩ := owns_slice hacc
      have HN := Lib.hid hn
      clear hn
      refine wp_region_seq [3, 3, 3, 3, 1, 3, 3] (fun _ => True) (by rfl) (by rfl) trivial ?_
      simp only [List.zip_cons_cons, List.zip_nil_right]
      refine wpPi_move _ rfl rfl ?_
      simp only [pl, pn, el, ec, sz, ss, gz, gs, if_true, if_false, Bool.false_eq_true, Bool.not_true, Bool.not_false, Nat.add_zero, Nat.zero_add, Nat.reduceAdd]
      refine wpPi_move _ rfl rfl ?_
      simp only [pl, pn, el, ec, sz, ss, gz, gs, if_true, if_false, Bool.false_eq_true, Bool.not_true, Bool.not_false, Nat.add_zero, Nat.zero_add, Nat.reduceAdd]
      refine wpPi_nilCheck _ _ rfl rfl rfl ?_
      simp only [pl, pn, el, ec, sz, ss, gz, gs, if_true, if_false, Bool.false_eq_true, Bool.not_true, Bool.not_false, Nat.add_zero, Nat.zero_add, Nat.reduceAdd]
      refine wpPi_field _ _ _ _ _ _ rfl rfl rfl fo_56_1 ?_
      simp only [pl, pn, el, ec, sz, ss, gz, gs, if_true, if_false, Bool.false_eq_true, Bool.not_true, Bool.not_false, Nat.add_zero, Nat.zero_add, Nat.reduceAdd]
      refine wpPi_do rfl (fun K hK => ?_)
      refine wp_exec (exec_load1 54 _ (by rfl) b 1 (by rfl) _ hLc' _ Tryz.underlying54 rfl) ?_
      refine hK _ _ trivial ?_
      clear hK K
      try simp only [pl, pn, el, ec, sz, ss, gz, gs, if_true, if_false, Bool.false_eq_true, Bool.not_true, Bool.not_false, Nat.add_zero, Nat.zero_add, Nat.reduceAdd]
      refine wpPi_len _ _ _ _ _ rfl rfl rfl (by kernel_rfl) ?_
      simp only [pl, pn, el, ec, sz, ss, gz, gs, if_true, if_false, Bool.false_eq_true, Bool.not_true, Bool.not_false, Nat.add_zero, Nat.zero_add, Nat.reduceAdd]
      refine wpPi_cmp _ _ _ _ _ _ _ _ rfl rfl rfl rfl rfl false (decide_eq_false hz) ?_
      simp only [pl, pn, el, ec, sz, ss, gz, gs, if_true, if_false, Bool.false_eq_true, Bool.not_true, Bool.not_false, Nat.add_zero, Nat.zero_add, Nat.reduceAdd]
      refine wpPi_nil ?_
      go_upto_region 7 with (fail)
      refine wp_region_seq [3, 3, 3, 1, 3, 3, 3, 3, 3] (fun _ => True) (by rfl) (by rfl) trivial ?_
      simp only [List.zip_cons_cons, List.zip_nil_right]
      refine wpPi_move _ rfl rfl ?_
      simp only [pl, pn, el, ec, sz, ss, gz, gs, if_true, if_false, Bool.false_eq_true, Bool.not_true, Bool.not_false, Nat.add_zero, Nat.zero_add, Nat.reduceAdd]
      refine wpPi_nilCheck _ _ rfl rfl rfl ?_
      simp only [pl, pn, el, ec, sz, ss, gz, gs, if_true, if_false, Bool.false_eq_true, Bool.not_true, Bool.not_false, Nat.add_zero, Nat.zero_add, Nat.reduceAdd]
      refine wpPi_field _ _ _ _ _ _ rfl rfl rfl fo_56_1 ?_
      simp only [pl, pn, el, ec, sz, ss, gz, gs, if_true, if_false, Bool.false_eq_true, Bool.not_true, Bool.not_false, Nat.add_zero, Nat.zero_add, Nat.reduceAdd]
      refine wpPi_do rfl (fun K hK => ?_)
      refine wp_exec (exec_load1 54 _ (by rfl) b 1 (by rfl) _ hLc' _ Tryz.underlying54 rfl) ?_
      refine hK _ _ trivial ?_
      clear hK K
      try simp only [pl, pn, el, ec, sz, ss, gz, gs, if_true, if_false, Bool.false_eq_true, Bool.not_true, Bool.not_false, Nat.add_zero, Nat.zero_add, Nat.reduceAdd]
      refine wpPi_len _ _ _ _ _ rfl rfl rfl (by kernel_rfl) ?_
      simp only [pl, pn, el, ec, sz, ss, gz, gs, if_true, if_false, Bool.false_eq_true, Bool.not_true, Bool.not_false, Nat.add_zero, Nat.zero_add, Nat.reduceAdd]
      refine wpPi_move _ rfl rfl ?_
      simp only [pl, pn, el, ec, sz, ss, gz, gs, if_true, if_false, Bool.false_eq_true, Bool.not_true, Bool.not_false, Nat.add_zero, Nat.zero_add, Nat.reduceAdd]
      refine wpPi_len _ _ _ _ _ rfl rfl rfl (by kernel_rfl) ?_
      simp only [pl, pn, el, ec, sz, ss, gz, gs, if_true, if_false, Bool.false_eq_true, Bool.not_true, Bool.not_false, Nat.add_zero, Nat.zero_add, Nat.reduceAdd]
      refine wpPi_subR _ _ _ _ (r.length : Int) (rl.length : Int) (fn : Int) rfl rfl rfl rfl HN.out (by omega) (by omega) ?_
      simp only [pl, pn, el, ec, sz, ss, gz, gs, if_true, if_false, Bool.false_eq_true, Bool.not_true, Bool.not_false, Nat.add_zero, Nat.zero_add, Nat.reduceAdd]
      refine wpPi_assign _ rfl rfl ?_
      simp only [pl, pn, el, ec, sz, ss, gz, gs, if_true, if_false, Bool.false_eq_true, Bool.not_true, Bool.not_false, Nat.add_zero, Nat.zero_add, Nat.reduceAdd]
      refine wpPi_nil ?_
      go_upto_region 8 with (fail)
      refine wp_region_seq [3, 3, 3, 3, 1] (fun _ => True) (by rfl) (by rfl) trivial ?_
      simp only [List.zip_cons_cons, List.zip_nil_right]
      refine wpPi_move _ rfl rfl ?_
      simp only [pl, pn, el, ec, sz, ss, gz, gs, if_true, if_false, Bool.false_eq_true, Bool.not_true, Bool.not_false, Nat.add_zero, Nat.zero_add, Nat.reduceAdd]
      refine wpPi_move _ rfl rfl ?_
      simp only [pl, pn, el, ec, sz, ss, gz, gs, if_true, if_false, Bool.false_eq_true, Bool.not_true, Bool.not_false, Nat.add_zero, Nat.zero_add, Nat.reduceAdd]
      refine wpPi_nilCheck _ _ rfl rfl rfl ?_
      simp only [pl, pn, el, ec, sz, ss, gz, gs, if_true, if_false, Bool.false_eq_true, Bool.not_true, Bool.not_false, Nat.add_zero, Nat.zero_add, Nat.reduceAdd]
      refine wpPi_field _ _ _ _ _ _ rfl rfl rfl fo_56_1 ?_
      simp only [pl, pn, el, ec, sz, ss, gz, gs, if_true, if_false, Bool.false_eq_true, Bool.not_true, Bool.not_false, Nat.add_zero, Nat.zero_add, Nat.reduceAdd]
      refine wpPi_do rfl (fun K hK => ?_)
      refine wp_store1 54 _ _ b 1 (.slice va rl.length vc) (by rfl) (by rfl) (by rfl) rfl (by kernel_rfl) _ _ hbr (by simp) (fun w7 hB7 hm7 => ?_)
      refine hK _ _ trivial ?_
      clear hK K
      try simp only [pl, pn, el, ec, sz, ss, gz, gs, if_true, if_false, Bool.false_eq_true, Bool.not_true, Bool.not_false, Nat.add_zero, Nat.zero_add, Nat.reduceAdd]
      refine wpPi_nil ?_
      have hs1 := hm1.size
      have HR : Hid (RfStep w0 w (.pointer (some ⟨b, 0, none⟩)) limit R w7 rl) := RfStep.mk h0.out hRb (owns_base hacc (Nat.le_trans h0.out.mod.size hs1)) (fun g e => by
        have h1 := hacc.lt g e
        have h2 := h0.out.lt b hRb
        exact ⟨.inr ⟨by omega, h1.2⟩, by omega⟩) (hM1.mono (fun _ _ h => h.elim)) (by simpa using hB7) hm7 HKV.out.1 (by omega) HKV.out.2
      clear hacc hM hM1 hbr hB7 hm7 hLc' hbx hLb hLc hbb
      go_wp2
      go_ret
      rw [HRL.out, HFN.out]
      exact ⟨rfl, HR.out⟩
end
end Go.Proofs.YtcfcahflkhgapaaGreat
