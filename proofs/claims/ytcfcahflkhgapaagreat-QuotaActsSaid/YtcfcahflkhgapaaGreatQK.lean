/- IDs. -/
import Derived.Test.YtcfcahflkhgapaaGreatSeqD
namespace Go.Proofs.YtcfcahflkhgapaaGreat
set_option linter.unusedSimpArgs false
set_option linter.unusedVariables false
set_option linter.unnecessarySimpa false
set_option linter.unusedSectionVars false
open Go.RowKit Go.Shelf

theorem id_i : (Tryz.prog.info? 32).map (fun i => (i.zero, i.size, i.bytes)) = some (some (.agg (idCells (List.replicate 32 0))), 32, 32) := by kernel_rfl
def idL (x : List UInt8) : List Value := (idCells x).toList
theorem idL_len {x : List UInt8} (h : x.length = 32) : (idL x).length = 32 := by simp [idL, idCells_size, h]
theorem idL_one (x : List UInt8) : ∀ c ∈ idL x, c.oneCell' = true := fun c hc => idCells_one x c (by simpa [idL] using hc)
def IdAcc (base : Nat) (xs : List (List UInt8)) (v : Value) (w : World) : Prop := (∀ x ∈ xs, x.length = 32) ∧ w.ownsRow base 32 32 v xs.length (xs.flatMap idL)
theorem IdAcc.done {base : Nat} {xs : List (List UInt8)} {v : Value} {w : World} (h : IdAcc base xs v w) : Sl true w (fun k => base ≤ k ∧ k < w.heap.size ∧ v.ownBlock = some k) 32 IdC v xs := by
  have hm : xs.flatMap idL = (xs.map idCells).flatMap Array.toList := by
    rw [List.flatMap_map]; rfl
  refine Sl.of_owns (css := xs.map idCells) h.2 hm (fun c hc => ?_) ⟨by simp, fun i hi hi' => ?_⟩ rfl
  · obtain ⟨x, hx, rfl⟩ := List.mem_map.1 hc
    rw [idCells_size, h.1 x hx]
  · exact ⟨by simp, h.1 _ (List.getElem_mem hi')⟩
def idsUpto (ks : List KeyS) (r : ByteArray) (n : Nat) : List (List UInt8) := ((ks.take n).filter fun k => decide (k.1.1 = r)).map (·.1.2)
theorem idsUpto_succ {ks : List KeyS} {r : ByteArray} {n : Nat} (h : n < ks.length) : idsUpto ks r (n + 1) = if ks[n].1.1 = r then idsUpto ks r n ++ [ks[n].1.2] else idsUpto ks r n := by
  unfold idsUpto
  rw [List.take_succ_eq_append_getElem h, List.filter_append, List.map_append]
  split <;> rename_i hr <;> simp [hr]
theorem idsUpto_len (ks : List KeyS) (r : ByteArray) (n : Nat) : (idsUpto ks r n).length ≤ ks.length := by
  unfold idsUpto
  rw [List.length_map]
  refine Nat.le_trans (List.length_filter_le _ _) ?_
  simp; omega
def IdsRel (w0 : World) (ks : List KeyS) (r : ByteArray) (kv : Value) (v i : Value) (w : World) : Prop :=
  ∃ n, n ≤ ks.length ∧ i = .int .i64 n ∧ IdAcc w0.heap.size (idsUpto ks r n) v w ∧ Mod NoB w0 w ∧ Sl false w (fun j => j < w.heap.size ∧ v.ownBlock ≠ some j) 33 KeyR kv ks
/-- ids: rising, and just those of a repository. -/
def IDsOf (l : LinkL) (r : ByteArray) (ids : List (List UInt8)) : Prop := ids.Pairwise (fun a b => a < b) ∧ ∀ x, x ∈ ids ↔ (r, x) ∈ l.map (·.1)
theorem idsOf_keys {l : LinkL} {ks : List KeyS} (h : KeysOf l ks) (r : ByteArray) : IDsOf l r (idsUpto ks r ks.length) := by
  unfold idsUpto
  rw [List.take_length]
  refine ⟨?_, fun x => ?_⟩
  · rw [List.pairwise_map]
    refine (h.1.filter _).imp_of_mem fun {a b} ha hb hab => ?_
    have h1 : a.1.1 = r := by simpa using (List.mem_filter.1 ha).2
    have h2 : b.1.1 = r := by simpa using (List.mem_filter.1 hb).2
    rcases hab with h3 | h3
    · rw [h1, h2] at h3; exact absurd h3 (List.lt_irrefl _)
    · exact h3.2
  · rw [← h.2.mem_iff]
    simp only [List.mem_map, List.mem_filter, decide_eq_true_eq]
    constructor
    · rintro ⟨k, ⟨hk, rfl⟩, rfl⟩; exact ⟨k, hk, rfl⟩
    · rintro ⟨k, hk, e⟩; exact ⟨k, ⟨hk, by rw [e]⟩, by rw [e]⟩

section
variable {w : World} {bl ml mu : Nat} {limit : Int} {hold : Value} {l : LinkL} {us : List (ByteArray × Nat)}
set_option maxRecDepth 10000 in
set_option maxHeartbeats 4000000 in
theorem ids_any (h : LkInv w bl ml mu limit hold l us) (r : ByteArray) : Calls Tryz.prog 35 #[.pointer (some ⟨bl, 0, none⟩), .string r] w (RetN w fun v w' => ∃ ids, IDsOf l r ids ∧ (∀ x ∈ ids, x.length = 32) ∧ Sl true w' (New w w') 32 IdC v ids) := by
  have hc := h.cell.2.1
  have hlm := h.lm
  have hnd := h.nd
  have hfew := h.few
  go_enter Tryz.func35, Tryz.ntmps35
  go_upto_region 3 with (go_at_call 25; refine h.made.mono ?_; rintro _ w1 ⟨rfl, hw⟩; obtain rfl := hw.symm)
  refine wp_region_seq [3, 3, 3, 1, 1, 1, 3] (fun _ => True) (by rfl) (by rfl) trivial ?_
  simp only [List.zip_cons_cons, List.zip_nil_right]
  refine wpPi_move _ rfl rfl ?_
  simp only [pl, pn, el, ec, sz, ss, gz, gs, if_true, if_false, Bool.false_eq_true, Bool.not_true, Bool.not_false, Nat.add_zero, Nat.zero_add, Nat.reduceAdd]
  refine wpPi_nilCheck _ _ rfl rfl rfl ?_
  simp only [pl, pn, el, ec, sz, ss, gz, gs, if_true, if_false, Bool.false_eq_true, Bool.not_true, Bool.not_false, Nat.add_zero, Nat.zero_add, Nat.reduceAdd]
  refine wpPi_field _ _ _ _ _ _ rfl rfl rfl fo_53_1 ?_
  simp only [pl, pn, el, ec, sz, ss, gz, gs, if_true, if_false, Bool.false_eq_true, Bool.not_true, Bool.not_false, Nat.add_zero, Nat.zero_add, Nat.reduceAdd]
  refine wpPi_do rfl (fun K hK => ?_)
  refine wp_exec (exec_load1 49 _ (by rfl) bl 1 (by rfl) _ hc _ Tryz.underlying49 rfl) ?_
  refine hK _ _ trivial ?_
  clear hK K
  try simp only [pl, pn, el, ec, sz, ss, gz, gs, if_true, if_false, Bool.false_eq_true, Bool.not_true, Bool.not_false, Nat.add_zero, Nat.zero_add, Nat.reduceAdd]
  refine wpPi_do rfl (fun K hK => ?_)
  go_wp2_with (go_at_call 50; refine (keysK_any _ ml).mono ?_; rintro _ w2 ⟨rfl, rfl⟩)
  refine hK _ _ trivial ?_
  clear hK K
  try simp only [pl, pn, el, ec, sz, ss, gz, gs, if_true, if_false, Bool.false_eq_true, Bool.not_true, Bool.not_false, Nat.add_zero, Nat.zero_add, Nat.reduceAdd]
  refine wpPi_do rfl (fun K hK => ?_)
  go_wp2_with (go_at_call 49; refine (sortedK_any hlm hnd hfew).mono ?_; rintro _ w3 ⟨kv, rfl, hm3, ks, hks, hsl⟩)
  refine hK _ _ trivial ?_
  clear hK K
  try simp only [pl, pn, el, ec, sz, ss, gz, gs, if_true, if_false, Bool.false_eq_true, Bool.not_true, Bool.not_false, Nat.add_zero, Nat.zero_add, Nat.reduceAdd]
  refine wpPi_assign _ rfl rfl ?_
  simp only [pl, pn, el, ec, sz, ss, gz, gs, if_true, if_false, Bool.false_eq_true, Bool.not_true, Bool.not_false, Nat.add_zero, Nat.zero_add, Nat.reduceAdd]
  refine wpPi_nil ?_
  have hkl : ks.length ≤ 65536 := by have := hks.2.length_eq; simp at this; omega
  have hkids := idsOf_keys hks r
  obtain ⟨ka, kc, rfl, hkc, hkm, _⟩ := id hsl
  have HKI := Lib.hid hkids
  clear hkids hks hlm hnd hfew hc h
  go_wp2
  go_loopw [4, 7, 18] (fun v _ i wx => IdsRel w ks r (.slice ka ks.length kc) v i wx) (fun _ _ i _ => ks.length - (intOf i).toNat)
  case atStart => exact ⟨0, by omega, rfl, ⟨by simp [idsUpto], World.ownsRow_nil _ _ _ _⟩, hm3, hsl.mono (fun j hj => ⟨hj.2, by simp [Value.ownBlock]⟩) (fun _ _ h => h)⟩
  case round =>
    rename_i wr
    obtain ⟨n, hn, rfl, hacc, hM, hks⟩ := hrel
    by_cases hlt : n < ks.length
    · have hz : (n : Int) < (ks.length : Int) := by omega
      obtain ⟨_, _, he, _, hat⟩ := hks.at
      obtain ⟨b, off, e, hb, -, hca⟩ := hat n hlt
      obtain ⟨rfl, _⟩ : ka = some ⟨b, off, none⟩ ∧ True := by
        cases he; exact ⟨e, trivial⟩
      obtain ⟨cs, hcs, hR, hcells⟩ := hca n hlt
      obtain rfl : cs = keyCells ks[n].1 := by rw [hR]; simp [keyL]
      have hko := ks[n].2
      have hsucc := idsUpto_succ (r := r) hlt
      have hlenU := idsUpto_len ks r n
      have HS := Lib.hid hsucc
      clear hsucc he hat hca hR
      go_upto_region 6 with (fail)
      refine wp_region_seq [3, 1, 1, 1] (fun _ => True) (by rfl) (by rfl) trivial ?_
      simp only [List.zip_cons_cons, List.zip_nil_right]
      refine wpPi_index _ _ _ _ _ _ _ _ _ rfl rfl rfl rfl Tryz.underlying85 (n := 33) (by kernel_rfl) hlt ?_
      simp only [pl, pn, el, ec, sz, ss, gz, gs, if_true, if_false, Bool.false_eq_true, Bool.not_true, Bool.not_false, Nat.add_zero, Nat.zero_add, Nat.reduceAdd]
      refine wpPi_do rfl (fun K hK => ?_)
      refine wp_exec (exec_loadA 67 _ (by rfl) b (off + n * 33) (by rfl) (keyCells ks[n].1) hcells _ Tryz.underlying67 rfl 33 (by kernel_rfl) (keyCells_size hko)) ?_
      refine hK _ _ trivial ?_
      clear hK K
      try simp only [pl, pn, el, ec, sz, ss, gz, gs, if_true, if_false, Bool.false_eq_true, Bool.not_true, Bool.not_false, Nat.add_zero, Nat.zero_add, Nat.reduceAdd]
      refine wpPi_do rfl (fun K hK => ?_)
      refine wp_alloc 67 _ (by rfl) keyZ (fun w4 hB4 hm4 hs4 => ?_)
      replace hB4 : w4.heap[wr.heap.size]? = some (.cells keyZero 67 (0, 0)) := hB4
      refine hK _ _ trivial ?_
      clear hK K
      try simp only [pl, pn, el, ec, sz, ss, gz, gs, if_true, if_false, Bool.false_eq_true, Bool.not_true, Bool.not_false, Nat.add_zero, Nat.zero_add, Nat.reduceAdd]
      refine wpPi_do rfl (fun K hK => ?_)
      refine wp_storeA 67 _ _ wr.heap.size 0 (keyCells ks[n].1) (by rfl) (by rfl) (by rfl) (keyCells_one _) 33 (by kernel_rfl) (keyCells_size hko) _ _ hB4 (by rw [keyCells_size hko]; exact Nat.le_of_eq (by kernel_rfl)) (fun w5 hB5 hm5 => ?_)
      have hm45 : Mod NoB wr w5 := hm4.transB hm5 (Nat.le_refl _)
      rw [putRow_whole (by rw [keyCells_size hko]; kernel_rfl)] at hB5
      refine hK _ _ trivial ?_
      clear hK K
      try simp only [pl, pn, el, ec, sz, ss, gz, gs, if_true, if_false, Bool.false_eq_true, Bool.not_true, Bool.not_false, Nat.add_zero, Nat.zero_add, Nat.reduceAdd]
      refine wpPi_nil ?_
      have hM5 := hM.trans0 hm45
      have hacc5 : IdAcc w.heap.size (idsUpto ks r n) _ w5 := ⟨hacc.1, ownsRow_mod hacc.2 hm45 (fun _ _ => id)⟩
      have hks5 := (hks.keep0 hm45).mono (G' := fun j => j < wr.heap.size ∧ Value.ownBlock _ ≠ some j) (fun j hj => hj) (fun _ _ h => h)
      have hs5 := hm45.size
      clear hm4 hm5 hs4 hB4 hM hks
      have hrp := keyAt0 hB5
      have hid := keyAt1 hB5
      by_cases hr : ks[n].1.1 = r
      · have hrt : decide (ks[n].1.1 = r) = true := decide_eq_true hr
        go_upto_region 7 with (fail)
        refine wp_region_seq [3, 1, 3, 3] (fun _ => True) (by rfl) (by rfl) trivial ?_
        simp only [List.zip_cons_cons, List.zip_nil_right]
        refine wpPi_field _ _ _ _ _ _ rfl rfl rfl fo_67_0 ?_
        simp only [pl, pn, el, ec, sz, ss, gz, gs, if_true, if_false, Bool.false_eq_true, Bool.not_true, Bool.not_false, Nat.add_zero, Nat.zero_add, Nat.reduceAdd]
        refine wpPi_do rfl (fun K hK => ?_)
        refine wp_exec (exec_load1 9 _ (by rfl) wr.heap.size 0 (by rfl) _ hrp _ Tryz.underlying9 rfl) ?_
        refine hK _ _ trivial ?_
        clear hK K
        try simp only [pl, pn, el, ec, sz, ss, gz, gs, if_true, if_false, Bool.false_eq_true, Bool.not_true, Bool.not_false, Nat.add_zero, Nat.zero_add, Nat.reduceAdd]
        refine wpPi_move _ rfl rfl ?_
        simp only [pl, pn, el, ec, sz, ss, gz, gs, if_true, if_false, Bool.false_eq_true, Bool.not_true, Bool.not_false, Nat.add_zero, Nat.zero_add, Nat.reduceAdd]
        refine wpPi_any (v := .bool true) rfl (fun w' => exec_eql_str _ _ _ _ rfl _ _ rfl rfl _ hrt) ?_
        simp only [pl, pn, el, ec, sz, ss, gz, gs, if_true, if_false, Bool.false_eq_true, Bool.not_true, Bool.not_false, Nat.add_zero, Nat.zero_add, Nat.reduceAdd]
        refine wpPi_nil ?_
        go_upto_region 8 with (fail)
        refine wp_region_seq [3, 3, 1, 1, 1, 3] (fun _ => True) (by rfl) (by rfl) trivial ?_
        simp only [List.zip_cons_cons, List.zip_nil_right]
        refine wpPi_move _ rfl rfl ?_
        simp only [pl, pn, el, ec, sz, ss, gz, gs, if_true, if_false, Bool.false_eq_true, Bool.not_true, Bool.not_false, Nat.add_zero, Nat.zero_add, Nat.reduceAdd]
        refine wpPi_field _ _ _ _ _ _ rfl rfl rfl fo_67_1 ?_
        simp only [pl, pn, el, ec, sz, ss, gz, gs, if_true, if_false, Bool.false_eq_true, Bool.not_true, Bool.not_false, Nat.add_zero, Nat.zero_add, Nat.reduceAdd]
        refine wpPi_do rfl (fun K hK => ?_)
        refine wp_exec (exec_loadA 32 _ (by rfl) wr.heap.size 1 (by rfl) (idCells ks[n].1.2) hid _ Tryz.underlying32 rfl 32 (by kernel_rfl) (by rw [idCells_size]; exact hko)) ?_
        refine hK _ _ trivial ?_
        clear hK K
        try simp only [pl, pn, el, ec, sz, ss, gz, gs, if_true, if_false, Bool.false_eq_true, Bool.not_true, Bool.not_false, Nat.add_zero, Nat.zero_add, Nat.reduceAdd]
        refine wpPi_do rfl (fun K hK => ?_)
        refine wp_buildSlice1 75 32 _ (.agg (idCells ks[n].1.2)) (.agg (idCells (List.replicate 32 0))) 32 (by rfl) (by rfl) Tryz.underlying75 (by kernel_rfl) (by omega) (by omega) (by rw [show (Value.agg (idCells ks[n].1.2)).cells = idCells ks[n].1.2 from rfl, idCells_size]; exact hko) (fun w6 hB6 hm6 hs6 => ?_)
        replace hB6 : w6.heap[w5.heap.size]? = some (.cells (idCells ks[n].1.2) 32 (0, 0)) := hB6
        refine hK _ _ trivial ?_
        clear hK K
        try simp only [pl, pn, el, ec, sz, ss, gz, gs, if_true, if_false, Bool.false_eq_true, Bool.not_true, Bool.not_false, Nat.add_zero, Nat.zero_add, Nat.reduceAdd]
        refine wpPi_do rfl (fun K hK => ?_)
        have hrow6 := ownsRow_mod hacc5.2 hm6 (fun _ _ => id)
        have hs6' := hm6.size
        have hMs := hM5.size
        refine wp_append _ _ 75 32 (.agg (idCells (List.replicate 32 0))) 32 32 (by rfl) Tryz.underlying75 id_i (by kernel_rfl) (by omega) w.heap.size _ _ _ (by rfl) hrow6 (.slice (some ⟨w5.heap.size, 0, none⟩) 1 1) 1 (idL ks[n].1.2) (by rfl) ⟨by rw [idL_len hko], _, _, rfl, fun _ => ⟨w5.heap.size, 0, rfl, fun j y hj => ?_⟩⟩ (idL_one _) (by unfold maxLen; omega) (by omega) (by omega) (fun v' w7 hrow7 hg7 hv7 => ?_)
        · have : (idCells ks[n].1.2)[j]? = some y := by simpa [idL] using hj
          exact (CellsAt.whole hB6).cell this
        refine hK _ _ trivial ?_
        clear hK K
        try simp only [pl, pn, el, ec, sz, ss, gz, gs, if_true, if_false, Bool.false_eq_true, Bool.not_true, Bool.not_false, Nat.add_zero, Nat.zero_add, Nat.reduceAdd]
        refine wpPi_assign _ rfl rfl ?_
        simp only [pl, pn, el, ec, sz, ss, gz, gs, if_true, if_false, Bool.false_eq_true, Bool.not_true, Bool.not_false, Nat.add_zero, Nat.zero_add, Nat.reduceAdd]
        refine wpPi_nil ?_
        have hM6 := hM5.trans0 hm6
        have hs6' := hm6.size
        have hMs := hM5.size
        have hm7 : Mod (fun j => Value.ownBlock _ = some j) w6 w7 := (Mod.refl _ _).grown hg7 (fun k hk _ => hk)
        have hM7 : Mod NoB w w7 := hM6.trans hm7 (fun k hk e => by have := (hacc5.2.lt k e).1; omega)
        have hks7 := ((hks5.keep0 hm6).keep hm7 (fun k hk e => hk.2 e) (fun _ _ h => h)).mono (G' := fun j => j < w7.heap.size ∧ v'.ownBlock ≠ some j) (fun j hj => ⟨by have := hm7.size; omega, by
          rcases hv7 with hv | hv
          · rw [hv]; exact hj.2
          · rw [hv]; intro e; cases e; omega⟩) (fun _ _ h => h)
        have HR : Hid (IdsRel w ks r (.slice (some ⟨b, off, none⟩) ks.length kc) v' (.int .i64 ((n : Int) + 1)) w7) := ⟨n + 1, by omega, by go_num, by
          rw [HS.out, if_pos hr]
          refine ⟨fun x hx => ?_, by simpa using hrow7⟩
          rcases List.mem_append.1 hx with hx | hx
          · exact hacc5.1 x hx
          · simp at hx; rw [hx]; exact hko, hM7, hks7⟩
        clear hM7 hks7 hm7 hrow7 hg7 hv7 hacc5 hks5
        go_wp2
        go_roundw
        case rel => exact HR.out
        case measure => simp [intOf]; omega
      · have hrt : decide (ks[n].1.1 = r) = false := decide_eq_false hr
        go_upto_region 7 with (fail)
        refine wp_region_seq [3, 1, 3, 3] (fun _ => True) (by rfl) (by rfl) trivial ?_
        simp only [List.zip_cons_cons, List.zip_nil_right]
        refine wpPi_field _ _ _ _ _ _ rfl rfl rfl fo_67_0 ?_
        simp only [pl, pn, el, ec, sz, ss, gz, gs, if_true, if_false, Bool.false_eq_true, Bool.not_true, Bool.not_false, Nat.add_zero, Nat.zero_add, Nat.reduceAdd]
        refine wpPi_do rfl (fun K hK => ?_)
        refine wp_exec (exec_load1 9 _ (by rfl) wr.heap.size 0 (by rfl) _ hrp _ Tryz.underlying9 rfl) ?_
        refine hK _ _ trivial ?_
        clear hK K
        try simp only [pl, pn, el, ec, sz, ss, gz, gs, if_true, if_false, Bool.false_eq_true, Bool.not_true, Bool.not_false, Nat.add_zero, Nat.zero_add, Nat.reduceAdd]
        refine wpPi_move _ rfl rfl ?_
        simp only [pl, pn, el, ec, sz, ss, gz, gs, if_true, if_false, Bool.false_eq_true, Bool.not_true, Bool.not_false, Nat.add_zero, Nat.zero_add, Nat.reduceAdd]
        refine wpPi_any (v := .bool false) rfl (fun w' => exec_eql_str _ _ _ _ rfl _ _ rfl rfl _ hrt) ?_
        simp only [pl, pn, el, ec, sz, ss, gz, gs, if_true, if_false, Bool.false_eq_true, Bool.not_true, Bool.not_false, Nat.add_zero, Nat.zero_add, Nat.reduceAdd]
        refine wpPi_nil ?_
        go_wp2
        go_roundw
        case rel => exact ⟨n + 1, by omega, by go_num, by rw [HS.out, if_neg hr]; exact hacc5, hM5, hks5.mono (fun j hj => ⟨by omega, hj.2⟩) (fun _ _ h => h)⟩
        case measure => simp [intOf]; omega
    · have hz : ¬ (n : Int) < (ks.length : Int) := by omega
      have e : n = ks.length := by omega
      subst e
      have hd := hacc.done
      have hi := hacc.1
      have HD := Lib.hid hd
      have HI := Lib.hid hi
      clear hd hi hacc hks
      go_wp2
      go_ret
      exact ⟨_, rfl, hM, _, HKI.out, HI.out, HD.out.mono (fun k hk => ⟨hk.1, hk.2.1⟩) (fun _ _ h => h)⟩
end
end Go.Proofs.YtcfcahflkhgapaaGreat
