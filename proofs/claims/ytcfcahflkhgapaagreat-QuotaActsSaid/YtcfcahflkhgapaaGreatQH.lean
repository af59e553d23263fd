/- Mount and Unlink. -/
import Derived.Test.YtcfcahflkhgapaaGreatQE
namespace Go.Proofs.YtcfcahflkhgapaaGreat
set_option linter.unusedSimpArgs false
set_option linter.unusedVariables false
set_option linter.unnecessarySimpa false
set_option linter.unusedSectionVars false
open Go.RowKit Go.Shelf

/-! ### A link less -/
theorem useOf_del {k : Key} {x : Int} : ∀ {l : LinkL}, getL k l = some x → ∀ r, useOf (delL k l) r + (if k.1 = r then x else 0) = useOf l r
  | [], h, _ => by cases h
  | p :: l, h, r => by
    unfold getL at h
    unfold delL
    split at h
    · rename_i hk
      rw [if_pos hk]; subst hk
      have : p.2 = x := by simpa using h
      simp only [useOf, this]; omega
    · rename_i hk
      rw [if_neg hk]
      have := useOf_del h r
      simp only [useOf]; omega
theorem cntOf_del {k : Key} {x : Int} : ∀ {l : LinkL}, getL k l = some x → ∀ r, cntOf (delL k l) r + (if k.1 = r then 1 else 0) = cntOf l r
  | [], h, _ => by cases h
  | p :: l, h, r => by
    unfold getL at h
    unfold delL
    split at h
    · rename_i hk
      rw [if_pos hk]; subst hk
      simp only [cntOf]; omega
    · rename_i hk
      rw [if_neg hk]
      have := cntOf_del h r
      simp only [cntOf]; omega
theorem mem_del {α β : Type} [DecidableEq α] {k : α} {p : α × β} : ∀ {l : List (α × β)}, p ∈ delL k l → p ∈ l
  | [], h => by cases h
  | q :: l, h => by
    unfold delL at h
    split at h
    · exact List.mem_cons_of_mem _ h
    · rcases List.mem_cons.1 h with rfl | h
      · simp
      · exact List.mem_cons_of_mem _ (mem_del h)
theorem length_del {α β : Type} [DecidableEq α] (k : α) (l : List (α × β)) : (delL k l).length ≤ l.length := by
  induction l with
  | nil => simp [delL]
  | cons q l ih => unfold delL; split <;> simp <;> omega
theorem snd_del {α β : Type} [DecidableEq α] {k : α} {l : List (α × β)} : ((delL k l).map (·.2)).Sublist (l.map (·.2)) := by
  induction l with
  | nil => simp [delL]
  | cons q l ih => unfold delL; split
                   · simp
                   · simpa using ih

theorem Mod.of_drew {S : Nat → Prop} {a b : World} (h : Mod S a.drew b) : Mod S a b := ⟨h.os, h.tape, h.output, h.size, h.block⟩
theorem mem_keys_del {α β : Type} [DecidableEq α] {k x : α} {l : List (α × β)} (h : (l.map (·.1)).Nodup) : x ∈ (delL k l).map (·.1) ↔ x ≠ k ∧ x ∈ l.map (·.1) := by
  rw [keys_del, h.mem_erase_iff]

section
variable {w : World} {bl ml mu : Nat} {limit : Int} {hold : Value} {l : LinkL} {us : List (ByteArray × Nat)}
theorem LkInv.deleted (h : LkInv w bl ml mu limit hold l us) {k : Key} {x : Int} {b : Nat} (hg : getL k l = some x) (hgu : getL k.1 us = some b) {w' : World} {us' : List (ByteArray × Nat)}
    (hbox : w'.heap[bl]? = w.heap[bl]?) (hlm : MapIs keyV KeyOk w' ml (delL k (l.map fun p => (p.1, linkV p.2)))) (hum : MapIs Value.string (fun _ => True) w' mu (us'.map fun p => (p.1, useV p.2)))
    (hus : us' = if cntOf l k.1 = 1 then delL k.1 us else us) (hub : cntOf l k.1 ≠ 1 → w'.heap[b]? = some (.cells #[.int .i64 (useOf l k.1 - x), .int .i64 ((cntOf l k.1 : Int) - 1)] 70 (0, 0)))
    (hot : ∀ p ∈ us, p.2 ≠ b → w'.heap[p.2]? = w.heap[p.2]?) : LkInv w' bl ml mu limit hold (delL k l) us' := by
  have hu := useOf_del hg
  have hc := cntOf_del hg
  have hck := hc k.1
  rw [if_pos rfl] at hck
  have hsub : ∀ p ∈ us', p ∈ us := fun p hp => by
    rw [hus] at hp; split at hp
    · exact mem_del hp
    · exact hp
  have hmem := getL_mem hgu
  refine ⟨hbox.trans h.box, h.one, ?_, hum, fun p hp => ?_, fun r => ?_, ?_, fun p hp => h.sz p (mem_del hp), fun p hp => h.nm p (mem_del hp), Nat.le_trans (length_del _ _) h.few, h.ne, h.lim⟩
  · rw [delL_map (f := linkV)] at hlm
    exact hlm
  · have hp' := hsub p hp
    by_cases hpk : p.1 = k.1
    · have e : p = (k.1, b) := nodup_inj (f := (·.1)) h.und hp' hmem hpk
      by_cases h1 : cntOf l k.1 = 1
      · rw [hus, if_pos h1] at hp
        have : k.1 ∉ (delL k.1 us).map (·.1) := getL_none.1 (by rw [getL_del _ _ _ h.und, if_pos rfl])
        exact absurd (List.mem_map.2 ⟨p, hp, hpk⟩) this
      · have h2 := hu k.1
        rw [if_pos rfl] at h2
        rw [e]
        have e1 : useOf (delL k l) k.1 = useOf l k.1 - x := by omega
        have e2 : ((cntOf (delL k l) k.1 : Nat) : Int) = (cntOf l k.1 : Int) - 1 := by omega
        rw [show (k.1, b).1 = k.1 from rfl, e1, e2]
        exact hub h1
    · have h2 := hu p.1
      have h3 := hc p.1
      rw [if_neg (fun e => hpk e.symm)] at h2 h3
      rw [show useOf (delL k l) p.1 = useOf l p.1 by omega, show cntOf (delL k l) p.1 = cntOf l p.1 by omega, hot p hp' (fun e => hpk (congrArg Prod.fst (nodup_inj (f := (·.2)) h.ud hp' hmem e)))]
      exact h.ub p hp'
  · have h3 := hc r
    by_cases hr : k.1 = r
    · subst hr
      rw [if_pos rfl] at h3
      have hin : k.1 ∈ us.map (·.1) := List.mem_map.2 ⟨_, hmem, rfl⟩
      by_cases h1 : cntOf l k.1 = 1
      · rw [hus, if_pos h1]
        have : k.1 ∉ (delL k.1 us).map (·.1) := getL_none.1 (by rw [getL_del _ _ _ h.und, if_pos rfl])
        exact ⟨fun h => absurd h this, fun h => by omega⟩
      · rw [hus, if_neg h1]
        exact ⟨fun _ => by have := (h.uk k.1).1 hin; omega, fun _ => hin⟩
    · rw [if_neg hr] at h3
      rw [show cntOf (delL k l) r = cntOf l r by omega, ← h.uk, hus]
      split
      · rw [mem_keys_del h.und]; exact ⟨fun h => h.2, fun h => ⟨fun e => hr e.symm, h⟩⟩
      · exact Iff.rfl
  · rw [hus]; split
    · exact h.ud.sublist snd_del
    · exact h.ud

theorem exec_field_link {w : World} {o : Oper} {a : Act} (t : Operand) (x : Int) (ho : o.op = .field 64 t 0) (hx : a.eval t = .agg #[.int .i64 x]) : (execOp a.eval o).run Tryz.prog w = .ok (.value (.int .i64 x)) w := by
  have hag : (isAgg 3).run Tryz.prog w = .ok false w := by
    unfold isAgg
    rw [Sem.run_bind, run_underlying Tryz.underlying3 w]; rfl
  have hp : (part 3 #[.int .i64 x] 0).run Tryz.prog w = .ok (.int .i64 x) w := by
    unfold part
    rw [Sem.run_bind, hag]
    simp
  have hf : (Instr.field 64 (.agg #[.int .i64 x]) 0).run Tryz.prog w = .ok (.int .i64 x) w := by
    unfold Instr.field
    simp [run_underlying Tryz.underlying64, asAgg, hp]
  unfold execOp
  simp only [ho, hx, Sem.run_bind, hf, Result.andThen_ok, Sem.run_pure]
def unL (l : LinkL) (k : Key) : LinkL := if (getL k l).isSome then delL k l else l
/-- What Unlink tells. -/
def UnR (w : World) (bl ml mu : Nat) (limit : Int) (hold : Value) (l : LinkL) (us : List (ByteArray × Nat)) (k : Key) : Ending → World → Prop := fun e w' => e = .returned (.bool (getL k l).isSome) ∧ Lked w bl ml mu limit hold us w' (unL l k)

set_option maxRecDepth 10000 in
set_option maxHeartbeats 4000000 in
theorem unlink_any (h : LkInv w bl ml mu limit hold l us) (k : Key) (hk : KeyOk k) :
    Calls Tryz.prog 12 #[.pointer (some ⟨bl, 0, none⟩), .string k.1, .agg (idCells k.2)] w (UnR w bl ml mu limit hold l us k) := by
  obtain ⟨g, hg⟩ : ∃ g, getL k l = g := ⟨_, rfl⟩
  have HG := Lib.hid hg
  unfold UnR
  rw [hg]
  clear hg
  go_enter Tryz.func12, Tryz.ntmps12
  go_upto_region 0 with (fail)
  refine wp_region_seq [1, 3] (fun _ => True) (by rfl) (by rfl) trivial ?_
  simp only [List.zip_cons_cons, List.zip_nil_right]
  refine wpPi_do rfl (fun K hK => ?_)
  refine wp_box 32 _ _ (by rfl) (by rfl) (fun w1 hB1 hm1 hs1 => ?_)
  replace hB1 : w1.heap[w.heap.size]? = some (.cells (idCells k.2) 32 (0, 0)) := hB1
  refine hK _ _ trivial ?_
  clear hK K
  try simp only [pl, pn, el, ec, sz, ss, gz, gs, if_true, if_false, Bool.false_eq_true, Bool.not_true, Bool.not_false, Nat.add_zero, Nat.zero_add, Nat.reduceAdd]
  refine wpPi_assign _ rfl rfl ?_
  simp only [pl, pn, el, ec, sz, ss, gz, gs, if_true, if_false, Bool.false_eq_true, Bool.not_true, Bool.not_false, Nat.add_zero, Nat.zero_add, Nat.reduceAdd]
  refine wpPi_nil ?_
  have h1 := h.keep0 hm1
  have hca : CellsAt w1 w.heap.size 0 (idCells k.2) := CellsAt.whole hB1
  go_upto_region 1 with (fail)
  refine wp_region_seq [3, 3, 1, 1, 3] (fun _ => True) (by rfl) (by rfl) trivial ?_
  simp only [List.zip_cons_cons, List.zip_nil_right]
  refine wpPi_move _ rfl rfl ?_
  simp only [pl, pn, el, ec, sz, ss, gz, gs, if_true, if_false, Bool.false_eq_true, Bool.not_true, Bool.not_false, Nat.add_zero, Nat.zero_add, Nat.reduceAdd]
  refine wpPi_move _ rfl rfl ?_
  simp only [pl, pn, el, ec, sz, ss, gz, gs, if_true, if_false, Bool.false_eq_true, Bool.not_true, Bool.not_false, Nat.add_zero, Nat.zero_add, Nat.reduceAdd]
  refine wpPi_do rfl (fun K hK => ?_)
  refine wp_exec (exec_loadA 32 _ (by rfl) w.heap.size 0 (by rfl) (idCells k.2) hca _ Tryz.underlying32 rfl 32 (by kernel_rfl) (by rw [idCells_size]; exact hk)) ?_
  refine hK _ _ trivial ?_
  clear hK K
  try simp only [pl, pn, el, ec, sz, ss, gz, gs, if_true, if_false, Bool.false_eq_true, Bool.not_true, Bool.not_false, Nat.add_zero, Nat.zero_add, Nat.reduceAdd]
  refine wpPi_do rfl (fun K hK => ?_)
  go_wp2_with (go_at_call 17; refine (has_any h1 k hk).mono ?_; rintro _ w2 ⟨rfl, hm2⟩; rw [HG.out])
  refine hK _ _ trivial ?_
  clear hK K
  try simp only [pl, pn, el, ec, sz, ss, gz, gs, if_true, if_false, Bool.false_eq_true, Bool.not_true, Bool.not_false, Nat.add_zero, Nat.zero_add, Nat.reduceAdd]
  refine wpPi_not _ _ _ rfl rfl rfl ?_
  simp only [pl, pn, el, ec, sz, ss, gz, gs, if_true, if_false, Bool.false_eq_true, Bool.not_true, Bool.not_false, Nat.add_zero, Nat.zero_add, Nat.reduceAdd]
  refine wpPi_nil ?_
  clear hca
  have hM := hm1.trans0 hm2
  replace hB1 := hm2.obj id hB1
  replace h1 := h1.keep0 hm2
  clear hm1 hm2
  cases g with
  | none =>
    go_wp2
    go_ret
    rw [show unL l k = l by unfold unL; rw [HG.out]; rfl]
    exact ⟨rfl, LkInv.stay (by assumption) hM⟩
  | some x =>
    have hcp : 0 < cntOf l k.1 := cntOf_of_mem (getL_mem HG.out)
    have hx := h.sz _ (getL_mem HG.out)
    obtain ⟨ub, hgu⟩ : ∃ ub, getL k.1 us = some ub := by
      cases hq : getL k.1 us with
      | none => have := (h.useNone k.1).1 hq; omega
      | some ub => exact ⟨ub, rfl⟩
    have hmem := getL_mem hgu
    have hub := h1.ub _ hmem
    have hul := useOf_le l k.1 h.sz
    have hfew := h.few
    have hcl := cntOf_le l k.1
    have hb1 : -9223372036854775808 ≤ useOf l k.1 - x ∧ useOf l k.1 - x ≤ 9223372036854775807 := by have := hx.1; have := hx.2; have e : (((k.1, k.2), x) : Key × Int).2 = x := rfl; rw [e] at *; omega
    have hb2 : -9223372036854775808 ≤ (cntOf l k.1 : Int) - 1 ∧ (cntOf l k.1 : Int) - 1 ≤ 9223372036854775807 := by omega
    have HCP := Lib.hid hcp
    clear hul hfew hcl hx hcp
    have hc2 := h1.cell.2.2.1
    go_upto_region 3 with (fail)
    refine wp_region_seq [3, 3, 3, 1, 3, 1, 3] (fun _ => True) (by rfl) (by rfl) trivial ?_
    simp only [List.zip_cons_cons, List.zip_nil_right]
    refine wpPi_move _ rfl rfl ?_
    simp only [pl, pn, el, ec, sz, ss, gz, gs, if_true, if_false, Bool.false_eq_true, Bool.not_true, Bool.not_false, Nat.add_zero, Nat.zero_add, Nat.reduceAdd]
    refine wpPi_nilCheck _ _ rfl rfl rfl ?_
    simp only [pl, pn, el, ec, sz, ss, gz, gs, if_true, if_false, Bool.false_eq_true, Bool.not_true, Bool.not_false, Nat.add_zero, Nat.zero_add, Nat.reduceAdd]
    refine wpPi_field _ _ _ _ _ _ rfl rfl rfl fo_53_2 ?_
    simp only [pl, pn, el, ec, sz, ss, gz, gs, if_true, if_false, Bool.false_eq_true, Bool.not_true, Bool.not_false, Nat.add_zero, Nat.zero_add, Nat.reduceAdd]
    refine wpPi_do rfl (fun K hK => ?_)
    refine wp_exec (exec_load1 50 _ (by rfl) bl 2 (by rfl) _ hc2 _ Tryz.underlying50 rfl) ?_
    refine hK _ _ trivial ?_
    clear hK K
    try simp only [pl, pn, el, ec, sz, ss, gz, gs, if_true, if_false, Bool.false_eq_true, Bool.not_true, Bool.not_false, Nat.add_zero, Nat.zero_add, Nat.reduceAdd]
    refine wpPi_move _ rfl rfl ?_
    simp only [pl, pn, el, ec, sz, ss, gz, gs, if_true, if_false, Bool.false_eq_true, Bool.not_true, Bool.not_false, Nat.add_zero, Nat.zero_add, Nat.reduceAdd]
    refine wpPi_do rfl (fun K hK => ?_)
    refine wp_exec (v := .pointer (some ⟨ub, 0, none⟩)) (lookS_at h1.um _ _ k.1 (by rfl) (by rfl) (by rfl) (by simp [useP, hgu, useV])) ?_
    refine hK _ _ trivial ?_
    clear hK K
    try simp only [pl, pn, el, ec, sz, ss, gz, gs, if_true, if_false, Bool.false_eq_true, Bool.not_true, Bool.not_false, Nat.add_zero, Nat.zero_add, Nat.reduceAdd]
    refine wpPi_assign _ rfl rfl ?_
    simp only [pl, pn, el, ec, sz, ss, gz, gs, if_true, if_false, Bool.false_eq_true, Bool.not_true, Bool.not_false, Nat.add_zero, Nat.zero_add, Nat.reduceAdd]
    refine wpPi_nil ?_
    have HGU := Lib.hid hgu
    clear hgu
    go_upto_region 4 with (fail)
    have hS : Mod NoB w2 w2.drew := (Mod.refl _ _).drew
    have hlk : linkG k l = .agg #[.int .i64 x] := by unfold linkG; rw [HG.out]; rfl
    have HLK := Lib.hid hlk; clear hlk
    have hcu : w2.cell? ⟨ub, 0, none⟩ = some (.int .i64 (useOf l k.1)) := by simp [World.cell?, hub]
    refine wp_region_pi [(0, 3), (1, 3), (2, 3), (3, 0), (4, 3), (5, 3), (6, 3), (7, 0), (8, 3), (9, 0), (10, 3), (11, 0), (12, 3), (13, 3), (14, 3), (15, 3), (16, 2)] [16] (fun w' => Mod NoB w2 w') (by kernel_rfl) (by kernel_rfl) (by kernel_rfl) (by kernel_rfl) (fun _ _ _ _ hd h => ⟨hd.trans h.1, h.2⟩) hS ?_
    simp only [List.map_cons, List.map_nil, List.getD_cons_zero, List.getD_cons_succ]
    refine wpPi_move _ rfl rfl ?_
    simp only [pl, pn, el, ec, sz, ss, gz, gs, if_true, if_false, Bool.false_eq_true, Bool.not_true, Bool.not_false, Nat.add_zero, Nat.zero_add, Nat.reduceAdd]
    refine wpPi_nilCheck _ _ rfl rfl rfl ?_
    simp only [pl, pn, el, ec, sz, ss, gz, gs, if_true, if_false, Bool.false_eq_true, Bool.not_true, Bool.not_false, Nat.add_zero, Nat.zero_add, Nat.reduceAdd]
    refine wpPi_field _ _ _ _ _ _ rfl rfl rfl fo_70_0 ?_
    simp only [pl, pn, el, ec, sz, ss, gz, gs, if_true, if_false, Bool.false_eq_true, Bool.not_true, Bool.not_false, Nat.add_zero, Nat.zero_add, Nat.reduceAdd]
    refine wpPi_val rfl (fun w' hS => exec_load1 3 _ (by rfl) ub 0 (by rfl) _ (hS.cell id hcu) _ Tryz.underlying3 rfl) ?_
    simp only [pl, pn, el, ec, sz, ss, gz, gs, if_true, if_false, Bool.false_eq_true, Bool.not_true, Bool.not_false, Nat.add_zero, Nat.zero_add, Nat.reduceAdd]
    refine wpPi_move _ rfl rfl ?_
    simp only [pl, pn, el, ec, sz, ss, gz, gs, if_true, if_false, Bool.false_eq_true, Bool.not_true, Bool.not_false, Nat.add_zero, Nat.zero_add, Nat.reduceAdd]
    refine wpPi_nilCheck _ _ rfl rfl rfl ?_
    simp only [pl, pn, el, ec, sz, ss, gz, gs, if_true, if_false, Bool.false_eq_true, Bool.not_true, Bool.not_false, Nat.add_zero, Nat.zero_add, Nat.reduceAdd]
    refine wpPi_field _ _ _ _ _ _ rfl rfl rfl fo_53_1 ?_
    simp only [pl, pn, el, ec, sz, ss, gz, gs, if_true, if_false, Bool.false_eq_true, Bool.not_true, Bool.not_false, Nat.add_zero, Nat.zero_add, Nat.reduceAdd]
    refine wpPi_val rfl (fun w' hS => exec_load1 49 _ (by rfl) bl 1 (by rfl) _ (h1.keep0 hS).cell.2.1 _ Tryz.underlying49 rfl) ?_
    simp only [pl, pn, el, ec, sz, ss, gz, gs, if_true, if_false, Bool.false_eq_true, Bool.not_true, Bool.not_false, Nat.add_zero, Nat.zero_add, Nat.reduceAdd]
    refine wpPi_move _ rfl rfl ?_
    simp only [pl, pn, el, ec, sz, ss, gz, gs, if_true, if_false, Bool.false_eq_true, Bool.not_true, Bool.not_false, Nat.add_zero, Nat.zero_add, Nat.reduceAdd]
    refine wpPi_val rfl (fun w' hS => exec_loadA 32 _ (by rfl) w.heap.size 0 (by rfl) (idCells k.2) (CellsAt.whole (hS.obj id hB1)) _ Tryz.underlying32 rfl 32 (by kernel_rfl) (by rw [idCells_size]; exact hk)) ?_
    simp only [pl, pn, el, ec, sz, ss, gz, gs, if_true, if_false, Bool.false_eq_true, Bool.not_true, Bool.not_false, Nat.add_zero, Nat.zero_add, Nat.reduceAdd]
    refine wpPi_any (v := keyV k) rfl (fun w' => exec_build_key _ _ k hk rfl rfl rfl) ?_
    simp only [pl, pn, el, ec, sz, ss, gz, gs, if_true, if_false, Bool.false_eq_true, Bool.not_true, Bool.not_false, Nat.add_zero, Nat.zero_add, Nat.reduceAdd]
    refine wpPi_val rfl (fun w' hS => ((h1.keep0 hS).lookK1 _ _ k hk (by rfl) (by rfl) (by rfl)).trans (by rw [HLK.out])) ?_
    simp only [pl, pn, el, ec, sz, ss, gz, gs, if_true, if_false, Bool.false_eq_true, Bool.not_true, Bool.not_false, Nat.add_zero, Nat.zero_add, Nat.reduceAdd]
    refine wpPi_any (v := .int .i64 x) rfl (fun w' => exec_field_link _ x rfl rfl) ?_
    simp only [pl, pn, el, ec, sz, ss, gz, gs, if_true, if_false, Bool.false_eq_true, Bool.not_true, Bool.not_false, Nat.add_zero, Nat.zero_add, Nat.reduceAdd]
    refine wpPi_sub _ _ _ _ (useOf l k.1) x rfl rfl rfl rfl hb1.1 hb1.2 ?_
    simp only [pl, pn, el, ec, sz, ss, gz, gs, if_true, if_false, Bool.false_eq_true, Bool.not_true, Bool.not_false, Nat.add_zero, Nat.zero_add, Nat.reduceAdd]
    refine wpPi_nilCheck _ _ rfl rfl rfl ?_
    simp only [pl, pn, el, ec, sz, ss, gz, gs, if_true, if_false, Bool.false_eq_true, Bool.not_true, Bool.not_false, Nat.add_zero, Nat.zero_add, Nat.reduceAdd]
    refine wpPi_field _ _ _ _ _ _ rfl rfl rfl fo_70_0 ?_
    simp only [pl, pn, el, ec, sz, ss, gz, gs, if_true, if_false, Bool.false_eq_true, Bool.not_true, Bool.not_false, Nat.add_zero, Nat.zero_add, Nat.reduceAdd]
    refine wpPi_last rfl (fun K hK => ?_)
    refine wp_store1 3 _ _ ub 0 (.int .i64 (useOf l k.1 - x)) (by rfl) (by rfl) (by rfl) rfl (by kernel_rfl) _ _ (hS.obj (b := ub) id hub) (by simp) (fun w3 hB3 hm3 => ?_)
    refine hK _ _ ?_
    clear hK K
    try simp only [pl, pn, el, ec, sz, ss, gz, gs, if_true, if_false, Bool.false_eq_true, Bool.not_true, Bool.not_false, Nat.add_zero, Nat.zero_add, Nat.reduceAdd]
    refine wpPi_nil ?_
    replace hB3 : w3.heap[ub]? = some (.cells #[.int .i64 (useOf l k.1 - x), .int .i64 (cntOf l k.1)] 70 (0, 0)) := hB3
    clear hS hcu hub
    go_upto_region 5 with (fail)
    refine wp_region_seq [3, 3, 3, 1, 3, 3, 3, 1] (fun _ => True) (by rfl) (by rfl) trivial ?_
    simp only [List.zip_cons_cons, List.zip_nil_right]
    refine wpPi_move _ rfl rfl ?_
    simp only [pl, pn, el, ec, sz, ss, gz, gs, if_true, if_false, Bool.false_eq_true, Bool.not_true, Bool.not_false, Nat.add_zero, Nat.zero_add, Nat.reduceAdd]
    refine wpPi_nilCheck _ _ rfl rfl rfl ?_
    simp only [pl, pn, el, ec, sz, ss, gz, gs, if_true, if_false, Bool.false_eq_true, Bool.not_true, Bool.not_false, Nat.add_zero, Nat.zero_add, Nat.reduceAdd]
    refine wpPi_field _ _ _ _ _ _ rfl rfl rfl fo_70_1 ?_
    simp only [pl, pn, el, ec, sz, ss, gz, gs, if_true, if_false, Bool.false_eq_true, Bool.not_true, Bool.not_false, Nat.add_zero, Nat.zero_add, Nat.reduceAdd]
    refine wpPi_do rfl (fun K hK => ?_)
    refine wp_exec (exec_load1 3 _ (by rfl) ub 1 (by rfl) (.int .i64 (cntOf l k.1)) (by simp [World.cell?, hB3]) _ Tryz.underlying3 rfl) ?_
    refine hK _ _ trivial ?_
    clear hK K
    try simp only [pl, pn, el, ec, sz, ss, gz, gs, if_true, if_false, Bool.false_eq_true, Bool.not_true, Bool.not_false, Nat.add_zero, Nat.zero_add, Nat.reduceAdd]
    refine wpPi_sub _ _ _ _ (cntOf l k.1 : Int) 1 rfl rfl rfl rfl hb2.1 hb2.2 ?_
    simp only [pl, pn, el, ec, sz, ss, gz, gs, if_true, if_false, Bool.false_eq_true, Bool.not_true, Bool.not_false, Nat.add_zero, Nat.zero_add, Nat.reduceAdd]
    refine wpPi_nilCheck _ _ rfl rfl rfl ?_
    simp only [pl, pn, el, ec, sz, ss, gz, gs, if_true, if_false, Bool.false_eq_true, Bool.not_true, Bool.not_false, Nat.add_zero, Nat.zero_add, Nat.reduceAdd]
    refine wpPi_field _ _ _ _ _ _ rfl rfl rfl fo_70_1 ?_
    simp only [pl, pn, el, ec, sz, ss, gz, gs, if_true, if_false, Bool.false_eq_true, Bool.not_true, Bool.not_false, Nat.add_zero, Nat.zero_add, Nat.reduceAdd]
    refine wpPi_do rfl (fun K hK => ?_)
    refine wp_store1 3 _ _ ub 1 (.int .i64 ((cntOf l k.1 : Int) - 1)) (by rfl) (by rfl) (by rfl) rfl (by kernel_rfl) _ _ hB3 (by simp) (fun w4 hB4 hm4 => ?_)
    refine hK _ _ trivial ?_
    clear hK K
    try simp only [pl, pn, el, ec, sz, ss, gz, gs, if_true, if_false, Bool.false_eq_true, Bool.not_true, Bool.not_false, Nat.add_zero, Nat.zero_add, Nat.reduceAdd]
    refine wpPi_nil ?_
    replace hB4 : w4.heap[ub]? = some (.cells #[.int .i64 (useOf l k.1 - x), .int .i64 ((cntOf l k.1 : Int) - 1)] 70 (0, 0)) := hB4
    have hm24 : Mod (fun j => j = ub) w2 w4 := (hm3.trans hm4 (fun _ _ h => h)).of_drew
    obtain ⟨tc, htc⟩ : ∃ tc, cmpB .eql ((cntOf l k.1 : Int) - 1) 0 = tc := ⟨_, rfl⟩
    have HTC := Lib.hid htc
    clear htc hm3 hm4
    go_upto_region 6 with (fail)
    refine wp_region_seq [3, 3, 3, 1, 3] (fun _ => True) (by rfl) (by rfl) trivial ?_
    simp only [List.zip_cons_cons, List.zip_nil_right]
    refine wpPi_move _ rfl rfl ?_
    simp only [pl, pn, el, ec, sz, ss, gz, gs, if_true, if_false, Bool.false_eq_true, Bool.not_true, Bool.not_false, Nat.add_zero, Nat.zero_add, Nat.reduceAdd]
    refine wpPi_nilCheck _ _ rfl rfl rfl ?_
    simp only [pl, pn, el, ec, sz, ss, gz, gs, if_true, if_false, Bool.false_eq_true, Bool.not_true, Bool.not_false, Nat.add_zero, Nat.zero_add, Nat.reduceAdd]
    refine wpPi_field _ _ _ _ _ _ rfl rfl rfl fo_70_1 ?_
    simp only [pl, pn, el, ec, sz, ss, gz, gs, if_true, if_false, Bool.false_eq_true, Bool.not_true, Bool.not_false, Nat.add_zero, Nat.zero_add, Nat.reduceAdd]
    refine wpPi_do rfl (fun K hK => ?_)
    refine wp_exec (exec_load1 3 _ (by rfl) ub 1 (by rfl) (.int .i64 ((cntOf l k.1 : Int) - 1)) (by simp [World.cell?, hB4]) _ Tryz.underlying3 rfl) ?_
    refine hK _ _ trivial ?_
    clear hK K
    try simp only [pl, pn, el, ec, sz, ss, gz, gs, if_true, if_false, Bool.false_eq_true, Bool.not_true, Bool.not_false, Nat.add_zero, Nat.zero_add, Nat.reduceAdd]
    refine wpPi_cmp _ _ _ _ _ _ _ _ rfl rfl rfl rfl rfl tc HTC.out ?_
    simp only [pl, pn, el, ec, sz, ss, gz, gs, if_true, if_false, Bool.false_eq_true, Bool.not_true, Bool.not_false, Nat.add_zero, Nat.zero_add, Nat.reduceAdd]
    refine wpPi_nil ?_
    have hn := h1.nes
    have hnu := hn.2.2 _ hmem
    have hn1 := hnu.1
    have hn2 := hnu.2.1
    have hn3 := hnu.2.2
    have hltw : ∀ j, Foot bl ml mu us j → j < w.heap.size := h.lt
    have hltu := hltw ub (.inr (.inr (.inr ⟨_, hmem, rfl⟩)))
    replace hB1 := hm24.obj (b := w.heap.size) (by omega) hB1
    have hbox4 := hm24.obj (b := bl) (fun e => hn1 e.symm) h1.box
    have hlm4 := h1.lm.keep hm24 (fun e => hn2 e.symm)
    have hum4 := h1.um.keep hm24 (fun e => hn3 e.symm)
    have hot4 : ∀ p ∈ us, p.2 ≠ ub → w4.heap[p.2]? = w2.heap[p.2]? := fun p hp hne => (hm24.obj (b := p.2) hne (h1.ub p hp)).trans (h1.ub p hp).symm
    have HUN : Hid (unL l k = delL k l) := Lib.hid (by unfold unL; rw [HG.out]; rfl)
    -- THE USE's ENTRY GOES, IF IT WAS THE LAST; w5: behind that
    cases tc
    case true =>
      have hc1 : cntOf l k.1 = 1 := by
        have := HTC.out
        simp only [cmpB, decide_eq_true_eq] at this
        have := HCP.out
        omega
      have HC1 := Lib.hid hc1; clear hc1
      have hcm : w4.cell? ⟨bl, 2, none⟩ = some (.map (some mu)) := by simp [World.cell?, hbox4]
      go_upto_region 7 with (fail)
      refine wp_region_seq [3, 3, 3, 1, 3, 1] (fun _ => True) (by rfl) (by rfl) trivial ?_
      simp only [List.zip_cons_cons, List.zip_nil_right]
      refine wpPi_move _ rfl rfl ?_
      simp only [pl, pn, el, ec, sz, ss, gz, gs, if_true, if_false, Bool.false_eq_true, Bool.not_true, Bool.not_false, Nat.add_zero, Nat.zero_add, Nat.reduceAdd]
      refine wpPi_nilCheck _ _ rfl rfl rfl ?_
      simp only [pl, pn, el, ec, sz, ss, gz, gs, if_true, if_false, Bool.false_eq_true, Bool.not_true, Bool.not_false, Nat.add_zero, Nat.zero_add, Nat.reduceAdd]
      refine wpPi_field _ _ _ _ _ _ rfl rfl rfl fo_53_2 ?_
      simp only [pl, pn, el, ec, sz, ss, gz, gs, if_true, if_false, Bool.false_eq_true, Bool.not_true, Bool.not_false, Nat.add_zero, Nat.zero_add, Nat.reduceAdd]
      refine wpPi_do rfl (fun K hK => ?_)
      refine wp_exec (exec_load1 50 _ (by rfl) bl 2 (by rfl) _ hcm _ Tryz.underlying50 rfl) ?_
      refine hK _ _ trivial ?_
      clear hK K
      try simp only [pl, pn, el, ec, sz, ss, gz, gs, if_true, if_false, Bool.false_eq_true, Bool.not_true, Bool.not_false, Nat.add_zero, Nat.zero_add, Nat.reduceAdd]
      refine wpPi_move _ rfl rfl ?_
      simp only [pl, pn, el, ec, sz, ss, gz, gs, if_true, if_false, Bool.false_eq_true, Bool.not_true, Bool.not_false, Nat.add_zero, Nat.zero_add, Nat.reduceAdd]
      refine wpPi_do rfl (fun K hK => ?_)
      refine wp_delL (keyT_string Tryz.underlying9) hum4 k.1 trivial 50 68 Tryz.underlying50 _ _ (by rfl) (by rfl) (by rfl) (fun w5 hum5 hm5 => ?_)
      refine hK _ _ trivial ?_
      clear hK K
      try simp only [pl, pn, el, ec, sz, ss, gz, gs, if_true, if_false, Bool.false_eq_true, Bool.not_true, Bool.not_false, Nat.add_zero, Nat.zero_add, Nat.reduceAdd]
      refine wpPi_nil ?_
      rw [delL_map (f := useV)] at hum5
      have hbmu := hn.2.1
      have hne := h1.ne
      have hltm := hltw mu (.inr (.inr (.inl rfl)))
      replace hB1 := hm5.obj (b := w.heap.size) (by omega) hB1
      replace hB4 := hm5.obj (b := ub) hn3 hB4
      replace hbox4 := hm5.obj (b := bl) hbmu hbox4
      replace hlm4 := hlm4.keep hm5 hne
      have hot5 : ∀ p ∈ us, p.2 ≠ ub → w5.heap[p.2]? = w2.heap[p.2]? := fun p hp hq => by
        rw [← hot4 p hp hq, hm5.block p.2 ?_ (hn.2.2 p hp).2.2]
        have := hltw p.2 (.inr (.inr (.inr ⟨p, hp, rfl⟩)))
        have := hM.size
        have := hm24.size
        omega
      have hus : delL k.1 us = if cntOf l k.1 = 1 then delL k.1 us else us := by rw [if_pos HC1.out]
      have HUS := Lib.hid hus; clear hus
      have hMw : Mod (fun j => j = ub ∨ j = mu) w2 w5 := (hm24.mono (S' := fun j => j = ub ∨ j = mu) (fun _ _ h => .inl h)).trans hm5 (fun _ _ h => .inr h)
      have hcl : w5.cell? ⟨bl, 1, none⟩ = some (.map (some ml)) := by simp [World.cell?, hbox4]
      have hbml := hn.1
      have hltl := hltw ml (.inr (.inl rfl))
      go_upto_region 8 with (fail)
      have hS : Mod (fun j => j = ml) w5 w5.drew := (Mod.refl _ _).drew
      refine wp_region_pi [(0, 3), (1, 3), (2, 3), (3, 0), (4, 3), (5, 0), (6, 3), (7, 1)] [] (fun w' => Mod (fun j => j = ml) w5 w') (by kernel_rfl) (by kernel_rfl) (by kernel_rfl) (by kernel_rfl) (fun _ _ _ _ hd h => ⟨hd.trans h.1, h.2⟩) hS ?_
      simp only [List.map_cons, List.map_nil, List.getD_cons_zero, List.getD_cons_succ]
      refine wpPi_move _ rfl rfl ?_
      simp only [pl, pn, el, ec, sz, ss, gz, gs, if_true, if_false, Bool.false_eq_true, Bool.not_true, Bool.not_false, Nat.add_zero, Nat.zero_add, Nat.reduceAdd]
      refine wpPi_nilCheck _ _ rfl rfl rfl ?_
      simp only [pl, pn, el, ec, sz, ss, gz, gs, if_true, if_false, Bool.false_eq_true, Bool.not_true, Bool.not_false, Nat.add_zero, Nat.zero_add, Nat.reduceAdd]
      refine wpPi_field _ _ _ _ _ _ rfl rfl rfl fo_53_1 ?_
      simp only [pl, pn, el, ec, sz, ss, gz, gs, if_true, if_false, Bool.false_eq_true, Bool.not_true, Bool.not_false, Nat.add_zero, Nat.zero_add, Nat.reduceAdd]
      refine wpPi_val rfl (fun w' hS => exec_load1 49 _ (by rfl) bl 1 (by rfl) _ (hS.cell (by exact hbml) hcl) _ Tryz.underlying49 rfl) ?_
      simp only [pl, pn, el, ec, sz, ss, gz, gs, if_true, if_false, Bool.false_eq_true, Bool.not_true, Bool.not_false, Nat.add_zero, Nat.zero_add, Nat.reduceAdd]
      refine wpPi_move _ rfl rfl ?_
      simp only [pl, pn, el, ec, sz, ss, gz, gs, if_true, if_false, Bool.false_eq_true, Bool.not_true, Bool.not_false, Nat.add_zero, Nat.zero_add, Nat.reduceAdd]
      refine wpPi_val rfl (fun w' hS => exec_loadA 32 _ (by rfl) w.heap.size 0 (by rfl) (idCells k.2) (CellsAt.whole (hS.obj (b := w.heap.size) (by omega) hB1)) _ Tryz.underlying32 rfl 32 (by kernel_rfl) (by rw [idCells_size]; exact hk)) ?_
      simp only [pl, pn, el, ec, sz, ss, gz, gs, if_true, if_false, Bool.false_eq_true, Bool.not_true, Bool.not_false, Nat.add_zero, Nat.zero_add, Nat.reduceAdd]
      refine wpPi_any (v := keyV k) rfl (fun w' => exec_build_key _ _ k hk rfl rfl rfl) ?_
      simp only [pl, pn, el, ec, sz, ss, gz, gs, if_true, if_false, Bool.false_eq_true, Bool.not_true, Bool.not_false, Nat.add_zero, Nat.zero_add, Nat.reduceAdd]
      refine wpPi_do rfl (fun K hK => ?_)
      refine wp_delL keyT_key (hlm4.keep0 (Mod.refl NoB w5).drew) k hk 49 64 Tryz.underlying49 _ _ (by rfl) (by rfl) (by rfl) (fun w7 hlm7 hm7 => ?_)
      have hM7 : Mod (fun j => j = ml) w5 w7 := hS.trans hm7 (fun _ _ h => h)
      refine hK _ _ hM7 ?_
      clear hK K
      try simp only [pl, pn, el, ec, sz, ss, gz, gs, if_true, if_false, Bool.false_eq_true, Bool.not_true, Bool.not_false, Nat.add_zero, Nat.zero_add, Nat.reduceAdd]
      refine wpPi_nil ?_
      go_wp2
      go_ret
      refine ⟨rfl, ?_⟩
      rw [HUN.out]
      refine ⟨delL k.1 us, h1.deleted HG.out HGU.out ((hM7.obj (b := bl) hbml hbox4).trans h1.box.symm) hlm7 (hum5.keep hM7 (fun e => h1.ne e.symm)) HUS.out (fun _ => hM7.obj (b := ub) hn2 hB4) (fun p hp hq => ?_), ?_, fun j hj => ?_⟩
      · rw [← hot5 p hp hq, hM7.block p.2 ?_ (hn.2.2 p hp).2.1]
        have := hltw p.2 (.inr (.inr (.inr ⟨p, hp, rfl⟩)))
        have := hM.size
        have := hMw.size
        omega
      · refine ((hM.mono (S' := Foot bl ml mu us) (fun _ _ h => False.elim h)).trans hMw (fun j _ e => ?_)).trans hM7 (fun j _ e => .inr (.inl e))
        rcases e with e | e
        · exact .inr (.inr (.inr ⟨_, hmem, e⟩))
        · exact .inr (.inr (.inl e))
      · rcases hj with e | e | e | ⟨p, hp, e⟩
        · exact .inl (.inl e)
        · exact .inl (.inr (.inl e))
        · exact .inl (.inr (.inr (.inl e)))
        · exact .inl (.inr (.inr (.inr ⟨p, mem_del hp, e⟩)))
    case false =>
      have hc1 : cntOf l k.1 ≠ 1 := by
        intro e
        have := HTC.out
        simp [cmpB, e] at this
      have HC1 := Lib.hid hc1; clear hc1
      have hus : us = if cntOf l k.1 = 1 then delL k.1 us else us := by rw [if_neg HC1.out]
      have HUS := Lib.hid hus; clear hus
      have hMw : Mod (fun j => j = ub ∨ j = mu) w2 w4 := hm24.mono (S' := fun j => j = ub ∨ j = mu) (fun _ _ h => .inl h)
      have hcl : w4.cell? ⟨bl, 1, none⟩ = some (.map (some ml)) := by simp [World.cell?, hbox4]
      have hbml := hn.1
      have hltl := hltw ml (.inr (.inl rfl))
      go_upto_region 8 with (fail)
      have hS : Mod (fun j => j = ml) w4 w4.drew := (Mod.refl _ _).drew
      refine wp_region_pi [(0, 3), (1, 3), (2, 3), (3, 0), (4, 3), (5, 0), (6, 3), (7, 1)] [] (fun w' => Mod (fun j => j = ml) w4 w') (by kernel_rfl) (by kernel_rfl) (by kernel_rfl) (by kernel_rfl) (fun _ _ _ _ hd h => ⟨hd.trans h.1, h.2⟩) hS ?_
      simp only [List.map_cons, List.map_nil, List.getD_cons_zero, List.getD_cons_succ]
      refine wpPi_move _ rfl rfl ?_
      simp only [pl, pn, el, ec, sz, ss, gz, gs, if_true, if_false, Bool.false_eq_true, Bool.not_true, Bool.not_false, Nat.add_zero, Nat.zero_add, Nat.reduceAdd]
      refine wpPi_nilCheck _ _ rfl rfl rfl ?_
      simp only [pl, pn, el, ec, sz, ss, gz, gs, if_true, if_false, Bool.false_eq_true, Bool.not_true, Bool.not_false, Nat.add_zero, Nat.zero_add, Nat.reduceAdd]
      refine wpPi_field _ _ _ _ _ _ rfl rfl rfl fo_53_1 ?_
      simp only [pl, pn, el, ec, sz, ss, gz, gs, if_true, if_false, Bool.false_eq_true, Bool.not_true, Bool.not_false, Nat.add_zero, Nat.zero_add, Nat.reduceAdd]
      refine wpPi_val rfl (fun w' hS => exec_load1 49 _ (by rfl) bl 1 (by rfl) _ (hS.cell (by exact hbml) hcl) _ Tryz.underlying49 rfl) ?_
      simp only [pl, pn, el, ec, sz, ss, gz, gs, if_true, if_false, Bool.false_eq_true, Bool.not_true, Bool.not_false, Nat.add_zero, Nat.zero_add, Nat.reduceAdd]
      refine wpPi_move _ rfl rfl ?_
      simp only [pl, pn, el, ec, sz, ss, gz, gs, if_true, if_false, Bool.false_eq_true, Bool.not_true, Bool.not_false, Nat.add_zero, Nat.zero_add, Nat.reduceAdd]
      refine wpPi_val rfl (fun w' hS => exec_loadA 32 _ (by rfl) w.heap.size 0 (by rfl) (idCells k.2) (CellsAt.whole (hS.obj (b := w.heap.size) (by omega) hB1)) _ Tryz.underlying32 rfl 32 (by kernel_rfl) (by rw [idCells_size]; exact hk)) ?_
      simp only [pl, pn, el, ec, sz, ss, gz, gs, if_true, if_false, Bool.false_eq_true, Bool.not_true, Bool.not_false, Nat.add_zero, Nat.zero_add, Nat.reduceAdd]
      refine wpPi_any (v := keyV k) rfl (fun w' => exec_build_key _ _ k hk rfl rfl rfl) ?_
      simp only [pl, pn, el, ec, sz, ss, gz, gs, if_true, if_false, Bool.false_eq_true, Bool.not_true, Bool.not_false, Nat.add_zero, Nat.zero_add, Nat.reduceAdd]
      refine wpPi_do rfl (fun K hK => ?_)
      refine wp_delL keyT_key (hlm4.keep0 (Mod.refl NoB w4).drew) k hk 49 64 Tryz.underlying49 _ _ (by rfl) (by rfl) (by rfl) (fun w7 hlm7 hm7 => ?_)
      have hM7 : Mod (fun j => j = ml) w4 w7 := hS.trans hm7 (fun _ _ h => h)
      refine hK _ _ hM7 ?_
      clear hK K
      try simp only [pl, pn, el, ec, sz, ss, gz, gs, if_true, if_false, Bool.false_eq_true, Bool.not_true, Bool.not_false, Nat.add_zero, Nat.zero_add, Nat.reduceAdd]
      refine wpPi_nil ?_
      go_wp2
      go_ret
      refine ⟨rfl, ?_⟩
      rw [HUN.out]
      refine ⟨us, h1.deleted HG.out HGU.out ((hM7.obj (b := bl) hbml hbox4).trans h1.box.symm) hlm7 (hum4.keep hM7 (fun e => h1.ne e.symm)) HUS.out (fun _ => hM7.obj (b := ub) hn2 hB4) (fun p hp hq => ?_), ?_, fun j hj => ?_⟩
      · rw [← hot4 p hp hq, hM7.block p.2 ?_ (hn.2.2 p hp).2.1]
        have := hltw p.2 (.inr (.inr (.inr ⟨p, hp, rfl⟩)))
        have := hM.size
        have := hMw.size
        omega
      · refine ((hM.mono (S' := Foot bl ml mu us) (fun _ _ h => False.elim h)).trans hMw (fun j _ e => ?_)).trans hM7 (fun j _ e => .inr (.inl e))
        rcases e with e | e
        · exact .inr (.inr (.inr ⟨_, hmem, e⟩))
        · exact .inr (.inr (.inl e))
      · rcases hj with e | e | e | ⟨p, hp, e⟩
        · exact .inl (.inl e)
        · exact .inl (.inr (.inl e))
        · exact .inl (.inr (.inr (.inl e)))
        · exact .inl (.inr (.inr (.inr ⟨p, hp, e⟩)))
end
end Go.Proofs.YtcfcahflkhgapaaGreat
