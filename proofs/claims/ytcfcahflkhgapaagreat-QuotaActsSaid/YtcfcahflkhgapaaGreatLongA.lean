/- Are calls more than are gone through? -/
import Derived.Test.YtcfcahflkhgapaaGreatReadQ
import Derived.Test.YtcfcahflkhgapaaGreatQE
namespace Go.Proofs.YtcfcahflkhgapaaGreat
set_option linter.unusedSimpArgs false
set_option linter.unusedVariables false
set_option linter.unnecessarySimpa false
set_option linter.unusedSectionVars false
open Go.RowKit

theorem fo_34_1 : fieldOff Tryz.prog 34 1 = some 1 := by kernel_rfl
theorem fo_34_2 : fieldOff Tryz.prog 34 2 = some 2 := by kernel_rfl
theorem exec_len_str {P : Program} {w : World} {o : Oper} {a : Act} (t : TypeId) (x : Operand) (s : ByteArray) (ho : o.op = .call { callee := .builtin .len, args := #[x], argTypes := #[t] }) (hx : a.eval x = .string s) (ht : P.underlying t = some .string) : (execOp a.eval o).run P w = .ok (.value (.int .i64 s.size)) w := by
  unfold execOp
  simp [ho, hx, resolve, invoke, builtin, Builtin.len_, run_underlying ht, goInt]

/-! ### long -/
def SmallA (l : List Actn) : Prop := l.length ≤ 40 ∧ ∀ a ∈ l, a.repo.size ≤ 150 ∧ a.dest.size ≤ 150
def LongR10 (l : List Actn) (w : World) : Ending → World → Prop := fun e w' => ∃ b : Bool, e = .returned (.bool b) ∧ Mod NoB w w' ∧ (b = false ↔ SmallA l)
def LongRel10 (w0 : World) (l : List Actn) (i : Value) (w : World) : Prop := ∃ k : Nat, k ≤ l.length ∧ k ≤ 41 ∧ i = .int .i64 k ∧ Mod NoB w0 w ∧ ∀ j (h : j < l.length), j < k → l[j].repo.size ≤ 150 ∧ l[j].dest.size ≤ 150
theorem actCells_at (x : Actn) : (actCells x)[0]? = some (.int .i64 x.kind) ∧ (actCells x)[1]? = some (.string x.repo) ∧ (actCells x)[2]? = some (.string x.dest) := by
  have h : ∀ j, j < 3 → (actCells x)[j]? = (#[.int .i64 x.kind, .string x.repo, .string x.dest] : Array Value)[j]? := fun j hj => by
    unfold actCells
    rw [Array.getElem?_append_left (by simp; omega), Array.getElem?_append_left (by simpa using hj)]
  exact ⟨(h 0 (by omega)).trans rfl, (h 1 (by omega)).trans rfl, (h 2 (by omega)).trans rfl⟩
theorem actCells_id (x : Actn) (h : x.id.length = 32) : (∀ j, j < (idCells x.id).size → (actCells x)[3 + j]? = (idCells x.id)[j]?) ∧ (actCells x)[35]? = some (.int .i64 x.size) := by
  have hs : (idCells x.id).size = 32 := by rw [idCells_size, h]
  constructor
  · intro j hj
    unfold actCells
    rw [Array.getElem?_append_left (by simp [hs]; omega), Array.getElem?_append_right (by simp)]
    simp
  · unfold actCells
    rw [Array.getElem?_append_right (by simp [hs])]
    simp [hs]
set_option maxRecDepth 10000 in
set_option maxHeartbeats 1000000 in
theorem long10_any (v : Value) (l : List Actn) (w : World) {G : Nat → Prop} (h : Sl false w G 36 ActR v l) : Calls Tryz.prog 6 #[v] w (LongR10 l w) := by
  obtain ⟨av, cap, rfl, hlen, hat⟩ := h.at
  have HA := Lib.hid hat; clear hat
  go_enter Tryz.func6, Tryz.ntmps6
  go_wp2
  go_loopw [3] (LongRel10 w l) (fun i _ => l.length - (intOf i).toNat)
  case atStart => exact ⟨0, by omega, by omega, rfl, Mod.refl _ _, fun j h hj => by omega⟩
  case round =>
    obtain ⟨k, hk, hk41, rfl, hM, hall⟩ := hrel
    rename_i wr
    by_cases hlt : k < l.length
    · by_cases hlt2 : k < 41
      · obtain ⟨b, off, rfl, -, -, hat⟩ := HA.out k hlt
        obtain ⟨cs, hcs, hR, hcells⟩ := hat k hlt
        obtain ⟨rfl, h32, hr, hd, _⟩ := hR
        have hcw := hcells.keep hM id
        have ha := actCells_at l[k]
        have hc1 := hcw.cell ha.2.1
        have hc2 := hcw.cell ha.2.2
        clear HA hcells hcw ha hat
        have hz1 : (k : Int) < (l.length : Int) := by omega
        have hz2 : (k : Int) < 41 := by omega
        by_cases h1 : 150 < l[k].repo.size
        · have hz3 : (150 : Int) < (l[k].repo.size : Int) := by omega
          go_upto_region 4 with (fail)
          refine wp_region_seq [3, 3, 3, 3, 1, 3, 3, 3, 3, 3, 3, 3, 0, 3, 3, 3] (fun _ => True) (by rfl) (by rfl) trivial ?_
          simp only [List.zip_cons_cons, List.zip_nil_right]
          refine wpPi_move _ rfl rfl ?_
          simp only [pl, pn, el, ec, sz, ss, gz, gs, if_true, if_false, Bool.false_eq_true, Bool.not_true, Bool.not_false, Nat.add_zero, Nat.zero_add, Nat.reduceAdd]
          refine wpPi_move _ rfl rfl ?_
          simp only [pl, pn, el, ec, sz, ss, gz, gs, if_true, if_false, Bool.false_eq_true, Bool.not_true, Bool.not_false, Nat.add_zero, Nat.zero_add, Nat.reduceAdd]
          refine wpPi_index _ _ _ _ _ _ _ _ _ rfl rfl rfl rfl Tryz.underlying22 (n := 36) (by kernel_rfl) hlt ?_
          simp only [pl, pn, el, ec, sz, ss, gz, gs, if_true, if_false, Bool.false_eq_true, Bool.not_true, Bool.not_false, Nat.add_zero, Nat.zero_add, Nat.reduceAdd]
          refine wpPi_field _ _ _ _ _ _ rfl rfl rfl fo_34_1 ?_
          simp only [pl, pn, el, ec, sz, ss, gz, gs, if_true, if_false, Bool.false_eq_true, Bool.not_true, Bool.not_false, Nat.add_zero, Nat.zero_add, Nat.reduceAdd]
          refine wpPi_do rfl (fun K hK => ?_)
          refine wp_exec (exec_load1 9 _ (by rfl) b (off + k * 36 + 1) (by rfl) _ hc1 _ Tryz.underlying9 rfl) ?_
          refine hK _ _ trivial ?_
          clear hK K
          try simp only [pl, pn, el, ec, sz, ss, gz, gs, if_true, if_false, Bool.false_eq_true, Bool.not_true, Bool.not_false, Nat.add_zero, Nat.zero_add, Nat.reduceAdd]
          refine wpPi_any (v := .int .i64 l[k].repo.size) rfl (fun w' => exec_len_str _ _ _ rfl rfl Tryz.underlying9) ?_
          simp only [pl, pn, el, ec, sz, ss, gz, gs, if_true, if_false, Bool.false_eq_true, Bool.not_true, Bool.not_false, Nat.add_zero, Nat.zero_add, Nat.reduceAdd]
          refine wpPi_cmp _ _ _ _ _ _ _ _ rfl rfl rfl rfl rfl true (decide_eq_true hz3) ?_
          simp only [pl, pn, el, ec, sz, ss, gz, gs, if_true, if_false, Bool.false_eq_true, Bool.not_true, Bool.not_false, Nat.add_zero, Nat.zero_add, Nat.reduceAdd]
          refine wpPi_move _ rfl rfl ?_
          simp only [pl, pn, el, ec, sz, ss, gz, gs, if_true, if_false, Bool.false_eq_true, Bool.not_true, Bool.not_false, Nat.add_zero, Nat.zero_add, Nat.reduceAdd]
          refine wpPi_skip rfl ?_
          simp only [pl, pn, el, ec, sz, ss, gz, gs, if_true, if_false, Bool.false_eq_true, Bool.not_true, Bool.not_false, Nat.add_zero, Nat.zero_add, Nat.reduceAdd]
          refine wpPi_skip rfl ?_
          simp only [pl, pn, el, ec, sz, ss, gz, gs, if_true, if_false, Bool.false_eq_true, Bool.not_true, Bool.not_false, Nat.add_zero, Nat.zero_add, Nat.reduceAdd]
          refine wpPi_skip rfl ?_
          simp only [pl, pn, el, ec, sz, ss, gz, gs, if_true, if_false, Bool.false_eq_true, Bool.not_true, Bool.not_false, Nat.add_zero, Nat.zero_add, Nat.reduceAdd]
          refine wpPi_skip rfl ?_
          simp only [pl, pn, el, ec, sz, ss, gz, gs, if_true, if_false, Bool.false_eq_true, Bool.not_true, Bool.not_false, Nat.add_zero, Nat.zero_add, Nat.reduceAdd]
          refine wpPi_skip0 rfl ?_
          simp only [pl, pn, el, ec, sz, ss, gz, gs, if_true, if_false, Bool.false_eq_true, Bool.not_true, Bool.not_false, Nat.add_zero, Nat.zero_add, Nat.reduceAdd]
          refine wpPi_skip rfl ?_
          simp only [pl, pn, el, ec, sz, ss, gz, gs, if_true, if_false, Bool.false_eq_true, Bool.not_true, Bool.not_false, Nat.add_zero, Nat.zero_add, Nat.reduceAdd]
          refine wpPi_skip rfl ?_
          simp only [pl, pn, el, ec, sz, ss, gz, gs, if_true, if_false, Bool.false_eq_true, Bool.not_true, Bool.not_false, Nat.add_zero, Nat.zero_add, Nat.reduceAdd]
          refine wpPi_pick _ _ _ _ rfl rfl rfl ?_
          simp only [pl, pn, el, ec, sz, ss, gz, gs, if_true, if_false, Bool.false_eq_true, Bool.not_true, Bool.not_false, Nat.add_zero, Nat.zero_add, Nat.reduceAdd]
          refine wpPi_nil ?_
          go_wp2
          go_ret
          exact ⟨true, rfl, hM, fun h => (by cases h), fun hs => absurd (hs.2 _ (List.getElem_mem hlt)).1 (by omega)⟩
        · have hz3 : ¬ (150 : Int) < (l[k].repo.size : Int) := by omega
          obtain ⟨t, ht⟩ : ∃ t, decide ((150 : Int) < (l[k].dest.size : Int)) = t := ⟨_, rfl⟩
          go_upto_region 4 with (fail)
          refine wp_region_seq [3, 3, 3, 3, 1, 3, 3, 3, 3, 3, 3, 3, 1, 3, 3, 3] (fun _ => True) (by rfl) (by rfl) trivial ?_
          simp only [List.zip_cons_cons, List.zip_nil_right]
          refine wpPi_move _ rfl rfl ?_
          simp only [pl, pn, el, ec, sz, ss, gz, gs, if_true, if_false, Bool.false_eq_true, Bool.not_true, Bool.not_false, Nat.add_zero, Nat.zero_add, Nat.reduceAdd]
          refine wpPi_move _ rfl rfl ?_
          simp only [pl, pn, el, ec, sz, ss, gz, gs, if_true, if_false, Bool.false_eq_true, Bool.not_true, Bool.not_false, Nat.add_zero, Nat.zero_add, Nat.reduceAdd]
          refine wpPi_index _ _ _ _ _ _ _ _ _ rfl rfl rfl rfl Tryz.underlying22 (n := 36) (by kernel_rfl) hlt ?_
          simp only [pl, pn, el, ec, sz, ss, gz, gs, if_true, if_false, Bool.false_eq_true, Bool.not_true, Bool.not_false, Nat.add_zero, Nat.zero_add, Nat.reduceAdd]
          refine wpPi_field _ _ _ _ _ _ rfl rfl rfl fo_34_1 ?_
          simp only [pl, pn, el, ec, sz, ss, gz, gs, if_true, if_false, Bool.false_eq_true, Bool.not_true, Bool.not_false, Nat.add_zero, Nat.zero_add, Nat.reduceAdd]
          refine wpPi_do rfl (fun K hK => ?_)
          refine wp_exec (exec_load1 9 _ (by rfl) b (off + k * 36 + 1) (by rfl) _ hc1 _ Tryz.underlying9 rfl) ?_
          refine hK _ _ trivial ?_
          clear hK K
          try simp only [pl, pn, el, ec, sz, ss, gz, gs, if_true, if_false, Bool.false_eq_true, Bool.not_true, Bool.not_false, Nat.add_zero, Nat.zero_add, Nat.reduceAdd]
          refine wpPi_any (v := .int .i64 l[k].repo.size) rfl (fun w' => exec_len_str _ _ _ rfl rfl Tryz.underlying9) ?_
          simp only [pl, pn, el, ec, sz, ss, gz, gs, if_true, if_false, Bool.false_eq_true, Bool.not_true, Bool.not_false, Nat.add_zero, Nat.zero_add, Nat.reduceAdd]
          refine wpPi_cmp _ _ _ _ _ _ _ _ rfl rfl rfl rfl rfl false (decide_eq_false hz3) ?_
          simp only [pl, pn, el, ec, sz, ss, gz, gs, if_true, if_false, Bool.false_eq_true, Bool.not_true, Bool.not_false, Nat.add_zero, Nat.zero_add, Nat.reduceAdd]
          refine wpPi_move _ rfl rfl ?_
          simp only [pl, pn, el, ec, sz, ss, gz, gs, if_true, if_false, Bool.false_eq_true, Bool.not_true, Bool.not_false, Nat.add_zero, Nat.zero_add, Nat.reduceAdd]
          refine wpPi_move _ rfl rfl ?_
          simp only [pl, pn, el, ec, sz, ss, gz, gs, if_true, if_false, Bool.false_eq_true, Bool.not_true, Bool.not_false, Nat.add_zero, Nat.zero_add, Nat.reduceAdd]
          refine wpPi_move _ rfl rfl ?_
          simp only [pl, pn, el, ec, sz, ss, gz, gs, if_true, if_false, Bool.false_eq_true, Bool.not_true, Bool.not_false, Nat.add_zero, Nat.zero_add, Nat.reduceAdd]
          refine wpPi_index _ _ _ _ _ _ _ _ _ rfl rfl rfl rfl Tryz.underlying22 (n := 36) (by kernel_rfl) hlt ?_
          simp only [pl, pn, el, ec, sz, ss, gz, gs, if_true, if_false, Bool.false_eq_true, Bool.not_true, Bool.not_false, Nat.add_zero, Nat.zero_add, Nat.reduceAdd]
          refine wpPi_field _ _ _ _ _ _ rfl rfl rfl fo_34_2 ?_
          simp only [pl, pn, el, ec, sz, ss, gz, gs, if_true, if_false, Bool.false_eq_true, Bool.not_true, Bool.not_false, Nat.add_zero, Nat.zero_add, Nat.reduceAdd]
          refine wpPi_do rfl (fun K hK => ?_)
          refine wp_exec (exec_load1 9 _ (by rfl) b (off + k * 36 + 2) (by rfl) _ hc2 _ Tryz.underlying9 rfl) ?_
          refine hK _ _ trivial ?_
          clear hK K
          try simp only [pl, pn, el, ec, sz, ss, gz, gs, if_true, if_false, Bool.false_eq_true, Bool.not_true, Bool.not_false, Nat.add_zero, Nat.zero_add, Nat.reduceAdd]
          refine wpPi_any (v := .int .i64 l[k].dest.size) rfl (fun w' => exec_len_str _ _ _ rfl rfl Tryz.underlying9) ?_
          simp only [pl, pn, el, ec, sz, ss, gz, gs, if_true, if_false, Bool.false_eq_true, Bool.not_true, Bool.not_false, Nat.add_zero, Nat.zero_add, Nat.reduceAdd]
          refine wpPi_cmp _ _ _ _ _ _ _ _ rfl rfl rfl rfl rfl t ht ?_
          simp only [pl, pn, el, ec, sz, ss, gz, gs, if_true, if_false, Bool.false_eq_true, Bool.not_true, Bool.not_false, Nat.add_zero, Nat.zero_add, Nat.reduceAdd]
          refine wpPi_pick _ _ _ _ rfl rfl rfl ?_
          simp only [pl, pn, el, ec, sz, ss, gz, gs, if_true, if_false, Bool.false_eq_true, Bool.not_true, Bool.not_false, Nat.add_zero, Nat.zero_add, Nat.reduceAdd]
          refine wpPi_nil ?_
          have HT := Lib.hid ht
          clear ht
          cases t
          · have h2 : ¬ 150 < l[k].dest.size := by have := of_decide_eq_false HT.out; omega
            go_wp2
            go_roundw
            case rel =>
              refine ⟨k + 1, by omega, by omega, by go_num, hM, fun j h hj => ?_⟩
              by_cases hjk : j = k
              · subst hjk; exact ⟨by omega, by omega⟩
              · exact hall j h (by omega)
            case measure => simp [intOf]; omega
          · have h2 : 150 < l[k].dest.size := by have := of_decide_eq_true HT.out; omega
            go_wp2
            go_ret
            exact ⟨true, rfl, hM, fun h => (by cases h), fun hs => absurd (hs.2 _ (List.getElem_mem hlt)).2 (by omega)⟩
      · have hz1 : (k : Int) < (l.length : Int) := by omega
        have hz2 : ¬ (k : Int) < 41 := by omega
        have hz3 : (40 : Int) < (l.length : Int) := by omega
        go_wp2
        go_ret
        exact ⟨_, rfl, hM, fun h => (by simp at h), fun hs => absurd hs.1 (by omega)⟩
    · have hz1 : ¬ (k : Int) < (l.length : Int) := by omega
      have HALL := Lib.hid hall
      clear hall
      by_cases hl : 40 < l.length
      · have hz3 : (40 : Int) < (l.length : Int) := by omega
        go_wp2
        go_ret
        exact ⟨_, rfl, hM, fun h => (by simp at h), fun hs => absurd hs.1 (by omega)⟩
      · have hz3 : ¬ (40 : Int) < (l.length : Int) := by omega
        go_wp2
        go_ret
        refine ⟨_, rfl, hM, fun _ => ⟨by omega, fun a ha => ?_⟩, fun _ => by simp⟩
        obtain ⟨j, hj, rfl⟩ := List.getElem_of_mem ha
        exact HALL.out j hj (by omega)
instance smallD (l : List Actn) : Decidable (SmallA l) := by unfold SmallA; exact inferInstance
theorem long10_det (v : Value) (l : List Actn) (w : World) {G : Nat → Prop} (h : Sl false w G 36 ActR v l) : Calls Tryz.prog 6 #[v] w (RetM (.bool (!decide (SmallA l))) w) := by
  refine (long10_any v l w h).mono ?_
  rintro e w' ⟨b, rfl, hm, hb⟩
  refine ⟨ret_bool ?_, hm⟩
  cases b
  · rw [decide_eq_true (hb.1 rfl)]; rfl
  · rw [decide_eq_false (fun hs => by have := hb.2 hs; cases this)]; rfl
end Go.Proofs.YtcfcahflkhgapaaGreat
