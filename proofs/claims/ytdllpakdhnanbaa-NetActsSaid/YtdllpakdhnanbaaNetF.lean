/- The net's functions that go by a number: Take, Drop, Copy. -/
import Derived.Test.YtdllpakdhnanbaaNetE
namespace Go.Proofs.Ytdllpakdhnanbaa
set_option linter.unusedSimpArgs false
set_option linter.unusedVariables false
set_option linter.unnecessarySimpa false
open Go.RowKit

theorem results_cell_tmp {P : Program} {fn : Func} {a t : Nat} {ty : TypeId} (h : fn.results = #[.cell a ty, .tmp t]) (tmps : Array Value) (w : World) (b : Nat) (cs : Array Value) (T : TypeId) (fr : Nat × Nat)
    (ha : tmps.getD a undef = .pointer (some ⟨b, 0, none⟩)) (hb : w.heap[b]? = some (.cells cs T fr)) {d : TypeDesc} (hu : P.underlying ty = some d) (hd : (match d with | .struct _ | .array _ _ => true | _ => false) = true) (hi : (P.info? ty).map (·.size) = some cs.size) :
    (results fn tmps).run P w = .ok (.tuple #[.agg cs, tmps.getD t undef]) w := by
  have h1 := run_loadVar_cells (P := P) (CellsAt.whole hb) hu hd hi
  have ha' : tmps[a]?.getD undef = .pointer (some ⟨b, 0, none⟩) := by simpa using ha
  simp [results, h, ha', asAddr, h1]

section
variable {w : World} {bx mb : Nat} {n lost : Int} {cut : Int × Int → Bool} {its : List It}

theorem NetInv.one (h : NetInv w bx mb n lost cut its) (i : Nat) (hi : i < its.length) : ∀ c ∈ its[i].cs, c.oneCell' = true := (h.lets _ (List.getElem_mem hi)).1.one
theorem NetInv.sz (h : NetInv w bx mb n lost cut its) (i : Nat) (hi : i < its.length) : its[i].cs.size = 40 := (h.lets _ (List.getElem_mem hi)).1.size
theorem NetInv.lk (i : Nat) (hi : i < its.length) : (its.map It.lk)[i]'(by simpa using hi) = (its[i].b, its[i].cs) := by simp [It.lk]

/-- pull, of the net as it is held. -/
theorem pull_inv (h : NetInv w bx mb n lost cut its) (i : Nat) (hi : i < its.length) :
    Calls Try.prog 48 #[.pointer (some ⟨bx, 2, none⟩), .int .i64 i] w fun e w' => e = .returned (.agg its[i].cs) ∧ NetInv w' bx mb n lost cut (its.eraseIdx i) ∧ Mod (NetBl bx (its.map It.lk)) w w' ∧
      LetR true w' its[i].E its[i].G its[i].cs its[i].l ∧ ∀ k, its[i].foot k → ¬ NetFoot bx mb (its.eraseIdx i) k := by
  have hi' : i < (its.map It.lk).length := by simpa using hi
  refine (pull_any w bx mb n lost _ h.net i hi' (by rw [NetInv.lk i hi]; exact h.one i hi)).mono ?_
  rintro e w' ⟨he, hn, hm⟩
  rw [NetInv.lk i hi] at he
  obtain ⟨h1, h2, h3⟩ := h.pull i hi hn hm
  exact ⟨he, h1, hm, h2, h3⟩

set_option maxRecDepth 10000 in
set_option maxHeartbeats 400000 in
theorem take47 (h : NetInv w bx mb n lost cut its) (B1 B2 : Nat) (cur : Array Value) (hB1 : w.heap[B1]? = some (.cells #[.pointer (some ⟨bx, 0, none⟩)] 23 (0, 0))) (hB2 : w.heap[B2]? = some (.cells cur 38 (0, 0))) (hcur : cur.size = 40)
    (h2 : ¬ NetFoot bx mb its B2) (i : Nat) (hi : i < its.length) :
    Calls Try.prog 47 #[.int .i64 i, .pointer (some ⟨B1, 0, none⟩), .pointer (some ⟨B2, 0, none⟩)] w fun e w' => e = .returned (.int .i64 0) ∧ NetInv w' bx mb n lost cut (its.eraseIdx i) ∧ w'.heap[B2]? = some (.cells its[i].cs 38 (0, 0)) ∧
      Mod (fun k => NetBl bx (its.map It.lk) k ∨ k = B2) w w' ∧ LetR true w' its[i].E its[i].G its[i].cs its[i].l ∧ ∀ k, its[i].foot k → ¬ NetFoot bx mb (its.eraseIdx i) k := by
  go_enter Try.func47, Try.ntmps47
  go_upto_region 1 with (fail)
  have hsz := h.sz i hi
  have hone := h.one i hi
  have hold := h.old _ (List.getElem_mem hi)
  have hpx : w.cell? ⟨B1, 0, none⟩ = some (.pointer (some ⟨bx, 0, none⟩)) := by rw [cell_of_row _ _ _ _ _ _ hB1]; rfl
  have hF2 : ¬ NetBl bx (its.map It.lk) B2 := fun hk => h2 (NetInv.bl_foot hk)
  refine wp_region_seq [1, 3, 3, 3, 1, 1] (fun _ => True) (by rfl) (by rfl) trivial ?_
  simp only [List.zip_cons_cons, List.zip_nil_right]
  refine wpPi_do rfl (fun K hK => ?_)
  refine wp_exec (exec_load1 23 _ (by rfl) B1 0 (by rfl) _ hpx _ Try.underlying23 rfl) ?_
  refine hK _ _ trivial ?_
  clear hK K
  try simp only [pl, pn, el, ec, sz, ss, gz, gs, if_true, if_false, Bool.false_eq_true, Bool.not_true, Bool.not_false, Nat.add_zero, Nat.zero_add, Nat.reduceAdd]
  refine wpPi_nilCheck _ _ rfl rfl rfl ?_
  simp only [pl, pn, el, ec, sz, ss, gz, gs, if_true, if_false, Bool.false_eq_true, Bool.not_true, Bool.not_false, Nat.add_zero, Nat.zero_add, Nat.reduceAdd]
  refine wpPi_field _ _ _ _ _ _ rfl rfl rfl fo_72_2 ?_
  simp only [pl, pn, el, ec, sz, ss, gz, gs, if_true, if_false, Bool.false_eq_true, Bool.not_true, Bool.not_false, Nat.add_zero, Nat.zero_add, Nat.reduceAdd]
  refine wpPi_move _ rfl rfl ?_
  simp only [pl, pn, el, ec, sz, ss, gz, gs, if_true, if_false, Bool.false_eq_true, Bool.not_true, Bool.not_false, Nat.add_zero, Nat.zero_add, Nat.reduceAdd]
  refine wpPi_do rfl (fun K hK => ?_)
  go_wp2_with (go_at_call 48; refine (pull_inv h i hi).mono ?_; rintro _ w1 ⟨rfl, h1, hm1, hl1, hd1⟩)
  refine hK _ _ trivial ?_
  clear hK K
  try simp only [pl, pn, el, ec, sz, ss, gz, gs, if_true, if_false, Bool.false_eq_true, Bool.not_true, Bool.not_false, Nat.add_zero, Nat.zero_add, Nat.reduceAdd]
  refine wpPi_do rfl (fun K hK => ?_)
  have hB2' := hm1.obj hF2 hB2
  refine wp_storeA 38 _ _ B2 0 its[i].cs (by rfl) (by rfl) (by rfl) hone 40 (by kernel_rfl) hsz _ _ hB2' (by rw [hsz, hcur]; exact Nat.le_refl 40) (fun w2 hB3 hm2 => ?_)
  rw [putRow_whole (by rw [hsz, hcur])] at hB3
  have hno : ∀ k, NetFoot bx mb (its.eraseIdx i) k → k ≠ B2 := by
    rintro k hk rfl
    refine h2 ?_
    rcases hk with e | e | ⟨x, hx, e⟩
    · exact .inl e
    · exact .inr (.inl e)
    · exact .inr (.inr ⟨x, List.mem_of_mem_eraseIdx hx, e⟩)
  have hnE : ∀ k, its[i].foot k → k ≠ B2 := by
    rintro k hk rfl
    exact h2 (.inr (.inr ⟨_, List.getElem_mem hi, .inr hk⟩))
  have hinv2 := h1.keep hm2 hno
  have hl2 := hl1.keep hm2 (fun k hk => hnE k (.inl hk)) (fun k hk => hnE k (.inr hk))
  have hM2 : Mod (fun k => NetBl bx (its.map It.lk) k ∨ k = B2) w w2 := (hm1.mono (fun k _ hk => Or.inl hk)).trans hm2 (fun k _ e => .inr e)
  refine hK _ _ trivial ?_
  clear hK K
  try simp only [pl, pn, el, ec, sz, ss, gz, gs, if_true, if_false, Bool.false_eq_true, Bool.not_true, Bool.not_false, Nat.add_zero, Nat.zero_add, Nat.reduceAdd]
  refine wpPi_nil ?_
  go_wp2
  go_ret
  exact ⟨rfl, hinv2, hB3, hM2, hl2, hd1⟩


def zeroLet : Array Value := ltrCells ltr0 (.slice none 0 0) (.slice none 0 0) (.slice none 0 0)

/-- What Take tells: the letter, taken out, or none. -/
def TakeR (w : World) (bx mb : Nat) (n lost : Int) (cut : Int × Int → Bool) (its : List It) (i : Int) (e : Ending) (w' : World) : Prop :=
  (∃ (k : Nat) (hk : k < its.length), i = (k : Int) ∧ e = .returned (.tuple #[.agg its[k].cs, .int .i64 0]) ∧ NetInv w' bx mb n lost cut (its.eraseIdx k) ∧ Mod (NetBl bx (its.map It.lk)) w w' ∧
    LetR true w' its[k].E its[k].G its[k].cs its[k].l ∧ ∀ j, its[k].foot j → ¬ NetFoot bx mb (its.eraseIdx k) j) ∨
  (¬ (0 ≤ i ∧ i < its.length) ∧ e = .returned (.tuple #[.agg zeroLet, .int .i64 26]) ∧ NetInv w' bx mb n lost cut its ∧ Mod NoB w w')

set_option maxRecDepth 10000 in
set_option maxHeartbeats 800000 in
theorem take_any (h : NetInv w bx mb n lost cut its) (i : Int) : Calls Try.prog 18 #[.pointer (some ⟨bx, 0, none⟩), .int .i64 i] w (TakeR w bx mb n lost cut its i) := by
  go_enter Try.func18, Try.ntmps18
  go_upto_region 0 with (fail)
  refine wp_region_seq [1, 1, 3] (fun _ => True) (by rfl) (by rfl) trivial ?_
  simp only [List.zip_cons_cons, List.zip_nil_right]
  refine wpPi_do rfl (fun K hK => ?_)
  refine wp_box 23 _ _ (by rfl) (by rfl) (fun w1 hB1 hM hs1 => ?_)
  replace hB1 : w1.heap[w.heap.size]? = some (.cells #[.pointer (some ⟨bx, 0, none⟩)] 23 (0, 0)) := hB1
  refine hK _ _ trivial ?_
  clear hK K
  try simp only [pl, pn, el, ec, sz, ss, gz, gs, if_true, if_false, Bool.false_eq_true, Bool.not_true, Bool.not_false, Nat.add_zero, Nat.zero_add, Nat.reduceAdd]
  refine wpPi_do rfl (fun K hK => ?_)
  refine wp_alloc 38 ltrZero (by rfl) zero38 (fun w2 hB2 hm2 hs2 => ?_)
  replace hB2 : w2.heap[w1.heap.size]? = some (.cells zeroLet 38 (0, 0)) := hB2
  replace hB1 := hm2.obj id hB1
  replace hM := hM.trans0 hm2
  refine hK _ _ trivial ?_
  clear hK K hm2
  try simp only [pl, pn, el, ec, sz, ss, gz, gs, if_true, if_false, Bool.false_eq_true, Bool.not_true, Bool.not_false, Nat.add_zero, Nat.zero_add, Nat.reduceAdd]
  refine wpPi_assign _ rfl rfl ?_
  simp only [pl, pn, el, ec, sz, ss, gz, gs, if_true, if_false, Bool.false_eq_true, Bool.not_true, Bool.not_false, Nat.add_zero, Nat.zero_add, Nat.reduceAdd]
  refine wpPi_nil ?_
  have h2 := h.keep0 hM
  have hlt := h.lt
  have hB1c : w2.cell? ⟨w.heap.size, 0, none⟩ = some (.pointer (some ⟨bx, 0, none⟩)) := by rw [cell_of_row _ _ _ _ _ _ hB1]; rfl
  have hno1 : ¬ NetFoot bx mb its w.heap.size := fun hk => by have := hlt _ hk; omega
  have hno2 : ¬ NetFoot bx mb its w1.heap.size := fun hk => by have := hlt _ hk; omega
  have hz : zeroLet.size = 40 := (ltrCells_spec ltr0 _ _ _ (by rfl)).size
  have hc := h2.cell
  have hat := at_47 w2 bx n i its.length (.pointer (some ⟨w.heap.size, 0, none⟩)) (.pointer (some ⟨w1.heap.size, 0, none⟩)) hc.1 h2.hn0 hc.2.2.1
    (fun r w' => ∃ (k : Nat) (hk : k < its.length), i = (k : Int) ∧ r = .int .i64 0 ∧ NetInv w' bx mb n lost cut (its.eraseIdx k) ∧ w'.heap[w1.heap.size]? = some (.cells its[k].cs 38 (0, 0)) ∧
      Mod (fun j => NetBl bx (its.map It.lk) j ∨ j = w1.heap.size) w2 w' ∧ LetR true w' its[k].E its[k].G its[k].cs its[k].l ∧ ∀ j, its[k].foot j → ¬ NetFoot bx mb (its.eraseIdx k) j)
    (fun h0 h1 => by
      obtain ⟨k, rfl⟩ := Int.eq_ofNat_of_zero_le h0
      have hk : k < its.length := by omega
      refine (take47 h2 _ _ _ hB1 hB2 hz hno2 k hk).mono ?_
      rintro e w' ⟨he, hr⟩
      exact ⟨_, he, k, hk, rfl, rfl, hr⟩)
  go_upto_region 1 with (fail)
  refine wp_region_seq [1, 3, 1, 1, 3] (fun _ => True) (by rfl) (by rfl) trivial ?_
  simp only [List.zip_cons_cons, List.zip_nil_right]
  refine wpPi_do rfl (fun K hK => ?_)
  refine wp_exec (exec_load1 23 _ (by rfl) w.heap.size 0 (by rfl) _ hB1c _ Try.underlying23 rfl) ?_
  refine hK _ _ trivial ?_
  clear hK K
  try simp only [pl, pn, el, ec, sz, ss, gz, gs, if_true, if_false, Bool.false_eq_true, Bool.not_true, Bool.not_false, Nat.add_zero, Nat.zero_add, Nat.reduceAdd]
  refine wpPi_move _ rfl rfl ?_
  simp only [pl, pn, el, ec, sz, ss, gz, gs, if_true, if_false, Bool.false_eq_true, Bool.not_true, Bool.not_false, Nat.add_zero, Nat.zero_add, Nat.reduceAdd]
  refine wpPi_do rfl (fun K hK => ?_)
  go_wp2
  refine hK _ _ trivial ?_
  clear hK K
  try simp only [pl, pn, el, ec, sz, ss, gz, gs, if_true, if_false, Bool.false_eq_true, Bool.not_true, Bool.not_false, Nat.add_zero, Nat.zero_add, Nat.reduceAdd]
  refine wpPi_do rfl (fun K hK => ?_)
  go_wp2_with (go_at_call 45; refine hat.mono ?_; rintro _ w3 ⟨r, rfl, hr⟩)
  refine hK _ _ trivial ?_
  clear hK K
  try simp only [pl, pn, el, ec, sz, ss, gz, gs, if_true, if_false, Bool.false_eq_true, Bool.not_true, Bool.not_false, Nat.add_zero, Nat.zero_add, Nat.reduceAdd]
  refine wpPi_assign _ rfl rfl ?_
  simp only [pl, pn, el, ec, sz, ss, gz, gs, if_true, if_false, Bool.false_eq_true, Bool.not_true, Bool.not_false, Nat.add_zero, Nat.zero_add, Nat.reduceAdd]
  refine wpPi_nil ?_
  have hcs : ∃ cs, w3.heap[w1.heap.size]? = some (.cells cs 38 (0, 0)) ∧ cs.size = 40 ∧ (∀ c ∈ cs, c.oneCell' = true) ∧ ∀ w4, Mod (fun k => k = w1.heap.size) w3 w4 → TakeR w bx mb n lost cut its i (.returned (.tuple #[.agg cs, r])) w4 := by
    rcases hr with ⟨_, _, k, hk, rfl, rfl, hi3, hB3, hm3, hl3, hd3⟩ | ⟨hno, rfl, rfl⟩
    · refine ⟨_, hB3, h.sz k hk, h.one k hk, fun w4 hm4 => .inl ⟨k, hk, rfl, rfl, hi3.keep hm4 ?_, ?_, hl3.keep hm4 ?_ ?_, hd3⟩⟩
      · rintro j hj rfl
        refine hno2 ?_
        rcases hj with e | e | ⟨x, hx, e⟩
        · exact .inl e
        · exact .inr (.inl e)
        · exact .inr (.inr ⟨x, List.mem_of_mem_eraseIdx hx, e⟩)
      · exact (((hM.mono (S' := NetBl bx (its.map It.lk)) (fun _ _ h => False.elim h)).trans hm3 (fun j hj hs => by
          rcases hs with hs | hs
          · exact hs
          · omega)).trans hm4 (fun j hj hs => absurd (show j = w1.heap.size from hs) (by omega)))
      · rintro j hj rfl
        exact hno2 (.inr (.inr ⟨_, List.getElem_mem hk, .inr (.inl hj)⟩))
      · rintro j hj rfl
        exact hno2 (.inr (.inr ⟨_, List.getElem_mem hk, .inr (.inr hj)⟩))
    · refine ⟨_, hB2, hz, ltrCells_one _ _ _ _ rfl rfl rfl, fun w4 hm4 => .inr ⟨hno, rfl, h2.keep hm4 ?_, ?_⟩⟩
      · rintro j hj rfl
        exact hno2 hj
      · exact hM.transB hm4 (by omega)
  obtain ⟨cs, hB3, hsz, hone, hfin⟩ := hcs
  go_upto_region 2 with (fail)
  refine wp_region_seq [1, 3, 1, 3] (fun _ => True) (by rfl) (by rfl) trivial ?_
  simp only [List.zip_cons_cons, List.zip_nil_right]
  refine wpPi_do rfl (fun K hK => ?_)
  refine wp_exec (exec_loadA 38 _ (by rfl) w1.heap.size 0 (by rfl) _ (CellsAt.whole hB3) _ Try.underlying38 rfl 40 (by kernel_rfl) hsz) ?_
  refine hK _ _ trivial ?_
  clear hK K
  try simp only [pl, pn, el, ec, sz, ss, gz, gs, if_true, if_false, Bool.false_eq_true, Bool.not_true, Bool.not_false, Nat.add_zero, Nat.zero_add, Nat.reduceAdd]
  refine wpPi_move _ rfl rfl ?_
  simp only [pl, pn, el, ec, sz, ss, gz, gs, if_true, if_false, Bool.false_eq_true, Bool.not_true, Bool.not_false, Nat.add_zero, Nat.zero_add, Nat.reduceAdd]
  refine wpPi_do rfl (fun K hK => ?_)
  refine wp_storeA 38 _ _ w1.heap.size 0 cs (by rfl) (by rfl) (by rfl) hone 40 (by kernel_rfl) hsz _ _ hB3 (by omega) (fun w4 hB4 hm4 => ?_)
  rw [putRow_whole rfl] at hB4
  refine hK _ _ trivial ?_
  clear hK K
  try simp only [pl, pn, el, ec, sz, ss, gz, gs, if_true, if_false, Bool.false_eq_true, Bool.not_true, Bool.not_false, Nat.add_zero, Nat.zero_add, Nat.reduceAdd]
  refine wpPi_assign _ rfl rfl ?_
  simp only [pl, pn, el, ec, sz, ss, gz, gs, if_true, if_false, Bool.false_eq_true, Bool.not_true, Bool.not_false, Nat.add_zero, Nat.zero_add, Nat.reduceAdd]
  refine wpPi_nil ?_
  go_wp2
  refine bodyPost_ret (results_cell_tmp rfl _ _ w1.heap.size _ _ _ (by rfl) hB4 Try.underlying38 rfl (by rw [hsz]; kernel_rfl)) rfl ?_
  exact hfin _ hm4
end
end Go.Proofs.Ytdllpakdhnanbaa
