/- The net's list of links: pull; the net's small functions. -/
import Derived.Test.YtdllpakdhnanbaaNetB
namespace Go.Proofs.Ytdllpakdhnanbaa
set_option linter.unusedSimpArgs false
set_option linter.unusedVariables false
set_option linter.unnecessarySimpa false
open Go.RowKit

def headPtr : Option (Nat × Array Value) → Value
  | none => .pointer none
  | some x => .pointer (some ⟨x.1, 0, none⟩)
theorem ptrOf_at (l : List (Nat × Array Value)) (k : Nat) : ptrOf (l.drop k) = headPtr l[k]? := by
  rcases Nat.lt_or_ge k l.length with h | h
  · rw [ptrOf_drop h, List.getElem?_eq_getElem h]; rfl
  · rw [List.drop_of_length_le h, List.getElem?_eq_none h]; rfl

theorem pull_net {w : World} {bx mb i : Nat} {n lost : Int} {links : List (Nat × Array Value)}
    (h : NetMid w bx mb n lost (if i = 0 then ptrOf (links.drop (i + 1)) else ptrOf links) (links.length - 1) links (fun j => if i = j + 1 then ptrOf (links.drop (i + 1)) else ptrOf (links.drop (j + 1))))
    (hi : i < links.length) (hfew : links.length ≤ 1048576) : NetW w bx mb n lost (links.eraseIdx i) := by
  have hlen : (links.eraseIdx i).length = links.length - 1 := List.length_eraseIdx_of_lt hi
  refine ⟨?_, fun j hj => ?_, fun x hx => h.size x (List.mem_of_mem_eraseIdx hx), ?_, by omega⟩
  · rw [h.obj]
    unfold netCells
    rw [hlen, show ptrOf (links.eraseIdx i) = ptrOf ((links.eraseIdx i).drop 0) from rfl, show ptrOf links = ptrOf (links.drop 0) from rfl]
    rw [ptrOf_at, ptrOf_at, ptrOf_at, List.getElem?_eraseIdx]
    have e1 : (if i = 0 then headPtr links[i + 1]? else headPtr links[0]?) = headPtr (if 0 < i then links[0]? else links[0 + 1]?) := by
      by_cases h0 : i = 0
      · subst h0; simp
      · rw [if_neg h0, if_pos (by omega)]
    have e2 : (links.length : Int) - 1 = ((links.length - 1 : Nat) : Int) := by omega
    rw [e1, e2]
  · rw [hlen] at hj
    rw [List.getElem_eraseIdx]
    have he := ptrOf_at (links.eraseIdx i) (j + 1)
    rw [List.getElem?_eraseIdx] at he
    rw [he]
    by_cases hji : j < i
    · rw [dif_pos hji, h.link j (by omega)]
      congr 3
      by_cases h1 : i = j + 1
      · subst h1; simp only [if_pos]; rw [ptrOf_at, if_neg (by omega)]
      · rw [if_neg h1, ptrOf_at, if_pos (by omega)]
    · rw [dif_neg hji, h.link (j + 1) (by omega)]
      congr 3
      rw [if_neg (by omega), ptrOf_at, if_neg (by omega)]
  · exact h.nd.sublist ((List.eraseIdx_sublist _ _).map _)

set_option maxRecDepth 10000 in
set_option maxHeartbeats 400000 in
theorem pull_any (w : World) (bx mb : Nat) (n lost : Int) (links : List (Nat × Array Value)) (h : NetW w bx mb n lost links) (i : Nat) (hi : i < links.length) (hone : ∀ c ∈ links[i].2, c.oneCell' = true) :
    Calls Try.prog 48 #[.pointer (some ⟨bx, 2, none⟩), .int .i64 i] w fun e w' => e = .returned (.agg links[i].2) ∧ NetW w' bx mb n lost (links.eraseIdx i) ∧ Mod (NetBl bx links) w w' := by
  have hfew := h.few
  have hcs := h.size links[i] (List.getElem_mem _)
  have hlk : ∀ x ∈ links, x.1 < w.heap.size := by
    intro x hx
    obtain ⟨i, hi, rfl⟩ := List.getElem_of_mem hx
    have := h.link i hi
    rcases Nat.lt_or_ge links[i].1 w.heap.size with h' | h'
    · exact h'
    · rw [Array.getElem?_eq_none h'] at this; cases this
  have hbx : bx < w.heap.size := by
    rcases Nat.lt_or_ge bx w.heap.size with h' | h'
    · exact h'
    · have := h.obj; rw [Array.getElem?_eq_none h'] at this; cases this
  go_enter Try.func48, Try.ntmps48
  go_upto_region 0 with (fail)
  refine wp_region_seq [1] (fun _ => True) (by rfl) (by rfl) trivial ?_
  simp only [List.zip_cons_cons, List.zip_nil_right]
  refine wpPi_do rfl (fun K hK => ?_)
  refine wp_alloc 38 ltrZero (by rfl) zero38 (fun w1 hB0 hM hs1 => ?_)
  refine hK _ _ trivial ?_
  clear hK K
  try simp only [pl, pn, el, ec, sz, ss, gz, gs, if_true, if_false, Bool.false_eq_true, Bool.not_true, Bool.not_false, Nat.add_zero, Nat.zero_add, Nat.reduceAdd]
  refine wpPi_nil ?_
  have h1 := h.keep0 hM
  go_upto_region 1 with (fail)
  refine wp_region_seq [3, 3, 0, 3] (fun w' => w' = w1) (by rfl) (by rfl) rfl ?_
  simp only [List.zip_cons_cons, List.zip_nil_right]
  refine wpPi_move _ rfl rfl ?_
  simp only [pl, pn, el, ec, sz, ss, gz, gs, if_true, if_false, Bool.false_eq_true, Bool.not_true, Bool.not_false, Nat.add_zero, Nat.zero_add, Nat.reduceAdd]
  refine wpPi_move _ rfl rfl ?_
  simp only [pl, pn, el, ec, sz, ss, gz, gs, if_true, if_false, Bool.false_eq_true, Bool.not_true, Bool.not_false, Nat.add_zero, Nat.zero_add, Nat.reduceAdd]
  refine wpPi_call (f := 64) rfl ?_ (fun w' hS => (hS ▸ at_any w1 bx mb n lost links h1 i (by omega))) ?_
  · exact run_call 64 _ _ rfl _ Try.func64 rfl (by kernel_rfl) _ rfl
  simp only [pl, pn, el, ec, sz, ss, gz, gs, if_true, if_false, Bool.false_eq_true, Bool.not_true, Bool.not_false, Nat.add_zero, Nat.zero_add, Nat.reduceAdd]
  refine wpPi_assign _ rfl rfl ?_
  simp only [pl, pn, el, ec, sz, ss, gz, gs, if_true, if_false, Bool.false_eq_true, Bool.not_true, Bool.not_false, Nat.add_zero, Nat.zero_add, Nat.reduceAdd]
  refine wpPi_nil ?_
  have hw2 : w1 = w1 := rfl
  go_upto_region 2 with (fail)
  have hcp : w1.cell? ⟨plB bx links i, plO i, none⟩ = some (.pointer (some ⟨links[i].1, 0, none⟩)) := by rw [h1.place i (by omega), ptrOf_drop hi]
  have hL := h1.link i hi
  have hCA : CellsAt w1 links[i].1 0 links[i].2 := CellsAt.of_obj hL (fun j hj => by rw [Nat.zero_add, Array.getElem?_push, if_neg (by omega)])
  refine wp_region_seq [3, 3, 1, 3, 3, 1, 1, 1] (fun _ => True) (by rfl) (by rfl) trivial ?_
  simp only [List.zip_cons_cons, List.zip_nil_right]
  refine wpPi_move _ rfl rfl ?_
  simp only [pl, pn, el, ec, sz, ss, gz, gs, if_true, if_false, Bool.false_eq_true, Bool.not_true, Bool.not_false, Nat.add_zero, Nat.zero_add, Nat.reduceAdd]
  refine wpPi_nilCheck _ _ rfl rfl rfl ?_
  simp only [pl, pn, el, ec, sz, ss, gz, gs, if_true, if_false, Bool.false_eq_true, Bool.not_true, Bool.not_false, Nat.add_zero, Nat.zero_add, Nat.reduceAdd]
  refine wpPi_do rfl (fun K hK => ?_)
  refine wp_exec (exec_load1 67 _ (by rfl) _ _ (by rfl) _ hcp _ Try.underlying67 rfl) ?_
  refine hK _ _ trivial ?_
  clear hK K
  try simp only [pl, pn, el, ec, sz, ss, gz, gs, if_true, if_false, Bool.false_eq_true, Bool.not_true, Bool.not_false, Nat.add_zero, Nat.zero_add, Nat.reduceAdd]
  refine wpPi_nilCheck _ _ rfl rfl rfl ?_
  simp only [pl, pn, el, ec, sz, ss, gz, gs, if_true, if_false, Bool.false_eq_true, Bool.not_true, Bool.not_false, Nat.add_zero, Nat.zero_add, Nat.reduceAdd]
  refine wpPi_field _ _ _ _ _ _ rfl rfl rfl fo_97_0 ?_
  simp only [pl, pn, el, ec, sz, ss, gz, gs, if_true, if_false, Bool.false_eq_true, Bool.not_true, Bool.not_false, Nat.add_zero, Nat.zero_add, Nat.reduceAdd]
  refine wpPi_do rfl (fun K hK => ?_)
  refine wp_exec (exec_loadA 38 _ (by rfl) links[i].1 0 (by rfl) _ hCA _ Try.underlying38 rfl 40 (by kernel_rfl) hcs) ?_
  refine hK _ _ trivial ?_
  clear hK K
  try simp only [pl, pn, el, ec, sz, ss, gz, gs, if_true, if_false, Bool.false_eq_true, Bool.not_true, Bool.not_false, Nat.add_zero, Nat.zero_add, Nat.reduceAdd]
  refine wpPi_do rfl (fun K hK => ?_)
  refine wp_alloc 38 ltrZero (by rfl) zero38 (fun w3 hB1 hm3 hs3 => ?_)
  have h3 := h1.keep0 hm3
  have hcp3 := hm3.cell id hcp
  have hL3 := hm3.obj id hL
  replace hB0 := hm3.obj id hB0
  replace hM := hM.trans0 hm3
  refine hK _ _ trivial ?_
  clear hK K
  try simp only [pl, pn, el, ec, sz, ss, gz, gs, if_true, if_false, Bool.false_eq_true, Bool.not_true, Bool.not_false, Nat.add_zero, Nat.zero_add, Nat.reduceAdd]
  refine wpPi_do rfl (fun K hK => ?_)
  refine wp_storeA 38 _ _ w1.heap.size 0 links[i].2 (by rfl) (by rfl) (by rfl) hone 40 (by kernel_rfl) hcs _ _ hB1 (by rw [hcs]; exact Nat.le_refl 40) (fun w4 hB1' hm4 => ?_)
  rw [putRow_whole (by rw [hcs]; rfl)] at hB1'
  have h4 := h3.keep hm4 (by omega) (fun x hx => by have := hlk x hx; omega)
  have hcp4 := hm4.cell (by rcases Nat.lt_or_ge 0 i with h | h; (have : plB bx links i = links[i-1].1 := by cases i with | zero => omega | succ j => simp [plB, List.getD, List.getElem?_eq_getElem (show j < links.length by omega)]); (rw [this]; have := hlk _ (List.getElem_mem (show i - 1 < links.length by omega)); omega); (have : i = 0 := by omega); subst this; (show bx ≠ _); omega) hcp3
  have hL4 := hm4.obj (by have := hlk _ (List.getElem_mem hi); omega) hL3
  replace hB0 := hm4.obj (by omega) hB0
  have hM4 : Mod NoB w w4 := hM.transB hm4 (by omega)
  have hs4 := hm4.size
  refine hK _ _ trivial ?_
  clear hK K
  try simp only [pl, pn, el, ec, sz, ss, gz, gs, if_true, if_false, Bool.false_eq_true, Bool.not_true, Bool.not_false, Nat.add_zero, Nat.zero_add, Nat.reduceAdd]
  refine wpPi_nil ?_
  go_upto_region 3 with (fail)
  have hnext : w4.cell? ⟨links[i].1, 40, none⟩ = some (ptrOf (links.drop (i + 1))) := by
    rw [cell_of_row w4 _ _ _ _ _ hL4, Array.getElem?_push, if_pos hcs.symm]
  have hmid := h4.mid
  obtain ⟨cur, T, hrow, hlt, hbl, hput⟩ := hmid.row i (by omega)
  refine wp_region_seq [3, 3, 3, 1, 3, 3, 1, 3, 1] (fun _ => True) (by rfl) (by rfl) trivial ?_
  simp only [List.zip_cons_cons, List.zip_nil_right]
  refine wpPi_move _ rfl rfl ?_
  simp only [pl, pn, el, ec, sz, ss, gz, gs, if_true, if_false, Bool.false_eq_true, Bool.not_true, Bool.not_false, Nat.add_zero, Nat.zero_add, Nat.reduceAdd]
  refine wpPi_move _ rfl rfl ?_
  simp only [pl, pn, el, ec, sz, ss, gz, gs, if_true, if_false, Bool.false_eq_true, Bool.not_true, Bool.not_false, Nat.add_zero, Nat.zero_add, Nat.reduceAdd]
  refine wpPi_nilCheck _ _ rfl rfl rfl ?_
  simp only [pl, pn, el, ec, sz, ss, gz, gs, if_true, if_false, Bool.false_eq_true, Bool.not_true, Bool.not_false, Nat.add_zero, Nat.zero_add, Nat.reduceAdd]
  refine wpPi_do rfl (fun K hK => ?_)
  refine wp_exec (exec_load1 67 _ (by rfl) _ _ (by rfl) _ hcp4 _ Try.underlying67 rfl) ?_
  refine hK _ _ trivial ?_
  clear hK K
  try simp only [pl, pn, el, ec, sz, ss, gz, gs, if_true, if_false, Bool.false_eq_true, Bool.not_true, Bool.not_false, Nat.add_zero, Nat.zero_add, Nat.reduceAdd]
  refine wpPi_nilCheck _ _ rfl rfl rfl ?_
  simp only [pl, pn, el, ec, sz, ss, gz, gs, if_true, if_false, Bool.false_eq_true, Bool.not_true, Bool.not_false, Nat.add_zero, Nat.zero_add, Nat.reduceAdd]
  refine wpPi_field _ _ _ _ _ _ rfl rfl rfl fo_97_1 ?_
  simp only [pl, pn, el, ec, sz, ss, gz, gs, if_true, if_false, Bool.false_eq_true, Bool.not_true, Bool.not_false, Nat.add_zero, Nat.zero_add, Nat.reduceAdd]
  refine wpPi_do rfl (fun K hK => ?_)
  refine wp_exec (exec_load1 67 _ (by rfl) links[i].1 40 (by rfl) _ hnext _ Try.underlying67 rfl) ?_
  refine hK _ _ trivial ?_
  clear hK K
  try simp only [pl, pn, el, ec, sz, ss, gz, gs, if_true, if_false, Bool.false_eq_true, Bool.not_true, Bool.not_false, Nat.add_zero, Nat.zero_add, Nat.reduceAdd]
  refine wpPi_nilCheck _ _ rfl rfl rfl ?_
  simp only [pl, pn, el, ec, sz, ss, gz, gs, if_true, if_false, Bool.false_eq_true, Bool.not_true, Bool.not_false, Nat.add_zero, Nat.zero_add, Nat.reduceAdd]
  refine wpPi_do rfl (fun K hK => ?_)
  refine wp_store1 67 _ _ _ _ (ptrOf (links.drop (i + 1))) (by rfl) (by rfl) (by rfl) (by rw [ptrOf_at]; cases links[i + 1]? <;> rfl) (by kernel_rfl) _ _ hrow hlt (fun w5 hrow' hm5 => ?_)
  have h5 := hput _ _ hrow' hm5
  have hbne : w.heap.size ≠ plB bx links i ∧ w1.heap.size ≠ plB bx links i := by
    rcases hbl with e | ⟨x, hx, e⟩
    · omega
    · have := hlk x hx; omega
  replace hB1' := hm5.objB hbne.2 hB1'
  replace hB0 := hm5.objB hbne.1 hB0
  have hM5 : Mod (NetBl bx links) w w5 := (hM4.mono (S' := NetBl bx links) (fun k _ h => False.elim h)).trans hm5 (fun k hk e => by have e' : k = plB bx links i := e; rw [e']; exact hbl)
  have hs5 := hm5.size
  refine hK _ _ trivial ?_
  clear hK K
  try simp only [pl, pn, el, ec, sz, ss, gz, gs, if_true, if_false, Bool.false_eq_true, Bool.not_true, Bool.not_false, Nat.add_zero, Nat.zero_add, Nat.reduceAdd]
  refine wpPi_nil ?_
  go_upto_region 4 with (fail)
  refine wp_region_seq [3, 3, 3, 1, 3, 3, 3, 1] (fun _ => True) (by rfl) (by rfl) trivial ?_
  simp only [List.zip_cons_cons, List.zip_nil_right]
  refine wpPi_move _ rfl rfl ?_
  simp only [pl, pn, el, ec, sz, ss, gz, gs, if_true, if_false, Bool.false_eq_true, Bool.not_true, Bool.not_false, Nat.add_zero, Nat.zero_add, Nat.reduceAdd]
  refine wpPi_nilCheck _ _ rfl rfl rfl ?_
  simp only [pl, pn, el, ec, sz, ss, gz, gs, if_true, if_false, Bool.false_eq_true, Bool.not_true, Bool.not_false, Nat.add_zero, Nat.zero_add, Nat.reduceAdd]
  refine wpPi_field _ _ _ _ _ _ rfl rfl rfl fo_69_1 ?_
  simp only [pl, pn, el, ec, sz, ss, gz, gs, if_true, if_false, Bool.false_eq_true, Bool.not_true, Bool.not_false, Nat.add_zero, Nat.zero_add, Nat.reduceAdd]
  refine wpPi_do rfl (fun K hK => ?_)
  refine wp_exec (exec_load1 3 _ (by rfl) bx 3 (by rfl) (.int .i64 links.length) (by rw [cell_of_row _ _ _ _ _ _ h5.obj]; rfl) _ Try.underlying3 rfl) ?_
  refine hK _ _ trivial ?_
  clear hK K
  try simp only [pl, pn, el, ec, sz, ss, gz, gs, if_true, if_false, Bool.false_eq_true, Bool.not_true, Bool.not_false, Nat.add_zero, Nat.zero_add, Nat.reduceAdd]
  refine wpPi_sub _ _ _ _ _ _ rfl rfl rfl rfl (by omega) (by omega) ?_
  simp only [pl, pn, el, ec, sz, ss, gz, gs, if_true, if_false, Bool.false_eq_true, Bool.not_true, Bool.not_false, Nat.add_zero, Nat.zero_add, Nat.reduceAdd]
  refine wpPi_nilCheck _ _ rfl rfl rfl ?_
  simp only [pl, pn, el, ec, sz, ss, gz, gs, if_true, if_false, Bool.false_eq_true, Bool.not_true, Bool.not_false, Nat.add_zero, Nat.zero_add, Nat.reduceAdd]
  refine wpPi_field _ _ _ _ _ _ rfl rfl rfl fo_69_1 ?_
  simp only [pl, pn, el, ec, sz, ss, gz, gs, if_true, if_false, Bool.false_eq_true, Bool.not_true, Bool.not_false, Nat.add_zero, Nat.zero_add, Nat.reduceAdd]
  refine wpPi_do rfl (fun K hK => ?_)
  refine wp_store1 3 _ _ bx 3 (.int .i64 (links.length - 1)) (by rfl) (by rfl) (by rfl) rfl (by kernel_rfl) _ _ h5.obj (by simp) (fun w6 hb6 hm6 => ?_)
  have h6 := h5.count _ hb6 hm6
  replace hB1' := hm6.objB (show w1.heap.size ≠ bx by omega) hB1'
  replace hB0 := hm6.objB (show w.heap.size ≠ bx by omega) hB0
  have hM6 : Mod (NetBl bx links) w w6 := hM5.trans hm6 (fun k hk e => .inl e)
  have hs6 := hm6.size
  refine hK _ _ trivial ?_
  clear hK K
  try simp only [pl, pn, el, ec, sz, ss, gz, gs, if_true, if_false, Bool.false_eq_true, Bool.not_true, Bool.not_false, Nat.add_zero, Nat.zero_add, Nat.reduceAdd]
  refine wpPi_nil ?_
  go_upto_region 5 with (fail)
  have h6' := pull_net h6 hi hfew
  refine wp_region_seq [1, 1] (fun _ => True) (by rfl) (by rfl) trivial ?_
  simp only [List.zip_cons_cons, List.zip_nil_right]
  refine wpPi_do rfl (fun K hK => ?_)
  refine wp_exec (exec_loadA 38 _ (by rfl) w1.heap.size 0 (by rfl) _ (CellsAt.whole hB1') _ Try.underlying38 rfl 40 (by kernel_rfl) hcs) ?_
  refine hK _ _ trivial ?_
  clear hK K
  try simp only [pl, pn, el, ec, sz, ss, gz, gs, if_true, if_false, Bool.false_eq_true, Bool.not_true, Bool.not_false, Nat.add_zero, Nat.zero_add, Nat.reduceAdd]
  refine wpPi_do rfl (fun K hK => ?_)
  refine wp_storeA 38 _ _ w.heap.size 0 links[i].2 (by rfl) (by rfl) (by rfl) hone 40 (by kernel_rfl) hcs _ _ hB0 (by rw [hcs]; exact Nat.le_refl 40) (fun w7 hB0' hm7 => ?_)
  rw [putRow_whole (by rw [hcs]; rfl)] at hB0'
  have h7 := h6'.keep hm7 (by omega) (fun x hx => by have := hlk x (List.mem_of_mem_eraseIdx hx); omega)
  have hM7 : Mod (NetBl bx links) w w7 := hM6.trans hm7 (fun k hk e => absurd (show k = w.heap.size from e) (by omega))
  refine hK _ _ trivial ?_
  clear hK K
  try simp only [pl, pn, el, ec, sz, ss, gz, gs, if_true, if_false, Bool.false_eq_true, Bool.not_true, Bool.not_false, Nat.add_zero, Nat.zero_add, Nat.reduceAdd]
  refine wpPi_nil ?_
  go_wp2
  refine bodyPost_ret (results_cell_row rfl _ _ w.heap.size _ _ _ _ (by rfl) hB0' Try.underlying38 rfl (by rw [hcs]; kernel_rfl)) rfl ?_
  exact ⟨rfl, h7, hM7⟩

end Go.Proofs.Ytdllpakdhnanbaa
