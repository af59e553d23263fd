/- Link, Lay, Mount. -/
import Derived.Test.YtcfcahflkhgapaaGreatQC
namespace Go.Proofs.YtcfcahflkhgapaaGreat
set_option linter.unusedSimpArgs false
set_option linter.unusedVariables false
set_option linter.unnecessarySimpa false
set_option linter.unusedSectionVars false
open Go.RowKit Go.Shelf

section
variable {w : World} {bl ml mu : Nat} {limit : Int} {hold : Value} {l : LinkL} {us : List (ByteArray × Nat)}
theorem NoLinks.keep0 {w w' : World} {v : Value} (h : NoLinks w v) (hm : Mod NoB w w') : NoLinks w' v := by
  rcases h with h | ⟨b, lim, mu, hold, h1, h2⟩
  · exact .inl h
  · exact .inr ⟨b, lim, mu, hold, h1, hm.obj id h2⟩
theorem LkInv.sethold (h : LkInv w bl ml mu limit hold l us) {w' : World} {hold' : Value} (h1 : hold'.oneCell' = true) (hb : w'.heap[bl]? = some (.cells #[.int .i64 limit, .map (some ml), .map (some mu), hold'] 53 (0, 0))) (hm : Mod (fun j => j = bl) w w') : LkInv w' bl ml mu limit hold' l us := by
  have hn := h.nes
  exact ⟨hb, h1, h.lm.keep hm (fun e => hn.1 e.symm), h.um.keep hm (fun e => hn.2.1 e.symm), fun p hp => hm.obj (hn.2.2 p hp).1 (h.ub p hp), h.uk, h.ud, h.sz, h.nm, h.few, h.ne, h.lim⟩

/-- What Link, Lay, Mount tell of links: the same, another hold. -/
def LkedH (w : World) (bl ml mu : Nat) (limit : Int) (us : List (ByteArray × Nat)) (w' : World) (l' : LinkL) : Prop := ∃ hold', Lked w bl ml mu limit hold' us w' l'
theorem Lked.from {w1 w' : World} {l' : LinkL} (hm : Mod (Foot bl ml mu us) w w1) (h : Lked w1 bl ml mu limit hold us w' l') : Lked w bl ml mu limit hold us w' l' := by
  obtain ⟨us', h1, h2, h3⟩ := h
  exact ⟨us', h1, hm.trans h2 (fun _ _ h => h), fun k hk => (h3 k hk).imp id fun hn => ⟨Nat.le_trans hm.size hn.1, hn.2⟩⟩

def AddR (asked : Bool) (w : World) (bl ml mu : Nat) (limit : Int) (l : LinkL) (us : List (ByteArray × Nat)) (k : Key) (size : Int) : Ending → World → Prop := fun e w' =>
  e = .returned (.tuple #[.bool (addE asked limit l k size).1, .int .i64 (addE asked limit l k size).2]) ∧ LkedH w bl ml mu limit us w' (addL asked limit l k size)

set_option maxRecDepth 10000 in
set_option maxHeartbeats 1000000 in
theorem link_any (h : LkInv w bl ml mu limit hold l us) (k : Key) (hk : KeyOk k) (hsz : k.1.size ≤ maxLen) (size : Int) :
    Calls Tryz.prog 7 #[.pointer (some ⟨bl, 0, none⟩), .string k.1, .agg (idCells k.2), .int .i64 size] w (AddR true w bl ml mu limit l us k size) := by
  have hmf := makeFunc_run
  go_enter Tryz.func7, Tryz.ntmps7
  go_upto_region 0 with (fail)
  refine wp_region_seq [1, 1, 3, 3] (fun _ => True) (by rfl) (by rfl) trivial ?_
  simp only [List.zip_cons_cons, List.zip_nil_right]
  refine wpPi_do rfl (fun K hK => ?_)
  refine wp_box 23 _ _ (by rfl) (by rfl) (fun w1 hB1 hm1 hs1 => ?_)
  replace hB1 : w1.heap[w.heap.size]? = some (.cells #[.pointer (some ⟨bl, 0, none⟩)] 23 (0, 0)) := hB1
  refine hK _ _ trivial ?_
  clear hK K
  try simp only [pl, pn, el, ec, sz, ss, gz, gs, if_true, if_false, Bool.false_eq_true, Bool.not_true, Bool.not_false, Nat.add_zero, Nat.zero_add, Nat.reduceAdd]
  refine wpPi_do rfl (fun K hK => ?_)
  refine wp_box 32 _ _ (by rfl) (by rfl) (fun w2 hB2 hm2 hs2 => ?_)
  replace hB2 : w2.heap[w1.heap.size]? = some (.cells (idCells k.2) 32 (0, 0)) := hB2
  replace hB1 := hm2.obj id hB1
  have hM := hm1.trans0 hm2
  refine hK _ _ trivial ?_
  clear hK K
  try simp only [pl, pn, el, ec, sz, ss, gz, gs, if_true, if_false, Bool.false_eq_true, Bool.not_true, Bool.not_false, Nat.add_zero, Nat.zero_add, Nat.reduceAdd]
  refine wpPi_assign _ rfl rfl ?_
  simp only [pl, pn, el, ec, sz, ss, gz, gs, if_true, if_false, Bool.false_eq_true, Bool.not_true, Bool.not_false, Nat.add_zero, Nat.zero_add, Nat.reduceAdd]
  refine wpPi_assign _ rfl rfl ?_
  simp only [pl, pn, el, ec, sz, ss, gz, gs, if_true, if_false, Bool.false_eq_true, Bool.not_true, Bool.not_false, Nat.add_zero, Nat.zero_add, Nat.reduceAdd]
  refine wpPi_nil ?_
  have h2 := h.keep0 hM
  have hc1 : w2.cell? ⟨w.heap.size, 0, none⟩ = some (.pointer (some ⟨bl, 0, none⟩)) := by simp [World.cell?, hB1]
  go_upto_region 3 with (go_at_call 25; refine h2.made.mono ?_; rintro _ w3 ⟨rfl, hw⟩; obtain rfl := hw.symm)
  have hlt := h.lt bl (.inl rfl)
  refine wp_region_seq [1, 1, 3, 3, 1] (fun _ => True) (by rfl) (by rfl) trivial ?_
  simp only [List.zip_cons_cons, List.zip_nil_right]
  refine wpPi_do rfl (fun K hK => ?_)
  refine wp_exec (exec_load1 23 _ (by rfl) w.heap.size 0 (by rfl) _ hc1 _ Tryz.underlying23 rfl) ?_
  refine hK _ _ trivial ?_
  clear hK K
  try simp only [pl, pn, el, ec, sz, ss, gz, gs, if_true, if_false, Bool.false_eq_true, Bool.not_true, Bool.not_false, Nat.add_zero, Nat.zero_add, Nat.reduceAdd]
  refine wpPi_do rfl (fun K hK => ?_)
  go_wp2
  refine hK _ _ trivial ?_
  clear hK K
  try simp only [pl, pn, el, ec, sz, ss, gz, gs, if_true, if_false, Bool.false_eq_true, Bool.not_true, Bool.not_false, Nat.add_zero, Nat.zero_add, Nat.reduceAdd]
  refine wpPi_nilCheck _ _ rfl rfl rfl ?_
  simp only [pl, pn, el, ec, sz, ss, gz, gs, if_true, if_false, Bool.false_eq_true, Bool.not_true, Bool.not_false, Nat.add_zero, Nat.zero_add, Nat.reduceAdd]
  refine wpPi_field _ _ _ _ _ _ rfl rfl rfl fo_53_3 ?_
  simp only [pl, pn, el, ec, sz, ss, gz, gs, if_true, if_false, Bool.false_eq_true, Bool.not_true, Bool.not_false, Nat.add_zero, Nat.zero_add, Nat.reduceAdd]
  refine wpPi_do rfl (fun K hK => ?_)
  refine wp_store1 51 _ _ bl 3 (.func (.func 26) #[] #[.pointer (some ⟨w.heap.size, 0, none⟩)]) (by rfl) (by rfl) (by rfl) rfl (by kernel_rfl) _ _ h2.box (by simp) (fun w4 hB4 hm4 => ?_)
  refine hK _ _ trivial ?_
  clear hK K
  try simp only [pl, pn, el, ec, sz, ss, gz, gs, if_true, if_false, Bool.false_eq_true, Bool.not_true, Bool.not_false, Nat.add_zero, Nat.zero_add, Nat.reduceAdd]
  refine wpPi_nil ?_
  have h4 := h2.sethold (w' := w4) rfl hB4 hm4
  replace hB1 := hm4.obj (b := w.heap.size) (by omega) hB1
  replace hB2 := hm4.obj (b := w1.heap.size) (by omega) hB2
  have hc4 : w4.cell? ⟨w.heap.size, 0, none⟩ = some (.pointer (some ⟨bl, 0, none⟩)) := by simp [World.cell?, hB1]
  have hca : CellsAt w4 w1.heap.size 0 (idCells k.2) := CellsAt.whole hB2
  have hH : HoldIs w4 bl (.func (.func 26) #[] #[.pointer (some ⟨w.heap.size, 0, none⟩)]) true := ⟨_, rfl, hc4⟩
  have hM4 : Mod (Foot bl ml mu us) w w4 := (hM.mono (S' := Foot bl ml mu us) (fun _ _ h => False.elim h)).trans hm4 (fun _ _ e => .inl e)
  go_upto_region 4 with (fail)
  refine wp_region_seq [1, 3, 1, 3, 1, 3, 3, 3, 3] (fun _ => True) (by rfl) (by rfl) trivial ?_
  simp only [List.zip_cons_cons, List.zip_nil_right]
  refine wpPi_do rfl (fun K hK => ?_)
  refine wp_exec (exec_load1 23 _ (by rfl) w.heap.size 0 (by rfl) _ hc4 _ Tryz.underlying23 rfl) ?_
  refine hK _ _ trivial ?_
  clear hK K
  try simp only [pl, pn, el, ec, sz, ss, gz, gs, if_true, if_false, Bool.false_eq_true, Bool.not_true, Bool.not_false, Nat.add_zero, Nat.zero_add, Nat.reduceAdd]
  refine wpPi_move _ rfl rfl ?_
  simp only [pl, pn, el, ec, sz, ss, gz, gs, if_true, if_false, Bool.false_eq_true, Bool.not_true, Bool.not_false, Nat.add_zero, Nat.zero_add, Nat.reduceAdd]
  refine wpPi_do rfl (fun K hK => ?_)
  refine wp_exec (exec_loadA 32 _ (by rfl) w1.heap.size 0 (by rfl) (idCells k.2) hca _ Tryz.underlying32 rfl 32 (by kernel_rfl) (by rw [idCells_size]; exact hk)) ?_
  refine hK _ _ trivial ?_
  clear hK K
  try simp only [pl, pn, el, ec, sz, ss, gz, gs, if_true, if_false, Bool.false_eq_true, Bool.not_true, Bool.not_false, Nat.add_zero, Nat.zero_add, Nat.reduceAdd]
  refine wpPi_move _ rfl rfl ?_
  simp only [pl, pn, el, ec, sz, ss, gz, gs, if_true, if_false, Bool.false_eq_true, Bool.not_true, Bool.not_false, Nat.add_zero, Nat.zero_add, Nat.reduceAdd]
  refine wpPi_do rfl (fun K hK => ?_)
  go_wp2_with (go_at_call 27; refine (add_any h4 hH k hk hsz size).mono ?_; rintro _ w5 ⟨rfl, hL⟩)
  refine hK _ _ trivial ?_
  clear hK K
  try simp only [pl, pn, el, ec, sz, ss, gz, gs, if_true, if_false, Bool.false_eq_true, Bool.not_true, Bool.not_false, Nat.add_zero, Nat.zero_add, Nat.reduceAdd]
  refine wpPi_any (v := ?_) rfl (fun w' => ?_) ?_; rotate_left; · (go_simp; try with_reducible rfl)
  simp only [pl, pn, el, ec, sz, ss, gz, gs, if_true, if_false, Bool.false_eq_true, Bool.not_true, Bool.not_false, Nat.add_zero, Nat.zero_add, Nat.reduceAdd]
  refine wpPi_any (v := ?_) rfl (fun w' => ?_) ?_; rotate_left; · (go_simp; try with_reducible rfl)
  simp only [pl, pn, el, ec, sz, ss, gz, gs, if_true, if_false, Bool.false_eq_true, Bool.not_true, Bool.not_false, Nat.add_zero, Nat.zero_add, Nat.reduceAdd]
  refine wpPi_assign _ rfl rfl ?_
  simp only [pl, pn, el, ec, sz, ss, gz, gs, if_true, if_false, Bool.false_eq_true, Bool.not_true, Bool.not_false, Nat.add_zero, Nat.zero_add, Nat.reduceAdd]
  refine wpPi_assign _ rfl rfl ?_
  simp only [pl, pn, el, ec, sz, ss, gz, gs, if_true, if_false, Bool.false_eq_true, Bool.not_true, Bool.not_false, Nat.add_zero, Nat.zero_add, Nat.reduceAdd]
  refine wpPi_nil ?_
  go_wp2
  go_ret2
  exact ⟨rfl, _, hL.from hM4⟩

set_option maxRecDepth 10000 in
set_option maxHeartbeats 1000000 in
theorem lay_any (h : LkInv w bl ml mu limit hold l us) (k : Key) (hk : KeyOk k) (hsz : k.1.size ≤ maxLen) (size : Int) :
    Calls Tryz.prog 9 #[.pointer (some ⟨bl, 0, none⟩), .string k.1, .agg (idCells k.2), .int .i64 size] w (AddR false w bl ml mu limit l us k size) := by
  go_enter Tryz.func9, Tryz.ntmps9
  go_upto_region 0 with (fail)
  refine wp_region_seq [1, 3, 3] (fun _ => True) (by rfl) (by rfl) trivial ?_
  simp only [List.zip_cons_cons, List.zip_nil_right]
  refine wpPi_do rfl (fun K hK => ?_)
  refine wp_box 32 _ _ (by rfl) (by rfl) (fun w2 hB2 hM hs2 => ?_)
  replace hB2 : w2.heap[w.heap.size]? = some (.cells (idCells k.2) 32 (0, 0)) := hB2
  refine hK _ _ trivial ?_
  clear hK K
  try simp only [pl, pn, el, ec, sz, ss, gz, gs, if_true, if_false, Bool.false_eq_true, Bool.not_true, Bool.not_false, Nat.add_zero, Nat.zero_add, Nat.reduceAdd]
  refine wpPi_assign _ rfl rfl ?_
  simp only [pl, pn, el, ec, sz, ss, gz, gs, if_true, if_false, Bool.false_eq_true, Bool.not_true, Bool.not_false, Nat.add_zero, Nat.zero_add, Nat.reduceAdd]
  refine wpPi_assign _ rfl rfl ?_
  simp only [pl, pn, el, ec, sz, ss, gz, gs, if_true, if_false, Bool.false_eq_true, Bool.not_true, Bool.not_false, Nat.add_zero, Nat.zero_add, Nat.reduceAdd]
  refine wpPi_nil ?_
  have h2 := h.keep0 hM
  go_upto_region 3 with (go_at_call 25; refine h2.made.mono ?_; rintro _ w3 ⟨rfl, hw⟩; obtain rfl := hw.symm)
  have hlt := h.lt bl (.inl rfl)
  refine wp_region_seq [3, 3, 3, 1] (fun _ => True) (by rfl) (by rfl) trivial ?_
  simp only [List.zip_cons_cons, List.zip_nil_right]
  refine wpPi_move _ rfl rfl ?_
  simp only [pl, pn, el, ec, sz, ss, gz, gs, if_true, if_false, Bool.false_eq_true, Bool.not_true, Bool.not_false, Nat.add_zero, Nat.zero_add, Nat.reduceAdd]
  refine wpPi_nilCheck _ _ rfl rfl rfl ?_
  simp only [pl, pn, el, ec, sz, ss, gz, gs, if_true, if_false, Bool.false_eq_true, Bool.not_true, Bool.not_false, Nat.add_zero, Nat.zero_add, Nat.reduceAdd]
  refine wpPi_field _ _ _ _ _ _ rfl rfl rfl fo_53_3 ?_
  simp only [pl, pn, el, ec, sz, ss, gz, gs, if_true, if_false, Bool.false_eq_true, Bool.not_true, Bool.not_false, Nat.add_zero, Nat.zero_add, Nat.reduceAdd]
  refine wpPi_do rfl (fun K hK => ?_)
  refine wp_store1 51 _ _ bl 3 (.func (.func 31) #[] #[]) (by rfl) (by rfl) (by rfl) rfl (by kernel_rfl) _ _ h2.box (by simp) (fun w4 hB4 hm4 => ?_)
  refine hK _ _ trivial ?_
  clear hK K
  try simp only [pl, pn, el, ec, sz, ss, gz, gs, if_true, if_false, Bool.false_eq_true, Bool.not_true, Bool.not_false, Nat.add_zero, Nat.zero_add, Nat.reduceAdd]
  refine wpPi_nil ?_
  have h4 := h2.sethold (w' := w4) rfl hB4 hm4
  replace hB2 := hm4.obj (b := w.heap.size) (by omega) hB2
  have hca : CellsAt w4 w.heap.size 0 (idCells k.2) := CellsAt.whole hB2
  have hH : HoldIs w4 bl (.func (.func 31) #[] #[]) false := rfl
  have hM4 : Mod (Foot bl ml mu us) w w4 := (hM.mono (S' := Foot bl ml mu us) (fun _ _ h => False.elim h)).trans hm4 (fun _ _ e => .inl e)
  go_upto_region 4 with (fail)
  refine wp_region_seq [3, 3, 1, 3, 1, 3, 3, 3, 3] (fun _ => True) (by rfl) (by rfl) trivial ?_
  simp only [List.zip_cons_cons, List.zip_nil_right]
  refine wpPi_move _ rfl rfl ?_
  simp only [pl, pn, el, ec, sz, ss, gz, gs, if_true, if_false, Bool.false_eq_true, Bool.not_true, Bool.not_false, Nat.add_zero, Nat.zero_add, Nat.reduceAdd]
  refine wpPi_move _ rfl rfl ?_
  simp only [pl, pn, el, ec, sz, ss, gz, gs, if_true, if_false, Bool.false_eq_true, Bool.not_true, Bool.not_false, Nat.add_zero, Nat.zero_add, Nat.reduceAdd]
  refine wpPi_do rfl (fun K hK => ?_)
  refine wp_exec (exec_loadA 32 _ (by rfl) w.heap.size 0 (by rfl) (idCells k.2) hca _ Tryz.underlying32 rfl 32 (by kernel_rfl) (by rw [idCells_size]; exact hk)) ?_
  refine hK _ _ trivial ?_
  clear hK K
  try simp only [pl, pn, el, ec, sz, ss, gz, gs, if_true, if_false, Bool.false_eq_true, Bool.not_true, Bool.not_false, Nat.add_zero, Nat.zero_add, Nat.reduceAdd]
  refine wpPi_move _ rfl rfl ?_
  simp only [pl, pn, el, ec, sz, ss, gz, gs, if_true, if_false, Bool.false_eq_true, Bool.not_true, Bool.not_false, Nat.add_zero, Nat.zero_add, Nat.reduceAdd]
  refine wpPi_do rfl (fun K hK => ?_)
  go_wp2_with (go_at_call 27; refine (add_any h4 hH k hk hsz size).mono ?_; rintro _ w5 ⟨rfl, hL⟩)
  refine hK _ _ trivial ?_
  clear hK K
  try simp only [pl, pn, el, ec, sz, ss, gz, gs, if_true, if_false, Bool.false_eq_true, Bool.not_true, Bool.not_false, Nat.add_zero, Nat.zero_add, Nat.reduceAdd]
  refine wpPi_any (v := ?_) rfl (fun w' => ?_) ?_; rotate_left; · (go_simp; try with_reducible rfl)
  simp only [pl, pn, el, ec, sz, ss, gz, gs, if_true, if_false, Bool.false_eq_true, Bool.not_true, Bool.not_false, Nat.add_zero, Nat.zero_add, Nat.reduceAdd]
  refine wpPi_any (v := ?_) rfl (fun w' => ?_) ?_; rotate_left; · (go_simp; try with_reducible rfl)
  simp only [pl, pn, el, ec, sz, ss, gz, gs, if_true, if_false, Bool.false_eq_true, Bool.not_true, Bool.not_false, Nat.add_zero, Nat.zero_add, Nat.reduceAdd]
  refine wpPi_assign _ rfl rfl ?_
  simp only [pl, pn, el, ec, sz, ss, gz, gs, if_true, if_false, Bool.false_eq_true, Bool.not_true, Bool.not_false, Nat.add_zero, Nat.zero_add, Nat.reduceAdd]
  refine wpPi_assign _ rfl rfl ?_
  simp only [pl, pn, el, ec, sz, ss, gz, gs, if_true, if_false, Bool.false_eq_true, Bool.not_true, Bool.not_false, Nat.add_zero, Nat.zero_add, Nat.reduceAdd]
  refine wpPi_nil ?_
  go_wp2
  go_ret2
  exact ⟨rfl, _, hL.from hM4⟩

def NilR (v : Value) (w : World) : Ending → World → Prop := fun e w' => e = .returned v ∧ Mod NoB w w'
set_option maxRecDepth 10000 in
set_option maxHeartbeats 1000000 in
theorem link_no {v : Value} (h : NoLinks w v) (r : ByteArray) (xs : List UInt8) (size : Int) : Calls Tryz.prog 7 #[v, .string r, .agg (idCells xs), .int .i64 size] w (NilR (.tuple #[.bool false, .int .i64 1]) w) := by
  go_enter Tryz.func7, Tryz.ntmps7
  go_upto_region 0 with (fail)
  have hv1 : v.cells = #[v] := by rcases h with rfl | ⟨b, _, _, _, rfl, _⟩ <;> rfl
  refine wp_region_seq [1, 1, 3, 3] (fun _ => True) (by rfl) (by rfl) trivial ?_
  simp only [List.zip_cons_cons, List.zip_nil_right]
  refine wpPi_do rfl (fun K hK => ?_)
  refine wp_box 23 _ _ (by rfl) (by rfl) (fun w1 hB1 hm1 hs1 => ?_)
  replace hB1 : w1.heap[w.heap.size]? = some (.cells v.cells 23 (0, 0)) := hB1
  rw [hv1] at hB1
  refine hK _ _ trivial ?_
  clear hK K
  try simp only [pl, pn, el, ec, sz, ss, gz, gs, if_true, if_false, Bool.false_eq_true, Bool.not_true, Bool.not_false, Nat.add_zero, Nat.zero_add, Nat.reduceAdd]
  refine wpPi_do rfl (fun K hK => ?_)
  refine wp_box 32 _ _ (by rfl) (by rfl) (fun w2 hB2 hm2 hs2 => ?_)
  replace hB1 := hm2.obj id hB1
  have hM := hm1.trans0 hm2
  refine hK _ _ trivial ?_
  clear hK K
  try simp only [pl, pn, el, ec, sz, ss, gz, gs, if_true, if_false, Bool.false_eq_true, Bool.not_true, Bool.not_false, Nat.add_zero, Nat.zero_add, Nat.reduceAdd]
  refine wpPi_assign _ rfl rfl ?_
  simp only [pl, pn, el, ec, sz, ss, gz, gs, if_true, if_false, Bool.false_eq_true, Bool.not_true, Bool.not_false, Nat.add_zero, Nat.zero_add, Nat.reduceAdd]
  refine wpPi_assign _ rfl rfl ?_
  simp only [pl, pn, el, ec, sz, ss, gz, gs, if_true, if_false, Bool.false_eq_true, Bool.not_true, Bool.not_false, Nat.add_zero, Nat.zero_add, Nat.reduceAdd]
  refine wpPi_nil ?_
  have h2 := h.keep0 hM
  have hc1 : w2.cell? ⟨w.heap.size, 0, none⟩ = some v := by simp [World.cell?, hB1]
  clear hv1
  go_upto_region 1 with (fail)
  refine wp_region_seq [1, 1] (fun _ => True) (by rfl) (by rfl) trivial ?_
  simp only [List.zip_cons_cons, List.zip_nil_right]
  refine wpPi_do rfl (fun K hK => ?_)
  refine wp_exec (exec_load1 23 _ (by rfl) w.heap.size 0 (by rfl) _ hc1 _ Tryz.underlying23 rfl) ?_
  refine hK _ _ trivial ?_
  clear hK K
  try simp only [pl, pn, el, ec, sz, ss, gz, gs, if_true, if_false, Bool.false_eq_true, Bool.not_true, Bool.not_false, Nat.add_zero, Nat.zero_add, Nat.reduceAdd]
  refine wpPi_do rfl (fun K hK => ?_)
  go_wp2_with (go_at_call 25; refine (none_no h2).mono ?_; rintro _ w3 ⟨rfl, hw⟩; obtain rfl := hw.symm)
  refine hK _ _ trivial ?_
  clear hK K
  try simp only [pl, pn, el, ec, sz, ss, gz, gs, if_true, if_false, Bool.false_eq_true, Bool.not_true, Bool.not_false, Nat.add_zero, Nat.zero_add, Nat.reduceAdd]
  refine wpPi_nil ?_
  go_wp2
  go_ret2
  exact ⟨rfl, hM⟩
set_option maxRecDepth 10000 in
set_option maxHeartbeats 1000000 in
theorem lay_no {v : Value} (h : NoLinks w v) (r : ByteArray) (xs : List UInt8) (size : Int) : Calls Tryz.prog 9 #[v, .string r, .agg (idCells xs), .int .i64 size] w (NilR (.tuple #[.bool false, .int .i64 1]) w) := by
  go_enter Tryz.func9, Tryz.ntmps9
  go_upto_region 0 with (fail)
  refine wp_region_seq [1, 3, 3] (fun _ => True) (by rfl) (by rfl) trivial ?_
  simp only [List.zip_cons_cons, List.zip_nil_right]
  refine wpPi_do rfl (fun K hK => ?_)
  refine wp_box 32 _ _ (by rfl) (by rfl) (fun w2 hB2 hM hs2 => ?_)
  refine hK _ _ trivial ?_
  clear hK K
  try simp only [pl, pn, el, ec, sz, ss, gz, gs, if_true, if_false, Bool.false_eq_true, Bool.not_true, Bool.not_false, Nat.add_zero, Nat.zero_add, Nat.reduceAdd]
  refine wpPi_assign _ rfl rfl ?_
  simp only [pl, pn, el, ec, sz, ss, gz, gs, if_true, if_false, Bool.false_eq_true, Bool.not_true, Bool.not_false, Nat.add_zero, Nat.zero_add, Nat.reduceAdd]
  refine wpPi_assign _ rfl rfl ?_
  simp only [pl, pn, el, ec, sz, ss, gz, gs, if_true, if_false, Bool.false_eq_true, Bool.not_true, Bool.not_false, Nat.add_zero, Nat.zero_add, Nat.reduceAdd]
  refine wpPi_nil ?_
  have h2 := h.keep0 hM
  go_wp2_with (go_at_call 25; refine (none_no h2).mono ?_; rintro _ w3 ⟨rfl, hw⟩; obtain rfl := hw.symm)
  go_ret2
  exact ⟨rfl, hM⟩
set_option maxRecDepth 10000 in
set_option maxHeartbeats 1000000 in
theorem mount_no {v : Value} (h : NoLinks w v) (r s : ByteArray) (xs : List UInt8) : Calls Tryz.prog 10 #[v, .string r, .string s, .agg (idCells xs)] w (NilR (.tuple #[.bool false, .int .i64 1]) w) := by
  go_enter Tryz.func10, Tryz.ntmps10
  go_upto_region 0 with (fail)
  refine wp_region_seq [1, 3, 3] (fun _ => True) (by rfl) (by rfl) trivial ?_
  simp only [List.zip_cons_cons, List.zip_nil_right]
  refine wpPi_do rfl (fun K hK => ?_)
  refine wp_box 32 _ _ (by rfl) (by rfl) (fun w2 hB2 hM hs2 => ?_)
  refine hK _ _ trivial ?_
  clear hK K
  try simp only [pl, pn, el, ec, sz, ss, gz, gs, if_true, if_false, Bool.false_eq_true, Bool.not_true, Bool.not_false, Nat.add_zero, Nat.zero_add, Nat.reduceAdd]
  refine wpPi_assign _ rfl rfl ?_
  simp only [pl, pn, el, ec, sz, ss, gz, gs, if_true, if_false, Bool.false_eq_true, Bool.not_true, Bool.not_false, Nat.add_zero, Nat.zero_add, Nat.reduceAdd]
  refine wpPi_assign _ rfl rfl ?_
  simp only [pl, pn, el, ec, sz, ss, gz, gs, if_true, if_false, Bool.false_eq_true, Bool.not_true, Bool.not_false, Nat.add_zero, Nat.zero_add, Nat.reduceAdd]
  refine wpPi_nil ?_
  have h2 := h.keep0 hM
  go_wp2_with (go_at_call 25; refine (none_no h2).mono ?_; rintro _ w3 ⟨rfl, hw⟩; obtain rfl := hw.symm)
  go_ret2
  exact ⟨rfl, hM⟩
set_option maxRecDepth 10000 in
set_option maxHeartbeats 1000000 in
theorem has_no {v : Value} (h : NoLinks w v) (r : ByteArray) (xs : List UInt8) : Calls Tryz.prog 17 #[v, .string r, .agg (idCells xs)] w (NilR (.bool false) w) := by
  go_enter Tryz.func17, Tryz.ntmps17
  go_upto_region 0 with (fail)
  refine wp_region_seq [1, 3] (fun _ => True) (by rfl) (by rfl) trivial ?_
  simp only [List.zip_cons_cons, List.zip_nil_right]
  refine wpPi_do rfl (fun K hK => ?_)
  refine wp_box 32 _ _ (by rfl) (by rfl) (fun w2 hB2 hM hs2 => ?_)
  refine hK _ _ trivial ?_
  clear hK K
  try simp only [pl, pn, el, ec, sz, ss, gz, gs, if_true, if_false, Bool.false_eq_true, Bool.not_true, Bool.not_false, Nat.add_zero, Nat.zero_add, Nat.reduceAdd]
  refine wpPi_assign _ rfl rfl ?_
  simp only [pl, pn, el, ec, sz, ss, gz, gs, if_true, if_false, Bool.false_eq_true, Bool.not_true, Bool.not_false, Nat.add_zero, Nat.zero_add, Nat.reduceAdd]
  refine wpPi_nil ?_
  have h2 := h.keep0 hM
  go_wp2_with (go_at_call 25; refine (none_no h2).mono ?_; rintro _ w3 ⟨rfl, hw⟩; obtain rfl := hw.symm)
  go_ret
  exact ⟨rfl, hM⟩
set_option maxRecDepth 10000 in
set_option maxHeartbeats 1000000 in
theorem unlink_no {v : Value} (h : NoLinks w v) (r : ByteArray) (xs : List UInt8) (hid : xs.length = 32) : Calls Tryz.prog 12 #[v, .string r, .agg (idCells xs)] w (NilR (.bool false) w) := by
  go_enter Tryz.func12, Tryz.ntmps12
  go_upto_region 0 with (fail)
  refine wp_region_seq [1, 3] (fun _ => True) (by rfl) (by rfl) trivial ?_
  simp only [List.zip_cons_cons, List.zip_nil_right]
  refine wpPi_do rfl (fun K hK => ?_)
  refine wp_box 32 _ _ (by rfl) (by rfl) (fun w2 hB2 hM hs2 => ?_)
  replace hB2 : w2.heap[w.heap.size]? = some (.cells (idCells xs) 32 (0, 0)) := hB2
  refine hK _ _ trivial ?_
  clear hK K
  try simp only [pl, pn, el, ec, sz, ss, gz, gs, if_true, if_false, Bool.false_eq_true, Bool.not_true, Bool.not_false, Nat.add_zero, Nat.zero_add, Nat.reduceAdd]
  refine wpPi_assign _ rfl rfl ?_
  simp only [pl, pn, el, ec, sz, ss, gz, gs, if_true, if_false, Bool.false_eq_true, Bool.not_true, Bool.not_false, Nat.add_zero, Nat.zero_add, Nat.reduceAdd]
  refine wpPi_nil ?_
  have h2 := h.keep0 hM
  have hca : CellsAt w2 w.heap.size 0 (idCells xs) := CellsAt.whole hB2
  go_upto_region 1 with (fail)
  refine wp_region_seq [3, 3, 1, 1, 3] (fun _ => True) (by rfl) (by rfl) trivial ?_
  simp only [List.zip_cons_cons, List.zip_nil_right]
  refine wpPi_move _ rfl rfl ?_
  simp only [pl, pn, el, ec, sz, ss, gz, gs, if_true, if_false, Bool.false_eq_true, Bool.not_true, Bool.not_false, Nat.add_zero, Nat.zero_add, Nat.reduceAdd]
  refine wpPi_move _ rfl rfl ?_
  simp only [pl, pn, el, ec, sz, ss, gz, gs, if_true, if_false, Bool.false_eq_true, Bool.not_true, Bool.not_false, Nat.add_zero, Nat.zero_add, Nat.reduceAdd]
  refine wpPi_do rfl (fun K hK => ?_)
  refine wp_exec (exec_loadA 32 _ (by rfl) w.heap.size 0 (by rfl) (idCells xs) hca _ Tryz.underlying32 rfl 32 (by kernel_rfl) (by rw [idCells_size]; exact hid)) ?_
  refine hK _ _ trivial ?_
  clear hK K
  try simp only [pl, pn, el, ec, sz, ss, gz, gs, if_true, if_false, Bool.false_eq_true, Bool.not_true, Bool.not_false, Nat.add_zero, Nat.zero_add, Nat.reduceAdd]
  refine wpPi_do rfl (fun K hK => ?_)
  go_wp2_with (go_at_call 17; refine (has_no h2 r xs).mono ?_; rintro _ w3 ⟨rfl, hm3⟩)
  refine hK _ _ trivial ?_
  clear hK K
  try simp only [pl, pn, el, ec, sz, ss, gz, gs, if_true, if_false, Bool.false_eq_true, Bool.not_true, Bool.not_false, Nat.add_zero, Nat.zero_add, Nat.reduceAdd]
  refine wpPi_not _ _ _ rfl rfl rfl ?_
  simp only [pl, pn, el, ec, sz, ss, gz, gs, if_true, if_false, Bool.false_eq_true, Bool.not_true, Bool.not_false, Nat.add_zero, Nat.zero_add, Nat.reduceAdd]
  refine wpPi_nil ?_
  go_wp2
  go_ret
  exact ⟨rfl, hM.trans0 hm3⟩
theorem repos_no {v : Value} (h : NoLinks w v) : Calls Tryz.prog 16 #[v] w (RetE (.slice none 0 0) w) := by
  go_enter Tryz.func16, Tryz.ntmps16
  go_wp2_with (go_at_call 25; refine (none_no h).mono ?_; rintro _ _ ⟨rfl, rfl⟩)
  go_ret
  exact ⟨rfl, rfl⟩
theorem ids_no {v : Value} (h : NoLinks w v) (r : ByteArray) : Calls Tryz.prog 35 #[v, .string r] w (RetE (.slice none 0 0) w) := by
  go_enter Tryz.func35, Tryz.ntmps35
  go_wp2_with (go_at_call 25; refine (none_no h).mono ?_; rintro _ _ ⟨rfl, rfl⟩)
  go_ret
  exact ⟨rfl, rfl⟩
end
end Go.Proofs.YtcfcahflkhgapaaGreat
