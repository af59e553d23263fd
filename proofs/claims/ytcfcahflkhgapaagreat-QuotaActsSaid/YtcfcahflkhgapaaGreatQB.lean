/- Use and Has. -/
import Derived.Test.YtcfcahflkhgapaaGreatQA
import Derived.Test.YtcfcahflkhgapaaGreatBuild
namespace Go.Proofs.YtcfcahflkhgapaaGreat
set_option linter.unusedSimpArgs false
set_option linter.unusedVariables false
set_option linter.unnecessarySimpa false
set_option linter.unusedSectionVars false
open Go.RowKit Go.Shelf

def keyZero : Array Value := #[.string ⟨#[]⟩] ++ Array.replicate 32 (.int .u8 0)
theorem keyZ : (Tryz.prog.info? 67).bind (·.zero) = some (.agg keyZero) := by kernel_rfl
theorem keyP : placesOf Tryz.prog 67 = some [(0, 1), (1, 32)] := by kernel_rfl
theorem built_key {p : Key} (h : KeyOk p) : Tryz.prog.built 67 [(0, .string p.1), (1, .agg (idCells p.2))] = some (keyCells p) := by
  have h' : p.2.length = 32 := h
  have hz : keyZero.size = 33 := by kernel_rfl
  have hs1 : (putRow keyZero 0 #[Value.string p.1]).size = 33 := by rw [putRow_size (by simp [hz])]; exact hz
  rw [built_struct keyZ keyP, fill_cons (off := 0) (size := 1) rfl rfl (by omega)]
  rw [show (Value.string p.1).cells = #[Value.string p.1] from rfl]
  rw [fill_cons (off := 1) (size := 32) rfl (by simp [Value.cells, idCells_size, h']) (by omega), fill_nil]
  congr 1
  apply Array.toList_inj.1
  simp only [putRow, Value.cells, keyCells, Array.toList_append]
  have hl : keyZero.toList.length = 33 := by simpa using hz
  have hi : (idCells p.2).size = 32 := by rw [idCells_size, h']
  rw [hi, List.take_append_of_le_length (by simp)]
  simp [hl]
theorem exec_build_key {w : World} {o : Oper} {a : Act} (x y : Operand) (p : Key) (hp : KeyOk p) (ho : o.op = .build 67 #[(0, x), (1, y)]) (hx : a.eval x = .string p.1) (hy : a.eval y = .agg (idCells p.2)) :
    (execOp a.eval o).run Tryz.prog w = .ok (.value (keyV p)) w :=
  exec_build_of 67 [(0, x), (1, y)] [(0, .string p.1), (1, .agg (idCells p.2))] _ ho (by simp [hx, hy]) (built_key hp)

theorem useZ : (Tryz.prog.info? 68).bind (·.zero) = some (.pointer none) := by kernel_rfl
theorem linkZ : (Tryz.prog.info? 64).bind (·.zero) = some (linkV 0) := by kernel_rfl
theorem run_eql_ptr_nil (w : World) (b : Nat) : (binOp .eql 68 (.pointer (some ⟨b, 0, none⟩)) (.pointer none)).run Tryz.prog w = .ok (.bool false) w := by
  go_simp
def useP (r : ByteArray) (us : List (ByteArray × Nat)) : Value := match getL r us with | none => .pointer none | some b => useV b
theorem useP_get (r : ByteArray) (us : List (ByteArray × Nat)) : (getL r (us.map fun p => (p.1, useV p.2))).getD (.pointer none) = useP r us := by
  rw [getL_map]; unfold useP; cases getL r us <;> rfl
def linkG (k : Key) (l : LinkL) : Value := linkV ((getL k l).getD 0)
theorem linkG_get (k : Key) (l : LinkL) : (getL k (l.map fun p => (p.1, linkV p.2))).getD (linkV 0) = linkG k l := by
  rw [getL_map]; unfold linkG; cases getL k l <;> rfl
theorem linkS_get (k : Key) (l : LinkL) : (getL k (l.map fun p => (p.1, linkV p.2))).isSome = (getL k l).isSome := by
  rw [getL_map]; cases getL k l <;> rfl

section
variable {w : World} {bl ml mu : Nat} {limit : Int} {hold : Value} {l : LinkL} {us : List (ByteArray × Nat)}
theorem lookS_at (h : MapIs Value.string (fun _ => True) w mu (us.map fun p => (p.1, useV p.2))) {o : Oper} {a : Act} (m x : Operand) (r : ByteArray) (ho : o.op = .lookup 50 m x false) (hm : a.eval m = .map (some mu)) (hx : a.eval x = .string r) {v : Value} (hv : useP r us = v) :
    (execOp a.eval o).run Tryz.prog w = .ok (.value v) w :=
  exec_lookupL (keyT_string Tryz.underlying9) h r trivial 50 68 Tryz.underlying50 (.pointer none) useZ m x false ho hm hx _ (by rw [← hv]; simpa using useP_get r us)
theorem LkInv.lookS (h : LkInv w bl ml mu limit hold l us) {o : Oper} {a : Act} (m x : Operand) (r : ByteArray) (ho : o.op = .lookup 50 m x false) (hm : a.eval m = .map (some mu)) (hx : a.eval x = .string r) :
    (execOp a.eval o).run Tryz.prog w = .ok (.value (useP r us)) w :=
  exec_lookupL (keyT_string Tryz.underlying9) h.um r trivial 50 68 Tryz.underlying50 (.pointer none) useZ m x false ho hm hx _ (by simpa using useP_get r us)
theorem LkInv.lookK (h : LkInv w bl ml mu limit hold l us) {o : Oper} {a : Act} (m x : Operand) (k : Key) (hk : KeyOk k) (ho : o.op = .lookup 49 m x true) (hm : a.eval m = .map (some ml)) (hx : a.eval x = keyV k) :
    (execOp a.eval o).run Tryz.prog w = .ok (.value (.tuple #[linkG k l, .bool (getL k l).isSome])) w :=
  exec_lookupL keyT_key h.lm k hk 49 64 Tryz.underlying49 (linkV 0) linkZ m x true ho hm hx _ (by rw [linkG_get, linkS_get]; rfl)
theorem LkInv.lookK1 (h : LkInv w bl ml mu limit hold l us) {o : Oper} {a : Act} (m x : Operand) (k : Key) (hk : KeyOk k) (ho : o.op = .lookup 49 m x false) (hm : a.eval m = .map (some ml)) (hx : a.eval x = keyV k) :
    (execOp a.eval o).run Tryz.prog w = .ok (.value (linkG k l)) w :=
  exec_lookupL keyT_key h.lm k hk 49 64 Tryz.underlying49 (linkV 0) linkZ m x false ho hm hx _ (by rw [linkG_get]; rfl)

set_option maxRecDepth 10000 in
set_option maxHeartbeats 1000000 in
theorem use_any (h : LkInv w bl ml mu limit hold l us) (r : ByteArray) : Calls Tryz.prog 38 #[.pointer (some ⟨bl, 0, none⟩), .string r] w (RetE (.int .i64 (useOf l r)) w) := by
  have hc := h.cell.2.2.1
  obtain ⟨v, hv⟩ : ∃ v, useP r us = v := ⟨_, rfl⟩
  have hl := @LkInv.lookS w bl ml mu limit hold l us h
  have HV := Lib.hid hv
  unfold useP at hv
  cases hg : getL r us with
  | none =>
    rw [hg] at hv
    have HU := Lib.hid (useOf_none ((h.useNone r).1 hg))
    obtain rfl : .pointer none = v := hv
    clear hg
    go_enter Tryz.func38, Tryz.ntmps38
    go_upto_region 1 with (fail)
    refine wp_region_seq [3, 1, 3, 3, 3, 3, 1, 3, 1, 3, 3] (fun _ => True) (by rfl) (by rfl) trivial ?_
    simp only [List.zip_cons_cons, List.zip_nil_right]
    refine wpPi_move _ rfl rfl ?_
    simp only [pl, pn, el, ec, sz, ss, gz, gs, if_true, if_false, Bool.false_eq_true, Bool.not_true, Bool.not_false, Nat.add_zero, Nat.zero_add, Nat.reduceAdd]
    refine wpPi_do rfl (fun K hK => ?_)
    go_wp2_with (go_at_call 25; refine h.made.mono ?_; rintro _ w1 ⟨rfl, hw⟩; obtain rfl := hw.symm)
    refine hK _ _ trivial ?_
    clear hK K
    try simp only [pl, pn, el, ec, sz, ss, gz, gs, if_true, if_false, Bool.false_eq_true, Bool.not_true, Bool.not_false, Nat.add_zero, Nat.zero_add, Nat.reduceAdd]
    refine wpPi_move _ rfl rfl ?_
    simp only [pl, pn, el, ec, sz, ss, gz, gs, if_true, if_false, Bool.false_eq_true, Bool.not_true, Bool.not_false, Nat.add_zero, Nat.zero_add, Nat.reduceAdd]
    refine wpPi_move _ rfl rfl ?_
    simp only [pl, pn, el, ec, sz, ss, gz, gs, if_true, if_false, Bool.false_eq_true, Bool.not_true, Bool.not_false, Nat.add_zero, Nat.zero_add, Nat.reduceAdd]
    refine wpPi_nilCheck _ _ rfl rfl rfl ?_
    simp only [pl, pn, el, ec, sz, ss, gz, gs, if_true, if_false, Bool.false_eq_true, Bool.not_true, Bool.not_false, Nat.add_zero, Nat.zero_add, Nat.reduceAdd]
    refine wpPi_field _ _ _ _ _ _ rfl rfl rfl fo_53_2 ?_
    simp only [pl, pn, el, ec, sz, ss, gz, gs, if_true, if_false, Bool.false_eq_true, Bool.not_true, Bool.not_false, Nat.add_zero, Nat.zero_add, Nat.reduceAdd]
    refine wpPi_do rfl (fun K hK => ?_)
    refine wp_exec (exec_load1 50 _ (by rfl) bl 2 (by rfl) _ hc _ Tryz.underlying50 rfl) ?_
    refine hK _ _ trivial ?_
    clear hK K
    try simp only [pl, pn, el, ec, sz, ss, gz, gs, if_true, if_false, Bool.false_eq_true, Bool.not_true, Bool.not_false, Nat.add_zero, Nat.zero_add, Nat.reduceAdd]
    refine wpPi_move _ rfl rfl ?_
    simp only [pl, pn, el, ec, sz, ss, gz, gs, if_true, if_false, Bool.false_eq_true, Bool.not_true, Bool.not_false, Nat.add_zero, Nat.zero_add, Nat.reduceAdd]
    refine wpPi_do rfl (fun K hK => ?_)
    refine wp_exec (v := .pointer none) (by rw [← HV.out]; exact hl _ _ r (by rfl) (by rfl) (by rfl)) ?_
    refine hK _ _ trivial ?_
    clear hK K
    try simp only [pl, pn, el, ec, sz, ss, gz, gs, if_true, if_false, Bool.false_eq_true, Bool.not_true, Bool.not_false, Nat.add_zero, Nat.zero_add, Nat.reduceAdd]
    refine wpPi_any (v := ?_) rfl (fun w' => ?_) ?_; rotate_left; · (go_simp; try with_reducible rfl)
    simp only [pl, pn, el, ec, sz, ss, gz, gs, if_true, if_false, Bool.false_eq_true, Bool.not_true, Bool.not_false, Nat.add_zero, Nat.zero_add, Nat.reduceAdd]
    refine wpPi_pick _ _ _ _ rfl rfl rfl ?_
    simp only [pl, pn, el, ec, sz, ss, gz, gs, if_true, if_false, Bool.false_eq_true, Bool.not_true, Bool.not_false, Nat.add_zero, Nat.zero_add, Nat.reduceAdd]
    refine wpPi_nil ?_
    go_wp2
    go_ret
    rw [HU.out]
    exact ⟨rfl, rfl⟩
  | some b =>
    rw [hg] at hv
    have hub := h.ub (r, b) (getL_mem hg)
    obtain rfl : useV b = v := hv
    have hc0 : w.cell? ⟨b, 0, none⟩ = some (.int .i64 (useOf l r)) := by simp [World.cell?, hub]
    clear hg hub
    go_enter Tryz.func38, Tryz.ntmps38
    go_upto_region 1 with (fail)
    refine wp_region_seq [3, 1, 3, 3, 3, 3, 1, 3, 1, 3, 3] (fun _ => True) (by rfl) (by rfl) trivial ?_
    simp only [List.zip_cons_cons, List.zip_nil_right]
    refine wpPi_move _ rfl rfl ?_
    simp only [pl, pn, el, ec, sz, ss, gz, gs, if_true, if_false, Bool.false_eq_true, Bool.not_true, Bool.not_false, Nat.add_zero, Nat.zero_add, Nat.reduceAdd]
    refine wpPi_do rfl (fun K hK => ?_)
    go_wp2_with (go_at_call 25; refine h.made.mono ?_; rintro _ w1 ⟨rfl, hw⟩; obtain rfl := hw.symm)
    refine hK _ _ trivial ?_
    clear hK K
    try simp only [pl, pn, el, ec, sz, ss, gz, gs, if_true, if_false, Bool.false_eq_true, Bool.not_true, Bool.not_false, Nat.add_zero, Nat.zero_add, Nat.reduceAdd]
    refine wpPi_move _ rfl rfl ?_
    simp only [pl, pn, el, ec, sz, ss, gz, gs, if_true, if_false, Bool.false_eq_true, Bool.not_true, Bool.not_false, Nat.add_zero, Nat.zero_add, Nat.reduceAdd]
    refine wpPi_move _ rfl rfl ?_
    simp only [pl, pn, el, ec, sz, ss, gz, gs, if_true, if_false, Bool.false_eq_true, Bool.not_true, Bool.not_false, Nat.add_zero, Nat.zero_add, Nat.reduceAdd]
    refine wpPi_nilCheck _ _ rfl rfl rfl ?_
    simp only [pl, pn, el, ec, sz, ss, gz, gs, if_true, if_false, Bool.false_eq_true, Bool.not_true, Bool.not_false, Nat.add_zero, Nat.zero_add, Nat.reduceAdd]
    refine wpPi_field _ _ _ _ _ _ rfl rfl rfl fo_53_2 ?_
    simp only [pl, pn, el, ec, sz, ss, gz, gs, if_true, if_false, Bool.false_eq_true, Bool.not_true, Bool.not_false, Nat.add_zero, Nat.zero_add, Nat.reduceAdd]
    refine wpPi_do rfl (fun K hK => ?_)
    refine wp_exec (exec_load1 50 _ (by rfl) bl 2 (by rfl) _ hc _ Tryz.underlying50 rfl) ?_
    refine hK _ _ trivial ?_
    clear hK K
    try simp only [pl, pn, el, ec, sz, ss, gz, gs, if_true, if_false, Bool.false_eq_true, Bool.not_true, Bool.not_false, Nat.add_zero, Nat.zero_add, Nat.reduceAdd]
    refine wpPi_move _ rfl rfl ?_
    simp only [pl, pn, el, ec, sz, ss, gz, gs, if_true, if_false, Bool.false_eq_true, Bool.not_true, Bool.not_false, Nat.add_zero, Nat.zero_add, Nat.reduceAdd]
    refine wpPi_do rfl (fun K hK => ?_)
    refine wp_exec (v := .pointer (some ⟨b, 0, none⟩)) ((hl _ _ r (by rfl) (by rfl) (by rfl)).trans (by rw [HV.out]; rfl)) ?_
    refine hK _ _ trivial ?_
    clear hK K
    try simp only [pl, pn, el, ec, sz, ss, gz, gs, if_true, if_false, Bool.false_eq_true, Bool.not_true, Bool.not_false, Nat.add_zero, Nat.zero_add, Nat.reduceAdd]
    refine wpPi_any (v := ?_) rfl (fun w' => ?_) ?_; rotate_left; · (go_simp; try with_reducible rfl)
    simp only [pl, pn, el, ec, sz, ss, gz, gs, if_true, if_false, Bool.false_eq_true, Bool.not_true, Bool.not_false, Nat.add_zero, Nat.zero_add, Nat.reduceAdd]
    refine wpPi_pick _ _ _ _ rfl rfl rfl ?_
    simp only [pl, pn, el, ec, sz, ss, gz, gs, if_true, if_false, Bool.false_eq_true, Bool.not_true, Bool.not_false, Nat.add_zero, Nat.zero_add, Nat.reduceAdd]
    refine wpPi_nil ?_
    go_upto_region 3 with (fail)
    refine wp_region_seq [3, 3, 3, 1, 3, 1, 3, 3, 1, 3] (fun _ => True) (by rfl) (by rfl) trivial ?_
    simp only [List.zip_cons_cons, List.zip_nil_right]
    refine wpPi_move _ rfl rfl ?_
    simp only [pl, pn, el, ec, sz, ss, gz, gs, if_true, if_false, Bool.false_eq_true, Bool.not_true, Bool.not_false, Nat.add_zero, Nat.zero_add, Nat.reduceAdd]
    refine wpPi_nilCheck _ _ rfl rfl rfl ?_
    simp only [pl, pn, el, ec, sz, ss, gz, gs, if_true, if_false, Bool.false_eq_true, Bool.not_true, Bool.not_false, Nat.add_zero, Nat.zero_add, Nat.reduceAdd]
    refine wpPi_field _ _ _ _ _ _ rfl rfl rfl fo_53_2 ?_
    simp only [pl, pn, el, ec, sz, ss, gz, gs, if_true, if_false, Bool.false_eq_true, Bool.not_true, Bool.not_false, Nat.add_zero, Nat.zero_add, Nat.reduceAdd]
    refine wpPi_do rfl (fun K hK => ?_)
    refine wp_exec (exec_load1 50 _ (by rfl) bl 2 (by rfl) _ hc _ Tryz.underlying50 rfl) ?_
    refine hK _ _ trivial ?_
    clear hK K
    try simp only [pl, pn, el, ec, sz, ss, gz, gs, if_true, if_false, Bool.false_eq_true, Bool.not_true, Bool.not_false, Nat.add_zero, Nat.zero_add, Nat.reduceAdd]
    refine wpPi_move _ rfl rfl ?_
    simp only [pl, pn, el, ec, sz, ss, gz, gs, if_true, if_false, Bool.false_eq_true, Bool.not_true, Bool.not_false, Nat.add_zero, Nat.zero_add, Nat.reduceAdd]
    refine wpPi_do rfl (fun K hK => ?_)
    refine wp_exec (v := .pointer (some ⟨b, 0, none⟩)) ((hl _ _ r (by rfl) (by rfl) (by rfl)).trans (by rw [HV.out]; rfl)) ?_
    refine hK _ _ trivial ?_
    clear hK K
    try simp only [pl, pn, el, ec, sz, ss, gz, gs, if_true, if_false, Bool.false_eq_true, Bool.not_true, Bool.not_false, Nat.add_zero, Nat.zero_add, Nat.reduceAdd]
    refine wpPi_nilCheck _ _ rfl rfl rfl ?_
    simp only [pl, pn, el, ec, sz, ss, gz, gs, if_true, if_false, Bool.false_eq_true, Bool.not_true, Bool.not_false, Nat.add_zero, Nat.zero_add, Nat.reduceAdd]
    refine wpPi_field _ _ _ _ _ _ rfl rfl rfl fo_70_0 ?_
    simp only [pl, pn, el, ec, sz, ss, gz, gs, if_true, if_false, Bool.false_eq_true, Bool.not_true, Bool.not_false, Nat.add_zero, Nat.zero_add, Nat.reduceAdd]
    refine wpPi_do rfl (fun K hK => ?_)
    refine wp_exec (exec_load1 3 _ (by rfl) b 0 (by rfl) _ hc0 _ Tryz.underlying3 rfl) ?_
    refine hK _ _ trivial ?_
    clear hK K
    try simp only [pl, pn, el, ec, sz, ss, gz, gs, if_true, if_false, Bool.false_eq_true, Bool.not_true, Bool.not_false, Nat.add_zero, Nat.zero_add, Nat.reduceAdd]
    refine wpPi_assign _ rfl rfl ?_
    simp only [pl, pn, el, ec, sz, ss, gz, gs, if_true, if_false, Bool.false_eq_true, Bool.not_true, Bool.not_false, Nat.add_zero, Nat.zero_add, Nat.reduceAdd]
    refine wpPi_nil ?_
    go_wp2
    go_ret
    exact ⟨rfl, rfl⟩

theorem use_no {v : Value} (h : NoLinks w v) (r : ByteArray) : Calls Tryz.prog 38 #[v, .string r] w (RetE (.int .i64 0) w) := by
  go_enter Tryz.func38, Tryz.ntmps38
  go_wp2_with (go_at_call 25; refine (none_no h).mono ?_; rintro _ _ ⟨rfl, rfl⟩)
  go_ret
  exact ⟨rfl, rfl⟩

set_option maxRecDepth 10000 in
set_option maxHeartbeats 1000000 in
theorem has_any (h : LkInv w bl ml mu limit hold l us) (k : Key) (hk : KeyOk k) : Calls Tryz.prog 17 #[.pointer (some ⟨bl, 0, none⟩), .string k.1, .agg (idCells k.2)] w (RetM (.bool (getL k l).isSome) w) := by
  go_enter Tryz.func17, Tryz.ntmps17
  go_upto_region 0 with (fail)
  refine wp_region_seq [1, 3] (fun _ => True) (by rfl) (by rfl) trivial ?_
  simp only [List.zip_cons_cons, List.zip_nil_right]
  refine wpPi_do rfl (fun K hK => ?_)
  refine wp_box 32 _ _ (by rfl) (by rfl) (fun w1 hB1 hm1 hs1 => ?_)
  replace hB1 : w1.heap[w.heap.size]? = some (.cells (idCells k.2) 32 (0, 0)) := hB1
  refine hK _ _ trivial ?_
  clear hK K
  try simp only [pl, pn, el, ec, sz, ss, gz, gs, if_true, if_false, Bool.false_eq_true, Bool.not_true, Bool.not_false, Nat.add_zero, Nat.zero_add, Nat.reduceAdd]
  refine wpPi_assign _ rfl rfl ?_
  simp only [pl, pn, el, ec, sz, ss, gz, gs, if_true, if_false, Bool.false_eq_true, Bool.not_true, Bool.not_false, Nat.add_zero, Nat.zero_add, Nat.reduceAdd]
  refine wpPi_nil ?_
  have h1 := h.keep0 hm1
  go_upto_region 3 with (go_at_call 25; refine h1.made.mono ?_; rintro _ w2 ⟨rfl, hw⟩; obtain rfl := hw.symm)
  have hS : Mod NoB w1 w1.drew := (Mod.refl _ _).drew
  refine wp_region_pi [(0, 3), (1, 3), (2, 3), (3, 0), (4, 3), (5, 0), (6, 3), (7, 0), (8, 3), (9, 3), (10, 3), (11, 1), (12, 1), (13, 3)] [] (fun w' => Mod NoB w1 w') (by kernel_rfl) (by kernel_rfl) (by kernel_rfl) (by kernel_rfl) (fun _ _ _ _ hd h => ⟨hd.trans h.1, h.2⟩) hS ?_
  simp only [List.map_cons, List.map_nil, List.getD_cons_zero, List.getD_cons_succ]
  refine wpPi_move _ rfl rfl ?_
  simp only [pl, pn, el, ec, sz, ss, gz, gs, if_true, if_false, Bool.false_eq_true, Bool.not_true, Bool.not_false, Nat.add_zero, Nat.zero_add, Nat.reduceAdd]
  refine wpPi_nilCheck _ _ rfl rfl rfl ?_
  simp only [pl, pn, el, ec, sz, ss, gz, gs, if_true, if_false, Bool.false_eq_true, Bool.not_true, Bool.not_false, Nat.add_zero, Nat.zero_add, Nat.reduceAdd]
  refine wpPi_field _ _ _ _ _ _ rfl rfl rfl fo_53_1 ?_
  simp only [pl, pn, el, ec, sz, ss, gz, gs, if_true, if_false, Bool.false_eq_true, Bool.not_true, Bool.not_false, Nat.add_zero, Nat.zero_add, Nat.reduceAdd]
  refine wpPi_val rfl (fun w' hS => exec_load1 49 _ (by rfl) bl 1 (by rfl) _ (h1.keep0 hS).cell.2.1 _ Tryz.underlying49 rfl) ?_
  simp only [pl, pn, el, ec, sz, ss, gz, gs, if_true, if_false, Bool.false_eq_true, Bool.not_true, Bool.not_false, Nat.add_zero, Nat.zero_add, Nat.reduceAdd]
  refine wpPi_move _ rfl rfl ?_
  simp only [pl, pn, el, ec, sz, ss, gz, gs, if_true, if_false, Bool.false_eq_true, Bool.not_true, Bool.not_false, Nat.add_zero, Nat.zero_add, Nat.reduceAdd]
  refine wpPi_val rfl (fun w' hS => exec_loadA 32 _ (by rfl) w.heap.size 0 (by rfl) (idCells k.2) (CellsAt.whole (hS.obj id hB1)) _ Tryz.underlying32 rfl 32 (by kernel_rfl) (by rw [idCells_size]; exact hk)) ?_
  simp only [pl, pn, el, ec, sz, ss, gz, gs, if_true, if_false, Bool.false_eq_true, Bool.not_true, Bool.not_false, Nat.add_zero, Nat.zero_add, Nat.reduceAdd]
  refine wpPi_any (v := keyV k) rfl (fun w' => exec_build_key _ _ k hk rfl rfl rfl) ?_
  simp only [pl, pn, el, ec, sz, ss, gz, gs, if_true, if_false, Bool.false_eq_true, Bool.not_true, Bool.not_false, Nat.add_zero, Nat.zero_add, Nat.reduceAdd]
  refine wpPi_val rfl (fun w' hS => (h1.keep0 hS).lookK _ _ k hk (by rfl) (by rfl) (by rfl)) ?_
  simp only [pl, pn, el, ec, sz, ss, gz, gs, if_true, if_false, Bool.false_eq_true, Bool.not_true, Bool.not_false, Nat.add_zero, Nat.zero_add, Nat.reduceAdd]
  refine wpPi_move _ rfl rfl ?_
  simp only [pl, pn, el, ec, sz, ss, gz, gs, if_true, if_false, Bool.false_eq_true, Bool.not_true, Bool.not_false, Nat.add_zero, Nat.zero_add, Nat.reduceAdd]
  refine wpPi_any (v := ?_) rfl (fun w' => ?_) ?_; rotate_left; · (go_simp; try with_reducible rfl)
  simp only [pl, pn, el, ec, sz, ss, gz, gs, if_true, if_false, Bool.false_eq_true, Bool.not_true, Bool.not_false, Nat.add_zero, Nat.zero_add, Nat.reduceAdd]
  refine wpPi_any (v := ?_) rfl (fun w' => ?_) ?_; rotate_left; · (go_simp; try with_reducible rfl)
  simp only [pl, pn, el, ec, sz, ss, gz, gs, if_true, if_false, Bool.false_eq_true, Bool.not_true, Bool.not_false, Nat.add_zero, Nat.zero_add, Nat.reduceAdd]
  refine wpPi_do rfl (fun K hK => ?_)
  refine wp_alloc 64 (linkV 0) (by rfl) linkZ (fun w3 hB3 hm3 hs3 => ?_)
  replace hB3 : w3.heap[w1.heap.size]? = some (.cells #[.int .i64 0] 64 (0, 0)) := hB3
  replace hm3 := hS.trans0 hm3
  refine hK _ _ hm3 ?_
  clear hK K
  try simp only [pl, pn, el, ec, sz, ss, gz, gs, if_true, if_false, Bool.false_eq_true, Bool.not_true, Bool.not_false, Nat.add_zero, Nat.zero_add, Nat.reduceAdd]
  refine wpPi_do rfl (fun K hK => ?_)
  refine wp_storeA 64 _ _ w1.heap.size 0 #[.int .i64 ((getL k l).getD 0)] (by rfl) (by rfl) (by rfl) (by simp [Value.oneCell']) 1 (by kernel_rfl) rfl _ _ hB3 (by simp) (fun w4 hB4 hm4 => ?_)
  have hM4 : Mod NoB w1 w4 := hm3.transB hm4 (Nat.le_refl _)
  refine hK _ _ hM4 ?_
  clear hK K
  try simp only [pl, pn, el, ec, sz, ss, gz, gs, if_true, if_false, Bool.false_eq_true, Bool.not_true, Bool.not_false, Nat.add_zero, Nat.zero_add, Nat.reduceAdd]
  refine wpPi_assign _ rfl rfl ?_
  simp only [pl, pn, el, ec, sz, ss, gz, gs, if_true, if_false, Bool.false_eq_true, Bool.not_true, Bool.not_false, Nat.add_zero, Nat.zero_add, Nat.reduceAdd]
  refine wpPi_nil ?_
  go_wp2
  go_ret
  exact ⟨rfl, hm1.trans0 hM4⟩
end
end Go.Proofs.YtcfcahflkhgapaaGreat
