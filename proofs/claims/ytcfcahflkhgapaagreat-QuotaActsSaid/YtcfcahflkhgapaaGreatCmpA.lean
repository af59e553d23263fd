/- Comparing texts and digests: the calls leave the world as it was, but for new blocks and draws. -/
import Derived.Test.YtcfcahflkhgapaaGreatQB
import Derived.Lib.Bytealg
import Derived.Lib.UnsafeStr
import Derived.Sort.Grow
namespace Go.Proofs.YtcfcahflkhgapaaGreat
set_option linter.unusedSimpArgs false
set_option linter.unusedVariables false
set_option linter.unnecessarySimpa false
set_option linter.unusedSectionVars false
open Go.RowKit

/-- New blocks and draws; nothing else. -/
def Grown (w w' : World) : Prop := ∃ q os, w' = Sort.grow (w.drewN q) os
theorem Grown.refl (w : World) : Grown w w := ⟨0, #[], by simp [Sort.grow, World.drewN]⟩
theorem Grown.trans {a b c : World} (h : Grown a b) (k : Grown b c) : Grown a c := by
  obtain ⟨q, os, rfl⟩ := h
  obtain ⟨q', os', rfl⟩ := k
  exact ⟨q + q', os ++ os', by simp [Sort.grow, World.drewN, Array.append_assoc, Nat.add_assoc]⟩
theorem Grown.alloc {a b : World} (h : Grown a b) (o : Obj) : Grown a (b.alloc o) := h.trans ⟨0, #[o], by rw [Sort.alloc_eq_grow]; rfl⟩
theorem Grown.drew {a b : World} (h : Grown a b) : Grown a b.drew := h.trans ⟨1, #[], by simp only [Sort.grow, World.drewN, Array.append_empty]; rfl⟩
theorem Grown.mod {w w' : World} (h : Grown w w') : Mod NoB w w' := by
  obtain ⟨q, os, rfl⟩ := h
  refine ⟨rfl, rfl, rfl, by simp [Sort.grow, World.drewN], fun k hk _ => ?_⟩
  simp only [Sort.grow, World.drewN]
  rw [Array.getElem?_append_left hk]
theorem mod_drew (w : World) : Mod NoB w w.drew := (Mod.refl _ _).drew
/-- The call returns v; new blocks and draws beside. -/
def RetG (v : Value) (w : World) : Ending → World → Prop := fun e w' => e = .returned v ∧ Grown w w'
theorem wp_boxG {P : Program} {o : Oper} {a : Act} {w : World} {K : Act → World → Prop} {Q : Exit → Act → World → Prop} (elem : TypeId) (x : Operand) (v : Value) (ho : o.op = .box elem x) (hx : a.eval x = v)
    (h : ∀ w', w'.heap[w.heap.size]? = some (.cells v.cells elem (0, 0)) → Grown w w' → w.heap.size < w'.heap.size → K (a.put o.dst (.pointer (some ⟨w.heap.size, 0, none⟩))) w') : o.wp P a w K Q := by
  unfold Oper.wp execOp
  simp only [ho, hx]
  have hr : (Instr.box elem v).run P w = .ok (.pointer (some ⟨w.heap.size, 0, none⟩)) (w.alloc (.cells v.cells elem)) := by
    simp [Instr.box, newVar, newRow]
  simp only [Sem.run_bind, hr, Result.andThen_ok, Sem.run_pure]
  exact h _ (heap_alloc_new _ _) ((Grown.refl _).alloc _) (by simp)

theorem length_le_of_sub {α : Type} [DecidableEq α] : ∀ {l m : List α}, l.Nodup → (∀ x ∈ l, x ∈ m) → l.length ≤ m.length
  | [], _, _, _ => by simp
  | x :: l, m, hn, hs => by
    rw [List.nodup_cons] at hn
    have hx := hs x (by simp)
    have := length_le_of_sub (m := m.erase x) hn.2 fun y hy => by
      have hne : y ≠ x := by rintro rfl; exact hn.1 hy
      exact (List.mem_erase_of_ne hne).2 (hs y (by simp [hy]))
    have hl := List.length_erase_of_mem hx
    have hp : 0 < m.length := List.length_pos_iff.2 (by rintro rfl; cases hx)
    simp only [List.length_cons]; omega


/-! ### The order -/
def cmpI (a b : List UInt8) : Int := Lib.compareBytes a b
theorem cmpI_lt (a b : List UInt8) : cmpI a b = -1 ∨ cmpI a b = 0 ∨ cmpI a b = 1 := by
  induction a generalizing b with
  | nil => cases b <;> simp [cmpI, Lib.compareBytes]
  | cons x a ih =>
    cases b with
    | nil => simp [cmpI, Lib.compareBytes]
    | cons y b =>
      simp only [cmpI, Lib.compareBytes]
      split
      · simp
      · split
        · simp
        · exact ih b
theorem cmpI_bytes (a b : List UInt8) : cmpI a b = if Op.bytesLess a b then -1 else if a = b then 0 else 1 := by
  induction a generalizing b with
  | nil => cases b <;> simp [cmpI, Lib.compareBytes, Op.bytesLess]
  | cons x a ih =>
    cases b with
    | nil => simp [cmpI, Lib.compareBytes, Op.bytesLess]
    | cons y b =>
      have := ih b
      simp only [cmpI] at this
      simp only [cmpI, Lib.compareBytes, Op.bytesLess, Bool.or_eq_true, decide_eq_true_eq, Bool.and_eq_true, beq_iff_eq, List.cons.injEq]
      rcases Nat.lt_trichotomy x.toNat y.toNat with h | h | h
      · have h1 : x < y := h
        simp [h1]
      · have h1 : x = y := UInt8.toNat_inj.1 h
        subst h1
        simp [this]
      · have h1 : y < x := h
        have h2 : ¬ x < y := fun h3 => by have h3 : x.toNat < y.toNat := h3; omega
        have h3 : ¬ x = y := fun e => by subst e; omega
        simp [h1, h2, h3]
theorem cmpI_neg (a b : List UInt8) : cmpI a b < 0 ↔ a < b := by
  induction a generalizing b with
  | nil => cases b <;> simp [cmpI, Lib.compareBytes]
  | cons x a ih =>
    cases b with
    | nil => simp [cmpI, Lib.compareBytes]
    | cons y b =>
      have := ih b
      simp only [cmpI] at this
      simp only [cmpI, Lib.compareBytes, List.cons_lt_cons_iff]
      rcases Nat.lt_trichotomy x.toNat y.toNat with h | h | h
      · have h1 : x < y := h
        simp [h1]
      · have h1 : x = y := UInt8.toNat_inj.1 h
        subst h1
        have h2 : ¬ x < x := fun h3 => by have h3 : x.toNat < x.toNat := h3; omega
        simp [this, h2]
      · have h1 : y < x := h
        have h2 : ¬ x < y := fun h3 => by have h3 : x.toNat < y.toNat := h3; omega
        have h3 : ¬ x = y := fun e => by subst e; omega
        simp [h1, h2, h3]
theorem cmpI_zero (a b : List UInt8) : cmpI a b = 0 ↔ a = b := by
  rw [cmpI_bytes]
  constructor
  · intro h
    split at h
    · cases h
    · split at h
      · assumption
      · cases h
  · rintro rfl
    have h : ¬ cmpI a a < 0 := by rw [cmpI_neg]; exact List.lt_irrefl a
    split
    · rename_i hb
      rw [cmpI_bytes, if_pos hb] at h
      omega
    · simp

/-! ### cmp.Compare of texts -/
theorem isNaN_any (s : ByteArray) (w : World) : Calls Tryz.prog 67 #[.string s] w (RetE (.bool false) w) := by
  go_enter Tryz.func67, Tryz.ntmps67
  go_wp2
  go_ret
  exact ⟨by simp, rfl⟩
theorem toL (s : ByteArray) : s.toList = s.data.toList := ByteArray.toList_eq s
theorem cmpStr_any (a b : ByteArray) (w : World) : Calls Tryz.prog 53 #[.string a, .string b] w (RetE (.int .i64 (cmpI a.data.toList b.data.toList)) w) := by
  rw [cmpI_bytes]
  go_enter Tryz.func53, Tryz.ntmps53
  go_wp2_with (go_at_call 67; refine (isNaN_any _ _).mono ?_; rintro _ w1 ⟨rfl, hw⟩; obtain rfl := hw.symm)
  all_goals try go_wp2
  all_goals go_ret
  all_goals refine ⟨?_, rfl⟩
  all_goals simp_all [toL]
/-- cmp.Or of two numbers. -/
def orI (x y : Int) : Int := if x ≠ 0 then x else y
def OrRel (x y : Int) (w0 : World) (i : Value) (w : World) : Prop := ∃ k : Nat, k ≤ 2 ∧ i = .int .i64 k ∧ (k ≠ 0 → x = 0) ∧ (k = 2 → y = 0) ∧ w = w0
set_option maxRecDepth 10000 in
theorem cmpOr_any (b : Nat) (x y : Int) (w : World) (hc : w.cell? ⟨b, 0, none⟩ = some (.int .i64 x)) (hd : w.cell? ⟨b, 1, none⟩ = some (.int .i64 y)) :
    Calls Tryz.prog 52 #[.slice (some ⟨b, 0, none⟩) 2 2] w (RetE (.int .i64 (orI x y)) w) := by
  go_enter Tryz.func52, Tryz.ntmps52
  go_wp2
  go_loopw [5, 8] (fun _ i wx => OrRel x y w i wx) (fun _ i _ => 2 - (intOf i).toNat)
  case atStart => exact ⟨0, by omega, rfl, fun h => absurd rfl h, fun h => by omega, rfl⟩
  case round =>
    obtain ⟨k, hk, rfl, h0, h2, rfl⟩ := hrel
    have H0 := Lib.hid h0
    have H2 := Lib.hid h2
    clear h0 h2
    match k, hk with
    | 0, _ =>
      by_cases hx : x = 0
      · go_wp2
        go_roundw
        case rel => exact ⟨1, by omega, rfl, fun _ => hx, fun h => by omega, rfl⟩
        case measure => simp [intOf]
      · go_wp2
        go_ret
        exact ⟨by simp [orI, hx], rfl⟩
    | 1, _ =>
      have h1 := H0.out (by omega)
      by_cases hy : y = 0
      · go_wp2
        go_roundw
        case rel => exact ⟨2, by omega, rfl, fun _ => h1, fun _ => hy, rfl⟩
        case measure => simp [intOf]
      · go_wp2
        go_ret
        exact ⟨by simp [orI, h1], rfl⟩
    | 2, _ =>
      go_wp2
      go_ret
      have h1 := H0.out (by omega)
      have h2 := H2.out trivial
      exact ⟨by simp [orI, h1, h2], rfl⟩

/-! ### Digests -/
theorem run_loadBytesE {P : Program} {w : World} : ∀ (l : List UInt8) (a : Addr) (acc : ByteArray), (∀ j x, l[j]? = some x → w.cell? (a.add j) = some (byteV x)) →
    (Extern.Bytes.loadBytes a l.length acc).run P w = .ok ⟨acc.data ++ l.toArray⟩ w
  | [], a, acc, _ => by simp [Extern.Bytes.loadBytes]
  | x :: l, a, acc, h => by
    have h0 : w.cell? a = some (byteV x) := by
      have := h 0 x rfl
      simpa [Addr.add] using this
    have ih := run_loadBytesE (P := P) (w := w) l (a.add 1) (acc.push x) (fun j y hy => by
      have := h (j + 1) y (by simpa using hy)
      have e : (a.add 1).add j = a.add (j + 1) := by
        unfold Addr.add
        by_cases hj : j = 0
        · subst hj; simp
        · simp [hj]; omega
      rw [e]; exact this)
    have hx : ((x.toNat : Int).toNat).toUInt8 = x := by simp
    simp only [byteV] at h0
    simp only [List.length_cons, Extern.Bytes.loadBytes, Sem.run_bind, run_load, h0, Result.andThen, hx]
    rw [ih]
    congr 1
    apply ByteArray.ext
    simp [ByteArray.push]
theorem run_bytesOf_sl {P : Program} {w : World} {own : Bool} {G : Nat → Prop} {v : Value} {l : List UInt8} (h : Sl own w G 1 ByteC v l) : (Extern.Bytes.bytesOf v).run P w = .ok ⟨l.toArray⟩ w := by
  obtain ⟨a, cap, rfl, hl, hc, h⟩ := h
  by_cases hne : l = []
  · subst hne
    cases a with
    | none => rfl
    | some a => simp [Extern.Bytes.bytesOf, loadBytes]; rfl
  · obtain ⟨b, off, rfl, -, -, h⟩ := h hne
    have := run_loadBytesE (P := P) (w := w) l ⟨b, off, none⟩ .empty (fun j x hj => by
      obtain ⟨hj', hx⟩ := List.getElem?_eq_some_iff.1 hj
      obtain ⟨cs, -, hR, hc⟩ := h j hj'
      rw [hR, hx] at hc
      have := CellsAt.one.1 hc
      rw [Nat.mul_one] at this
      unfold Addr.add
      split
      · rename_i h0; subst h0; simpa using this
      · exact this)
    simpa [Extern.Bytes.bytesOf] using this
theorem exec_extern {P : Program} {w : World} {o : Oper} {a : Act} (f : FuncId) (fn : Func) (e : Array Value → Sem Value) (args : List Operand) (ts : Array TypeId) (ho : o.op = .call { callee := .value (.func f), args := args.toArray, argTypes := ts }) (hf : P.funcs[f]? = some fn) (hname : (fn.name == "runtime.NumGoroutine") = false)
    (hb : fn.body.isNone = true) (hn : Extern.findNext fn = none) (he : Extern.find fn = some e) (vs : List Value) (hvs : args.map a.eval = vs) (v : Value) (hv : (e vs.toArray).run P w = .ok v w) : (execOp a.eval o).run P w = .ok (.value v) w := by
  subst hvs
  unfold execOp
  have hr := run_callFunc_extern hf hname hb hn he (args.map a.eval).toArray w
  rw [hv] at hr
  simp [ho, resolve, invoke, Act.eval, Deferred.ofValue, hr]
theorem bytealg_run {w : World} {u v : Value} {oa ob : Bool} {Ga Gb : Nat → Prop} {x y : List UInt8} (hx : Sl oa w Ga 1 ByteC u x) (hy : Sl ob w Gb 1 ByteC v y) :
    (Extern.BytealgCompare.compare #[u, v]).run Tryz.prog w = .ok (.int .i64 (cmpI x y)) w := by
  show (do pure (goInt (Extern.BytealgCompare.cmp (← Extern.Bytes.bytesOf u) (← Extern.Bytes.bytesOf v))) : Sem Value).run Tryz.prog w = _
  simp only [Sem.run_bind, run_bytesOf_sl hx, run_bytesOf_sl hy, Result.andThen_ok, Sem.run_pure, Lib.cmp_eq]
  rfl
set_option maxRecDepth 10000 in
theorem bytesCompare_any {w : World} {u v : Value} {oa ob : Bool} {Ga Gb : Nat → Prop} {x y : List UInt8} (hx : Sl oa w Ga 1 ByteC u x) (hy : Sl ob w Gb 1 ByteC v y) :
    Calls Tryz.prog 68 #[u, v] w (RetE (.int .i64 (cmpI x y)) w) := by
  have hr := bytealg_run hx hy
  go_enter Tryz.func68, Tryz.ntmps68
  go_upto_region 1 with (fail)
  refine wp_region_seq [3, 3, 1, 3] (fun _ => True) (by rfl) (by rfl) trivial ?_
  simp only [List.zip_cons_cons, List.zip_nil_right]
  refine wpPi_move _ rfl rfl ?_
  simp only [pl, pn, el, ec, sz, ss, gz, gs, if_true, if_false, Bool.false_eq_true, Bool.not_true, Bool.not_false, Nat.add_zero, Nat.zero_add, Nat.reduceAdd]
  refine wpPi_move _ rfl rfl ?_
  simp only [pl, pn, el, ec, sz, ss, gz, gs, if_true, if_false, Bool.false_eq_true, Bool.not_true, Bool.not_false, Nat.add_zero, Nat.zero_add, Nat.reduceAdd]
  refine wpPi_do rfl (fun K hK => ?_)
  refine wp_exec (exec_extern 83 _ Extern.BytealgCompare.compare [_, _] _ (by rfl) Tryz.func83 (by kernel_rfl) (by kernel_rfl) (by kernel_rfl) (by kernel_rfl) [u, v] (by rfl) _ hr) ?_
  refine hK _ _ trivial ?_
  clear hK K
  try simp only [pl, pn, el, ec, sz, ss, gz, gs, if_true, if_false, Bool.false_eq_true, Bool.not_true, Bool.not_false, Nat.add_zero, Nat.zero_add, Nat.reduceAdd]
  refine wpPi_assign _ rfl rfl ?_
  simp only [pl, pn, el, ec, sz, ss, gz, gs, if_true, if_false, Bool.false_eq_true, Bool.not_true, Bool.not_false, Nat.add_zero, Nat.zero_add, Nat.reduceAdd]
  refine wpPi_nil ?_
  go_wp2
  go_ret
  exact ⟨rfl, rfl⟩
theorem exec_sliceA {P : Program} {w : World} {o : Oper} {a : Act} (t e : TypeId) (x : Operand) (b off n : Nat) (ho : o.op = .slice t x none none none) (hx : a.eval x = .pointer (some ⟨b, off, none⟩)) (ht : P.underlying t = some (.array n e)) (he : (P.info? e).map (·.size) = some 1) :
    (execOp a.eval o).run P w = .ok (.value (.slice (some ⟨b, off, none⟩) n n)) w := by
  have h1 : P.arrayLen t = n := by simp [Program.arrayLen, ht]
  have h2 : P.elem t = e := by simp [Program.elem, ht]
  have h3 : (sizeOf e).run P w = .ok 1 w := by
    cases hq : P.info? e with
    | none => simp [hq] at he
    | some j => simp [hq] at he; simp [sizeOf, typeInfo, hq, he]
  have h := run_sliceAt_array_all (P := P) w t ⟨b, off, none⟩ (by rw [h1, h2]; exact ht)
  rw [h2, h3, h1] at h
  unfold execOp
  have hm : (match (none : Option Operand) with | some z => some (a.eval z) | none => none) = none := rfl
  simp only [ho, hx, Option.map_none, Sem.run_bind, h, Result.andThen_ok, Sem.run_pure]
  simp [slicedAt, Addr.add]
theorem sl_idCells {w : World} {b off : Nat} {x : List UInt8} (h : CellsAt w b off (idCells x)) (hx : x.length = 32) : Sl false w (fun k => k = b) 1 ByteC (.slice (some ⟨b, off, none⟩) 32 32) x := by
  refine ⟨some ⟨b, off, none⟩, 32, by rw [hx], by omega, by unfold maxLen; omega, fun _ => ⟨b, off, rfl, rfl, fun h => (by cases h), fun i hi => ⟨#[byteV x[i]], rfl, rfl, ?_⟩⟩⟩
  rw [Nat.mul_one, CellsAt.one]
  exact h.cell (by simp [idCells, hi])
set_option maxRecDepth 10000 in
theorem shaCompare_any (x y : List UInt8) (hx : x.length = 32) (hy : y.length = 32) (w : World) : Calls Tryz.prog 54 #[.agg (idCells x), .agg (idCells y)] w (RetG (.int .i64 (cmpI x y)) w) := by
  go_enter Tryz.func54, Tryz.ntmps54
  go_upto_region 0 with (fail)
  refine wp_region_seq [1, 1, 3] (fun _ => True) (by rfl) (by rfl) trivial ?_
  simp only [List.zip_cons_cons, List.zip_nil_right]
  refine wpPi_do rfl (fun K hK => ?_)
  refine wp_boxG 32 _ _ (by rfl) (by rfl) (fun w1 hB1 hm1 hs1 => ?_)
  replace hB1 : w1.heap[w.heap.size]? = some (.cells (idCells x) 32 (0, 0)) := hB1
  refine hK _ _ trivial ?_
  clear hK K
  try simp only [pl, pn, el, ec, sz, ss, gz, gs, if_true, if_false, Bool.false_eq_true, Bool.not_true, Bool.not_false, Nat.add_zero, Nat.zero_add, Nat.reduceAdd]
  refine wpPi_do rfl (fun K hK => ?_)
  refine wp_boxG 32 _ _ (by rfl) (by rfl) (fun w2 hB2 hm2 hs2 => ?_)
  replace hB2 : w2.heap[w1.heap.size]? = some (.cells (idCells y) 32 (0, 0)) := hB2
  refine hK _ _ trivial ?_
  clear hK K
  try simp only [pl, pn, el, ec, sz, ss, gz, gs, if_true, if_false, Bool.false_eq_true, Bool.not_true, Bool.not_false, Nat.add_zero, Nat.zero_add, Nat.reduceAdd]
  refine wpPi_assign _ rfl rfl ?_
  simp only [pl, pn, el, ec, sz, ss, gz, gs, if_true, if_false, Bool.false_eq_true, Bool.not_true, Bool.not_false, Nat.add_zero, Nat.zero_add, Nat.reduceAdd]
  refine wpPi_nil ?_
  have hG := (hm1.trans hm2).drew
  have hX := sl_idCells (CellsAt.whole ((mod_drew w2).obj id (hm2.mod.obj id hB1))) hx
  have hY := sl_idCells (CellsAt.whole ((mod_drew w2).obj id hB2)) hy
  go_upto_region 1 with (fail)
  refine wp_region_pi [(0, 3), (1, 3), (2, 1), (3, 3)] [] (fun _ => True) (by kernel_rfl) (by kernel_rfl) (by kernel_rfl) (by kernel_rfl) (fun _ _ _ _ hd h => ⟨hd.trans h.1, h.2⟩) trivial ?_
  simp only [List.map_cons, List.map_nil, List.getD_cons_zero, List.getD_cons_succ]
  refine wpPi_any (v := .slice (some ⟨w.heap.size, 0, none⟩) 32 32) rfl (fun w' => exec_sliceA 32 5 _ _ _ 32 rfl rfl Tryz.underlying32 (by kernel_rfl)) ?_
  simp only [pl, pn, el, ec, sz, ss, gz, gs, if_true, if_false, Bool.false_eq_true, Bool.not_true, Bool.not_false, Nat.add_zero, Nat.zero_add, Nat.reduceAdd]
  refine wpPi_any (v := .slice (some ⟨w1.heap.size, 0, none⟩) 32 32) rfl (fun w' => exec_sliceA 32 5 _ _ _ 32 rfl rfl Tryz.underlying32 (by kernel_rfl)) ?_
  simp only [pl, pn, el, ec, sz, ss, gz, gs, if_true, if_false, Bool.false_eq_true, Bool.not_true, Bool.not_false, Nat.add_zero, Nat.zero_add, Nat.reduceAdd]
  refine wpPi_do rfl (fun K hK => ?_)
  go_wp2_with (go_at_call 68; refine (bytesCompare_any hX hY).mono ?_; rintro _ w3 ⟨rfl, hw⟩; obtain rfl := hw.symm)
  refine hK _ _ trivial ?_
  clear hK K
  try simp only [pl, pn, el, ec, sz, ss, gz, gs, if_true, if_false, Bool.false_eq_true, Bool.not_true, Bool.not_false, Nat.add_zero, Nat.zero_add, Nat.reduceAdd]
  refine wpPi_assign _ rfl rfl ?_
  simp only [pl, pn, el, ec, sz, ss, gz, gs, if_true, if_false, Bool.false_eq_true, Bool.not_true, Bool.not_false, Nat.add_zero, Nat.zero_add, Nat.reduceAdd]
  refine wpPi_nil ?_
  go_wp2
  go_ret
  exact ⟨rfl, hG⟩

/-! ### The links' keys -/
def cmpK (a b : Key) : Int := orI (cmpI a.1.data.toList b.1.data.toList) (cmpI a.2 b.2)
end Go.Proofs.YtcfcahflkhgapaaGreat
