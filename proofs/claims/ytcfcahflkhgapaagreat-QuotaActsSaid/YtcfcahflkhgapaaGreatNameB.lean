/- A repository's name: what is told of a text. -/
import Derived.Test.YtcfcahflkhgapaaGreatNameA
import Derived.Test.YtcfcahflkhgapaaGreatFo
import Derived.Shelf.Abstract
namespace Go.Proofs.YtcfcahflkhgapaaGreat
set_option linter.unusedSimpArgs false
set_option linter.unusedVariables false
set_option linter.unnecessarySimpa false
set_option linter.unusedSectionVars false
open Go.RowKit Go.Shelf

section
variable {P : Program} {o : Oper} {a : Act} {w : World} {K : Act → World → Prop} {Q : Exit → Act → World → Prop}
/-- A call through a function value. -/
theorem wp_callv (g : FuncId) (x : Operand) (xs : List Operand) (ts : Array TypeId) (first cap : Array Value) (ho : o.op = .call { callee := .value x, args := xs.toArray, argTypes := ts }) (hx : a.eval x = .func (.func g) first cap)
    (he : ∀ args w, (callFunc g args).run P w = .ok (.enter g args) w)
    (h : Calls P g (first ++ (xs.map a.eval).toArray ++ cap) w (fun e w' => ∃ v, e = .returned v ∧ K (a.put o.dst v) w')) : o.wp P a w K Q := by
  unfold Oper.wp execOp
  simp only [ho, resolve, hx, Deferred.ofValue, invoke, Sem.run_bind, Sem.run_pure, Result.andThen_ok, he, List.map_toArray]
  refine h.mono fun e w' he => ?_
  obtain ⟨v, rfl, hk⟩ := he
  exact hk
theorem wp_rangeS (t : TypeId) (x : Operand) (s : ByteArray) (ho : o.op = .range t x) (hx : a.eval x = .string s) (ht : P.underlying t = some .string)
    (h : ∀ w', w'.heap[w.heap.size]? = some (.stringIter s 0) → Mod NoB w w' → w.heap.size < w'.heap.size → K (a.put o.dst (.pointer (some ⟨w.heap.size, 0, none⟩))) w') : o.wp P a w K Q := by
  unfold Oper.wp execOp
  have hr : (Instr.range t (.string s)).run P w = .ok (.pointer (some ⟨w.heap.size, 0, none⟩)) (w.alloc (.stringIter s 0)) := by
    simp [Instr.range, run_underlying ht, newObj, Sem.run]
  simp only [ho, hx, Sem.run_bind, hr, Result.andThen_ok, Sem.run_pure]
  exact h _ (heap_alloc_new _ _) (mod_alloc _ _) (by simp)
theorem wp_nextS (x : Operand) (k : Nat) (s : ByteArray) (pos : Nat) (ho : o.op = .next x true) (hx : a.eval x = .pointer (some ⟨k, 0, none⟩)) (hk : w.heap[k]? = some (.stringIter s pos)) (hp : pos < s.size)
    (h : ∀ w', w'.heap[k]? = some (.stringIter s (pos + (Utf8.decode s pos).2)) → Mod (fun j => j = k) w w' → w.heap.size = w'.heap.size → K (a.put o.dst (.tuple #[.bool true, .int .i64 pos, .int .i32 (Utf8.decode s pos).1])) w') : o.wp P a w K Q := by
  unfold Oper.wp execOp
  simp only [ho, hx, Sem.run_bind, Lib.run_next_any_at w k s pos _ hk hp, Result.andThen_ok, Sem.run_pure]
  exact h _ (Lib.iterAt_heap _ _ _ _ _ hk) ⟨rfl, rfl, rfl, by simp [World.iterAt], fun j _ hj => Lib.iterAt_other _ _ _ _ _ hj⟩ (by simp [World.iterAt])
theorem wp_nextS_end (x : Operand) (k : Nat) (s : ByteArray) (pos : Nat) (ho : o.op = .next x true) (hx : a.eval x = .pointer (some ⟨k, 0, none⟩)) (hk : w.heap[k]? = some (.stringIter s pos)) (hp : ¬ pos < s.size)
    (h : K (a.put o.dst (.tuple #[.bool false])) w) : o.wp P a w K Q := by
  unfold Oper.wp execOp
  simp only [ho, hx, Sem.run_bind, Lib.run_next_end_at w k s pos _ hk hp, Result.andThen_ok, Sem.run_pure]
  exact h
end

theorem wpPi_lenS {P : Program} {ops : Array Oper} {Q : Exit → Act → World → Prop} {S : World → Prop} {o : Oper} {r : List (Oper × Nat)} {a : Act} {w : World} (x : Operand) (t : TypeId) (s : ByteArray)
    (hw : Region.wanted o (yielded ops a.tmps) = true) (ho : o.op = .call { callee := .builtin .len, args := #[x], argTypes := #[t] }) (hx : a.eval x = .string s) (ht : P.underlying t = some .string)
    (h : wpPi P ops Q S r (a.put o.dst (.int .i64 s.size)) w) : wpPi P ops Q S ((o, 3) :: r) a w :=
  wpPi_any hw (fun w => by unfold execOp; simp [ho, hx, resolve, invoke, builtin, Builtin.len_, run_underlying ht, goInt]) h

/-- Where a text leads, from a place on. -/
def nameRun (s : ByteArray) : Nat → Nat → Kd → Int → Option (Kd × Int)
  | 0, _, k, n => some (k, n)
  | f + 1, pos, k, n => if pos < s.size then (match stepS k n (Utf8.decode s pos).1 with | none => none | some r => nameRun s f (pos + (Utf8.decode s pos).2) r.1 r.2) else some (k, n)
def endsB : Option (Kd × Int) → Bool
  | none => false
  | some r => kdEnds r.1
/-- Is it a repository's name? -/
def nameB (s : ByteArray) : Bool := decide (s.size ≤ 128) && endsB (nameRun s s.size 0 .word 7)

theorem nameRun_end (s : ByteArray) (f pos : Nat) (k : Kd) (n : Int) (h : ¬ pos < s.size) : nameRun s f pos k n = some (k, n) := by
  cases f <;> simp [nameRun, h]
theorem nameRun_step (s : ByteArray) (f pos : Nat) (k : Kd) (n : Int) (h : pos < s.size) :
    nameRun s (f + 1) pos k n = (match stepS k n (Utf8.decode s pos).1 with | none => none | some r => nameRun s f (pos + (Utf8.decode s pos).2) r.1 r.2) := by simp only [nameRun, if_pos h]
theorem decode_pos (s : ByteArray) (i : Nat) : 1 ≤ (Utf8.decode s i).2 := by
  unfold Utf8.decode
  simp only
  repeat (first | split | simp)
theorem stepS_left {k : Kd} {n c : Int} {r : Kd × Int} (h : stepS k n c = some r) (hn : 0 ≤ n ∧ n ≤ 7) : 0 ≤ r.2 ∧ r.2 ≤ 7 := by
  have hw : ∀ {r}, stepW n c = some r → r.2 = n := fun h => by
    unfold stepW at h; split at h <;> simp at h; rw [← h]
  have ho : r.2 = n ∨ (0 < n ∧ r.2 = n - 1) := by
    cases k <;> simp only [stepS] at h
    · exact .inl (hw h)
    · split at h
      · rename_i h1; have := Option.some.inj h; rw [← this]; exact .inr ⟨h1.2, rfl⟩
      · repeat (first | (split at h; (have := Option.some.inj h; rw [← this]; exact .inl rfl)) | exact .inl (hw h))
    · split at h
      · have := Option.some.inj h; rw [← this]; exact .inl rfl
      · exact .inl (hw h)
    · split at h
      · have := Option.some.inj h; rw [← this]; exact .inl rfl
      · exact .inl (hw h)
  omega

theorem step_any (k : Kd) (n c : Int) (w : World) (hn : 0 ≤ n ∧ n ≤ 7) : Calls Tryz.prog (kdF k) #[.agg #[.int .i64 n], .int .i32 c] w (StR w (stepS k n c)) := by
  cases k
  · exact repoWord_any n c w
  · exact repoInside_any n c w hn
  · exact repoSecond_any n c w
  · exact repoDashes_any n c w
theorem kdF_enters (k : Kd) (args : Array Value) (w : World) : (callFunc (kdF k) args).run Tryz.prog w = .ok (.enter (kdF k) args) w := by
  cases k
  · exact enters_of Tryz.func69 (by kernel_rfl) rfl args w
  · exact enters_of Tryz.func85 (by kernel_rfl) rfl args w
  · exact enters_of Tryz.func99 (by kernel_rfl) rfl args w
  · exact enters_of Tryz.func100 (by kernel_rfl) rfl args w

/-- A fault is told; ok: it is none. -/
def FaultR (ok : Bool) (w : World) : Ending → World → Prop := fun e w' => ∃ x at' : Int, e = .returned (.agg #[.int .i64 x, .int .i64 at']) ∧ (if ok then x = 0 ∧ at' = 0 else x ≠ 0) ∧ Mod NoB w w'
def RunRel (s : ByteArray) (r : Option (Kd × Int)) (rb it : Nat) (w0 : World) (v : Value) (w : World) : Prop :=
  ∃ f pos k n, StAt w v k n ∧ (0 ≤ n ∧ n ≤ 7) ∧ w.heap[it]? = some (.stringIter s pos) ∧ r = nameRun s f pos k n ∧ s.size ≤ pos + f ∧ Mod NoB w0 w ∧ w.heap[rb]? = some (.cells #[.int .i64 0, .int .i64 0] 83 (0, 0))
/-- How much of a text is still to come. -/
def leftOf (it : Nat) (w : World) : Nat := match w.heap[it]? with | some (.stringIter s pos) => s.size - pos | _ => 0
theorem leftOf_eq {it : Nat} {w : World} {s : ByteArray} {pos : Nat} (h : w.heap[it]? = some (.stringIter s pos)) : leftOf it w = s.size - pos := by simp [leftOf, h]

theorem StAt.keep {S : Nat → Prop} {w w' : World} {v : Value} {k : Kd} {n : Int} (h : StAt w v k n) (hm : Mod S w w') (hS : ∀ b o, w.heap[b]? = some (.cells o 115 (0, 0)) → ¬ S b) : StAt w' v k n := by
  obtain ⟨b, h1, h2⟩ := h
  exact ⟨b, h1, hm.obj (hS b _ h2) h2⟩

set_option maxRecDepth 10000 in
set_option maxHeartbeats 1000000 in
theorem nameRun_any (s : ByteArray) (v : Value) (k0 : Kd) (n0 : Int) (w : World) (hs : s.size ≤ 128) (h0 : StAt w v k0 n0) (hn : 0 ≤ n0 ∧ n0 ≤ 7) :
    Calls Tryz.prog 59 #[.string s, v, .int .i64 7] w (FaultR (endsB (nameRun s s.size 0 k0 n0)) w) := by
  obtain ⟨b0, rfl, hb0⟩ := h0
  obtain ⟨r, hr⟩ : ∃ r, nameRun s s.size 0 k0 n0 = r := ⟨_, rfl⟩
  rw [hr]
  have HR0 := Lib.hid hr; clear hr
  go_enter Tryz.func59, Tryz.ntmps59
  go_upto_region 0 with (fail)
  refine wp_region_seq [1] (fun _ => True) (by rfl) (by rfl) trivial ?_
  simp only [List.zip_cons_cons, List.zip_nil_right]
  refine wpPi_do rfl (fun K hK => ?_)
  refine wp_alloc 83 (.agg #[.int .i64 0, .int .i64 0]) (by rfl) (by kernel_rfl) (fun w1 hB1 hm1 hs1 => ?_)
  replace hB1 : w1.heap[w.heap.size]? = some (.cells #[.int .i64 0, .int .i64 0] 83 (0, 0)) := hB1
  refine hK _ _ trivial ?_
  clear hK K
  try simp only [pl, pn, el, ec, sz, ss, gz, gs, if_true, if_false, Bool.false_eq_true, Bool.not_true, Bool.not_false, Nat.add_zero, Nat.zero_add, Nat.reduceAdd]
  refine wpPi_nil ?_
  go_upto_region 1 with (fail)
  refine wp_region_seq [3, 1] (fun _ => True) (by rfl) (by rfl) trivial ?_
  simp only [List.zip_cons_cons, List.zip_nil_right]
  refine wpPi_move _ rfl rfl ?_
  simp only [pl, pn, el, ec, sz, ss, gz, gs, if_true, if_false, Bool.false_eq_true, Bool.not_true, Bool.not_false, Nat.add_zero, Nat.zero_add, Nat.reduceAdd]
  refine wpPi_do rfl (fun K hK => ?_)
  refine wp_rangeS 9 _ s (by rfl) (by rfl) Tryz.underlying9 (fun w2 hB2 hm2 hs2 => ?_)
  replace hB1 := hm2.obj id hB1
  refine hK _ _ trivial ?_
  clear hK K
  try simp only [pl, pn, el, ec, sz, ss, gz, gs, if_true, if_false, Bool.false_eq_true, Bool.not_true, Bool.not_false, Nat.add_zero, Nat.zero_add, Nat.reduceAdd]
  refine wpPi_nil ?_
  have hst : RunRel s r w.heap.size w1.heap.size w (.pointer (some ⟨b0, 0, none⟩)) w2 :=
    ⟨s.size, 0, k0, n0, ⟨b0, rfl, hm2.obj id (hm1.obj id hb0)⟩, hn, hB2, HR0.out.symm, by omega, hm1.trans0 hm2, hB1⟩
  have hne : w.heap.size < w1.heap.size := hs1
  clear hB1 hB2 hm1 hm2 hs2 hb0 hn HR0
  go_wp2
  go_loopw [1] (RunRel s r w.heap.size w1.heap.size w) (fun _ wx => leftOf w1.heap.size wx)
  case atStart => exact hst
  case round =>
    rename_i wr
    obtain ⟨f, pos, k, n, ⟨b, rfl, hb⟩, hn, hit, hr, hf, hM, hrb⟩ := hrel
    have hbit : b ≠ w1.heap.size := by rintro rfl; rw [hit] at hb; cases hb
    by_cases hp : pos < s.size
    · obtain ⟨f, rfl⟩ : ∃ f', f = f' + 1 := ⟨f - 1, by omega⟩
      go_upto_region 2 with (fail)
      refine wp_region_seq [1, 3] (fun _ => True) (by rfl) (by rfl) trivial ?_
      simp only [List.zip_cons_cons, List.zip_nil_right]
      refine wpPi_do rfl (fun K hK => ?_)
      refine wp_nextS _ w1.heap.size s pos (by rfl) (by rfl) hit hp (fun w3 hit3 hm3 hs3 => ?_)
      refine hK _ _ trivial ?_
      clear hK K
      try simp only [pl, pn, el, ec, sz, ss, gz, gs, if_true, if_false, Bool.false_eq_true, Bool.not_true, Bool.not_false, Nat.add_zero, Nat.zero_add, Nat.reduceAdd]
      refine wpPi_any (v := ?_) rfl (fun w' => ?_) ?_; rotate_left; · (go_simp; try with_reducible rfl)
      simp only [pl, pn, el, ec, sz, ss, gz, gs, if_true, if_false, Bool.false_eq_true, Bool.not_true, Bool.not_false, Nat.add_zero, Nat.zero_add, Nat.reduceAdd]
      refine wpPi_nil ?_
      replace hb := hm3.obj hbit hb
      replace hrb := hm3.obj (b := w.heap.size) (by omega) hrb
      have hM3 : Mod NoB w w3 := hM.transB hm3 (by omega)
      have hc : w3.cell? ⟨b, 0, none⟩ = some (.func (.func (kdF k)) #[.agg #[.int .i64 n]] #[]) := by simp [World.cell?, hb, stCells]
      have hpos := decode_pos s pos
      have hgo : s.size - (pos + (Utf8.decode s pos).2) < leftOf w1.heap.size wr := by rw [leftOf_eq hit]; omega
      generalize hcc : (Utf8.decode s pos).1 = c at *
      generalize hww : (Utf8.decode s pos).2 = wd at *
      have hstep := nameRun_step s f pos k n hp
      rw [hcc, hww] at hstep
      have HR : Hid (r = _) := Lib.hid (hr.trans hstep)
      have HG := Lib.hid hgo
      have HS := Lib.hid hs3
      clear hr hstep hcc hww hgo hs3 hit
      go_upto_region 4 with (fail)
      refine wp_region_seq [3, 3, 3, 1, 3, 1, 3] (fun _ => True) (by rfl) (by rfl) trivial ?_
      simp only [List.zip_cons_cons, List.zip_nil_right]
      refine wpPi_move _ rfl rfl ?_
      simp only [pl, pn, el, ec, sz, ss, gz, gs, if_true, if_false, Bool.false_eq_true, Bool.not_true, Bool.not_false, Nat.add_zero, Nat.zero_add, Nat.reduceAdd]
      refine wpPi_nilCheck _ _ rfl rfl rfl ?_
      simp only [pl, pn, el, ec, sz, ss, gz, gs, if_true, if_false, Bool.false_eq_true, Bool.not_true, Bool.not_false, Nat.add_zero, Nat.zero_add, Nat.reduceAdd]
      refine wpPi_field _ _ _ _ _ _ rfl rfl rfl fo_115_0 ?_
      simp only [pl, pn, el, ec, sz, ss, gz, gs, if_true, if_false, Bool.false_eq_true, Bool.not_true, Bool.not_false, Nat.add_zero, Nat.zero_add, Nat.reduceAdd]
      refine wpPi_do rfl (fun K hK => ?_)
      refine wp_exec (exec_load1 113 _ (by rfl) b 0 (by rfl) _ hc _ Tryz.underlying113 rfl) ?_
      refine hK _ _ trivial ?_
      clear hK K
      try simp only [pl, pn, el, ec, sz, ss, gz, gs, if_true, if_false, Bool.false_eq_true, Bool.not_true, Bool.not_false, Nat.add_zero, Nat.zero_add, Nat.reduceAdd]
      refine wpPi_move _ rfl rfl ?_
      simp only [pl, pn, el, ec, sz, ss, gz, gs, if_true, if_false, Bool.false_eq_true, Bool.not_true, Bool.not_false, Nat.add_zero, Nat.zero_add, Nat.reduceAdd]
      refine wpPi_do rfl (fun K hK => ?_)
      refine wp_callv (kdF k) _ _ _ #[.agg #[.int .i64 n]] #[] (by rfl) (by rfl) (kdF_enters k) ?_
      refine (step_any k n c _ hn).mono ?_
      rintro _ w4 ⟨v, rfl, hm4, hok⟩
      refine ⟨v, rfl, ?_⟩
      refine hK _ _ trivial ?_
      clear hK K
      try simp only [pl, pn, el, ec, sz, ss, gz, gs, if_true, if_false, Bool.false_eq_true, Bool.not_true, Bool.not_false, Nat.add_zero, Nat.zero_add, Nat.reduceAdd]
      refine wpPi_assign _ rfl rfl ?_
      simp only [pl, pn, el, ec, sz, ss, gz, gs, if_true, if_false, Bool.false_eq_true, Bool.not_true, Bool.not_false, Nat.add_zero, Nat.zero_add, Nat.reduceAdd]
      refine wpPi_nil ?_
      replace hrb := hm4.obj id hrb
      replace hit3 := hm4.obj id hit3
      have hM4 := hM3.trans0 hm4
      cases hq : stepS k n c with
      | none =>
        rw [hq] at HR hok
        obtain rfl : v = .pointer none := hok
        go_upto_region 6 with (fail)
        refine wp_region_seq [3, 3, 3, 1] (fun _ => True) (by rfl) (by rfl) trivial ?_
        simp only [List.zip_cons_cons, List.zip_nil_right]
        refine wpPi_move _ rfl rfl ?_
        simp only [pl, pn, el, ec, sz, ss, gz, gs, if_true, if_false, Bool.false_eq_true, Bool.not_true, Bool.not_false, Nat.add_zero, Nat.zero_add, Nat.reduceAdd]
        refine wpPi_move _ rfl rfl ?_
        simp only [pl, pn, el, ec, sz, ss, gz, gs, if_true, if_false, Bool.false_eq_true, Bool.not_true, Bool.not_false, Nat.add_zero, Nat.zero_add, Nat.reduceAdd]
        refine wpPi_any (v := ?_) rfl (fun w' => ?_) ?_; rotate_left; · (go_simp; try with_reducible rfl)
        simp only [pl, pn, el, ec, sz, ss, gz, gs, if_true, if_false, Bool.false_eq_true, Bool.not_true, Bool.not_false, Nat.add_zero, Nat.zero_add, Nat.reduceAdd]
        refine wpPi_do rfl (fun K hK => ?_)
        refine wp_storeA 83 _ _ w.heap.size 0 #[.int .i64 7, .int .i64 pos] (by rfl) (by rfl) (by rfl) (by simp [Value.oneCell']) 2 (by kernel_rfl) rfl _ _ hrb (by simp) (fun w5 hrb5 hm5 => ?_)
        refine hK _ _ trivial ?_
        clear hK K
        try simp only [pl, pn, el, ec, sz, ss, gz, gs, if_true, if_false, Bool.false_eq_true, Bool.not_true, Bool.not_false, Nat.add_zero, Nat.zero_add, Nat.reduceAdd]
        refine wpPi_nil ?_
        go_wp2
        refine bodyPost_ret (results_cell_row rfl _ _ w.heap.size _ _ _ _ (by rfl) hrb5 Tryz.underlying83 rfl (by kernel_rfl)) rfl ?_
        rw [HR.out]
        exact ⟨7, pos, rfl, by simp [endsB], hM4.transB hm5 (Nat.le_refl _)⟩
      | some q =>
        rw [hq] at HR hok
        have hq2 := stepS_left hq hn
        obtain ⟨b4, rfl, hb4⟩ := hok
        go_wp2
        go_roundw
        case rel => exact ⟨f, pos + wd, q.1, q.2, ⟨b4, rfl, hb4⟩, hq2, hit3, HR.out, by omega, hM4, hrb⟩
        case measure => rw [leftOf_eq hit3]; exact HG.out
    · have hend := nameRun_end s f pos k n hp
      have HR := Lib.hid (hr.trans hend)
      clear hr hend hf
      go_upto_region 2 with (fail)
      refine wp_region_seq [1, 3] (fun _ => True) (by rfl) (by rfl) trivial ?_
      simp only [List.zip_cons_cons, List.zip_nil_right]
      refine wpPi_do rfl (fun K hK => ?_)
      refine wp_nextS_end _ w1.heap.size s pos (by rfl) (by rfl) hit hp ?_
      refine hK _ _ trivial ?_
      clear hK K
      try simp only [pl, pn, el, ec, sz, ss, gz, gs, if_true, if_false, Bool.false_eq_true, Bool.not_true, Bool.not_false, Nat.add_zero, Nat.zero_add, Nat.reduceAdd]
      refine wpPi_any (v := ?_) rfl (fun w' => ?_) ?_; rotate_left; · (go_simp; try with_reducible rfl)
      simp only [pl, pn, el, ec, sz, ss, gz, gs, if_true, if_false, Bool.false_eq_true, Bool.not_true, Bool.not_false, Nat.add_zero, Nat.zero_add, Nat.reduceAdd]
      refine wpPi_nil ?_
      go_upto_region 7 with (fail)
      have hc : wr.cell? ⟨b, 1, none⟩ = some (.bool (kdEnds k)) := by simp [World.cell?, hb, stCells]
      refine wp_region_seq [3, 3, 3, 1, 3] (fun _ => True) (by rfl) (by rfl) trivial ?_
      simp only [List.zip_cons_cons, List.zip_nil_right]
      refine wpPi_move _ rfl rfl ?_
      simp only [pl, pn, el, ec, sz, ss, gz, gs, if_true, if_false, Bool.false_eq_true, Bool.not_true, Bool.not_false, Nat.add_zero, Nat.zero_add, Nat.reduceAdd]
      refine wpPi_nilCheck _ _ rfl rfl rfl ?_
      simp only [pl, pn, el, ec, sz, ss, gz, gs, if_true, if_false, Bool.false_eq_true, Bool.not_true, Bool.not_false, Nat.add_zero, Nat.zero_add, Nat.reduceAdd]
      refine wpPi_field _ _ _ _ _ _ rfl rfl rfl fo_115_1 ?_
      simp only [pl, pn, el, ec, sz, ss, gz, gs, if_true, if_false, Bool.false_eq_true, Bool.not_true, Bool.not_false, Nat.add_zero, Nat.zero_add, Nat.reduceAdd]
      refine wpPi_do rfl (fun K hK => ?_)
      refine wp_exec (exec_load1 4 _ (by rfl) b 1 (by rfl) _ hc _ Tryz.underlying4 rfl) ?_
      refine hK _ _ trivial ?_
      clear hK K
      try simp only [pl, pn, el, ec, sz, ss, gz, gs, if_true, if_false, Bool.false_eq_true, Bool.not_true, Bool.not_false, Nat.add_zero, Nat.zero_add, Nat.reduceAdd]
      refine wpPi_not _ _ _ rfl rfl rfl ?_
      simp only [pl, pn, el, ec, sz, ss, gz, gs, if_true, if_false, Bool.false_eq_true, Bool.not_true, Bool.not_false, Nat.add_zero, Nat.zero_add, Nat.reduceAdd]
      refine wpPi_nil ?_
      obtain ⟨t, ht⟩ : ∃ t, kdEnds k = t := ⟨_, rfl⟩
      have HT : Hid (endsB r = t) := Lib.hid (by rw [HR.out]; exact ht)
      rw [ht]
      clear ht HR hc
      cases t
      · go_upto_region 8 with (fail)
        refine wp_region_seq [3, 3, 3, 3, 1] (fun _ => True) (by rfl) (by rfl) trivial ?_
        simp only [List.zip_cons_cons, List.zip_nil_right]
        refine wpPi_move _ rfl rfl ?_
        simp only [pl, pn, el, ec, sz, ss, gz, gs, if_true, if_false, Bool.false_eq_true, Bool.not_true, Bool.not_false, Nat.add_zero, Nat.zero_add, Nat.reduceAdd]
        refine wpPi_move _ rfl rfl ?_
        simp only [pl, pn, el, ec, sz, ss, gz, gs, if_true, if_false, Bool.false_eq_true, Bool.not_true, Bool.not_false, Nat.add_zero, Nat.zero_add, Nat.reduceAdd]
        refine wpPi_lenS _ _ s rfl rfl rfl Tryz.underlying9 ?_
        simp only [pl, pn, el, ec, sz, ss, gz, gs, if_true, if_false, Bool.false_eq_true, Bool.not_true, Bool.not_false, Nat.add_zero, Nat.zero_add, Nat.reduceAdd]
        refine wpPi_any (v := ?_) rfl (fun w' => ?_) ?_; rotate_left; · (go_simp; try with_reducible rfl)
        simp only [pl, pn, el, ec, sz, ss, gz, gs, if_true, if_false, Bool.false_eq_true, Bool.not_true, Bool.not_false, Nat.add_zero, Nat.zero_add, Nat.reduceAdd]
        refine wpPi_do rfl (fun K hK => ?_)
        refine wp_storeA 83 _ _ w.heap.size 0 #[.int .i64 7, .int .i64 s.size] (by rfl) (by rfl) (by rfl) (by simp [Value.oneCell']) 2 (by kernel_rfl) rfl _ _ hrb (by simp) (fun w5 hrb5 hm5 => ?_)
        refine hK _ _ trivial ?_
        clear hK K
        try simp only [pl, pn, el, ec, sz, ss, gz, gs, if_true, if_false, Bool.false_eq_true, Bool.not_true, Bool.not_false, Nat.add_zero, Nat.zero_add, Nat.reduceAdd]
        refine wpPi_nil ?_
        go_wp2
        refine bodyPost_ret (results_cell_row rfl _ _ w.heap.size _ _ _ _ (by rfl) hrb5 Tryz.underlying83 rfl (by kernel_rfl)) rfl ?_
        rw [HT.out]
        exact ⟨7, s.size, rfl, by simp, hM.transB hm5 (Nat.le_refl _)⟩
      · go_upto_region 9 with (fail)
        refine wp_region_seq [3, 1] (fun _ => True) (by rfl) (by rfl) trivial ?_
        simp only [List.zip_cons_cons, List.zip_nil_right]
        refine wpPi_any (v := ?_) rfl (fun w' => ?_) ?_; rotate_left; · (go_simp; try with_reducible rfl)
        simp only [pl, pn, el, ec, sz, ss, gz, gs, if_true, if_false, Bool.false_eq_true, Bool.not_true, Bool.not_false, Nat.add_zero, Nat.zero_add, Nat.reduceAdd]
        refine wpPi_do rfl (fun K hK => ?_)
        refine wp_storeA 83 _ _ w.heap.size 0 #[.int .i64 0, .int .i64 0] (by rfl) (by rfl) (by rfl) (by simp [Value.oneCell']) 2 (by kernel_rfl) rfl _ _ hrb (by simp) (fun w5 hrb5 hm5 => ?_)
        refine hK _ _ trivial ?_
        clear hK K
        try simp only [pl, pn, el, ec, sz, ss, gz, gs, if_true, if_false, Bool.false_eq_true, Bool.not_true, Bool.not_false, Nat.add_zero, Nat.zero_add, Nat.reduceAdd]
        refine wpPi_nil ?_
        go_wp2
        refine bodyPost_ret (results_cell_row rfl _ _ w.heap.size _ _ _ _ (by rfl) hrb5 Tryz.underlying83 rfl (by kernel_rfl)) rfl ?_
        rw [HT.out]
        exact ⟨0, 0, rfl, by simp, hM.transB hm5 (Nat.le_refl _)⟩


theorem results_cell_tmp {P : Program} {fn : Func} {a t : Nat} {ty : TypeId} (h : fn.results = #[.cell a ty, .tmp t]) (tmps : Array Value) (w : World) (b : Nat) (cs : Array Value) (T : TypeId) (fr : Nat × Nat)
    (ha : tmps.getD a undef = .pointer (some ⟨b, 0, none⟩)) (hb : w.heap[b]? = some (.cells cs T fr)) {d : TypeDesc} (hu : P.underlying ty = some d) (hd : (match d with | .struct _ | .array _ _ => true | _ => false) = true) (hi : (P.info? ty).map (·.size) = some cs.size) :
    (results fn tmps).run P w = .ok (.tuple #[.agg cs, tmps.getD t undef]) w := by
  have ha' : tmps[a]?.getD undef = .pointer (some ⟨b, 0, none⟩) := by simpa using ha
  have h1 := run_loadVar_row (P := P) w b T ty cs fr _ hb hu hd hi
  simp [results, h, ha', asAddr, h1]

def LongR (s : ByteArray) (n : Int) (w : World) : Ending → World → Prop := fun e w' => ∃ x at' : Int, e = .returned (.tuple #[.agg #[.int .i64 x, .int .i64 at'], .bool (decide (n < s.size))]) ∧ (n < s.size → x ≠ 0) ∧ Mod NoB w w'
set_option maxRecDepth 10000 in
set_option maxHeartbeats 1000000 in
theorem nameLong_any (s : ByteArray) (n : Int) (w : World) (hs : s.size ≤ maxLen) : Calls Tryz.prog 58 #[.string s, .int .i64 n] w (LongR s n w) := by
  unfold maxLen at hs
  obtain ⟨t, ht⟩ : ∃ t, decide (n < s.size) = t := ⟨_, rfl⟩
  have HT := Lib.hid ht
  go_enter Tryz.func58, Tryz.ntmps58
  go_upto_region 0 with (fail)
  refine wp_region_seq [1, 3] (fun _ => True) (by rfl) (by rfl) trivial ?_
  simp only [List.zip_cons_cons, List.zip_nil_right]
  refine wpPi_do rfl (fun K hK => ?_)
  refine wp_alloc 83 (.agg #[.int .i64 0, .int .i64 0]) (by rfl) (by kernel_rfl) (fun w1 hB1 hm1 hs1 => ?_)
  replace hB1 : w1.heap[w.heap.size]? = some (.cells #[.int .i64 0, .int .i64 0] 83 (0, 0)) := hB1
  refine hK _ _ trivial ?_
  clear hK K
  try simp only [pl, pn, el, ec, sz, ss, gz, gs, if_true, if_false, Bool.false_eq_true, Bool.not_true, Bool.not_false, Nat.add_zero, Nat.zero_add, Nat.reduceAdd]
  refine wpPi_assign _ rfl rfl ?_
  simp only [pl, pn, el, ec, sz, ss, gz, gs, if_true, if_false, Bool.false_eq_true, Bool.not_true, Bool.not_false, Nat.add_zero, Nat.zero_add, Nat.reduceAdd]
  refine wpPi_nil ?_
  cases t
  · have h : ¬ n < s.size := of_decide_eq_false ht
    clear ht
    go_upto_region 3 with (fail)
    refine wp_region_seq [3, 1, 3] (fun _ => True) (by rfl) (by rfl) trivial ?_
    simp only [List.zip_cons_cons, List.zip_nil_right]
    refine wpPi_any (v := ?_) rfl (fun w' => ?_) ?_; rotate_left; · (go_simp; try with_reducible rfl)
    simp only [pl, pn, el, ec, sz, ss, gz, gs, if_true, if_false, Bool.false_eq_true, Bool.not_true, Bool.not_false, Nat.add_zero, Nat.zero_add, Nat.reduceAdd]
    refine wpPi_do rfl (fun K hK => ?_)
    refine wp_storeA 83 _ _ w.heap.size 0 #[.int .i64 0, .int .i64 0] (by rfl) (by rfl) (by rfl) (by simp [Value.oneCell']) 2 (by kernel_rfl) rfl _ _ hB1 (by simp) (fun w5 hB5 hm5 => ?_)
    refine hK _ _ trivial ?_
    clear hK K
    try simp only [pl, pn, el, ec, sz, ss, gz, gs, if_true, if_false, Bool.false_eq_true, Bool.not_true, Bool.not_false, Nat.add_zero, Nat.zero_add, Nat.reduceAdd]
    refine wpPi_assign _ rfl rfl ?_
    simp only [pl, pn, el, ec, sz, ss, gz, gs, if_true, if_false, Bool.false_eq_true, Bool.not_true, Bool.not_false, Nat.add_zero, Nat.zero_add, Nat.reduceAdd]
    refine wpPi_nil ?_
    go_wp2
    refine bodyPost_ret (results_cell_tmp rfl _ _ w.heap.size _ _ _ (by rfl) hB5 Tryz.underlying83 rfl (by kernel_rfl)) rfl ?_
    exact ⟨0, 0, by rw [HT.out]; rfl, fun h' => by omega, hm1.transB hm5 (Nat.le_refl _)⟩
  · have h : n < s.size := of_decide_eq_true ht
    clear ht
    go_upto_region 2 with (fail)
    refine wp_region_seq [3, 3, 1, 3] (fun _ => True) (by rfl) (by rfl) trivial ?_
    simp only [List.zip_cons_cons, List.zip_nil_right]
    refine wpPi_move _ rfl rfl ?_
    simp only [pl, pn, el, ec, sz, ss, gz, gs, if_true, if_false, Bool.false_eq_true, Bool.not_true, Bool.not_false, Nat.add_zero, Nat.zero_add, Nat.reduceAdd]
    refine wpPi_any (v := ?_) rfl (fun w' => ?_) ?_; rotate_left; · (go_simp; try with_reducible rfl)
    simp only [pl, pn, el, ec, sz, ss, gz, gs, if_true, if_false, Bool.false_eq_true, Bool.not_true, Bool.not_false, Nat.add_zero, Nat.zero_add, Nat.reduceAdd]
    refine wpPi_do rfl (fun K hK => ?_)
    refine wp_storeA 83 _ _ w.heap.size 0 #[.int .i64 4, .int .i64 n] (by rfl) (by rfl) (by rfl) (by simp [Value.oneCell']) 2 (by kernel_rfl) rfl _ _ hB1 (by simp) (fun w5 hB5 hm5 => ?_)
    refine hK _ _ trivial ?_
    clear hK K
    try simp only [pl, pn, el, ec, sz, ss, gz, gs, if_true, if_false, Bool.false_eq_true, Bool.not_true, Bool.not_false, Nat.add_zero, Nat.zero_add, Nat.reduceAdd]
    refine wpPi_assign _ rfl rfl ?_
    simp only [pl, pn, el, ec, sz, ss, gz, gs, if_true, if_false, Bool.false_eq_true, Bool.not_true, Bool.not_false, Nat.add_zero, Nat.zero_add, Nat.reduceAdd]
    refine wpPi_nil ?_
    go_wp2
    refine bodyPost_ret (results_cell_tmp rfl _ _ w.heap.size _ _ _ (by rfl) hB5 Tryz.underlying83 rfl (by kernel_rfl)) rfl ?_
    exact ⟨4, n, by rw [HT.out]; rfl, fun _ => by decide, hm1.transB hm5 (Nat.le_refl _)⟩

set_option maxRecDepth 10000 in
set_option maxHeartbeats 1000000 in
theorem nameRepo_any (s : ByteArray) (w : World) (hs : s.size ≤ maxLen) : Calls Tryz.prog 45 #[.string s] w (FaultR (nameB s) w) := by
  obtain ⟨t, ht⟩ : ∃ t, nameB s = t := ⟨_, rfl⟩
  rw [ht]
  have HT := Lib.hid ht; clear ht
  go_enter Tryz.func45, Tryz.ntmps45
  go_upto_region 0 with (fail)
  refine wp_region_seq [1] (fun _ => True) (by rfl) (by rfl) trivial ?_
  simp only [List.zip_cons_cons, List.zip_nil_right]
  refine wpPi_do rfl (fun K hK => ?_)
  refine wp_alloc 83 (.agg #[.int .i64 0, .int .i64 0]) (by rfl) (by kernel_rfl) (fun w1 hB1 hm1 hs1 => ?_)
  replace hB1 : w1.heap[w.heap.size]? = some (.cells #[.int .i64 0, .int .i64 0] 83 (0, 0)) := hB1
  refine hK _ _ trivial ?_
  clear hK K
  try simp only [pl, pn, el, ec, sz, ss, gz, gs, if_true, if_false, Bool.false_eq_true, Bool.not_true, Bool.not_false, Nat.add_zero, Nat.zero_add, Nat.reduceAdd]
  refine wpPi_nil ?_
  go_upto_region 1 with (fail)
  refine wp_region_seq [3, 1, 3, 3, 3, 1, 1, 3] (fun _ => True) (by rfl) (by rfl) trivial ?_
  simp only [List.zip_cons_cons, List.zip_nil_right]
  refine wpPi_move _ rfl rfl ?_
  simp only [pl, pn, el, ec, sz, ss, gz, gs, if_true, if_false, Bool.false_eq_true, Bool.not_true, Bool.not_false, Nat.add_zero, Nat.zero_add, Nat.reduceAdd]
  refine wpPi_do rfl (fun K hK => ?_)
  go_wp2_with (go_at_call 58; refine (nameLong_any s 128 _ hs).mono ?_; rintro _ w2 ⟨x, at', rfl, hx, hm2⟩)
  replace hB1 := hm2.obj id hB1
  have hM2 := hm1.trans0 hm2
  refine hK _ _ trivial ?_
  clear hK K
  try simp only [pl, pn, el, ec, sz, ss, gz, gs, if_true, if_false, Bool.false_eq_true, Bool.not_true, Bool.not_false, Nat.add_zero, Nat.zero_add, Nat.reduceAdd]
  refine wpPi_move _ rfl rfl ?_
  simp only [pl, pn, el, ec, sz, ss, gz, gs, if_true, if_false, Bool.false_eq_true, Bool.not_true, Bool.not_false, Nat.add_zero, Nat.zero_add, Nat.reduceAdd]
  refine wpPi_any (v := ?_) rfl (fun w' => ?_) ?_; rotate_left; · (go_simp; try with_reducible rfl)
  simp only [pl, pn, el, ec, sz, ss, gz, gs, if_true, if_false, Bool.false_eq_true, Bool.not_true, Bool.not_false, Nat.add_zero, Nat.zero_add, Nat.reduceAdd]
  refine wpPi_any (v := ?_) rfl (fun w' => ?_) ?_; rotate_left; · (go_simp; try with_reducible rfl)
  simp only [pl, pn, el, ec, sz, ss, gz, gs, if_true, if_false, Bool.false_eq_true, Bool.not_true, Bool.not_false, Nat.add_zero, Nat.zero_add, Nat.reduceAdd]
  refine wpPi_do rfl (fun K hK => ?_)
  refine wp_alloc 83 (.agg #[.int .i64 0, .int .i64 0]) (by rfl) (by kernel_rfl) (fun w3 hB3 hm3 hs3 => ?_)
  replace hB3 : w3.heap[w2.heap.size]? = some (.cells #[.int .i64 0, .int .i64 0] 83 (0, 0)) := hB3
  replace hB1 := hm3.obj id hB1
  have hM3 := hM2.trans0 hm3
  refine hK _ _ trivial ?_
  clear hK K
  try simp only [pl, pn, el, ec, sz, ss, gz, gs, if_true, if_false, Bool.false_eq_true, Bool.not_true, Bool.not_false, Nat.add_zero, Nat.zero_add, Nat.reduceAdd]
  refine wpPi_do rfl (fun K hK => ?_)
  refine wp_storeA 83 _ _ w2.heap.size 0 #[.int .i64 x, .int .i64 at'] (by rfl) (by rfl) (by rfl) (by simp [Value.oneCell']) 2 (by kernel_rfl) rfl _ _ hB3 (by simp) (fun w4 hB4 hm4 => ?_)
  have hlt : w.heap.size < w2.heap.size := Nat.lt_of_lt_of_le hs1 hm2.size
  replace hB1 := hm4.obj (b := w.heap.size) (by omega) hB1
  have hM4 := hM3.transB hm4 (by omega)
  refine hK _ _ trivial ?_
  clear hK K
  try simp only [pl, pn, el, ec, sz, ss, gz, gs, if_true, if_false, Bool.false_eq_true, Bool.not_true, Bool.not_false, Nat.add_zero, Nat.zero_add, Nat.reduceAdd]
  refine wpPi_assign _ rfl rfl ?_
  simp only [pl, pn, el, ec, sz, ss, gz, gs, if_true, if_false, Bool.false_eq_true, Bool.not_true, Bool.not_false, Nat.add_zero, Nat.zero_add, Nat.reduceAdd]
  refine wpPi_nil ?_
  by_cases h : (128 : Int) < s.size
  · have hd : decide ((128 : Int) < s.size) = true := decide_eq_true h
    have hf : nameB s = false := by unfold nameB; rw [decide_eq_false (by omega)]; rfl
    have HF : Hid (t = false) := Lib.hid (by rw [← HT.out]; exact hf)
    rw [hd]
    clear hd hf HT
    go_upto_region 3 with (fail)
    have hca : CellsAt w4 w2.heap.size 0 #[.int .i64 x, .int .i64 at'] := CellsAt.whole hB4
    refine wp_region_seq [1, 1] (fun _ => True) (by rfl) (by rfl) trivial ?_
    simp only [List.zip_cons_cons, List.zip_nil_right]
    refine wpPi_do rfl (fun K hK => ?_)
    refine wp_exec (exec_loadA 83 _ (by rfl) w2.heap.size 0 (by rfl) _ hca _ Tryz.underlying83 rfl 2 (by kernel_rfl) rfl) ?_
    refine hK _ _ trivial ?_
    clear hK K
    try simp only [pl, pn, el, ec, sz, ss, gz, gs, if_true, if_false, Bool.false_eq_true, Bool.not_true, Bool.not_false, Nat.add_zero, Nat.zero_add, Nat.reduceAdd]
    refine wpPi_do rfl (fun K hK => ?_)
    refine wp_storeA 83 _ _ w.heap.size 0 #[.int .i64 x, .int .i64 at'] (by rfl) (by rfl) (by rfl) (by simp [Value.oneCell']) 2 (by kernel_rfl) rfl _ _ hB1 (by simp) (fun w5 hB5 hm5 => ?_)
    refine hK _ _ trivial ?_
    clear hK K
    try simp only [pl, pn, el, ec, sz, ss, gz, gs, if_true, if_false, Bool.false_eq_true, Bool.not_true, Bool.not_false, Nat.add_zero, Nat.zero_add, Nat.reduceAdd]
    refine wpPi_nil ?_
    go_wp2
    refine bodyPost_ret (results_cell_row rfl _ _ w.heap.size _ _ _ _ (by rfl) hB5 Tryz.underlying83 rfl (by kernel_rfl)) rfl ?_
    rw [HF.out]
    exact ⟨x, at', rfl, by simpa using hx h, hM4.transB hm5 (Nat.le_refl _)⟩
  · have hd : decide ((128 : Int) < s.size) = false := decide_eq_false h
    have hlen : s.size ≤ 128 := by omega
    have hf : nameB s = endsB (nameRun s s.size 0 .word 7) := by unfold nameB; rw [decide_eq_true hlen]; rfl
    have HF := Lib.hid (HT.out.symm.trans hf)
    rw [hd]
    clear hd hf HT
    go_upto_region 4 with (fail)
    refine wp_region_seq [3, 3, 1, 1, 1] (fun _ => True) (by rfl) (by rfl) trivial ?_
    simp only [List.zip_cons_cons, List.zip_nil_right]
    refine wpPi_move _ rfl rfl ?_
    simp only [pl, pn, el, ec, sz, ss, gz, gs, if_true, if_false, Bool.false_eq_true, Bool.not_true, Bool.not_false, Nat.add_zero, Nat.zero_add, Nat.reduceAdd]
    refine wpPi_any (v := ?_) rfl (fun w' => ?_) ?_; rotate_left; · (go_simp; try with_reducible rfl)
    simp only [pl, pn, el, ec, sz, ss, gz, gs, if_true, if_false, Bool.false_eq_true, Bool.not_true, Bool.not_false, Nat.add_zero, Nat.zero_add, Nat.reduceAdd]
    refine wpPi_do rfl (fun K hK => ?_)
    go_wp2_with (go_at_call 60; refine (repoPart_any 7 _).mono ?_; rintro _ w5 ⟨v, rfl, hm5, hv⟩)
    replace hB1 := hm5.obj id hB1
    have hM5 := hM4.trans0 hm5
    refine hK _ _ trivial ?_
    clear hK K
    try simp only [pl, pn, el, ec, sz, ss, gz, gs, if_true, if_false, Bool.false_eq_true, Bool.not_true, Bool.not_false, Nat.add_zero, Nat.zero_add, Nat.reduceAdd]
    refine wpPi_do rfl (fun K hK => ?_)
    go_wp2_with (go_at_call 59; refine (nameRun_any s v .word 7 _ hlen hv (by omega)).mono ?_; rintro _ w6 ⟨x6, at6, rfl, hx6, hm6⟩)
    rw [← HF.out] at hx6
    replace hB1 := hm6.obj id hB1
    have hM6 := hM5.trans0 hm6
    refine hK _ _ trivial ?_
    clear hK K
    try simp only [pl, pn, el, ec, sz, ss, gz, gs, if_true, if_false, Bool.false_eq_true, Bool.not_true, Bool.not_false, Nat.add_zero, Nat.zero_add, Nat.reduceAdd]
    refine wpPi_do rfl (fun K hK => ?_)
    refine wp_storeA 83 _ _ w.heap.size 0 #[.int .i64 x6, .int .i64 at6] (by rfl) (by rfl) (by rfl) (by simp [Value.oneCell']) 2 (by kernel_rfl) rfl _ _ hB1 (by simp) (fun w7 hB7 hm7 => ?_)
    refine hK _ _ trivial ?_
    clear hK K
    try simp only [pl, pn, el, ec, sz, ss, gz, gs, if_true, if_false, Bool.false_eq_true, Bool.not_true, Bool.not_false, Nat.add_zero, Nat.zero_add, Nat.reduceAdd]
    refine wpPi_nil ?_
    go_wp2
    refine bodyPost_ret (results_cell_row rfl _ _ w.heap.size _ _ _ _ (by rfl) hB7 Tryz.underlying83 rfl (by kernel_rfl)) rfl ?_
    exact ⟨x6, at6, rfl, hx6, hM6.transB hm7 (Nat.le_refl _)⟩

/-- The call returns v, and what was there is as it was. -/
theorem named_any (s : ByteArray) (w : World) (hs : s.size ≤ maxLen) : Calls Tryz.prog 32 #[.string s] w (RetM (.bool (nameB s)) w) := by
  obtain ⟨t, ht⟩ : ∃ t, nameB s = t := ⟨_, rfl⟩
  rw [ht]
  have HT := Lib.hid ht; clear ht
  go_enter Tryz.func32, Tryz.ntmps32
  go_wp2_with (go_at_call 45; refine (nameRepo_any s _ hs).mono ?_; rintro _ w1 ⟨x, at', rfl, hx, hm⟩; rw [HT.out] at hx)
  all_goals
    go_ret
    refine ⟨ret_bool ?_, hm⟩
    cases t <;> simp_all
end Go.Proofs.YtcfcahflkhgapaaGreat
