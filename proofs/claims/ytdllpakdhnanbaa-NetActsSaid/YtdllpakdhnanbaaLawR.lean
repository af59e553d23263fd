/- NetActs: its walk. -/
import Derived.Test.YtdllpakdhnanbaaTwoA
import Derived.Test.YtdllpakdhnanbaaLawO
import Derived.Test.YtdllpakdhnanbaaOverB
namespace Go.Proofs.Ytdllpakdhnanbaa
set_option linter.unusedSimpArgs false
set_option linter.unusedVariables false
set_option linter.unnecessarySimpa false
open Go.RowKit

section
variable {w0 w w' : World} {p q : Value} {N N' M M' : Ns} {F R : Nat → Prop}
theorem open_same (h : NetAt w0 w p N F) (a b : Int) : Calls Try.prog 26 #[p, .int .i64 a, .int .i64 b] w (RetM (.bool (openB N.n N.cut a b)) w) := by
  obtain ⟨_, ⟨bx, mb, its, rfl, hi, hls, hF⟩, _, _⟩ := h
  exact open_any hi a b
theorem Two.now (h : Two w0 w p q N M F R) : TwoNow w0 w p q N M := ⟨F, R, h⟩
theorem Two.refCells (h : Two w0 w p q N M F R) (br : Nat) (hq : q = .pointer (some ⟨br, 0, none⟩)) :
    ∃ a c, w.cell? ⟨br, 1, none⟩ = some (.int .i64 M.lost) ∧ w.cell? ⟨br, 2, none⟩ = some (.slice a M.ls.length c) ∧ ∃ Q, LtAcc false w0.heap.size Q M.ls (.slice a M.ls.length c) w := by
  obtain ⟨_, ⟨br', bw, Lv, ways, hq', ho, ha, _⟩, _⟩ := h.ref
  have e : br' = br := by rw [hq] at hq'; cases hq'; rfl
  subst e
  obtain ⟨a, c, hv⟩ := ha.shape
  exact ⟨a, c, ho.cell.2.1, hv ▸ ho.cell.2.2.1, _, hv ▸ ha⟩
/-- One letter in a row of its own: what OverLetters takes. -/
theorem one_letter {b : Nat} {cs : Array Value} {S : Nat → Prop} {T : TypeId} (h : w.heap[b]? = some (.cells cs T (0, 0))) (hb : S b) (hl : LetS w S cs) (hs : cs.size = 40) :
    Sl true w S 40 (fun cs (_ : Unit) => LetS w S cs) (.slice (some ⟨b, 0, none⟩) 1 1) [()] := by
  refine ⟨_, 1, rfl, Nat.le_refl _, by decide, fun _ => ⟨b, 0, rfl, hb, fun _ => ⟨_, _, h⟩, fun i hi => ?_⟩⟩
  have e : i = 0 := by simpa using hi
  subst e
  exact ⟨cs, hs, hl, by rw [Nat.zero_mul]; exact CellsAt.whole h⟩
theorem drop_lost (N : Ns) (i : Int) (h : 0 ≤ N.lost) : 0 ≤ (dropN N i).lost ∧ (dropN N i).lost ≤ N.lost + 1 := by
  unfold dropN; split
  · exact ⟨by show 0 ≤ N.lost + 1; omega, by show N.lost + 1 ≤ N.lost + 1; omega⟩
  · exact ⟨h, by omega⟩
theorem take_lost (N : Ns) (i : Int) : (takeN N i).lost = N.lost := by unfold takeN; split <;> rfl
theorem copy_lost (N : Ns) (i : Int) : (copyN N i).lost = N.lost := by
  unfold copyN; split
  · split <;> rfl
  · rfl
theorem cut_lost (N : Ns) (a b : Int) : (cutN N a b).lost = N.lost := by unfold cutN; split <;> rfl
theorem heal_lost (N : Ns) (a b : Int) : (healN N a b).lost = N.lost := by unfold healN; split <;> rfl
end

theorem list_over {w : World} {base : Nat} {ls : List Ltr} {v : Value} (h : LtAcc true base (fun k => base ≤ k) ls v w) :
    Sl true w (fun j => base ≤ j) 40 (fun cs (_ : Unit) => LetS w (fun j => base ≤ j) cs) v (ls.map fun _ => ()) :=
  Sl.shape h.done (fun j hj => hj.1) (fun cs x hx => letS_of (fun j hj => hj.1) (fun j hj => hj.1) cs x hx)
theorem over_list {w0 wb w : World} {p q : Value} {N M : Ns} {F R : Nat → Prop} {ls : List Ltr} {v : Value} (h : Two w0 w p q N M F R) (hlt : ∀ k, F k ∨ R k → k < wb.heap.size) (h0 : Mod NoB w0 wb)
    (ha : LtAcc true wb.heap.size (fun k => wb.heap.size ≤ k) ls v w) : Calls Try.prog 31 #[v] w (fun e w' => e = .returned (.tuple #[]) ∧ TwoNow w0 w' p q N M) := by
  refine (overLetters_any _ _ _ w (list_over ha)).mono ?_
  rintro e w' ⟨he, hk⟩
  refine ⟨he, F, R, h.keep hk.mod (fun k hk hs => ?_) (fun k hk hs => ?_) (fun k hk hs => ?_)⟩
  · have h1 := hlt k (.inl hk); have h2 : wb.heap.size ≤ k := hs; omega
  · have h1 := hlt k (.inr hk); have h2 : wb.heap.size ≤ k := hs; omega
  · have h1 := h0.size; have h2 : wb.heap.size ≤ k := hs; omega
theorem exec_eql_bool {w : World} {o : Oper} {a : Act} (x y : Operand) (yt : TypeId) (b : Bool) (ho : o.op = .binOp .eql 4 x y yt) (hx : a.eval x = .bool b) (hy : a.eval y = .bool b) :
    (execOp a.eval o).run Try.prog w = .ok (.value (.bool true)) w := by
  unfold execOp
  simp only [ho, hx, hy]
  cases b <;> go_simp
theorem exec_neq_bool {w : World} {o : Oper} {a : Act} (x y : Operand) (yt : TypeId) (b : Bool) (ho : o.op = .binOp .neq 4 x y yt) (hx : a.eval x = .bool b) (hy : a.eval y = .bool b) :
    (execOp a.eval o).run Try.prog w = .ok (.value (.bool false)) w := by
  unfold execOp
  simp only [ho, hx, hy]
  cases b <;> go_simp

def ActsRel (w : World) (p q : Value) (n : Nat) (i : Value) (w' : World) : Prop :=
  ∃ (k : Nat) (N : Ns), k ≤ n ∧ i = .int .i64 k ∧ TwoNow w w' p q N N ∧ 0 ≤ N.lost ∧ N.lost ≤ k
/-- Behind a call: both nets have become the same; the call's own numbers can still be read. -/
def ActsMid (w : World) (p q : Value) (k b : Nat) (xa xb : Int) (w' : World) : Prop :=
  ∃ (N : Ns), TwoNow w w' p q N N ∧ 0 ≤ N.lost ∧ N.lost ≤ k ∧ w'.cell? ⟨b, 1, none⟩ = some (.int .i64 xa) ∧ w'.cell? ⟨b, 2, none⟩ = some (.int .i64 xb)

set_option maxRecDepth 10000 in
set_option maxHeartbeats 16000000 in
theorem netActs_any (w : World) (n0 : Int) (v : Value) (l : List Actn) (hv : Sl false w (fun k => k < w.heap.size) 43 (ActR w (fun k => k < w.heap.size)) v l) :
    Calls Try.prog 6 #[.int .i64 n0, v] w (RetM (.bool true) w) := by
  obtain ⟨av, cap, rfl, hlen, hat⟩ := hv.at
  have HA := Lib.hid hat; clear hat
  go_enter Try.func6, Try.ntmps6
  go_upto_region 1 with (fail)
  refine wp_region_seq [3, 1] (fun _ => True) (by rfl) (by rfl) trivial ?_
  simp only [List.zip_cons_cons, List.zip_nil_right]
  refine wpPi_move _ rfl rfl ?_
  simp only [pl, pn, el, ec, sz, ss, gz, gs, if_true, if_false, Bool.false_eq_true, Bool.not_true, Bool.not_false, Nat.add_zero, Nat.zero_add, Nat.reduceAdd]
  refine wpPi_do rfl (fun K hK => ?_)
  go_wp2_with (go_at_call 29; refine (longActs_any _ _ _ l w hv).mono ?_; rintro _ w2 ⟨t, rfl, hM, hsm⟩)
  refine hK _ _ trivial ?_
  clear hK K
  try simp only [pl, pn, el, ec, sz, ss, gz, gs, if_true, if_false, Bool.false_eq_true, Bool.not_true, Bool.not_false, Nat.add_zero, Nat.zero_add, Nat.reduceAdd]
  refine wpPi_nil ?_
  cases t
  · obtain ⟨hl40, hoks⟩ := hsm rfl
    clear hsm
    by_cases hn : 1 ≤ n0 ∧ n0 ≤ 16
    · go_upto_region 3 with (fail)
      refine wp_region_seq [3, 1, 3, 1, 1, 3, 3] (fun _ => True) (by rfl) (by rfl) trivial ?_
      simp only [List.zip_cons_cons, List.zip_nil_right]
      refine wpPi_move _ rfl rfl ?_
      simp only [pl, pn, el, ec, sz, ss, gz, gs, if_true, if_false, Bool.false_eq_true, Bool.not_true, Bool.not_false, Nat.add_zero, Nat.zero_add, Nat.reduceAdd]
      refine wpPi_do rfl (fun K hK => ?_)
      go_wp2_with (go_at_call 10; refine (new_at n0 w hn w2 hM).mono ?_; rintro _ w3 ⟨bp, F0, rfl, hN, hm3, hF0⟩)
      refine hK _ _ trivial ?_
      clear hK K
      try simp only [pl, pn, el, ec, sz, ss, gz, gs, if_true, if_false, Bool.false_eq_true, Bool.not_true, Bool.not_false, Nat.add_zero, Nat.zero_add, Nat.reduceAdd]
      refine wpPi_move _ rfl rfl ?_
      simp only [pl, pn, el, ec, sz, ss, gz, gs, if_true, if_false, Bool.false_eq_true, Bool.not_true, Bool.not_false, Nat.add_zero, Nat.zero_add, Nat.reduceAdd]
      refine wpPi_do rfl (fun K hK => ?_)
      go_wp2
      refine hK _ _ trivial ?_
      clear hK K
      try simp only [pl, pn, el, ec, sz, ss, gz, gs, if_true, if_false, Bool.false_eq_true, Bool.not_true, Bool.not_false, Nat.add_zero, Nat.zero_add, Nat.reduceAdd]
      refine wpPi_do rfl (fun K hK => ?_)
      go_wp2
      refine hK _ _ trivial ?_
      clear hK K
      try simp only [pl, pn, el, ec, sz, ss, gz, gs, if_true, if_false, Bool.false_eq_true, Bool.not_true, Bool.not_false, Nat.add_zero, Nat.zero_add, Nat.reduceAdd]
      refine wpPi_assign _ rfl rfl ?_
      simp only [pl, pn, el, ec, sz, ss, gz, gs, if_true, if_false, Bool.false_eq_true, Bool.not_true, Bool.not_false, Nat.add_zero, Nat.zero_add, Nat.reduceAdd]
      refine wpPi_assign _ rfl rfl ?_
      simp only [pl, pn, el, ec, sz, ss, gz, gs, if_true, if_false, Bool.false_eq_true, Bool.not_true, Bool.not_false, Nat.add_zero, Nat.zero_add, Nat.reduceAdd]
      refine wpPi_nil ?_
      go_upto_region 4 with (fail)
      refine wp_region_seq [3, 1, 3, 1, 1, 3, 3] (fun _ => True) (by rfl) (by rfl) trivial ?_
      simp only [List.zip_cons_cons, List.zip_nil_right]
      refine wpPi_move _ rfl rfl ?_
      simp only [pl, pn, el, ec, sz, ss, gz, gs, if_true, if_false, Bool.false_eq_true, Bool.not_true, Bool.not_false, Nat.add_zero, Nat.zero_add, Nat.reduceAdd]
      refine wpPi_do rfl (fun K hK => ?_)
      go_wp2_with (go_at_call 11; refine (refNew_at n0 w hn w3 hN.mod).mono ?_; rintro _ w4 ⟨bq, R0, rfl, hR, hm4, hR0⟩)
      refine hK _ _ trivial ?_
      clear hK K
      try simp only [pl, pn, el, ec, sz, ss, gz, gs, if_true, if_false, Bool.false_eq_true, Bool.not_true, Bool.not_false, Nat.add_zero, Nat.zero_add, Nat.reduceAdd]
      refine wpPi_move _ rfl rfl ?_
      simp only [pl, pn, el, ec, sz, ss, gz, gs, if_true, if_false, Bool.false_eq_true, Bool.not_true, Bool.not_false, Nat.add_zero, Nat.zero_add, Nat.reduceAdd]
      refine wpPi_do rfl (fun K hK => ?_)
      go_wp2
      refine hK _ _ trivial ?_
      clear hK K
      try simp only [pl, pn, el, ec, sz, ss, gz, gs, if_true, if_false, Bool.false_eq_true, Bool.not_true, Bool.not_false, Nat.add_zero, Nat.zero_add, Nat.reduceAdd]
      refine wpPi_do rfl (fun K hK => ?_)
      go_wp2
      refine hK _ _ trivial ?_
      clear hK K
      try simp only [pl, pn, el, ec, sz, ss, gz, gs, if_true, if_false, Bool.false_eq_true, Bool.not_true, Bool.not_false, Nat.add_zero, Nat.zero_add, Nat.reduceAdd]
      refine wpPi_assign _ rfl rfl ?_
      simp only [pl, pn, el, ec, sz, ss, gz, gs, if_true, if_false, Bool.false_eq_true, Bool.not_true, Bool.not_false, Nat.add_zero, Nat.zero_add, Nat.reduceAdd]
      refine wpPi_assign _ rfl rfl ?_
      simp only [pl, pn, el, ec, sz, ss, gz, gs, if_true, if_false, Bool.false_eq_true, Bool.not_true, Bool.not_false, Nat.add_zero, Nat.zero_add, Nat.reduceAdd]
      refine wpPi_nil ?_
      have hT : TwoNow w w4 (.pointer (some ⟨bp, 0, none⟩)) (.pointer (some ⟨bq, 0, none⟩)) ⟨n0, 0, fun _ => false, []⟩ ⟨n0, 0, fun _ => false, []⟩ :=
        ⟨F0, R0, hN.keep0 hm4, hR, fun k h1 h2 => by have h3 := hN.lt k h1; have h4 := hR0 k h2; omega⟩
      clear hN hR hF0 hR0 hm3 hm4 hM
      go_wp2
      go_loopw [9] (ActsRel w (.pointer (some ⟨bp, 0, none⟩)) (.pointer (some ⟨bq, 0, none⟩)) l.length) (fun i _ => l.length - (intOf i).toNat)
      case atStart => exact ⟨0, _, by omega, rfl, hT, by simp, by simp⟩
      case round =>
        clear hT
        obtain ⟨k, N, hk, rfl, hT, hl0, hl1⟩ := hrel
        rename_i wr
        have hMr := hT.mod
        by_cases hlt : k < l.length
        · obtain ⟨b, off, rfl, -, -, hat⟩ := HA.out k hlt
          obtain ⟨cs, hcs, hR, hcells⟩ := hat k hlt
          obtain ⟨ls, hc⟩ := hR.cells
          have hok : LtrOk l[k].l := hoks _ (List.getElem_mem _)
          have hcw := hcells.keep hMr id
          obtain ⟨x, hx⟩ : ∃ x, x = l[k] := ⟨_, rfl⟩
          rw [← hx] at hc hok
          have HS := Lib.hid hcs; clear hcs HA hR hcells hoks hx hv
          obtain ⟨kd, hkd⟩ : ∃ t, t = x.kind := ⟨_, rfl⟩
          obtain ⟨xa, hxa⟩ : ∃ t, t = x.a := ⟨_, rfl⟩
          obtain ⟨xb, hxb⟩ : ∃ t, t = x.b := ⟨_, rfl⟩
          have c0 := hc.c0; rw [← hkd] at c0
          have c1 := hc.c1; rw [← hxa] at c1
          have c2 := hc.c2; rw [← hxb] at c2
          have hc0 := hc.isL
          have hlsz := hc0.size
          obtain ⟨y, hy⟩ : ∃ t, t = x.l := ⟨_, rfl⟩
          rw [← hy] at hc0 hok
          clear hkd hxa hxb hy
          obtain ⟨F, R, hT⟩ := hT
          have hlt0 := hT.lt
          have hlost : 0 ≤ N.lost ∧ N.lost ≤ 1000000000 := by omega
          go_upto_region 10 with (fail)
          refine wp_region_seq [3, 3, 3, 1, 1, 1, 3] (fun _ => True) (by rfl) (by rfl) trivial ?_
          simp only [List.zip_cons_cons, List.zip_nil_right]
          refine wpPi_move _ rfl rfl ?_
          simp only [pl, pn, el, ec, sz, ss, gz, gs, if_true, if_false, Bool.false_eq_true, Bool.not_true, Bool.not_false, Nat.add_zero, Nat.zero_add, Nat.reduceAdd]
          refine wpPi_move _ rfl rfl ?_
          simp only [pl, pn, el, ec, sz, ss, gz, gs, if_true, if_false, Bool.false_eq_true, Bool.not_true, Bool.not_false, Nat.add_zero, Nat.zero_add, Nat.reduceAdd]
          refine wpPi_index _ _ _ _ _ _ _ _ _ rfl rfl rfl rfl Try.underlying57 (n := 43) (by kernel_rfl) hlt ?_
          simp only [pl, pn, el, ec, sz, ss, gz, gs, if_true, if_false, Bool.false_eq_true, Bool.not_true, Bool.not_false, Nat.add_zero, Nat.zero_add, Nat.reduceAdd]
          refine wpPi_do rfl (fun K hK => ?_)
          refine wp_exec (exec_loadA 60 _ (by rfl) b (off + k * 43) (by rfl) _ hcw _ Try.underlying60 rfl 43 (by kernel_rfl) HS.out) ?_
          refine hK _ _ trivial ?_
          clear hK K
          try simp only [pl, pn, el, ec, sz, ss, gz, gs, if_true, if_false, Bool.false_eq_true, Bool.not_true, Bool.not_false, Nat.add_zero, Nat.zero_add, Nat.reduceAdd]
          refine wpPi_do rfl (fun K hK => ?_)
          refine wp_alloc 60 actZero (by rfl) zero60 (fun w5 hB0 hm5 hs5 => ?_)
          refine hK _ _ trivial ?_
          clear hK K
          try simp only [pl, pn, el, ec, sz, ss, gz, gs, if_true, if_false, Bool.false_eq_true, Bool.not_true, Bool.not_false, Nat.add_zero, Nat.zero_add, Nat.reduceAdd]
          refine wpPi_do rfl (fun K hK => ?_)
          refine wp_storeA 60 _ _ wr.heap.size 0 cs (by rfl) (by rfl) (by rfl) hc.one 43 (by kernel_rfl) HS.out _ _ hB0 (by rw [HS.out]; exact Nat.le_refl 43) (fun w6 hB hm6 => ?_)
          rw [putRow_whole (by rw [HS.out]; rfl)] at hB
          clear hB0
          have hm56 : Mod NoB wr w6 := hm5.transB hm6 (Nat.le_refl _)
          have hs6 := hm6.size
          refine hK _ _ trivial ?_
          clear hK K
          try simp only [pl, pn, el, ec, sz, ss, gz, gs, if_true, if_false, Bool.false_eq_true, Bool.not_true, Bool.not_false, Nat.add_zero, Nat.zero_add, Nat.reduceAdd]
          refine wpPi_assign _ rfl rfl ?_
          simp only [pl, pn, el, ec, sz, ss, gz, gs, if_true, if_false, Bool.false_eq_true, Bool.not_true, Bool.not_false, Nat.add_zero, Nat.zero_add, Nat.reduceAdd]
          refine wpPi_nil ?_
          replace hT := hT.keep0 hm56
          have hkl : CellsAt w6 wr.heap.size 3 ls := by
            have := (CellsAt.whole hB).part (i := 3) (j := 43) (by rw [hc.size]; exact Nat.le_refl 43)
            rw [hc.let'] at this; simpa using this
          have hk0 : w6.cell? ⟨wr.heap.size, 0, none⟩ = some (.int .i64 kd) := by rw [cell_of_row _ _ _ _ _ _ hB, c0]
          have hk1 : w6.cell? ⟨wr.heap.size, 1, none⟩ = some (.int .i64 xa) := by rw [cell_of_row _ _ _ _ _ _ hB, c1]
          have hk2 : w6.cell? ⟨wr.heap.size, 2, none⟩ = some (.int .i64 xb) := by rw [cell_of_row _ _ _ _ _ _ hB, c2]
          have hs56 : wr.heap.size < w6.heap.size := by omega
          clear hm5 hm6 hs5 hB hcw c0 c1 c2 hat hc HS
          go_upto_region 11 with (fail)
          refine wp_region_seq [3, 1, 1, 1, 1] (fun _ => True) (by rfl) (by rfl) trivial ?_
          simp only [List.zip_cons_cons, List.zip_nil_right]
          refine wpPi_field _ _ _ _ _ _ rfl rfl rfl fo_60_3 ?_
          simp only [pl, pn, el, ec, sz, ss, gz, gs, if_true, if_false, Bool.false_eq_true, Bool.not_true, Bool.not_false, Nat.add_zero, Nat.zero_add, Nat.reduceAdd]
          refine wpPi_do rfl (fun K hK => ?_)
          refine wp_exec (exec_loadA 38 _ (by rfl) wr.heap.size 3 (by rfl) _ hkl _ Try.underlying38 rfl 40 (by kernel_rfl) hlsz) ?_
          refine hK _ _ trivial ?_
          clear hK K
          try simp only [pl, pn, el, ec, sz, ss, gz, gs, if_true, if_false, Bool.false_eq_true, Bool.not_true, Bool.not_false, Nat.add_zero, Nat.zero_add, Nat.reduceAdd]
          refine wpPi_do rfl (fun K hK => ?_)
          go_wp2_with (go_at_call 30; refine (copyLetter_any false _ _ _ y w6 (hc0.keep0 hT.mod) hok).mono ?_; rintro _ w7 ⟨_, rfl, hm7, ci, Ei, Gi, rfl, hli, hEi, hGi, -⟩)
          refine hK _ _ trivial ?_
          clear hK K
          try simp only [pl, pn, el, ec, sz, ss, gz, gs, if_true, if_false, Bool.false_eq_true, Bool.not_true, Bool.not_false, Nat.add_zero, Nat.zero_add, Nat.reduceAdd]
          refine wpPi_do rfl (fun K hK => ?_)
          refine wp_alloc 38 ltrZero (by rfl) zero38 (fun w8 hB12 hm8 hs8 => ?_)
          refine hK _ _ trivial ?_
          clear hK K
          try simp only [pl, pn, el, ec, sz, ss, gz, gs, if_true, if_false, Bool.false_eq_true, Bool.not_true, Bool.not_false, Nat.add_zero, Nat.zero_add, Nat.reduceAdd]
          refine wpPi_do rfl (fun K hK => ?_)
          refine wp_storeA 38 _ _ w7.heap.size 0 ci (by rfl) (by rfl) (by rfl) hli.one 40 (by kernel_rfl) hli.size _ _ hB12 (by rw [hli.size]; exact Nat.le_refl 40) (fun w9 hB hm9 => ?_)
          rw [putRow_whole (by rw [hli.size]; rfl)] at hB
          clear hB12
          have hm79 : Mod NoB w7 w9 := hm8.transB hm9 (Nat.le_refl _)
          have hm69 := hm7.trans0 hm79
          have hs9 := hm9.size
          have hs7 := hm7.size
          refine hK _ _ trivial ?_
          clear hK K
          try simp only [pl, pn, el, ec, sz, ss, gz, gs, if_true, if_false, Bool.false_eq_true, Bool.not_true, Bool.not_false, Nat.add_zero, Nat.zero_add, Nat.reduceAdd]
          refine wpPi_nil ?_
          replace hli := hli.keep0 hm79
          replace hT := hT.keep0 hm69
          replace hkl := hkl.keep hm69 id
          replace hk0 := hm69.cell id hk0
          replace hk1 := hm69.cell id hk1
          replace hk2 := hm69.cell id hk2
          have hisz := hli.size
          have hnew : ∀ j, Ei j ∨ Gi j → wr.heap.size < j ∧ j < w7.heap.size := fun j hj => by
            rcases hj with hj | hj
            · have := hEi j hj; exact ⟨by have := this.1; omega, this.2⟩
            · have := hGi j hj; exact ⟨by have := this.1; omega, this.2⟩
          have hs79 : w7.heap.size < w9.heap.size := by omega
          clear hm7 hm8 hm9 hm79 hm69 hEi hGi hs8
          have hbne : ∀ j, F j ∨ R j → j < wr.heap.size := hlt0
          go_upto_region 12 with (fail)
          refine wp_region_seq [3, 1] (fun _ => True) (by rfl) (by rfl) trivial ?_
          simp only [List.zip_cons_cons, List.zip_nil_right]
          refine wpPi_field _ _ _ _ _ _ rfl rfl rfl fo_60_0 ?_
          simp only [pl, pn, el, ec, sz, ss, gz, gs, if_true, if_false, Bool.false_eq_true, Bool.not_true, Bool.not_false, Nat.add_zero, Nat.zero_add, Nat.reduceAdd]
          refine wpPi_do rfl (fun K hK => ?_)
          refine wp_exec (exec_load1 3 _ (by rfl) wr.heap.size 0 (by rfl) _ hk0 _ Try.underlying3 rfl) ?_
          refine hK _ _ trivial ?_
          clear hK K
          try simp only [pl, pn, el, ec, sz, ss, gz, gs, if_true, if_false, Bool.false_eq_true, Bool.not_true, Bool.not_false, Nat.add_zero, Nat.zero_add, Nat.reduceAdd]
          refine wpPi_nil ?_
          go_upto_block 2 with (fail)
          go_cut [11] (fun s wx => s = .bool true ∧ ActsMid w (.pointer (some ⟨bp, 0, none⟩)) (.pointer (some ⟨bq, 0, none⟩)) (k + 1) wr.heap.size xa xb wx)
          case first =>
            by_cases h0 : kd = 0
            · subst h0
              as_aux_lemma =>
                obtain ⟨sb, hsb⟩ : ∃ t, t = sendB N y := ⟨_, rfl⟩
                obtain ⟨se, hse⟩ : ∃ t, t = sendE N y := ⟨_, rfl⟩
                have HSB := Lib.hid hsb; have HSE := Lib.hid hse; clear hsb hse
                go_upto_region 14 with (fail)
                refine wp_region_seq [3, 1, 1, 3, 1, 1, 3, 3] (fun _ => True) (by rfl) (by rfl) trivial ?_
                simp only [List.zip_cons_cons, List.zip_nil_right]
                refine wpPi_move _ rfl rfl ?_
                simp only [pl, pn, el, ec, sz, ss, gz, gs, if_true, if_false, Bool.false_eq_true, Bool.not_true, Bool.not_false, Nat.add_zero, Nat.zero_add, Nat.reduceAdd]
                refine wpPi_do rfl (fun K hK => ?_)
                refine wp_exec (exec_loadA 38 _ (by rfl) w7.heap.size 0 (by rfl) _ (CellsAt.whole hB) _ Try.underlying38 rfl 40 (by kernel_rfl) hisz) ?_
                refine hK _ _ trivial ?_
                clear hK K
                try simp only [pl, pn, el, ec, sz, ss, gz, gs, if_true, if_false, Bool.false_eq_true, Bool.not_true, Bool.not_false, Nat.add_zero, Nat.zero_add, Nat.reduceAdd]
                refine wpPi_do rfl (fun K hK => ?_)
                go_wp2_with (go_at_call 12; refine (send_at hT.net hlost true _ _ _ _ hli hok).mono ?_; rintro _ w10 ⟨rfl, hst⟩; rw [← HSB.out, ← HSE.out])
                obtain ⟨F1, hT1, hm1, hF1⟩ := hT.stepN hst
                refine hK _ _ trivial ?_
                clear hK K hst
                try simp only [pl, pn, el, ec, sz, ss, gz, gs, if_true, if_false, Bool.false_eq_true, Bool.not_true, Bool.not_false, Nat.add_zero, Nat.zero_add, Nat.reduceAdd]
                refine wpPi_move _ rfl rfl ?_
                simp only [pl, pn, el, ec, sz, ss, gz, gs, if_true, if_false, Bool.false_eq_true, Bool.not_true, Bool.not_false, Nat.add_zero, Nat.zero_add, Nat.reduceAdd]
                refine wpPi_do rfl (fun K hK => ?_)
                go_wp2
                refine hK _ _ trivial ?_
                clear hK K
                try simp only [pl, pn, el, ec, sz, ss, gz, gs, if_true, if_false, Bool.false_eq_true, Bool.not_true, Bool.not_false, Nat.add_zero, Nat.zero_add, Nat.reduceAdd]
                refine wpPi_do rfl (fun K hK => ?_)
                go_wp2
                refine hK _ _ trivial ?_
                clear hK K
                try simp only [pl, pn, el, ec, sz, ss, gz, gs, if_true, if_false, Bool.false_eq_true, Bool.not_true, Bool.not_false, Nat.add_zero, Nat.zero_add, Nat.reduceAdd]
                refine wpPi_assign _ rfl rfl ?_
                simp only [pl, pn, el, ec, sz, ss, gz, gs, if_true, if_false, Bool.false_eq_true, Bool.not_true, Bool.not_false, Nat.add_zero, Nat.zero_add, Nat.reduceAdd]
                refine wpPi_assign _ rfl rfl ?_
                simp only [pl, pn, el, ec, sz, ss, gz, gs, if_true, if_false, Bool.false_eq_true, Bool.not_true, Bool.not_false, Nat.add_zero, Nat.zero_add, Nat.reduceAdd]
                refine wpPi_nil ?_
                have hfar : ∀ j, wr.heap.size ≤ j → ¬ F j := fun j hj hF => by have := hbne j (.inl hF); omega
                have hfarR : ∀ j, wr.heap.size ≤ j → ¬ R j := fun j hj hR => by have := hbne j (.inr hR); omega
                have hli1 := hli.keep hm1 (fun j hj => hfar j (Nat.le_of_lt (hnew j (.inl hj)).1)) (fun j hj => hfar j (Nat.le_of_lt (hnew j (.inr hj)).1))
                have hB1 := hm1.obj (hfar _ (by omega)) hB
                have hkl1 := hkl.keep hm1 (hfar _ (Nat.le_refl _))
                have hk11 := hm1.cell (hfar _ (Nat.le_refl _)) hk1
                have hk21 := hm1.cell (hfar _ (Nat.le_refl _)) hk2
                have hs10 := hm1.size
                go_upto_region 15 with (fail)
                refine wp_region_seq [3, 3, 1, 1, 3, 1, 1, 3, 3] (fun _ => True) (by rfl) (by rfl) trivial ?_
                simp only [List.zip_cons_cons, List.zip_nil_right]
                refine wpPi_move _ rfl rfl ?_
                simp only [pl, pn, el, ec, sz, ss, gz, gs, if_true, if_false, Bool.false_eq_true, Bool.not_true, Bool.not_false, Nat.add_zero, Nat.zero_add, Nat.reduceAdd]
                refine wpPi_field _ _ _ _ _ _ rfl rfl rfl fo_60_3 ?_
                simp only [pl, pn, el, ec, sz, ss, gz, gs, if_true, if_false, Bool.false_eq_true, Bool.not_true, Bool.not_false, Nat.add_zero, Nat.zero_add, Nat.reduceAdd]
                refine wpPi_do rfl (fun K hK => ?_)
                refine wp_exec (exec_loadA 38 _ (by rfl) wr.heap.size 3 (by rfl) _ hkl1 _ Try.underlying38 rfl 40 (by kernel_rfl) hlsz) ?_
                refine hK _ _ trivial ?_
                clear hK K
                try simp only [pl, pn, el, ec, sz, ss, gz, gs, if_true, if_false, Bool.false_eq_true, Bool.not_true, Bool.not_false, Nat.add_zero, Nat.zero_add, Nat.reduceAdd]
                refine wpPi_do rfl (fun K hK => ?_)
                go_wp2_with (go_at_call 13; refine (refSend_at hT1.ref hlost false _ _ _ _ (hc0.keep0 hT1.mod) hok).mono ?_; rintro _ w11 ⟨rfl, hst⟩; rw [← HSB.out, ← HSE.out])
                obtain ⟨R1, hT2, hm2, hR1⟩ := hT1.stepM hst
                refine hK _ _ trivial ?_
                clear hK K hst
                try simp only [pl, pn, el, ec, sz, ss, gz, gs, if_true, if_false, Bool.false_eq_true, Bool.not_true, Bool.not_false, Nat.add_zero, Nat.zero_add, Nat.reduceAdd]
                refine wpPi_move _ rfl rfl ?_
                simp only [pl, pn, el, ec, sz, ss, gz, gs, if_true, if_false, Bool.false_eq_true, Bool.not_true, Bool.not_false, Nat.add_zero, Nat.zero_add, Nat.reduceAdd]
                refine wpPi_do rfl (fun K hK => ?_)
                go_wp2
                refine hK _ _ trivial ?_
                clear hK K
                try simp only [pl, pn, el, ec, sz, ss, gz, gs, if_true, if_false, Bool.false_eq_true, Bool.not_true, Bool.not_false, Nat.add_zero, Nat.zero_add, Nat.reduceAdd]
                refine wpPi_do rfl (fun K hK => ?_)
                go_wp2
                refine hK _ _ trivial ?_
                clear hK K
                try simp only [pl, pn, el, ec, sz, ss, gz, gs, if_true, if_false, Bool.false_eq_true, Bool.not_true, Bool.not_false, Nat.add_zero, Nat.zero_add, Nat.reduceAdd]
                refine wpPi_assign _ rfl rfl ?_
                simp only [pl, pn, el, ec, sz, ss, gz, gs, if_true, if_false, Bool.false_eq_true, Bool.not_true, Bool.not_false, Nat.add_zero, Nat.zero_add, Nat.reduceAdd]
                refine wpPi_assign _ rfl rfl ?_
                simp only [pl, pn, el, ec, sz, ss, gz, gs, if_true, if_false, Bool.false_eq_true, Bool.not_true, Bool.not_false, Nat.add_zero, Nat.zero_add, Nat.reduceAdd]
                refine wpPi_nil ?_
                have hli2 := hli1.keep hm2 (fun j hj => hfarR j (Nat.le_of_lt (hnew j (.inl hj)).1)) (fun j hj => hfarR j (Nat.le_of_lt (hnew j (.inr hj)).1))
                have hB2 := hm2.obj (hfarR _ (by omega)) hB1
                have hkl2 := hkl1.keep hm2 (hfarR _ (Nat.le_refl _))
                have hk12 := hm2.cell (hfarR _ (Nat.le_refl _)) hk11
                have hk22 := hm2.cell (hfarR _ (Nat.le_refl _)) hk21
                have hs11 := hm2.size
                have hFR : ∀ j, F1 j ∨ R1 j → j < wr.heap.size ∨ w9.heap.size ≤ j := fun j hj => by
                  rcases hj with hj | hj
                  · rcases hF1 j hj with h1 | h1
                    · exact .inl (hbne j (.inl h1))
                    · exact .inr h1.1
                  · rcases hR1 j hj with h1 | h1
                    · exact .inl (hbne j (.inr h1))
                    · exact .inr (Nat.le_trans hs10 h1.1)
                have hlt2 := hT2.lt
                clear hli1 hB1 hkl1 hk11 hk21 hT1 hT hm1 hm2 hF1 hR1
                obtain ⟨hb1, hb2⟩ := send_lost N y hl0
                go_upto_region 16 with (fail)
                refine wp_region_seq [3, 3, 3, 3, 3, 3, 3, 3, 3, 1, 3, 1, 1, 3, 3] (fun _ => True) (by rfl) (by rfl) trivial ?_
                simp only [List.zip_cons_cons, List.zip_nil_right]
                refine wpPi_move _ rfl rfl ?_
                simp only [pl, pn, el, ec, sz, ss, gz, gs, if_true, if_false, Bool.false_eq_true, Bool.not_true, Bool.not_false, Nat.add_zero, Nat.zero_add, Nat.reduceAdd]
                refine wpPi_move _ rfl rfl ?_
                simp only [pl, pn, el, ec, sz, ss, gz, gs, if_true, if_false, Bool.false_eq_true, Bool.not_true, Bool.not_false, Nat.add_zero, Nat.zero_add, Nat.reduceAdd]
                refine wpPi_any rfl (fun w' => exec_eql_bool _ _ _ sb rfl rfl rfl) ?_
                simp only [pl, pn, el, ec, sz, ss, gz, gs, if_true, if_false, Bool.false_eq_true, Bool.not_true, Bool.not_false, Nat.add_zero, Nat.zero_add, Nat.reduceAdd]
                refine wpPi_move _ rfl rfl ?_
                simp only [pl, pn, el, ec, sz, ss, gz, gs, if_true, if_false, Bool.false_eq_true, Bool.not_true, Bool.not_false, Nat.add_zero, Nat.zero_add, Nat.reduceAdd]
                refine wpPi_move _ rfl rfl ?_
                simp only [pl, pn, el, ec, sz, ss, gz, gs, if_true, if_false, Bool.false_eq_true, Bool.not_true, Bool.not_false, Nat.add_zero, Nat.zero_add, Nat.reduceAdd]
                refine wpPi_move _ rfl rfl ?_
                simp only [pl, pn, el, ec, sz, ss, gz, gs, if_true, if_false, Bool.false_eq_true, Bool.not_true, Bool.not_false, Nat.add_zero, Nat.zero_add, Nat.reduceAdd]
                refine wpPi_cmp _ _ _ _ _ _ _ _ rfl rfl rfl rfl rfl true (by simp only [cmpB]; simp) ?_
                simp only [pl, pn, el, ec, sz, ss, gz, gs, if_true, if_false, Bool.false_eq_true, Bool.not_true, Bool.not_false, Nat.add_zero, Nat.zero_add, Nat.reduceAdd]
                refine wpPi_pick _ _ _ _ rfl rfl rfl ?_
                simp only [pl, pn, el, ec, sz, ss, gz, gs, if_true, if_false, Bool.false_eq_true, Bool.not_true, Bool.not_false, Nat.add_zero, Nat.zero_add, Nat.reduceAdd]
                refine wpPi_move _ rfl rfl ?_
                simp only [pl, pn, el, ec, sz, ss, gz, gs, if_true, if_false, Bool.false_eq_true, Bool.not_true, Bool.not_false, Nat.add_zero, Nat.zero_add, Nat.reduceAdd]
                refine wpPi_do rfl (fun K hK => ?_)
                refine wp_exec (exec_loadA 38 _ (by rfl) w7.heap.size 0 (by rfl) _ (CellsAt.whole hB2) _ Try.underlying38 rfl 40 (by kernel_rfl) hisz) ?_
                refine hK _ _ trivial ?_
                clear hK K
                try simp only [pl, pn, el, ec, sz, ss, gz, gs, if_true, if_false, Bool.false_eq_true, Bool.not_true, Bool.not_false, Nat.add_zero, Nat.zero_add, Nat.reduceAdd]
                refine wpPi_field _ _ _ _ _ _ rfl rfl rfl fo_60_3 ?_
                simp only [pl, pn, el, ec, sz, ss, gz, gs, if_true, if_false, Bool.false_eq_true, Bool.not_true, Bool.not_false, Nat.add_zero, Nat.zero_add, Nat.reduceAdd]
                refine wpPi_do rfl (fun K hK => ?_)
                refine wp_exec (exec_loadA 38 _ (by rfl) wr.heap.size 3 (by rfl) _ hkl2 _ Try.underlying38 rfl 40 (by kernel_rfl) hlsz) ?_
                refine hK _ _ trivial ?_
                clear hK K
                try simp only [pl, pn, el, ec, sz, ss, gz, gs, if_true, if_false, Bool.false_eq_true, Bool.not_true, Bool.not_false, Nat.add_zero, Nat.zero_add, Nat.reduceAdd]
                refine wpPi_do rfl (fun K hK => ?_)
                go_wp2_with (go_at_call 20; refine (sameLetter_any _ _ _ _ _ _ _ _ _ _ w11 hli2 (hc0.keep0 hT2.mod)).mono ?_; rintro _ w12 ⟨rfl, hm12⟩; simp only [decide_true])
                have hs12 := hm12.size
                refine hK _ _ trivial ?_
                clear hK K
                try simp only [pl, pn, el, ec, sz, ss, gz, gs, if_true, if_false, Bool.false_eq_true, Bool.not_true, Bool.not_false, Nat.add_zero, Nat.zero_add, Nat.reduceAdd]
                refine wpPi_pick _ _ _ _ rfl rfl rfl ?_
                simp only [pl, pn, el, ec, sz, ss, gz, gs, if_true, if_false, Bool.false_eq_true, Bool.not_true, Bool.not_false, Nat.add_zero, Nat.zero_add, Nat.reduceAdd]
                refine wpPi_assign _ rfl rfl ?_
                simp only [pl, pn, el, ec, sz, ss, gz, gs, if_true, if_false, Bool.false_eq_true, Bool.not_true, Bool.not_false, Nat.add_zero, Nat.zero_add, Nat.reduceAdd]
                refine wpPi_nil ?_
                go_upto_region 17 with (fail)
                refine wp_region_seq [1, 1, 1] (fun _ => True) (by rfl) (by rfl) trivial ?_
                simp only [List.zip_cons_cons, List.zip_nil_right]
                refine wpPi_do rfl (fun K hK => ?_)
                refine wp_exec (exec_loadA 38 _ (by rfl) w7.heap.size 0 (by rfl) _ ((CellsAt.whole hB2).keep hm12 id) _ Try.underlying38 rfl 40 (by kernel_rfl) hisz) ?_
                refine hK _ _ trivial ?_
                clear hK K
                try simp only [pl, pn, el, ec, sz, ss, gz, gs, if_true, if_false, Bool.false_eq_true, Bool.not_true, Bool.not_false, Nat.add_zero, Nat.zero_add, Nat.reduceAdd]
                refine wpPi_do rfl (fun K hK => ?_)
                refine wp_buildSlice1 43 38 _ (.agg ci) ltrZero 40 (by rfl) (by rfl) Try.underlying43 (by kernel_rfl) (by omega) (by omega) hisz (fun w13 hb13 hm13 hs13 => ?_)
                replace hb13 : w13.heap[w12.heap.size]? = some (.cells ci 38 (0, 0)) := hb13
                refine hK _ _ trivial ?_
                clear hK K
                try simp only [pl, pn, el, ec, sz, ss, gz, gs, if_true, if_false, Bool.false_eq_true, Bool.not_true, Bool.not_false, Nat.add_zero, Nat.zero_add, Nat.reduceAdd]
                refine wpPi_do rfl (fun K hK => ?_)
                have hm1113 := hm12.trans0 hm13
                have hover := one_letter (S := fun j => (Ei j ∨ Gi j) ∨ j = w12.heap.size) hb13 (.inr rfl) (letS_of (fun j hj => .inl (.inl hj)) (fun j hj => .inl (.inr hj)) ci y (hli2.keep0 hm1113)) hisz
                go_wp2_with (go_at_call 31; refine (overLetters_any _ _ _ w13 hover).mono ?_; rintro _ w14 ⟨rfl, hkm⟩)
                have hm14 := hkm.mod
                have hno : ∀ j, F1 j ∨ R1 j → ¬ ((Ei j ∨ Gi j) ∨ j = w12.heap.size) := fun j hj hs => by
                  have h1 := hFR j hj
                  have h2 := hlt2 j hj
                  rcases hs with hs | hs
                  · have := hnew j hs; omega
                  · omega
                have hT3 := (hT2.keep0 hm1113).keep hm14 (fun j hj => hno j (.inl hj)) (fun j hj => hno j (.inr hj)) (fun j hj hs => by
                  have h1 := hMr.size
                  rcases hs with hs | hs
                  · have := hnew j hs; omega
                  · omega)
                have hnb : ¬ ((Ei wr.heap.size ∨ Gi wr.heap.size) ∨ wr.heap.size = w12.heap.size) := fun hs => by
                  rcases hs with hs | hs
                  · have := hnew _ hs; omega
                  · omega
                have hk13 := hm14.cell hnb (hm1113.cell id hk12)
                have hk23 := hm14.cell hnb (hm1113.cell id hk22)
                refine hK _ _ trivial ?_
                clear hK K
                try simp only [pl, pn, el, ec, sz, ss, gz, gs, if_true, if_false, Bool.false_eq_true, Bool.not_true, Bool.not_false, Nat.add_zero, Nat.zero_add, Nat.reduceAdd]
                refine wpPi_nil ?_
                go_wp2
                go_meet
                exact ⟨rfl, _, hT3.now, hb1, by omega, hk13, hk23⟩
            · have h0' : (kd == 0) = false := by simp [h0]
              by_cases h1 : kd = 1
              · subst h1
                as_aux_lemma =>
                  obtain ⟨te, hte⟩ : ∃ t, t = takeE N xa := ⟨_, rfl⟩
                  obtain ⟨tl, htl⟩ : ∃ t, t = takeL N xa := ⟨_, rfl⟩
                  have HTE := Lib.hid hte; have HTL := Lib.hid htl; clear hte htl
                  have hfar : ∀ j, wr.heap.size ≤ j → ¬ F j := fun j hj hF => by have := hbne j (.inl hF); omega
                  have hfarR : ∀ j, wr.heap.size ≤ j → ¬ R j := fun j hj hR => by have := hbne j (.inr hR); omega
                  clear hli hB hnew hisz
                  go_upto_region 19 with (fail)
                  refine wp_region_seq [3, 3, 1, 1, 3, 1, 1, 1, 1, 3] (fun _ => True) (by rfl) (by rfl) trivial ?_
                  simp only [List.zip_cons_cons, List.zip_nil_right]
                  refine wpPi_move _ rfl rfl ?_
                  simp only [pl, pn, el, ec, sz, ss, gz, gs, if_true, if_false, Bool.false_eq_true, Bool.not_true, Bool.not_false, Nat.add_zero, Nat.zero_add, Nat.reduceAdd]
                  refine wpPi_field _ _ _ _ _ _ rfl rfl rfl fo_60_1 ?_
                  simp only [pl, pn, el, ec, sz, ss, gz, gs, if_true, if_false, Bool.false_eq_true, Bool.not_true, Bool.not_false, Nat.add_zero, Nat.zero_add, Nat.reduceAdd]
                  refine wpPi_do rfl (fun K hK => ?_)
                  refine wp_exec (exec_load1 3 _ (by rfl) wr.heap.size 1 (by rfl) _ hk1 _ Try.underlying3 rfl) ?_
                  refine hK _ _ trivial ?_
                  clear hK K
                  try simp only [pl, pn, el, ec, sz, ss, gz, gs, if_true, if_false, Bool.false_eq_true, Bool.not_true, Bool.not_false, Nat.add_zero, Nat.zero_add, Nat.reduceAdd]
                  refine wpPi_do rfl (fun K hK => ?_)
                  go_wp2_with (go_at_call 18; refine (take_apart hT.net xa te HTE.out.symm).mono ?_; rintro _ w10 ⟨cs5, E5, G5, F5, rfl, hl5, hN5, hm5, hF5, hEF, hEF5⟩)
                  have hT5 : Two w w10 _ _ (takeN N xa) N F5 R := ⟨hN5, hT.ref.keep hm5 (fun j hj hF => hT.dis j hF hj) (fun j hj hF => by have := hT.net.old j hF; omega), fun j hj => hT.dis j (hF5 j hj)⟩
                  rw [← HTL.out] at hl5
                  have hER : ∀ j, E5 j ∨ G5 j → ¬ R j := fun j hj => hT.dis j (hEF j hj)
                  have hEo : ∀ j, E5 j ∨ G5 j → w.heap.size ≤ j ∧ j < wr.heap.size := fun j hj => ⟨hT.net.old j (hEF j hj), hbne j (.inl (hEF j hj))⟩
                  have hk11 := hm5.cell (hfar _ (Nat.le_refl _)) hk1
                  have hk21 := hm5.cell (hfar _ (Nat.le_refl _)) hk2
                  have hs10 := hm5.size
                  refine hK _ _ trivial ?_
                  clear hK K hN5 hm5 hEF
                  try simp only [pl, pn, el, ec, sz, ss, gz, gs, if_true, if_false, Bool.false_eq_true, Bool.not_true, Bool.not_false, Nat.add_zero, Nat.zero_add, Nat.reduceAdd]
                  refine wpPi_move _ rfl rfl ?_
                  simp only [pl, pn, el, ec, sz, ss, gz, gs, if_true, if_false, Bool.false_eq_true, Bool.not_true, Bool.not_false, Nat.add_zero, Nat.zero_add, Nat.reduceAdd]
                  refine wpPi_do rfl (fun K hK => ?_)
                  go_wp2
                  refine hK _ _ trivial ?_
                  clear hK K
                  try simp only [pl, pn, el, ec, sz, ss, gz, gs, if_true, if_false, Bool.false_eq_true, Bool.not_true, Bool.not_false, Nat.add_zero, Nat.zero_add, Nat.reduceAdd]
                  refine wpPi_do rfl (fun K hK => ?_)
                  go_wp2
                  refine hK _ _ trivial ?_
                  clear hK K
                  try simp only [pl, pn, el, ec, sz, ss, gz, gs, if_true, if_false, Bool.false_eq_true, Bool.not_true, Bool.not_false, Nat.add_zero, Nat.zero_add, Nat.reduceAdd]
                  refine wpPi_do rfl (fun K hK => ?_)
                  refine wp_alloc 38 ltrZero (by rfl) zero38 (fun w11 hB6 hm11 hs11 => ?_)
                  refine hK _ _ trivial ?_
                  clear hK K
                  try simp only [pl, pn, el, ec, sz, ss, gz, gs, if_true, if_false, Bool.false_eq_true, Bool.not_true, Bool.not_false, Nat.add_zero, Nat.zero_add, Nat.reduceAdd]
                  refine wpPi_do rfl (fun K hK => ?_)
                  refine wp_storeA 38 _ _ w10.heap.size 0 cs5 (by rfl) (by rfl) (by rfl) hl5.one 40 (by kernel_rfl) hl5.size _ _ hB6 (by rw [hl5.size]; exact Nat.le_refl 40) (fun w12 hB7 hm12 => ?_)
                  rw [putRow_whole (by rw [hl5.size]; rfl)] at hB7
                  have hm57 : Mod NoB w10 w12 := hm11.transB hm12 (Nat.le_refl _)
                  have hl7 := hl5.keep0 hm57
                  have hT7 := hT5.keep0 hm57
                  have hs57 : w10.heap.size < w12.heap.size := by have := hm12.size; omega
                  have hk12 := hm57.cell id hk11
                  have hk22 := hm57.cell id hk21
                  refine hK _ _ trivial ?_
                  clear hK K
                  try simp only [pl, pn, el, ec, sz, ss, gz, gs, if_true, if_false, Bool.false_eq_true, Bool.not_true, Bool.not_false, Nat.add_zero, Nat.zero_add, Nat.reduceAdd]
                  refine wpPi_assign _ rfl rfl ?_
                  simp only [pl, pn, el, ec, sz, ss, gz, gs, if_true, if_false, Bool.false_eq_true, Bool.not_true, Bool.not_false, Nat.add_zero, Nat.zero_add, Nat.reduceAdd]
                  refine wpPi_nil ?_
                  clear hT hT5 hl5 hB6 hm11 hm12 hm57 hk11 hk21
                  go_upto_region 20 with (fail)
                  refine wp_region_seq [3, 3, 1, 1, 3, 1, 1, 1, 1, 3] (fun _ => True) (by rfl) (by rfl) trivial ?_
                  simp only [List.zip_cons_cons, List.zip_nil_right]
                  refine wpPi_move _ rfl rfl ?_
                  simp only [pl, pn, el, ec, sz, ss, gz, gs, if_true, if_false, Bool.false_eq_true, Bool.not_true, Bool.not_false, Nat.add_zero, Nat.zero_add, Nat.reduceAdd]
                  refine wpPi_field _ _ _ _ _ _ rfl rfl rfl fo_60_1 ?_
                  simp only [pl, pn, el, ec, sz, ss, gz, gs, if_true, if_false, Bool.false_eq_true, Bool.not_true, Bool.not_false, Nat.add_zero, Nat.zero_add, Nat.reduceAdd]
                  refine wpPi_do rfl (fun K hK => ?_)
                  refine wp_exec (exec_load1 3 _ (by rfl) wr.heap.size 1 (by rfl) _ hk12 _ Try.underlying3 rfl) ?_
                  refine hK _ _ trivial ?_
                  clear hK K
                  try simp only [pl, pn, el, ec, sz, ss, gz, gs, if_true, if_false, Bool.false_eq_true, Bool.not_true, Bool.not_false, Nat.add_zero, Nat.zero_add, Nat.reduceAdd]
                  refine wpPi_do rfl (fun K hK => ?_)
                  go_wp2_with (go_at_call 19; refine (refTake_at hT7.ref xa).mono ?_; rintro _ w13 ⟨cs8, E8, G8, rfl, hl8, hst⟩; rw [← HTE.out])
                  rw [← HTL.out] at hl8
                  obtain ⟨R8, hT8, hm8, hR8⟩ := hT7.stepM hst
                  have hl78 := hl7.keep hm8 (fun j hj => hER j (.inl hj)) (fun j hj => hER j (.inr hj))
                  have hB8 := hm8.obj (hfarR _ (by omega)) hB7
                  have hk13 := hm8.cell (hfarR _ (Nat.le_refl _)) hk12
                  have hk23 := hm8.cell (hfarR _ (Nat.le_refl _)) hk22
                  have hs13 := hm8.size
                  have hlt8 := hT8.lt
                  refine hK _ _ trivial ?_
                  clear hK K hst
                  try simp only [pl, pn, el, ec, sz, ss, gz, gs, if_true, if_false, Bool.false_eq_true, Bool.not_true, Bool.not_false, Nat.add_zero, Nat.zero_add, Nat.reduceAdd]
                  refine wpPi_move _ rfl rfl ?_
                  simp only [pl, pn, el, ec, sz, ss, gz, gs, if_true, if_false, Bool.false_eq_true, Bool.not_true, Bool.not_false, Nat.add_zero, Nat.zero_add, Nat.reduceAdd]
                  refine wpPi_do rfl (fun K hK => ?_)
                  go_wp2
                  refine hK _ _ trivial ?_
                  clear hK K
                  try simp only [pl, pn, el, ec, sz, ss, gz, gs, if_true, if_false, Bool.false_eq_true, Bool.not_true, Bool.not_false, Nat.add_zero, Nat.zero_add, Nat.reduceAdd]
                  refine wpPi_do rfl (fun K hK => ?_)
                  go_wp2
                  refine hK _ _ trivial ?_
                  clear hK K
                  try simp only [pl, pn, el, ec, sz, ss, gz, gs, if_true, if_false, Bool.false_eq_true, Bool.not_true, Bool.not_false, Nat.add_zero, Nat.zero_add, Nat.reduceAdd]
                  refine wpPi_do rfl (fun K hK => ?_)
                  refine wp_alloc 38 ltrZero (by rfl) zero38 (fun w14 hB9 hm14 hs14 => ?_)
                  refine hK _ _ trivial ?_
                  clear hK K
                  try simp only [pl, pn, el, ec, sz, ss, gz, gs, if_true, if_false, Bool.false_eq_true, Bool.not_true, Bool.not_false, Nat.add_zero, Nat.zero_add, Nat.reduceAdd]
                  refine wpPi_do rfl (fun K hK => ?_)
                  refine wp_storeA 38 _ _ w13.heap.size 0 cs8 (by rfl) (by rfl) (by rfl) hl8.one 40 (by kernel_rfl) hl8.size _ _ hB9 (by rw [hl8.size]; exact Nat.le_refl 40) (fun w15 hB10 hm15 => ?_)
                  rw [putRow_whole (by rw [hl8.size]; rfl)] at hB10
                  have hm810 : Mod NoB w13 w15 := hm14.transB hm15 (Nat.le_refl _)
                  have hl10 := hl8.keep0 hm810
                  have hl11 := hl78.keep0 hm810
                  have hT10 := hT8.keep0 hm810
                  have hB11 := hm810.obj id hB8
                  have hk14 := hm810.cell id hk13
                  have hk24 := hm810.cell id hk23
                  have hs15 := hm810.size
                  refine hK _ _ trivial ?_
                  clear hK K
                  try simp only [pl, pn, el, ec, sz, ss, gz, gs, if_true, if_false, Bool.false_eq_true, Bool.not_true, Bool.not_false, Nat.add_zero, Nat.zero_add, Nat.reduceAdd]
                  refine wpPi_assign _ rfl rfl ?_
                  simp only [pl, pn, el, ec, sz, ss, gz, gs, if_true, if_false, Bool.false_eq_true, Bool.not_true, Bool.not_false, Nat.add_zero, Nat.zero_add, Nat.reduceAdd]
                  refine wpPi_nil ?_
                  clear hl7 hl78 hl8 hB7 hB8 hB9 hT7 hT8 hm8 hm14 hm15 hk12 hk22 hk13 hk23
                  have hz1 := hl11.size; have hz2 := hl10.size
                  go_upto_region 21 with (fail)
                  refine wp_region_seq [1, 1, 1, 3, 3, 3, 3, 3, 3] (fun _ => True) (by rfl) (by rfl) trivial ?_
                  simp only [List.zip_cons_cons, List.zip_nil_right]
                  refine wpPi_do rfl (fun K hK => ?_)
                  refine wp_exec (exec_loadA 38 _ (by rfl) w10.heap.size 0 (by rfl) _ (CellsAt.whole hB11) _ Try.underlying38 rfl 40 (by kernel_rfl) hz1) ?_
                  refine hK _ _ trivial ?_
                  clear hK K
                  try simp only [pl, pn, el, ec, sz, ss, gz, gs, if_true, if_false, Bool.false_eq_true, Bool.not_true, Bool.not_false, Nat.add_zero, Nat.zero_add, Nat.reduceAdd]
                  refine wpPi_do rfl (fun K hK => ?_)
                  refine wp_exec (exec_loadA 38 _ (by rfl) w13.heap.size 0 (by rfl) _ (CellsAt.whole hB10) _ Try.underlying38 rfl 40 (by kernel_rfl) hz2) ?_
                  refine hK _ _ trivial ?_
                  clear hK K
                  try simp only [pl, pn, el, ec, sz, ss, gz, gs, if_true, if_false, Bool.false_eq_true, Bool.not_true, Bool.not_false, Nat.add_zero, Nat.zero_add, Nat.reduceAdd]
                  refine wpPi_do rfl (fun K hK => ?_)
                  go_wp2_with (go_at_call 20; refine (sameLetter_any _ _ _ _ _ _ _ _ _ _ w15 hl11 hl10).mono ?_; rintro _ w16 ⟨rfl, hm16⟩; simp only [decide_true])
                  have hs16 := hm16.size
                  refine hK _ _ trivial ?_
                  clear hK K
                  try simp only [pl, pn, el, ec, sz, ss, gz, gs, if_true, if_false, Bool.false_eq_true, Bool.not_true, Bool.not_false, Nat.add_zero, Nat.zero_add, Nat.reduceAdd]
                  refine wpPi_move _ rfl rfl ?_
                  simp only [pl, pn, el, ec, sz, ss, gz, gs, if_true, if_false, Bool.false_eq_true, Bool.not_true, Bool.not_false, Nat.add_zero, Nat.zero_add, Nat.reduceAdd]
                  refine wpPi_move _ rfl rfl ?_
                  simp only [pl, pn, el, ec, sz, ss, gz, gs, if_true, if_false, Bool.false_eq_true, Bool.not_true, Bool.not_false, Nat.add_zero, Nat.zero_add, Nat.reduceAdd]
                  refine wpPi_move _ rfl rfl ?_
                  simp only [pl, pn, el, ec, sz, ss, gz, gs, if_true, if_false, Bool.false_eq_true, Bool.not_true, Bool.not_false, Nat.add_zero, Nat.zero_add, Nat.reduceAdd]
                  refine wpPi_cmp _ _ _ _ _ _ _ _ rfl rfl rfl rfl rfl true (by simp only [cmpB]; simp) ?_
                  simp only [pl, pn, el, ec, sz, ss, gz, gs, if_true, if_false, Bool.false_eq_true, Bool.not_true, Bool.not_false, Nat.add_zero, Nat.zero_add, Nat.reduceAdd]
                  refine wpPi_pick _ _ _ _ rfl rfl rfl ?_
                  simp only [pl, pn, el, ec, sz, ss, gz, gs, if_true, if_false, Bool.false_eq_true, Bool.not_true, Bool.not_false, Nat.add_zero, Nat.zero_add, Nat.reduceAdd]
                  refine wpPi_assign _ rfl rfl ?_
                  simp only [pl, pn, el, ec, sz, ss, gz, gs, if_true, if_false, Bool.false_eq_true, Bool.not_true, Bool.not_false, Nat.add_zero, Nat.zero_add, Nat.reduceAdd]
                  refine wpPi_nil ?_
                  go_upto_region 22 with (fail)
                  refine wp_region_seq [1, 1, 1] (fun _ => True) (by rfl) (by rfl) trivial ?_
                  simp only [List.zip_cons_cons, List.zip_nil_right]
                  refine wpPi_do rfl (fun K hK => ?_)
                  refine wp_exec (exec_loadA 38 _ (by rfl) w10.heap.size 0 (by rfl) _ ((CellsAt.whole hB11).keep hm16 id) _ Try.underlying38 rfl 40 (by kernel_rfl) hz1) ?_
                  refine hK _ _ trivial ?_
                  clear hK K
                  try simp only [pl, pn, el, ec, sz, ss, gz, gs, if_true, if_false, Bool.false_eq_true, Bool.not_true, Bool.not_false, Nat.add_zero, Nat.zero_add, Nat.reduceAdd]
                  refine wpPi_do rfl (fun K hK => ?_)
                  refine wp_buildSlice1 43 38 _ (.agg cs5) ltrZero 40 (by rfl) (by rfl) Try.underlying43 (by kernel_rfl) (by omega) (by omega) hz1 (fun w17 hb17 hm17 hs17 => ?_)
                  replace hb17 : w17.heap[w16.heap.size]? = some (.cells cs5 38 (0, 0)) := hb17
                  refine hK _ _ trivial ?_
                  clear hK K
                  try simp only [pl, pn, el, ec, sz, ss, gz, gs, if_true, if_false, Bool.false_eq_true, Bool.not_true, Bool.not_false, Nat.add_zero, Nat.zero_add, Nat.reduceAdd]
                  refine wpPi_do rfl (fun K hK => ?_)
                  have hm1517 := hm16.trans0 hm17
                  have hover := one_letter (S := fun j => (E5 j ∨ G5 j) ∨ j = w16.heap.size) hb17 (.inr rfl) (letS_of (fun j hj => .inl (.inl hj)) (fun j hj => .inl (.inr hj)) cs5 tl (hl11.keep0 hm1517)) hz1
                  go_wp2_with (go_at_call 31; refine (overLetters_any _ _ _ w17 hover).mono ?_; rintro _ w18 ⟨rfl, hkm⟩)
                  have hm18 := hkm.mod
                  have hno : ∀ j, F5 j ∨ R8 j → ¬ ((E5 j ∨ G5 j) ∨ j = w16.heap.size) := fun j hj hs => by
                    have h2 := hlt8 j hj
                    rcases hs with hs | hs
                    · rcases hj with hj | hj
                      · exact hEF5 j hs hj
                      · rcases hR8 j hj with h3 | h3
                        · exact hER j hs h3
                        · have h4 := hEo j hs; have h5 := h3.1; omega
                    · omega
                  have hT3 := (hT10.keep0 hm1517).keep hm18 (fun j hj => hno j (.inl hj)) (fun j hj => hno j (.inr hj)) (fun j hj hs => by
                    have h1 := hMr.size
                    rcases hs with hs | hs
                    · have := hEo j hs; omega
                    · omega)
                  have hnb : ¬ ((E5 wr.heap.size ∨ G5 wr.heap.size) ∨ wr.heap.size = w16.heap.size) := fun hs => by
                    rcases hs with hs | hs
                    · have := hEo _ hs; omega
                    · omega
                  have hk15 := hm18.cell hnb (hm1517.cell id hk14)
                  have hk25 := hm18.cell hnb (hm1517.cell id hk24)
                  refine hK _ _ trivial ?_
                  clear hK K
                  try simp only [pl, pn, el, ec, sz, ss, gz, gs, if_true, if_false, Bool.false_eq_true, Bool.not_true, Bool.not_false, Nat.add_zero, Nat.zero_add, Nat.reduceAdd]
                  refine wpPi_nil ?_
                  go_wp2
                  go_meet
                  exact ⟨rfl, _, hT3.now, by rw [take_lost]; exact hl0, by rw [take_lost]; omega, hk15, hk25⟩
              · have h1' : (kd == 1) = false := by simp [h1]
                clear hli hB hnew hisz
                have hfar : ∀ j, wr.heap.size ≤ j → ¬ F j := fun j hj hF => by have := hbne j (.inl hF); omega
                have hfarR : ∀ j, wr.heap.size ≤ j → ¬ R j := fun j hj hR => by have := hbne j (.inr hR); omega
                have hd0 := (Mod.refl NoB w9).drew
                have hTd := hT.keep0 hd0
                have hk1d := hd0.cell id hk1
                have hk2d := hd0.cell id hk2
                by_cases h2 : kd = 2
                · subst h2
                  as_aux_lemma =>
                    obtain ⟨ev, hev⟩ : ∃ t, t = takeE N xa := ⟨_, rfl⟩
                    have HEV := Lib.hid hev; clear hev
                    go_upto_region 24 with (fail)
                    have hS : w9.drew.cell? ⟨wr.heap.size, 1, none⟩ = some (.int .i64 xa) ∧ w9.drew.cell? ⟨wr.heap.size, 2, none⟩ = some (.int .i64 xb) := ⟨hk1d, hk2d⟩
                    refine wp_region_pi [(0, 3), (1, 3), (2, 0), (4, 3), (5, 3), (6, 0), (3, 1), (7, 1), (8, 3), (9, 3)] [] (fun w' => w'.cell? ⟨wr.heap.size, 1, none⟩ = some (.int .i64 xa) ∧ w'.cell? ⟨wr.heap.size, 2, none⟩ = some (.int .i64 xb)) (by kernel_rfl) (by kernel_rfl) (by kernel_rfl) (by kernel_rfl) (fun _ _ _ _ hd h => ⟨hd.trans h.1, h.2⟩) hS ?_
                    simp only [List.map_cons, List.map_nil, List.getD_cons_zero, List.getD_cons_succ]
                    refine wpPi_move _ rfl rfl ?_
                    simp only [pl, pn, el, ec, sz, ss, gz, gs, if_true, if_false, Bool.false_eq_true, Bool.not_true, Bool.not_false, Nat.add_zero, Nat.zero_add, Nat.reduceAdd]
                    refine wpPi_field _ _ _ _ _ _ rfl rfl rfl fo_60_1 ?_
                    simp only [pl, pn, el, ec, sz, ss, gz, gs, if_true, if_false, Bool.false_eq_true, Bool.not_true, Bool.not_false, Nat.add_zero, Nat.zero_add, Nat.reduceAdd]
                    refine wpPi_val rfl (fun w' hS => exec_load1 _ _ rfl _ _ rfl _ hS.1 _ Try.underlying3 rfl) ?_
                    simp only [pl, pn, el, ec, sz, ss, gz, gs, if_true, if_false, Bool.false_eq_true, Bool.not_true, Bool.not_false, Nat.add_zero, Nat.zero_add, Nat.reduceAdd]
                    refine wpPi_move _ rfl rfl ?_
                    simp only [pl, pn, el, ec, sz, ss, gz, gs, if_true, if_false, Bool.false_eq_true, Bool.not_true, Bool.not_false, Nat.add_zero, Nat.zero_add, Nat.reduceAdd]
                    refine wpPi_field _ _ _ _ _ _ rfl rfl rfl fo_60_1 ?_
                    simp only [pl, pn, el, ec, sz, ss, gz, gs, if_true, if_false, Bool.false_eq_true, Bool.not_true, Bool.not_false, Nat.add_zero, Nat.zero_add, Nat.reduceAdd]
                    refine wpPi_val rfl (fun w' hS => exec_load1 _ _ rfl _ _ rfl _ hS.1 _ Try.underlying3 rfl) ?_
                    simp only [pl, pn, el, ec, sz, ss, gz, gs, if_true, if_false, Bool.false_eq_true, Bool.not_true, Bool.not_false, Nat.add_zero, Nat.zero_add, Nat.reduceAdd]
                    refine wpPi_do rfl (fun K hK => ?_)
                    go_wp2_with (go_at_call 28; refine (drop_at hTd.net hlost xa).mono ?_; rintro _ w10 ⟨rfl, hst⟩; rw [← HEV.out])
                    obtain ⟨F1, hT1, hm1, hF1⟩ := hTd.stepN hst
                    replace hS := And.intro (hm1.cell (hfar _ (Nat.le_refl _)) hS.1) (hm1.cell (hfar _ (Nat.le_refl _)) hS.2)
                    refine hK _ _ hS ?_
                    clear hK K hst
                    try simp only [pl, pn, el, ec, sz, ss, gz, gs, if_true, if_false, Bool.false_eq_true, Bool.not_true, Bool.not_false, Nat.add_zero, Nat.zero_add, Nat.reduceAdd]
                    refine wpPi_do rfl (fun K hK => ?_)
                    go_wp2_with (go_at_call 32; refine (refDrop_at hT1.ref hlost xa).mono ?_; rintro _ w11 ⟨rfl, hst⟩; rw [← HEV.out])
                    obtain ⟨R1, hT2, hm2, hR1⟩ := hT1.stepM hst
                    replace hS := And.intro (hm2.cell (hfarR _ (Nat.le_refl _)) hS.1) (hm2.cell (hfarR _ (Nat.le_refl _)) hS.2)
                    refine hK _ _ hS ?_
                    clear hK K hst
                    try simp only [pl, pn, el, ec, sz, ss, gz, gs, if_true, if_false, Bool.false_eq_true, Bool.not_true, Bool.not_false, Nat.add_zero, Nat.zero_add, Nat.reduceAdd]
                    refine wpPi_cmp _ _ _ _ _ _ _ _ rfl rfl rfl rfl rfl true (by simp only [cmpB]; simp) ?_
                    simp only [pl, pn, el, ec, sz, ss, gz, gs, if_true, if_false, Bool.false_eq_true, Bool.not_true, Bool.not_false, Nat.add_zero, Nat.zero_add, Nat.reduceAdd]
                    refine wpPi_assign _ rfl rfl ?_
                    simp only [pl, pn, el, ec, sz, ss, gz, gs, if_true, if_false, Bool.false_eq_true, Bool.not_true, Bool.not_false, Nat.add_zero, Nat.zero_add, Nat.reduceAdd]
                    refine wpPi_nil ?_
                    have hbl := drop_lost N xa hl0
                    go_wp2
                    go_meet
                    exact ⟨rfl, _, hT2.now, hbl.1, by have := hbl.2; omega, hS.1, hS.2⟩
                · have h2' : (kd == 2) = false := by simp [h2]
                  by_cases h3 : kd = 3
                  · subst h3
                    as_aux_lemma =>
                      obtain ⟨ev, hev⟩ : ∃ t, t = copyE N xa := ⟨_, rfl⟩
                      have HEV := Lib.hid hev; clear hev
                      go_upto_region 26 with (fail)
                      have hS : w9.drew.cell? ⟨wr.heap.size, 1, none⟩ = some (.int .i64 xa) ∧ w9.drew.cell? ⟨wr.heap.size, 2, none⟩ = some (.int .i64 xb) := ⟨hk1d, hk2d⟩
                      refine wp_region_pi [(0, 3), (1, 3), (2, 0), (4, 3), (5, 3), (6, 0), (3, 1), (7, 1), (8, 3), (9, 3)] [] (fun w' => w'.cell? ⟨wr.heap.size, 1, none⟩ = some (.int .i64 xa) ∧ w'.cell? ⟨wr.heap.size, 2, none⟩ = some (.int .i64 xb)) (by kernel_rfl) (by kernel_rfl) (by kernel_rfl) (by kernel_rfl) (fun _ _ _ _ hd h => ⟨hd.trans h.1, h.2⟩) hS ?_
                      simp only [List.map_cons, List.map_nil, List.getD_cons_zero, List.getD_cons_succ]
                      refine wpPi_move _ rfl rfl ?_
                      simp only [pl, pn, el, ec, sz, ss, gz, gs, if_true, if_false, Bool.false_eq_true, Bool.not_true, Bool.not_false, Nat.add_zero, Nat.zero_add, Nat.reduceAdd]
                      refine wpPi_field _ _ _ _ _ _ rfl rfl rfl fo_60_1 ?_
                      simp only [pl, pn, el, ec, sz, ss, gz, gs, if_true, if_false, Bool.false_eq_true, Bool.not_true, Bool.not_false, Nat.add_zero, Nat.zero_add, Nat.reduceAdd]
                      refine wpPi_val rfl (fun w' hS => exec_load1 _ _ rfl _ _ rfl _ hS.1 _ Try.underlying3 rfl) ?_
                      simp only [pl, pn, el, ec, sz, ss, gz, gs, if_true, if_false, Bool.false_eq_true, Bool.not_true, Bool.not_false, Nat.add_zero, Nat.zero_add, Nat.reduceAdd]
                      refine wpPi_move _ rfl rfl ?_
                      simp only [pl, pn, el, ec, sz, ss, gz, gs, if_true, if_false, Bool.false_eq_true, Bool.not_true, Bool.not_false, Nat.add_zero, Nat.zero_add, Nat.reduceAdd]
                      refine wpPi_field _ _ _ _ _ _ rfl rfl rfl fo_60_1 ?_
                      simp only [pl, pn, el, ec, sz, ss, gz, gs, if_true, if_false, Bool.false_eq_true, Bool.not_true, Bool.not_false, Nat.add_zero, Nat.zero_add, Nat.reduceAdd]
                      refine wpPi_val rfl (fun w' hS => exec_load1 _ _ rfl _ _ rfl _ hS.1 _ Try.underlying3 rfl) ?_
                      simp only [pl, pn, el, ec, sz, ss, gz, gs, if_true, if_false, Bool.false_eq_true, Bool.not_true, Bool.not_false, Nat.add_zero, Nat.zero_add, Nat.reduceAdd]
                      refine wpPi_do rfl (fun K hK => ?_)
                      go_wp2_with (go_at_call 14; refine (copy_at hTd.net xa).mono ?_; rintro _ w10 ⟨rfl, hst⟩; rw [← HEV.out])
                      obtain ⟨F1, hT1, hm1, hF1⟩ := hTd.stepN hst
                      replace hS := And.intro (hm1.cell (hfar _ (Nat.le_refl _)) hS.1) (hm1.cell (hfar _ (Nat.le_refl _)) hS.2)
                      refine hK _ _ hS ?_
                      clear hK K hst
                      try simp only [pl, pn, el, ec, sz, ss, gz, gs, if_true, if_false, Bool.false_eq_true, Bool.not_true, Bool.not_false, Nat.add_zero, Nat.zero_add, Nat.reduceAdd]
                      refine wpPi_do rfl (fun K hK => ?_)
                      go_wp2_with (go_at_call 15; refine (refCopy_at hT1.ref xa).mono ?_; rintro _ w11 ⟨rfl, hst⟩; rw [← HEV.out])
                      obtain ⟨R1, hT2, hm2, hR1⟩ := hT1.stepM hst
                      replace hS := And.intro (hm2.cell (hfarR _ (Nat.le_refl _)) hS.1) (hm2.cell (hfarR _ (Nat.le_refl _)) hS.2)
                      refine hK _ _ hS ?_
                      clear hK K hst
                      try simp only [pl, pn, el, ec, sz, ss, gz, gs, if_true, if_false, Bool.false_eq_true, Bool.not_true, Bool.not_false, Nat.add_zero, Nat.zero_add, Nat.reduceAdd]
                      refine wpPi_cmp _ _ _ _ _ _ _ _ rfl rfl rfl rfl rfl true (by simp only [cmpB]; simp) ?_
                      simp only [pl, pn, el, ec, sz, ss, gz, gs, if_true, if_false, Bool.false_eq_true, Bool.not_true, Bool.not_false, Nat.add_zero, Nat.zero_add, Nat.reduceAdd]
                      refine wpPi_assign _ rfl rfl ?_
                      simp only [pl, pn, el, ec, sz, ss, gz, gs, if_true, if_false, Bool.false_eq_true, Bool.not_true, Bool.not_false, Nat.add_zero, Nat.zero_add, Nat.reduceAdd]
                      refine wpPi_nil ?_
                      have hbl := copy_lost N xa
                      go_wp2
                      go_meet
                      exact ⟨rfl, _, hT2.now, by rw [hbl]; exact hl0, by rw [hbl]; omega, hS.1, hS.2⟩
                  · have h3' : (kd == 3) = false := by simp [h3]
                    by_cases h4 : kd = 4
                    · subst h4
                      as_aux_lemma =>
                        obtain ⟨ev, hev⟩ : ∃ t, t = turnE N xa xb := ⟨_, rfl⟩
                        have HEV := Lib.hid hev; clear hev
                        go_upto_region 28 with (fail)
                        have hS : w9.drew.cell? ⟨wr.heap.size, 1, none⟩ = some (.int .i64 xa) ∧ w9.drew.cell? ⟨wr.heap.size, 2, none⟩ = some (.int .i64 xb) := ⟨hk1d, hk2d⟩
                        refine wp_region_pi [(0, 3), (1, 3), (2, 0), (3, 3), (4, 0), (6, 3), (7, 3), (8, 0), (9, 3), (10, 0), (5, 1), (11, 1), (12, 3), (13, 3)] [] (fun w' => w'.cell? ⟨wr.heap.size, 1, none⟩ = some (.int .i64 xa) ∧ w'.cell? ⟨wr.heap.size, 2, none⟩ = some (.int .i64 xb)) (by kernel_rfl) (by kernel_rfl) (by kernel_rfl) (by kernel_rfl) (fun _ _ _ _ hd h => ⟨hd.trans h.1, h.2⟩) hS ?_
                        simp only [List.map_cons, List.map_nil, List.getD_cons_zero, List.getD_cons_succ]
                        refine wpPi_move _ rfl rfl ?_
                        simp only [pl, pn, el, ec, sz, ss, gz, gs, if_true, if_false, Bool.false_eq_true, Bool.not_true, Bool.not_false, Nat.add_zero, Nat.zero_add, Nat.reduceAdd]
                        refine wpPi_field _ _ _ _ _ _ rfl rfl rfl fo_60_1 ?_
                        simp only [pl, pn, el, ec, sz, ss, gz, gs, if_true, if_false, Bool.false_eq_true, Bool.not_true, Bool.not_false, Nat.add_zero, Nat.zero_add, Nat.reduceAdd]
                        refine wpPi_val rfl (fun w' hS => exec_load1 _ _ rfl _ _ rfl _ hS.1 _ Try.underlying3 rfl) ?_
                        simp only [pl, pn, el, ec, sz, ss, gz, gs, if_true, if_false, Bool.false_eq_true, Bool.not_true, Bool.not_false, Nat.add_zero, Nat.zero_add, Nat.reduceAdd]
                        refine wpPi_field _ _ _ _ _ _ rfl rfl rfl fo_60_2 ?_
                        simp only [pl, pn, el, ec, sz, ss, gz, gs, if_true, if_false, Bool.false_eq_true, Bool.not_true, Bool.not_false, Nat.add_zero, Nat.zero_add, Nat.reduceAdd]
                        refine wpPi_val rfl (fun w' hS => exec_load1 _ _ rfl _ _ rfl _ hS.2 _ Try.underlying3 rfl) ?_
                        simp only [pl, pn, el, ec, sz, ss, gz, gs, if_true, if_false, Bool.false_eq_true, Bool.not_true, Bool.not_false, Nat.add_zero, Nat.zero_add, Nat.reduceAdd]
                        refine wpPi_move _ rfl rfl ?_
                        simp only [pl, pn, el, ec, sz, ss, gz, gs, if_true, if_false, Bool.false_eq_true, Bool.not_true, Bool.not_false, Nat.add_zero, Nat.zero_add, Nat.reduceAdd]
                        refine wpPi_field _ _ _ _ _ _ rfl rfl rfl fo_60_1 ?_
                        simp only [pl, pn, el, ec, sz, ss, gz, gs, if_true, if_false, Bool.false_eq_true, Bool.not_true, Bool.not_false, Nat.add_zero, Nat.zero_add, Nat.reduceAdd]
                        refine wpPi_val rfl (fun w' hS => exec_load1 _ _ rfl _ _ rfl _ hS.1 _ Try.underlying3 rfl) ?_
                        simp only [pl, pn, el, ec, sz, ss, gz, gs, if_true, if_false, Bool.false_eq_true, Bool.not_true, Bool.not_false, Nat.add_zero, Nat.zero_add, Nat.reduceAdd]
                        refine wpPi_field _ _ _ _ _ _ rfl rfl rfl fo_60_2 ?_
                        simp only [pl, pn, el, ec, sz, ss, gz, gs, if_true, if_false, Bool.false_eq_true, Bool.not_true, Bool.not_false, Nat.add_zero, Nat.zero_add, Nat.reduceAdd]
                        refine wpPi_val rfl (fun w' hS => exec_load1 _ _ rfl _ _ rfl _ hS.2 _ Try.underlying3 rfl) ?_
                        simp only [pl, pn, el, ec, sz, ss, gz, gs, if_true, if_false, Bool.false_eq_true, Bool.not_true, Bool.not_false, Nat.add_zero, Nat.zero_add, Nat.reduceAdd]
                        refine wpPi_do rfl (fun K hK => ?_)
                        go_wp2_with (go_at_call 25; refine (cut_at hTd.net xa xb).mono ?_; rintro _ w10 ⟨rfl, hst⟩; rw [← HEV.out])
                        obtain ⟨F1, hT1, hm1, hF1⟩ := hTd.stepN hst
                        replace hS := And.intro (hm1.cell (hfar _ (Nat.le_refl _)) hS.1) (hm1.cell (hfar _ (Nat.le_refl _)) hS.2)
                        refine hK _ _ hS ?_
                        clear hK K hst
                        try simp only [pl, pn, el, ec, sz, ss, gz, gs, if_true, if_false, Bool.false_eq_true, Bool.not_true, Bool.not_false, Nat.add_zero, Nat.zero_add, Nat.reduceAdd]
                        refine wpPi_do rfl (fun K hK => ?_)
                        go_wp2_with (go_at_call 33; refine (refCut_at hT1.ref xa xb).mono ?_; rintro _ w11 ⟨rfl, hst⟩; rw [← HEV.out])
                        obtain ⟨R1, hT2, hm2, hR1⟩ := hT1.stepM hst
                        replace hS := And.intro (hm2.cell (hfarR _ (Nat.le_refl _)) hS.1) (hm2.cell (hfarR _ (Nat.le_refl _)) hS.2)
                        refine hK _ _ hS ?_
                        clear hK K hst
                        try simp only [pl, pn, el, ec, sz, ss, gz, gs, if_true, if_false, Bool.false_eq_true, Bool.not_true, Bool.not_false, Nat.add_zero, Nat.zero_add, Nat.reduceAdd]
                        refine wpPi_cmp _ _ _ _ _ _ _ _ rfl rfl rfl rfl rfl true (by simp only [cmpB]; simp) ?_
                        simp only [pl, pn, el, ec, sz, ss, gz, gs, if_true, if_false, Bool.false_eq_true, Bool.not_true, Bool.not_false, Nat.add_zero, Nat.zero_add, Nat.reduceAdd]
                        refine wpPi_assign _ rfl rfl ?_
                        simp only [pl, pn, el, ec, sz, ss, gz, gs, if_true, if_false, Bool.false_eq_true, Bool.not_true, Bool.not_false, Nat.add_zero, Nat.zero_add, Nat.reduceAdd]
                        refine wpPi_nil ?_
                        have hbl := cut_lost N xa xb
                        go_wp2
                        go_meet
                        exact ⟨rfl, _, hT2.now, by rw [hbl]; exact hl0, by rw [hbl]; omega, hS.1, hS.2⟩
                    · have h4' : (kd == 4) = false := by simp [h4]
                      by_cases h5 : kd = 5
                      · subst h5
                        as_aux_lemma =>
                          obtain ⟨ev, hev⟩ : ∃ t, t = turnE N xa xb := ⟨_, rfl⟩
                          have HEV := Lib.hid hev; clear hev
                          go_upto_region 30 with (fail)
                          have hS : w9.drew.cell? ⟨wr.heap.size, 1, none⟩ = some (.int .i64 xa) ∧ w9.drew.cell? ⟨wr.heap.size, 2, none⟩ = some (.int .i64 xb) := ⟨hk1d, hk2d⟩
                          refine wp_region_pi [(0, 3), (1, 3), (2, 0), (3, 3), (4, 0), (6, 3), (7, 3), (8, 0), (9, 3), (10, 0), (5, 1), (11, 1), (12, 3), (13, 3)] [] (fun w' => w'.cell? ⟨wr.heap.size, 1, none⟩ = some (.int .i64 xa) ∧ w'.cell? ⟨wr.heap.size, 2, none⟩ = some (.int .i64 xb)) (by kernel_rfl) (by kernel_rfl) (by kernel_rfl) (by kernel_rfl) (fun _ _ _ _ hd h => ⟨hd.trans h.1, h.2⟩) hS ?_
                          simp only [List.map_cons, List.map_nil, List.getD_cons_zero, List.getD_cons_succ]
                          refine wpPi_move _ rfl rfl ?_
                          simp only [pl, pn, el, ec, sz, ss, gz, gs, if_true, if_false, Bool.false_eq_true, Bool.not_true, Bool.not_false, Nat.add_zero, Nat.zero_add, Nat.reduceAdd]
                          refine wpPi_field _ _ _ _ _ _ rfl rfl rfl fo_60_1 ?_
                          simp only [pl, pn, el, ec, sz, ss, gz, gs, if_true, if_false, Bool.false_eq_true, Bool.not_true, Bool.not_false, Nat.add_zero, Nat.zero_add, Nat.reduceAdd]
                          refine wpPi_val rfl (fun w' hS => exec_load1 _ _ rfl _ _ rfl _ hS.1 _ Try.underlying3 rfl) ?_
                          simp only [pl, pn, el, ec, sz, ss, gz, gs, if_true, if_false, Bool.false_eq_true, Bool.not_true, Bool.not_false, Nat.add_zero, Nat.zero_add, Nat.reduceAdd]
                          refine wpPi_field _ _ _ _ _ _ rfl rfl rfl fo_60_2 ?_
                          simp only [pl, pn, el, ec, sz, ss, gz, gs, if_true, if_false, Bool.false_eq_true, Bool.not_true, Bool.not_false, Nat.add_zero, Nat.zero_add, Nat.reduceAdd]
                          refine wpPi_val rfl (fun w' hS => exec_load1 _ _ rfl _ _ rfl _ hS.2 _ Try.underlying3 rfl) ?_
                          simp only [pl, pn, el, ec, sz, ss, gz, gs, if_true, if_false, Bool.false_eq_true, Bool.not_true, Bool.not_false, Nat.add_zero, Nat.zero_add, Nat.reduceAdd]
                          refine wpPi_move _ rfl rfl ?_
                          simp only [pl, pn, el, ec, sz, ss, gz, gs, if_true, if_false, Bool.false_eq_true, Bool.not_true, Bool.not_false, Nat.add_zero, Nat.zero_add, Nat.reduceAdd]
                          refine wpPi_field _ _ _ _ _ _ rfl rfl rfl fo_60_1 ?_
                          simp only [pl, pn, el, ec, sz, ss, gz, gs, if_true, if_false, Bool.false_eq_true, Bool.not_true, Bool.not_false, Nat.add_zero, Nat.zero_add, Nat.reduceAdd]
                          refine wpPi_val rfl (fun w' hS => exec_load1 _ _ rfl _ _ rfl _ hS.1 _ Try.underlying3 rfl) ?_
                          simp only [pl, pn, el, ec, sz, ss, gz, gs, if_true, if_false, Bool.false_eq_true, Bool.not_true, Bool.not_false, Nat.add_zero, Nat.zero_add, Nat.reduceAdd]
                          refine wpPi_field _ _ _ _ _ _ rfl rfl rfl fo_60_2 ?_
                          simp only [pl, pn, el, ec, sz, ss, gz, gs, if_true, if_false, Bool.false_eq_true, Bool.not_true, Bool.not_false, Nat.add_zero, Nat.zero_add, Nat.reduceAdd]
                          refine wpPi_val rfl (fun w' hS => exec_load1 _ _ rfl _ _ rfl _ hS.2 _ Try.underlying3 rfl) ?_
                          simp only [pl, pn, el, ec, sz, ss, gz, gs, if_true, if_false, Bool.false_eq_true, Bool.not_true, Bool.not_false, Nat.add_zero, Nat.zero_add, Nat.reduceAdd]
                          refine wpPi_do rfl (fun K hK => ?_)
                          go_wp2_with (go_at_call 27; refine (heal_at hTd.net xa xb).mono ?_; rintro _ w10 ⟨rfl, hst⟩; rw [← HEV.out])
                          obtain ⟨F1, hT1, hm1, hF1⟩ := hTd.stepN hst
                          replace hS := And.intro (hm1.cell (hfar _ (Nat.le_refl _)) hS.1) (hm1.cell (hfar _ (Nat.le_refl _)) hS.2)
                          refine hK _ _ hS ?_
                          clear hK K hst
                          try simp only [pl, pn, el, ec, sz, ss, gz, gs, if_true, if_false, Bool.false_eq_true, Bool.not_true, Bool.not_false, Nat.add_zero, Nat.zero_add, Nat.reduceAdd]
                          refine wpPi_do rfl (fun K hK => ?_)
                          go_wp2_with (go_at_call 34; refine (refHeal_at hT1.ref xa xb).mono ?_; rintro _ w11 ⟨rfl, hst⟩; rw [← HEV.out])
                          obtain ⟨R1, hT2, hm2, hR1⟩ := hT1.stepM hst
                          replace hS := And.intro (hm2.cell (hfarR _ (Nat.le_refl _)) hS.1) (hm2.cell (hfarR _ (Nat.le_refl _)) hS.2)
                          refine hK _ _ hS ?_
                          clear hK K hst
                          try simp only [pl, pn, el, ec, sz, ss, gz, gs, if_true, if_false, Bool.false_eq_true, Bool.not_true, Bool.not_false, Nat.add_zero, Nat.zero_add, Nat.reduceAdd]
                          refine wpPi_cmp _ _ _ _ _ _ _ _ rfl rfl rfl rfl rfl true (by simp only [cmpB]; simp) ?_
                          simp only [pl, pn, el, ec, sz, ss, gz, gs, if_true, if_false, Bool.false_eq_true, Bool.not_true, Bool.not_false, Nat.add_zero, Nat.zero_add, Nat.reduceAdd]
                          refine wpPi_assign _ rfl rfl ?_
                          simp only [pl, pn, el, ec, sz, ss, gz, gs, if_true, if_false, Bool.false_eq_true, Bool.not_true, Bool.not_false, Nat.add_zero, Nat.zero_add, Nat.reduceAdd]
                          refine wpPi_nil ?_
                          have hbl := heal_lost N xa xb
                          go_wp2
                          go_meet
                          exact ⟨rfl, _, hT2.now, by rw [hbl]; exact hl0, by rw [hbl]; omega, hS.1, hS.2⟩
                      · have h5' : (kd == 5) = false := by simp [h5]
                        go_wp2
                        go_meet
                        exact ⟨rfl, _, hT.now, hl0, by omega, hk1, hk2⟩
          case rest =>
            clear hk0 hk1 hk2 hkl hT hli hB hnew hisz hl0 hl1 hlost hbne hlt0 hc0 hok
            obtain ⟨rfl, N', hT, hl0, hl1, hk1, hk2⟩ := hcut
            obtain ⟨F', R', hT⟩ := hT
            as_aux_lemma =>
              have hlt9 := hT.lt
              have hMx := hT.mod
              go_upto_region 31 with (fail)
              refine wp_region_seq [3, 1, 3] (fun _ => True) (by rfl) (by rfl) trivial ?_
              simp only [List.zip_cons_cons, List.zip_nil_right]
              refine wpPi_move _ rfl rfl ?_
              simp only [pl, pn, el, ec, sz, ss, gz, gs, if_true, if_false, Bool.false_eq_true, Bool.not_true, Bool.not_false, Nat.add_zero, Nat.zero_add, Nat.reduceAdd]
              refine wpPi_do rfl (fun K hK => ?_)
              go_wp2_with (go_at_call 35; refine (list_at hT.net).mono ?_; rintro _ w10 ⟨lv, rfl, hm10, hla⟩)
              refine hK _ _ trivial ?_
              clear hK K
              try simp only [pl, pn, el, ec, sz, ss, gz, gs, if_true, if_false, Bool.false_eq_true, Bool.not_true, Bool.not_false, Nat.add_zero, Nat.zero_add, Nat.reduceAdd]
              refine wpPi_assign _ rfl rfl ?_
              simp only [pl, pn, el, ec, sz, ss, gz, gs, if_true, if_false, Bool.false_eq_true, Bool.not_true, Bool.not_false, Nat.add_zero, Nat.zero_add, Nat.reduceAdd]
              refine wpPi_nil ?_
              have hT10 := hT.keep0 hm10
              have hk11 := hm10.cell id hk1
              have hk21 := hm10.cell id hk2
              obtain ⟨ra, rc, hg1, hg2, Q, hLa⟩ := hT10.refCells bq rfl
              have hsame : ∀ wz, Mod NoB w10 wz → Calls Try.prog 37 #[lv, .slice ra N'.ls.length rc] wz (RetM (.bool true) wz) := fun wz hz => by
                have h1 := (hla.keep0 hz).done
                have h2 := (hLa.keep0 hz).done.weak
                have h3 := sameLetters_any true false _ _ _ _ _ _ lv (.slice ra N'.ls.length rc) N'.ls N'.ls wz h1 h2
                have e : decide (N'.ls = N'.ls) = true := decide_eq_true rfl
                rw [e] at h3
                exact h3
              obtain ⟨ob, hob⟩ : ∃ t, t = openB N'.n N'.cut xa xb := ⟨_, rfl⟩
              have HOB := Lib.hid hob; clear hob
              clear hT hk1 hk2
              have hs10 := hm10.size
              go_upto_region 32 with (fail)
              have hS : Mod NoB w10 w10.drew := (Mod.refl _ _).drew
              refine wp_region_pi [(0, 3), (1, 3), (2, 3), (3, 3), (4, 3), (5, 0), (6, 3), (7, 0), (9, 3), (10, 3), (11, 0), (12, 3), (13, 0), (8, 1), (14, 1), (15, 3), (16, 3), (17, 3), (18, 3), (20, 3), (21, 3), (22, 3), (23, 0), (24, 3), (19, 1), (25, 3), (26, 3), (27, 3), (28, 3), (30, 3), (31, 3), (32, 3), (33, 0), (29, 1), (34, 3), (35, 3), (36, 3), (37, 3), (38, 3), (39, 3), (40, 3), (41, 0), (42, 1), (43, 3), (44, 3)] [] (fun w' => Mod NoB w10 w') (by kernel_rfl) (by kernel_rfl) (by kernel_rfl) (by kernel_rfl) (fun _ _ _ _ hd h => ⟨hd.trans h.1, h.2⟩) hS ?_
              simp only [List.map_cons, List.map_nil, List.getD_cons_zero, List.getD_cons_succ]
              refine wpPi_move _ rfl rfl ?_
              simp only [pl, pn, el, ec, sz, ss, gz, gs, if_true, if_false, Bool.false_eq_true, Bool.not_true, Bool.not_false, Nat.add_zero, Nat.zero_add, Nat.reduceAdd]
              refine wpPi_not _ _ _ rfl rfl rfl ?_
              simp only [pl, pn, el, ec, sz, ss, gz, gs, if_true, if_false, Bool.false_eq_true, Bool.not_true, Bool.not_false, Nat.add_zero, Nat.zero_add, Nat.reduceAdd]
              refine wpPi_move _ rfl rfl ?_
              simp only [pl, pn, el, ec, sz, ss, gz, gs, if_true, if_false, Bool.false_eq_true, Bool.not_true, Bool.not_false, Nat.add_zero, Nat.zero_add, Nat.reduceAdd]
              refine wpPi_move _ rfl rfl ?_
              simp only [pl, pn, el, ec, sz, ss, gz, gs, if_true, if_false, Bool.false_eq_true, Bool.not_true, Bool.not_false, Nat.add_zero, Nat.zero_add, Nat.reduceAdd]
              refine wpPi_field _ _ _ _ _ _ rfl rfl rfl fo_60_1 ?_
              simp only [pl, pn, el, ec, sz, ss, gz, gs, if_true, if_false, Bool.false_eq_true, Bool.not_true, Bool.not_false, Nat.add_zero, Nat.zero_add, Nat.reduceAdd]
              refine wpPi_val rfl (fun w' hS => exec_load1 _ _ rfl _ _ rfl _ (hS.cell id hk11) _ Try.underlying3 rfl) ?_
              simp only [pl, pn, el, ec, sz, ss, gz, gs, if_true, if_false, Bool.false_eq_true, Bool.not_true, Bool.not_false, Nat.add_zero, Nat.zero_add, Nat.reduceAdd]
              refine wpPi_field _ _ _ _ _ _ rfl rfl rfl fo_60_2 ?_
              simp only [pl, pn, el, ec, sz, ss, gz, gs, if_true, if_false, Bool.false_eq_true, Bool.not_true, Bool.not_false, Nat.add_zero, Nat.zero_add, Nat.reduceAdd]
              refine wpPi_val rfl (fun w' hS => exec_load1 _ _ rfl _ _ rfl _ (hS.cell id hk21) _ Try.underlying3 rfl) ?_
              simp only [pl, pn, el, ec, sz, ss, gz, gs, if_true, if_false, Bool.false_eq_true, Bool.not_true, Bool.not_false, Nat.add_zero, Nat.zero_add, Nat.reduceAdd]
              refine wpPi_move _ rfl rfl ?_
              simp only [pl, pn, el, ec, sz, ss, gz, gs, if_true, if_false, Bool.false_eq_true, Bool.not_true, Bool.not_false, Nat.add_zero, Nat.zero_add, Nat.reduceAdd]
              refine wpPi_field _ _ _ _ _ _ rfl rfl rfl fo_60_1 ?_
              simp only [pl, pn, el, ec, sz, ss, gz, gs, if_true, if_false, Bool.false_eq_true, Bool.not_true, Bool.not_false, Nat.add_zero, Nat.zero_add, Nat.reduceAdd]
              refine wpPi_val rfl (fun w' hS => exec_load1 _ _ rfl _ _ rfl _ (hS.cell id hk11) _ Try.underlying3 rfl) ?_
              simp only [pl, pn, el, ec, sz, ss, gz, gs, if_true, if_false, Bool.false_eq_true, Bool.not_true, Bool.not_false, Nat.add_zero, Nat.zero_add, Nat.reduceAdd]
              refine wpPi_field _ _ _ _ _ _ rfl rfl rfl fo_60_2 ?_
              simp only [pl, pn, el, ec, sz, ss, gz, gs, if_true, if_false, Bool.false_eq_true, Bool.not_true, Bool.not_false, Nat.add_zero, Nat.zero_add, Nat.reduceAdd]
              refine wpPi_val rfl (fun w' hS => exec_load1 _ _ rfl _ _ rfl _ (hS.cell id hk21) _ Try.underlying3 rfl) ?_
              simp only [pl, pn, el, ec, sz, ss, gz, gs, if_true, if_false, Bool.false_eq_true, Bool.not_true, Bool.not_false, Nat.add_zero, Nat.zero_add, Nat.reduceAdd]
              refine wpPi_do rfl (fun K hK => ?_)
              go_wp2_with (go_at_call 26; refine (open_same (hT10.keep0 hS).net xa xb).mono ?_; rintro _ w11 ⟨rfl, hm11⟩; rw [← HOB.out])
              replace hS := hS.trans0 hm11
              refine hK _ _ hS ?_
              clear hK K
              try simp only [pl, pn, el, ec, sz, ss, gz, gs, if_true, if_false, Bool.false_eq_true, Bool.not_true, Bool.not_false, Nat.add_zero, Nat.zero_add, Nat.reduceAdd]
              refine wpPi_do rfl (fun K hK => ?_)
              go_wp2_with (go_at_call 36; refine (refOpen_at (hT10.keep0 hS).ref xa xb).mono ?_; rintro _ w12 ⟨rfl, hm12⟩; rw [← HOB.out])
              replace hS := hS.trans0 hm12
              refine hK _ _ hS ?_
              clear hK K
              try simp only [pl, pn, el, ec, sz, ss, gz, gs, if_true, if_false, Bool.false_eq_true, Bool.not_true, Bool.not_false, Nat.add_zero, Nat.zero_add, Nat.reduceAdd]
              refine wpPi_any rfl (fun w' => exec_neq_bool _ _ _ ob rfl rfl rfl) ?_
              simp only [pl, pn, el, ec, sz, ss, gz, gs, if_true, if_false, Bool.false_eq_true, Bool.not_true, Bool.not_false, Nat.add_zero, Nat.zero_add, Nat.reduceAdd]
              refine wpPi_pick _ _ _ _ rfl rfl rfl ?_
              simp only [pl, pn, el, ec, sz, ss, gz, gs, if_true, if_false, Bool.false_eq_true, Bool.not_true, Bool.not_false, Nat.add_zero, Nat.zero_add, Nat.reduceAdd]
              refine wpPi_move _ rfl rfl ?_
              simp only [pl, pn, el, ec, sz, ss, gz, gs, if_true, if_false, Bool.false_eq_true, Bool.not_true, Bool.not_false, Nat.add_zero, Nat.zero_add, Nat.reduceAdd]
              refine wpPi_move _ rfl rfl ?_
              simp only [pl, pn, el, ec, sz, ss, gz, gs, if_true, if_false, Bool.false_eq_true, Bool.not_true, Bool.not_false, Nat.add_zero, Nat.zero_add, Nat.reduceAdd]
              refine wpPi_move _ rfl rfl ?_
              simp only [pl, pn, el, ec, sz, ss, gz, gs, if_true, if_false, Bool.false_eq_true, Bool.not_true, Bool.not_false, Nat.add_zero, Nat.zero_add, Nat.reduceAdd]
              refine wpPi_nilCheck _ _ rfl rfl rfl ?_
              simp only [pl, pn, el, ec, sz, ss, gz, gs, if_true, if_false, Bool.false_eq_true, Bool.not_true, Bool.not_false, Nat.add_zero, Nat.zero_add, Nat.reduceAdd]
              refine wpPi_field _ _ _ _ _ _ rfl rfl rfl fo_46_2 ?_
              simp only [pl, pn, el, ec, sz, ss, gz, gs, if_true, if_false, Bool.false_eq_true, Bool.not_true, Bool.not_false, Nat.add_zero, Nat.zero_add, Nat.reduceAdd]
              refine wpPi_val rfl (fun w' hS => exec_load1 _ _ rfl _ _ rfl _ (hS.cell id hg2) _ Try.underlying43 rfl) ?_
              simp only [pl, pn, el, ec, sz, ss, gz, gs, if_true, if_false, Bool.false_eq_true, Bool.not_true, Bool.not_false, Nat.add_zero, Nat.zero_add, Nat.reduceAdd]
              refine wpPi_len _ _ _ _ _ rfl rfl rfl (by kernel_rfl) ?_
              simp only [pl, pn, el, ec, sz, ss, gz, gs, if_true, if_false, Bool.false_eq_true, Bool.not_true, Bool.not_false, Nat.add_zero, Nat.zero_add, Nat.reduceAdd]
              refine wpPi_do rfl (fun K hK => ?_)
              go_wp2_with (go_at_call 16; refine (len_same (hT10.keep0 hS).now _ rfl).mono ?_; rintro _ w13 ⟨rfl, hw13⟩; obtain rfl := hw13.symm)
              refine hK _ _ hS ?_
              clear hK K
              try simp only [pl, pn, el, ec, sz, ss, gz, gs, if_true, if_false, Bool.false_eq_true, Bool.not_true, Bool.not_false, Nat.add_zero, Nat.zero_add, Nat.reduceAdd]
              refine wpPi_cmp _ _ _ _ _ _ _ _ rfl rfl rfl rfl rfl false (by simp only [cmpB]; simp) ?_
              simp only [pl, pn, el, ec, sz, ss, gz, gs, if_true, if_false, Bool.false_eq_true, Bool.not_true, Bool.not_false, Nat.add_zero, Nat.zero_add, Nat.reduceAdd]
              refine wpPi_pick _ _ _ _ rfl rfl rfl ?_
              simp only [pl, pn, el, ec, sz, ss, gz, gs, if_true, if_false, Bool.false_eq_true, Bool.not_true, Bool.not_false, Nat.add_zero, Nat.zero_add, Nat.reduceAdd]
              refine wpPi_move _ rfl rfl ?_
              simp only [pl, pn, el, ec, sz, ss, gz, gs, if_true, if_false, Bool.false_eq_true, Bool.not_true, Bool.not_false, Nat.add_zero, Nat.zero_add, Nat.reduceAdd]
              refine wpPi_move _ rfl rfl ?_
              simp only [pl, pn, el, ec, sz, ss, gz, gs, if_true, if_false, Bool.false_eq_true, Bool.not_true, Bool.not_false, Nat.add_zero, Nat.zero_add, Nat.reduceAdd]
              refine wpPi_move _ rfl rfl ?_
              simp only [pl, pn, el, ec, sz, ss, gz, gs, if_true, if_false, Bool.false_eq_true, Bool.not_true, Bool.not_false, Nat.add_zero, Nat.zero_add, Nat.reduceAdd]
              refine wpPi_nilCheck _ _ rfl rfl rfl ?_
              simp only [pl, pn, el, ec, sz, ss, gz, gs, if_true, if_false, Bool.false_eq_true, Bool.not_true, Bool.not_false, Nat.add_zero, Nat.zero_add, Nat.reduceAdd]
              refine wpPi_field _ _ _ _ _ _ rfl rfl rfl fo_46_1 ?_
              simp only [pl, pn, el, ec, sz, ss, gz, gs, if_true, if_false, Bool.false_eq_true, Bool.not_true, Bool.not_false, Nat.add_zero, Nat.zero_add, Nat.reduceAdd]
              refine wpPi_val rfl (fun w' hS => exec_load1 _ _ rfl _ _ rfl _ (hS.cell id hg1) _ Try.underlying3 rfl) ?_
              simp only [pl, pn, el, ec, sz, ss, gz, gs, if_true, if_false, Bool.false_eq_true, Bool.not_true, Bool.not_false, Nat.add_zero, Nat.zero_add, Nat.reduceAdd]
              refine wpPi_do rfl (fun K hK => ?_)
              go_wp2_with (go_at_call 17; refine (lost_same (hT10.keep0 hS).now _ rfl).mono ?_; rintro _ w13 ⟨rfl, hw13⟩; obtain rfl := hw13.symm)
              refine hK _ _ hS ?_
              clear hK K
              try simp only [pl, pn, el, ec, sz, ss, gz, gs, if_true, if_false, Bool.false_eq_true, Bool.not_true, Bool.not_false, Nat.add_zero, Nat.zero_add, Nat.reduceAdd]
              refine wpPi_cmp _ _ _ _ _ _ _ _ rfl rfl rfl rfl rfl false (by simp only [cmpB]; simp) ?_
              simp only [pl, pn, el, ec, sz, ss, gz, gs, if_true, if_false, Bool.false_eq_true, Bool.not_true, Bool.not_false, Nat.add_zero, Nat.zero_add, Nat.reduceAdd]
              refine wpPi_pick _ _ _ _ rfl rfl rfl ?_
              simp only [pl, pn, el, ec, sz, ss, gz, gs, if_true, if_false, Bool.false_eq_true, Bool.not_true, Bool.not_false, Nat.add_zero, Nat.zero_add, Nat.reduceAdd]
              refine wpPi_move _ rfl rfl ?_
              simp only [pl, pn, el, ec, sz, ss, gz, gs, if_true, if_false, Bool.false_eq_true, Bool.not_true, Bool.not_false, Nat.add_zero, Nat.zero_add, Nat.reduceAdd]
              refine wpPi_move _ rfl rfl ?_
              simp only [pl, pn, el, ec, sz, ss, gz, gs, if_true, if_false, Bool.false_eq_true, Bool.not_true, Bool.not_false, Nat.add_zero, Nat.zero_add, Nat.reduceAdd]
              refine wpPi_move _ rfl rfl ?_
              simp only [pl, pn, el, ec, sz, ss, gz, gs, if_true, if_false, Bool.false_eq_true, Bool.not_true, Bool.not_false, Nat.add_zero, Nat.zero_add, Nat.reduceAdd]
              refine wpPi_nilCheck _ _ rfl rfl rfl ?_
              simp only [pl, pn, el, ec, sz, ss, gz, gs, if_true, if_false, Bool.false_eq_true, Bool.not_true, Bool.not_false, Nat.add_zero, Nat.zero_add, Nat.reduceAdd]
              refine wpPi_field _ _ _ _ _ _ rfl rfl rfl fo_46_2 ?_
              simp only [pl, pn, el, ec, sz, ss, gz, gs, if_true, if_false, Bool.false_eq_true, Bool.not_true, Bool.not_false, Nat.add_zero, Nat.zero_add, Nat.reduceAdd]
              refine wpPi_val rfl (fun w' hS => exec_load1 _ _ rfl _ _ rfl _ (hS.cell id hg2) _ Try.underlying43 rfl) ?_
              simp only [pl, pn, el, ec, sz, ss, gz, gs, if_true, if_false, Bool.false_eq_true, Bool.not_true, Bool.not_false, Nat.add_zero, Nat.zero_add, Nat.reduceAdd]
              refine wpPi_do rfl (fun K hK => ?_)
              go_wp2_with (go_at_call 37; refine (hsame _ hS).mono ?_; rintro _ w14 ⟨rfl, hm14⟩)
              replace hS := hS.trans0 hm14
              refine hK _ _ hS ?_
              clear hK K
              try simp only [pl, pn, el, ec, sz, ss, gz, gs, if_true, if_false, Bool.false_eq_true, Bool.not_true, Bool.not_false, Nat.add_zero, Nat.zero_add, Nat.reduceAdd]
              refine wpPi_not _ _ _ rfl rfl rfl ?_
              simp only [pl, pn, el, ec, sz, ss, gz, gs, if_true, if_false, Bool.false_eq_true, Bool.not_true, Bool.not_false, Nat.add_zero, Nat.zero_add, Nat.reduceAdd]
              refine wpPi_pick _ _ _ _ rfl rfl rfl ?_
              simp only [pl, pn, el, ec, sz, ss, gz, gs, if_true, if_false, Bool.false_eq_true, Bool.not_true, Bool.not_false, Nat.add_zero, Nat.zero_add, Nat.reduceAdd]
              refine wpPi_nil ?_
              have hov := over_list (hT10.keep0 hS) hlt9 hMx (hla.keep0 hS)
              go_upto_region 34 with (fail)
              refine wp_region_seq [3, 1] (fun _ => True) (by rfl) (by rfl) trivial ?_
              simp only [List.zip_cons_cons, List.zip_nil_right]
              refine wpPi_move _ rfl rfl ?_
              simp only [pl, pn, el, ec, sz, ss, gz, gs, if_true, if_false, Bool.false_eq_true, Bool.not_true, Bool.not_false, Nat.add_zero, Nat.zero_add, Nat.reduceAdd]
              refine wpPi_do rfl (fun K hK => ?_)
              go_wp2_with (go_at_call 31; refine hov.mono ?_; rintro _ w15 ⟨rfl, hT3⟩)
              refine hK _ _ trivial ?_
              clear hK K
              try simp only [pl, pn, el, ec, sz, ss, gz, gs, if_true, if_false, Bool.false_eq_true, Bool.not_true, Bool.not_false, Nat.add_zero, Nat.zero_add, Nat.reduceAdd]
              refine wpPi_nil ?_
              go_wp2
              go_roundw
              case rel => exact ⟨k + 1, N', by omega, by go_num, hT3, hl0, by omega⟩
              case measure => simp [intOf]; omega
        · have hkl : k = l.length := by omega
          have HKL := Lib.hid hkl; clear hkl HA
          go_upto_region 35 with (fail)
          refine wp_region_seq [1, 3] (fun _ => True) (by rfl) (by rfl) trivial ?_
          simp only [List.zip_cons_cons, List.zip_nil_right]
          refine wpPi_do rfl (fun K hK => ?_)
          go_wp2_with (go_at_call 21; refine (awake_any wr).mono ?_; rintro _ w5 ⟨rfl, hm5⟩)
          refine hK _ _ trivial ?_
          clear hK K
          try simp only [pl, pn, el, ec, sz, ss, gz, gs, if_true, if_false, Bool.false_eq_true, Bool.not_true, Bool.not_false, Nat.add_zero, Nat.zero_add, Nat.reduceAdd]
          refine wpPi_assign _ rfl rfl ?_
          simp only [pl, pn, el, ec, sz, ss, gz, gs, if_true, if_false, Bool.false_eq_true, Bool.not_true, Bool.not_false, Nat.add_zero, Nat.zero_add, Nat.reduceAdd]
          refine wpPi_nil ?_
          go_wp2
          go_ret
          exact ⟨rfl, hMr.trans0 hm5⟩
    · go_upto_region 3 with (fail)
      refine wp_region_seq [3, 1, 3, 1, 1, 3, 3] (fun _ => True) (by rfl) (by rfl) trivial ?_
      simp only [List.zip_cons_cons, List.zip_nil_right]
      refine wpPi_move _ rfl rfl ?_
      simp only [pl, pn, el, ec, sz, ss, gz, gs, if_true, if_false, Bool.false_eq_true, Bool.not_true, Bool.not_false, Nat.add_zero, Nat.zero_add, Nat.reduceAdd]
      refine wpPi_do rfl (fun K hK => ?_)
      go_wp2_with (go_at_call 10; refine (new_no n0 hn w2).mono ?_; rintro _ w3 ⟨rfl, hw3⟩; obtain rfl := hw3.symm)
      refine hK _ _ trivial ?_
      clear hK K
      try simp only [pl, pn, el, ec, sz, ss, gz, gs, if_true, if_false, Bool.false_eq_true, Bool.not_true, Bool.not_false, Nat.add_zero, Nat.zero_add, Nat.reduceAdd]
      refine wpPi_move _ rfl rfl ?_
      simp only [pl, pn, el, ec, sz, ss, gz, gs, if_true, if_false, Bool.false_eq_true, Bool.not_true, Bool.not_false, Nat.add_zero, Nat.zero_add, Nat.reduceAdd]
      refine wpPi_do rfl (fun K hK => ?_)
      go_wp2
      refine hK _ _ trivial ?_
      clear hK K
      try simp only [pl, pn, el, ec, sz, ss, gz, gs, if_true, if_false, Bool.false_eq_true, Bool.not_true, Bool.not_false, Nat.add_zero, Nat.zero_add, Nat.reduceAdd]
      refine wpPi_do rfl (fun K hK => ?_)
      go_wp2
      refine hK _ _ trivial ?_
      clear hK K
      try simp only [pl, pn, el, ec, sz, ss, gz, gs, if_true, if_false, Bool.false_eq_true, Bool.not_true, Bool.not_false, Nat.add_zero, Nat.zero_add, Nat.reduceAdd]
      refine wpPi_assign _ rfl rfl ?_
      simp only [pl, pn, el, ec, sz, ss, gz, gs, if_true, if_false, Bool.false_eq_true, Bool.not_true, Bool.not_false, Nat.add_zero, Nat.zero_add, Nat.reduceAdd]
      refine wpPi_assign _ rfl rfl ?_
      simp only [pl, pn, el, ec, sz, ss, gz, gs, if_true, if_false, Bool.false_eq_true, Bool.not_true, Bool.not_false, Nat.add_zero, Nat.zero_add, Nat.reduceAdd]
      refine wpPi_nil ?_
      go_upto_region 4 with (fail)
      refine wp_region_seq [3, 1, 3, 1, 1, 3, 3] (fun _ => True) (by rfl) (by rfl) trivial ?_
      simp only [List.zip_cons_cons, List.zip_nil_right]
      refine wpPi_move _ rfl rfl ?_
      simp only [pl, pn, el, ec, sz, ss, gz, gs, if_true, if_false, Bool.false_eq_true, Bool.not_true, Bool.not_false, Nat.add_zero, Nat.zero_add, Nat.reduceAdd]
      refine wpPi_do rfl (fun K hK => ?_)
      go_wp2_with (go_at_call 11; refine (refNew_no n0 hn w2).mono ?_; rintro _ w3 ⟨rfl, hw3⟩; obtain rfl := hw3.symm)
      refine hK _ _ trivial ?_
      clear hK K
      try simp only [pl, pn, el, ec, sz, ss, gz, gs, if_true, if_false, Bool.false_eq_true, Bool.not_true, Bool.not_false, Nat.add_zero, Nat.zero_add, Nat.reduceAdd]
      refine wpPi_move _ rfl rfl ?_
      simp only [pl, pn, el, ec, sz, ss, gz, gs, if_true, if_false, Bool.false_eq_true, Bool.not_true, Bool.not_false, Nat.add_zero, Nat.zero_add, Nat.reduceAdd]
      refine wpPi_do rfl (fun K hK => ?_)
      go_wp2
      refine hK _ _ trivial ?_
      clear hK K
      try simp only [pl, pn, el, ec, sz, ss, gz, gs, if_true, if_false, Bool.false_eq_true, Bool.not_true, Bool.not_false, Nat.add_zero, Nat.zero_add, Nat.reduceAdd]
      refine wpPi_do rfl (fun K hK => ?_)
      go_wp2
      refine hK _ _ trivial ?_
      clear hK K
      try simp only [pl, pn, el, ec, sz, ss, gz, gs, if_true, if_false, Bool.false_eq_true, Bool.not_true, Bool.not_false, Nat.add_zero, Nat.zero_add, Nat.reduceAdd]
      refine wpPi_assign _ rfl rfl ?_
      simp only [pl, pn, el, ec, sz, ss, gz, gs, if_true, if_false, Bool.false_eq_true, Bool.not_true, Bool.not_false, Nat.add_zero, Nat.zero_add, Nat.reduceAdd]
      refine wpPi_assign _ rfl rfl ?_
      simp only [pl, pn, el, ec, sz, ss, gz, gs, if_true, if_false, Bool.false_eq_true, Bool.not_true, Bool.not_false, Nat.add_zero, Nat.zero_add, Nat.reduceAdd]
      refine wpPi_nil ?_
      clear HA
      go_wp2
      go_loopw [9] (fun i wx => i = .int .i64 0 ∧ Mod NoB w wx) (fun _ _ => 0)
      case atStart => exact ⟨rfl, hM⟩
      case round =>
        obtain ⟨rfl, hM1⟩ := hrel
        rename_i wr
        go_upto_region 35 with (fail)
        refine wp_region_seq [1, 3] (fun _ => True) (by rfl) (by rfl) trivial ?_
        simp only [List.zip_cons_cons, List.zip_nil_right]
        refine wpPi_do rfl (fun K hK => ?_)
        go_wp2_with (go_at_call 21; refine (awake_any wr).mono ?_; rintro _ w5 ⟨rfl, hm5⟩)
        refine hK _ _ trivial ?_
        clear hK K
        try simp only [pl, pn, el, ec, sz, ss, gz, gs, if_true, if_false, Bool.false_eq_true, Bool.not_true, Bool.not_false, Nat.add_zero, Nat.zero_add, Nat.reduceAdd]
        refine wpPi_assign _ rfl rfl ?_
        simp only [pl, pn, el, ec, sz, ss, gz, gs, if_true, if_false, Bool.false_eq_true, Bool.not_true, Bool.not_false, Nat.add_zero, Nat.zero_add, Nat.reduceAdd]
        refine wpPi_nil ?_
        go_wp2
        go_ret
        exact ⟨rfl, hM1.trans0 hm5⟩
  · go_upto_region 2 with (fail)
    refine wp_region_seq [1, 3] (fun _ => True) (by rfl) (by rfl) trivial ?_
    simp only [List.zip_cons_cons, List.zip_nil_right]
    refine wpPi_do rfl (fun K hK => ?_)
    go_wp2_with (go_at_call 21; refine (awake_any w2).mono ?_; rintro _ w3 ⟨rfl, hm3⟩)
    refine hK _ _ trivial ?_
    clear hK K
    try simp only [pl, pn, el, ec, sz, ss, gz, gs, if_true, if_false, Bool.false_eq_true, Bool.not_true, Bool.not_false, Nat.add_zero, Nat.zero_add, Nat.reduceAdd]
    refine wpPi_assign _ rfl rfl ?_
    simp only [pl, pn, el, ec, sz, ss, gz, gs, if_true, if_false, Bool.false_eq_true, Bool.not_true, Bool.not_false, Nat.add_zero, Nat.zero_add, Nat.reduceAdd]
    refine wpPi_nil ?_
    go_wp2
    go_ret
    exact ⟨rfl, hM.trans0 hm3⟩
end Go.Proofs.Ytdllpakdhnanbaa
