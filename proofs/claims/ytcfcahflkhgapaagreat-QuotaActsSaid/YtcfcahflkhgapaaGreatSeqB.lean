/- maps.Keys of the links, gathered. -/
import Derived.Test.YtcfcahflkhgapaaGreatSeqA
namespace Go.Proofs.YtcfcahflkhgapaaGreat
set_option linter.unusedSimpArgs false
set_option linter.unusedVariables false
set_option linter.unnecessarySimpa false
set_option linter.unusedSectionVars false
open Go.RowKit Go.Shelf

theorem exec_move {P : Program} {o : Oper} {a : Act} {w : World} (x : Operand) (ho : o.op = .move x) : (execOp a.eval o).run P w = .ok (.value (a.eval x)) w := by
  unfold execOp; simp only [ho]; rfl
theorem exec_not {P : Program} {o : Oper} {a : Act} {w : World} (x : Operand) (t : TypeId) (b : Bool) (ho : o.op = .unOp .not t x) (hx : a.eval x = .bool b) : (execOp a.eval o).run P w = .ok (.value (.bool (!b))) w := by
  unfold execOp; simp [ho, hx, Op.unary]
theorem byteV_inj {a b : UInt8} (h : byteV a = byteV b) : a = b := by
  simp only [byteV, Value.int.injEq, true_and] at h
  exact UInt8.toNat_inj.1 (by omega)
theorem keyV_inj {a b : Key} (h : keyV a = keyV b) : a = b := by
  have h1 : (keyCells a).toList = (keyCells b).toList := by rw [Value.agg.inj h]
  simp only [keyCells, Array.toList_append, idCells, List.cons_append, List.nil_append, List.cons.injEq] at h1
  obtain ⟨h2, h3⟩ := h1
  have h4 : a.2 = b.2 := List.map_inj_right (fun _ _ e => byteV_inj e) |>.1 h3
  exact Prod.ext (Value.string.inj h2) h4
theorem dec_of {α : Type} [Nonempty α] {enc : α → Value} (hi : ∀ a b, enc a = enc b → a = b) : ∃ dec : Value → α, ∀ x, dec (enc x) = x :=
  ⟨fun v => Classical.epsilon fun x => enc x = v, fun x => hi _ _ (Classical.epsilon_spec (p := fun y => enc y = enc x) ⟨x, rfl⟩)⟩
theorem perm_of_map {α : Type} [Nonempty α] {enc : α → Value} (hi : ∀ a b, enc a = enc b → a = b) {l m : List α} (h : (l.map enc).Perm (m.map enc)) : l.Perm m := by
  obtain ⟨dec, hd⟩ := dec_of hi
  have := h.map dec
  simpa [List.map_map, Function.comp_def, hd] using this
theorem keyCells_one (p : Key) : ∀ c ∈ keyCells p, c.oneCell' = true := by
  intro c hc
  simp only [keyCells, Array.mem_append] at hc
  rcases hc with hc | hc
  · simp at hc; subst hc; rfl
  · exact idCells_one _ c hc
theorem Mod.of_below0 {w w' : World} (h : Below w.heap.size w w') : Mod NoB w w' := (Mod.of_below h).mono fun k hk hn => by omega

set_option maxRecDepth 10000 in
/-- maps.Keys of the links. -/
theorem keysK_any (w : World) (mb : Nat) : Calls Tryz.prog 50 #[.map (some mb)] w fun e w' => e = .returned (.func (.func 66) #[] #[.pointer (some ⟨w.heap.size, 0, none⟩)]) ∧ w' = w.alloc (.cells #[.map (some mb)] 49) := by
  have hmf := makeFunc_run
  go_enter Tryz.func50, Tryz.ntmps50
  go_wp2
  go_ret
  exact ⟨rfl, rfl⟩

abbrev KeyS := {k : Key // KeyOk k}
instance : Inhabited KeyS := ⟨⟨(⟨#[]⟩, List.replicate 32 0), by simp [KeyOk]⟩⟩
def keyE (k : KeyS) : Value := keyV k.1
theorem keyE_inj {a b : KeyS} (h : keyE a = keyE b) : a = b := Subtype.ext (keyV_inj h)
def KeysRel (mb it : Nat) (es : Array MapEntry) (clk : Nat) (J : List KeyS → World → Prop) (_ : Value) (w : World) : Prop :=
  ∃ xs ks, IterAt w mb it es clk xs ∧ xs.map (·.key) = ks.map keyE ∧ J ks w
def seenLeft (it n : Nat) (w : World) : Nat := match w.heap[it]? with | some (.mapIter _ _ seen _) => n - seen.size | _ => 0
theorem seenLeft_eq {it n mb clk c0 : Nat} {seen : Array Nat} {w : World} (h : w.heap[it]? = some (.mapIter (some mb) clk seen c0)) : seenLeft it n w = n - seen.size := by simp [seenLeft, h]

set_option maxRecDepth 10000 in
set_option maxHeartbeats 4000000 in
/-- The iterator hands on all keys, each once, in some order. -/
theorem keysK_stops (n : Nat) (hn : 1 ≤ n) (w : World) (Bm mb : Nat) (l : LinkL) (hB : w.heap[Bm]? = some (.cells #[.map (some mb)] 49 (0, 0))) (hM : MapIs keyV KeyOk w mb (l.map fun p => (p.1, linkV p.2))) :
    SeqStopsK Fence.wide n Tryz.prog 66 #[.pointer (some ⟨Bm, 0, none⟩)] (fun k : KeyS => #[keyE k]) KeepsWalks (fun ks => (ks.map (·.1)).Perm (l.map (·.1))) (fun _ => True) l.length w := by
  intro y J Jx W hW hJ hJx hY h0
  have hMW := Mod.of_below0 hW
  have hBW := hMW.obj id hB
  have hMM := hM.keep0 hMW
  obtain ⟨⟨es, clk, hb, hkd, hbo, hbn⟩, _, hok⟩ := hMM
  have hc : W.cell? ⟨Bm, 0, none⟩ = some (.map (some mb)) := by simp [World.cell?, hBW]
  have hkeys : es.toList.map (·.key) = (l.map (·.1)).map keyV := by
    have := congrArg (List.map (·.1)) hkd
    simpa [List.map_map, Function.comp_def] using this
  have hsize : es.size = l.length := by have := congrArg List.length hkd; simpa using this
  have HKEYS := Lib.hid hkeys
  have HSIZE := Lib.hid hsize
  clear hkeys hsize hkd hB hM hBW
  refine callsIn_wide.2 ?_
  go_enter Tryz.func66, Tryz.ntmps66
  go_upto_region 0 with (fail)
  refine wp_region_seq [1, 1] (fun _ => True) (by rfl) (by rfl) trivial ?_
  simp only [List.zip_cons_cons, List.zip_nil_right]
  refine wpPi_do rfl (fun K hK => ?_)
  refine wp_exec (exec_load1 49 _ (by rfl) Bm 0 (by rfl) _ hc _ Tryz.underlying49 rfl) ?_
  refine hK _ _ trivial ?_
  clear hK K
  try simp only [pl, pn, el, ec, sz, ss, gz, gs, if_true, if_false, Bool.false_eq_true, Bool.not_true, Bool.not_false, Nat.add_zero, Nat.zero_add, Nat.reduceAdd]
  refine wpPi_do rfl (fun K hK => ?_)
  refine wp_rangeM 49 67 64 _ mb es clk (by rfl) (by rfl) Tryz.underlying49 hb (fun w1 hit1 hm1 hs1 => ?_)
  refine hK _ _ trivial ?_
  clear hK K
  try simp only [pl, pn, el, ec, sz, ss, gz, gs, if_true, if_false, Bool.false_eq_true, Bool.not_true, Bool.not_false, Nat.add_zero, Nat.zero_add, Nat.reduceAdd]
  refine wpPi_nil ?_
  have hI1 : IterAt w1 mb W.heap.size es clk [] := ⟨hm1.obj id hb, clk, Nat.le_refl _, hit1, by simp, by simp⟩
  have hJ1 : J [] w1 := hJ [] W w1 none h0 hm1.grownNone (fun r e => by cases e)
  clear hm1 hb hc h0 hit1
  go_wp2
  go_loopw [3] (KeysRel mb W.heap.size es clk J) (fun _ wx => seenLeft W.heap.size (l.length + 1) wx)
  case atStart => exact ⟨[], [], hI1, rfl, hJ1⟩
  case round =>
    rename_i wr
    obtain ⟨xs, ks, hI, hxk, hJr⟩ := hrel
    have HXK := Lib.hid hxk
    have hlen : ks.length = xs.length := by have := congrArg List.length hxk; simpa using this.symm
    have HLEN := Lib.hid hlen
    clear hxk hlen
    obtain ⟨_, c0, _, hitr, _⟩ := id hI
    have hleft := seenLeft_eq (n := l.length + 1) hitr
    have HLEFT := Lib.hid hleft
    clear hleft
    go_upto_region 1 with (fail)
    refine wp_region_seq [1, 3] (fun _ => True) (by rfl) (by rfl) trivial ?_
    simp only [List.zip_cons_cons, List.zip_nil_right]
    refine wpPi_do rfl (fun K hK => ?_)
    refine wp_nextM _ mb W.heap.size es clk xs (by rfl) (by rfl) hI hbo hbn (fun hp => ?_) (fun e w2 he hI2 hlt hm2 hs2 hit2 => ?_)
    · refine hK _ _ trivial ?_
      refine wpPi_any (v := .bool false) rfl (fun w' => ?_) ?_
      · go_simp
      refine wpPi_nil ?_
      go_wp2
      go_end0
      refine ⟨⟨_, rfl⟩, .inl ⟨ks, ?_, hJr⟩⟩
      refine perm_of_map (fun _ _ => keyV_inj) ?_
      rw [← HKEYS.out, List.map_map]
      show List.Perm (ks.map keyE) _
      rw [← HXK.out]
      exact hp.map _
    refine hK _ _ trivial ?_
    clear hK K
    try simp only [pl, pn, el, ec, sz, ss, gz, gs, if_true, if_false, Bool.false_eq_true, Bool.not_true, Bool.not_false, Nat.add_zero, Nat.zero_add, Nat.reduceAdd]
    refine wpPi_any (v := ?_) rfl (fun w' => ?_) ?_; rotate_left; · (go_simp; try with_reducible rfl)
    simp only [pl, pn, el, ec, sz, ss, gz, gs, if_true, if_false, Bool.false_eq_true, Bool.not_true, Bool.not_false, Nat.add_zero, Nat.zero_add, Nat.reduceAdd]
    refine wpPi_nil ?_
    have hJ2 : J ks w2 := hJ ks wr w2 (some W.heap.size) hJr hm2.grownAt (fun r e => by cases e; exact ⟨Nat.le_refl _, _, hitr, rfl⟩)
    obtain ⟨k, hkl, hek⟩ : ∃ k ∈ l.map (·.1), keyV k = e.key := List.mem_map.1 (by rw [← HKEYS.out]; exact List.mem_map.2 ⟨e, he, rfl⟩)
    have hkok : KeyOk k := by
      obtain ⟨p, hp, rfl⟩ := List.mem_map.1 hkl
      exact hok (p.1, linkV p.2) (List.mem_map.2 ⟨p, hp, rfl⟩)
    have HEK := Lib.hid hek
    have HSZ := Lib.hid hs2
    clear hek hs2 hitr hJr hI hm2
    go_upto_region 2 with (fail)
    refine wp_region_seq [1, 3, 1, 1] (fun _ => True) (by rfl) (by rfl) trivial ?_
    simp only [List.zip_cons_cons, List.zip_nil_right]
    refine wpPi_do rfl (fun K hK => ?_)
    refine wp_exec (v := .tuple #[keyV k, e.val]) ((exec_entryM _ mb W.heap.size es clk e _ (by rfl) (by rfl) hI2.1 hit2 he hbn).trans (by rw [HEK.out])) ?_
    refine hK _ _ trivial ?_
    clear hK K
    try simp only [pl, pn, el, ec, sz, ss, gz, gs, if_true, if_false, Bool.false_eq_true, Bool.not_true, Bool.not_false, Nat.add_zero, Nat.zero_add, Nat.reduceAdd]
    refine wpPi_any (v := ?_) rfl (fun w' => ?_) ?_; rotate_left; · (go_simp; try with_reducible rfl)
    simp only [pl, pn, el, ec, sz, ss, gz, gs, if_true, if_false, Bool.false_eq_true, Bool.not_true, Bool.not_false, Nat.add_zero, Nat.zero_add, Nat.reduceAdd]
    refine wpPi_do rfl (fun K hK => ?_)
    refine wp_alloc 67 _ (by rfl) keyZ (fun w3 hB3 hm3 hs3 => ?_)
    replace hB3 : w3.heap[w2.heap.size]? = some (.cells keyZero 67 (0, 0)) := hB3
    refine hK _ _ trivial ?_
    clear hK K
    try simp only [pl, pn, el, ec, sz, ss, gz, gs, if_true, if_false, Bool.false_eq_true, Bool.not_true, Bool.not_false, Nat.add_zero, Nat.zero_add, Nat.reduceAdd]
    refine wpPi_do rfl (fun K hK => ?_)
    refine wp_storeA 67 _ _ w2.heap.size 0 (keyCells k) (by rfl) (by rfl) (by rfl) (keyCells_one k) 33 (by kernel_rfl) (keyCells_size hkok) _ _ hB3 (by rw [keyCells_size hkok]; exact Nat.le_of_eq (by kernel_rfl)) (fun w4 hB4 hm4 => ?_)
    have hm24 : Mod NoB w2 w4 := hm3.transB hm4 (Nat.le_refl _)
    refine hK _ _ trivial ?_
    clear hK K
    try simp only [pl, pn, el, ec, sz, ss, gz, gs, if_true, if_false, Bool.false_eq_true, Bool.not_true, Bool.not_false, Nat.add_zero, Nat.zero_add, Nat.reduceAdd]
    refine wpPi_nil ?_
    rw [putRow_whole (by rw [keyCells_size hkok]; kernel_rfl)] at hB4
    have hI4 : IterAt w4 mb W.heap.size es clk (xs ++ [e]) := by
      obtain ⟨h1, c0, h2, h3, h4⟩ := hI2
      exact ⟨hm24.obj id h1, c0, h2, hm24.obj id h3, h4⟩
    have hJ4 : J ks w4 := hJ ks w2 w4 none hJ2 hm24.grownNone (fun r e => by cases e)
    have hca : CellsAt w4 w2.heap.size 0 (keyCells k) := CellsAt.whole hB4
    have hYk := hY ks ⟨k, hkok⟩ w4 hJ4 (by rw [HLEN.out, ← HSIZE.out]; exact hlt)
    clear hJ2 hB3 hm3 hs3 hm4 hit2 hI2 hJ4
    go_upto_region 3 with (fail)
    refine (wpIn_wide (n := n)).1 (wpIn_region_lit ?_)
    refine wpListIn_plain rfl fun K hK => wpIn_of_wp (fun c h => by cases h) ?_
    refine wp_exec (exec_move _ (by rfl)) ?_
    refine hK _ _ ?_
    clear hK K
    refine wpListIn_plain rfl fun K hK => wpIn_of_wp (fun c h => by cases h) ?_
    refine wp_exec (exec_loadA 67 _ (by rfl) w2.heap.size 0 (by rfl) (keyCells k) hca _ Tryz.underlying67 rfl 33 (by kernel_rfl) (keyCells_size hkok)) ?_
    refine hK _ _ ?_
    clear hK K
    refine wpListIn_plain rfl fun K hK => wpIn_yield (l := y) _ _ _ (by rfl) (by rfl) (keyV k) (by rfl) hYk (fun e' w5 he' => ?_)
    rcases he' with ⟨rfl, hJ5, hk5⟩ | ⟨rfl, hJx5⟩
    rotate_left
    · refine ⟨_, rfl, ?_⟩
      refine hK _ _ ?_
      clear hK K
      refine wpListIn_plain rfl fun K hK => wpIn_of_wp (fun c h => by cases h) ?_
      refine wp_exec (exec_not _ _ false (by rfl) (by rfl)) ?_
      refine hK _ _ ?_
      clear hK K
      simp only [pl, pn, el, ec, sz, ss, gz, gs, if_true, if_false, Bool.false_eq_true, Bool.not_true, Bool.not_false, Nat.add_zero, Nat.zero_add, Nat.reduceAdd]
      refine wpListIn_nil ?_
      go_wp2
      refine bodyPost_ret (results_none (by rfl) _ _ _) rfl ?_
      exact ⟨⟨_, rfl⟩, .inr ⟨_, trivial, hJx5⟩⟩
    refine ⟨_, rfl, ?_⟩
    refine hK _ _ ?_
    clear hK K
    refine wpListIn_plain rfl fun K hK => wpIn_of_wp (fun c h => by cases h) ?_
    refine wp_exec (exec_not _ _ true (by rfl) (by rfl)) ?_
    refine hK _ _ ?_
    clear hK K
    simp only [pl, pn, el, ec, sz, ss, gz, gs, if_true, if_false, Bool.false_eq_true, Bool.not_true, Bool.not_false, Nat.add_zero, Nat.zero_add, Nat.reduceAdd]
    refine wpListIn_nil ?_
    have hI5 : IterAt w5 mb W.heap.size es clk (xs ++ [e]) := by
      obtain ⟨h1, c0, h2, h3, h4⟩ := hI4
      exact ⟨hk5.same _ _ h1 rfl, c0, h2, hk5.same _ _ h3 rfl, h4⟩
    have hrk : (xs ++ [e]).map (·.key) = (ks ++ [(⟨k, hkok⟩ : KeyS)]).map keyE := by
      rw [List.map_append, List.map_append, HXK.out]; simp [keyE, HEK.out]
    obtain ⟨_, c5, _, hit5, _⟩ := id hI5
    have hleft5 := seenLeft_eq (n := l.length + 1) hit5
    have HL5 := Lib.hid hleft5
    have HRK := Lib.hid hrk
    clear hleft5 hrk hit5
    go_wp2
    go_roundw
    case rel => exact ⟨xs ++ [e], ks ++ [⟨k, hkok⟩], hI5, HRK.out, hJ5⟩
    case measure => rw [HL5.out, HLEFT.out]; have := HSIZE.out; simp; omega
end Go.Proofs.YtcfcahflkhgapaaGreat
