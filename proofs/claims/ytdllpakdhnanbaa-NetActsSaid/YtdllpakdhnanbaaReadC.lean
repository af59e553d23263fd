/- Arguments, read: calls ([]Act); and which calls are not long. -/
import Derived.Test.YtdllpakdhnanbaaReadB
import Derived.Test.YtdllpakdhnanbaaLong
import Derived.Test.YtdllpakdhnanbaaListA
namespace Go.Proofs.Ytdllpakdhnanbaa
set_option linter.unusedSimpArgs false
set_option linter.unusedVariables false
set_option linter.unnecessarySimpa false
open Go.ChangeShapes Go.WideShapes Go.ChangeAt Go.RowKit

structure Actn where
  kind : Int
  a : Int
  b : Int
  l : Ltr

/-- The cells of a call: three numbers, and a letter. -/
def ActR (w : World) (G : Nat → Prop) (cs : Array Value) (x : Actn) : Prop :=
  ∃ ls, cs = #[.int .i64 x.kind, .int .i64 x.a, .int .i64 x.b] ++ ls ∧ LetR false w G G ls x.l

theorem ActR.keep0 {w w' : World} {G : Nat → Prop} {cs : Array Value} {x : Actn} (h : ActR w G cs x) (hm : Mod NoB w w') : ActR w' G cs x := by
  obtain ⟨ls, h1, h2⟩ := h
  exact ⟨ls, h1, h2.keep0 hm⟩
structure ActCells (w : World) (G : Nat → Prop) (cs : Array Value) (x : Actn) (ls : Array Value) : Prop where
  size : cs.size = 43
  c0 : cs[0]? = some (.int .i64 x.kind)
  c1 : cs[1]? = some (.int .i64 x.a)
  c2 : cs[2]? = some (.int .i64 x.b)
  let' : cs.extract 3 43 = ls
  isL : LetR false w G G ls x.l
  one : ∀ c ∈ cs, c.oneCell' = true
theorem ActR.cells {w : World} {G : Nat → Prop} {cs : Array Value} {x : Actn} (h : ActR w G cs x) : ∃ ls, ActCells w G cs x ls := by
  obtain ⟨ls, rfl, h⟩ := h
  have hs := h.size
  refine ⟨ls, by simp [hs], by rw [Array.getElem?_append_left (by show _ < 3; omega)]; rfl, by rw [Array.getElem?_append_left (by show _ < 3; omega)]; rfl, by rw [Array.getElem?_append_left (by show _ < 3; omega)]; rfl, ?_, h, fun c hc => ?_⟩
  · apply Array.toList_inj.1
    simp [List.extract_eq_take_drop]
    exact List.take_of_length_le (by simp [hs])
  · simp only [Array.mem_append] at hc
    rcases hc with hc | hc
    · simp at hc
      rcases hc with rfl | rfl | rfl <;> rfl
    · exact h.one c hc
theorem SlAct.keep0 {w w' : World} {E G : Nat → Prop} {v : Value} {l : List Actn} (h : Sl false w E 43 (ActR w G) v l) (hm : Mod NoB w w') : Sl false w' E 43 (ActR w' G) v l := h.keep hm (fun _ _ => id) (fun _ _ h => h.keep0 hm)

section
variable {H : Type} {enc : TypeId × Value → H} {W : World} {sp : Nat → Bool} {held : Bool} {fuel : Nat} {cs : List Value} {x : DataW H × List MemPlace}
set_option maxRecDepth 10000 in
theorem read_act (h : DataW.trod enc Try.prog W 0 sp held fuel 60 cs = some x) : ∃ a, ActR W (fun k => k < W.heap.size) cs.toArray a := by
  obtain ⟨hl, hf⟩ := field_of_trod Try.underlying60 h
  have c3 : Try.prog.cellsOf 3 = 1 := by kernel_rfl
  have c38 : Try.prog.cellsOf 38 = 40 := by kernel_rfl
  have hc : Try.prog.cellsOf 60 = 43 := by kernel_rfl
  obtain ⟨_, _, h0⟩ : ∃ n y, DataW.trod enc Try.prog W 0 sp held n 3 ((cs.drop 0).take (Try.prog.cellsOf 3)) = some y := hf 0 _ rfl
  obtain ⟨_, _, h1⟩ : ∃ n y, DataW.trod enc Try.prog W 0 sp held n 3 ((cs.drop 1).take (Try.prog.cellsOf 3)) = some y := hf 1 _ rfl
  obtain ⟨_, _, h2⟩ : ∃ n y, DataW.trod enc Try.prog W 0 sp held n 3 ((cs.drop 2).take (Try.prog.cellsOf 3)) = some y := hf 2 _ rfl
  obtain ⟨_, _, h3⟩ : ∃ n y, DataW.trod enc Try.prog W 0 sp held n 38 ((cs.drop 3).take (Try.prog.cellsOf 38)) = some y := hf 3 _ rfl
  obtain ⟨k, e0, _⟩ := DataW.trod_int Try.underlying3 h0
  obtain ⟨a, e1, _⟩ := DataW.trod_int Try.underlying3 h1
  obtain ⟨b, e2, _⟩ := DataW.trod_int Try.underlying3 h2
  obtain ⟨l, e3⟩ := read_letter h3
  rw [hc] at hl
  rw [c3] at e0 e1 e2
  rw [c38] at e3
  refine ⟨⟨k, a, b, l⟩, ((cs.drop 3).take 40).toArray, ?_, e3⟩
  have := drop_step cs 0 1
  rw [e0, drop_step cs (0 + 1) 1, e1, drop_step cs (0 + 1 + 1) 1, e2, drop_step cs (0 + 1 + 1 + 1) 40, show 0 + 1 + 1 + 1 + 40 = 43 from rfl, List.drop_of_length_le (i := 43) (by omega), List.drop_zero] at this
  exact Array.toList_inj.1 (by simpa using this)
theorem read_acts (h : DataW.trod enc Try.prog W 0 sp held fuel 57 cs = some x) : ∃ v l, cs = [v] ∧ Sl false W (fun k => k < W.heap.size) 43 (ActR W (fun k => k < W.heap.size)) v l :=
  sl_of_trod Try.underlying57 (by kernel_rfl) (by decide) (fun _ _ _ h => read_act h) h
end

set_option maxRecDepth 10000 in
theorem open_acts {H : Type} {enc : TypeId × Value → H} {W W0 : World} {sp : Nat → Bool} {r : Reach} {b0 : Nat} {v : Value} {d : DataW H} {ps : List MemPlace} (hval : Value.okWide Try.prog W0 r b0 57 v) (h : DataW.Trod enc Try.prog W 0 sp true 57 v d ps) :
    ∃ l, Sl false W (fun k => k < W.heap.size) 43 (ActR W (fun k => k < W.heap.size)) v l := by
  obtain ⟨a0, n0, c0, rfl⟩ := okWide_slice Try.underlying57 hval
  obtain ⟨fuel, h⟩ := h
  obtain ⟨v, l, hv, hl⟩ := read_acts h
  have : Value.slice a0 n0 c0 = v := by simpa [Value.cells] using hv
  rw [this]
  exact ⟨l, hl⟩

/-! Which calls are not long. -/
def SmallActs (l : List Actn) : Prop := l.length ≤ 40 ∧ ∀ a ∈ l, LtrOk a.l
def LongActRel (w : World) (l : List Actn) (i : Value) (w' : World) : Prop :=
  ∃ k : Nat, k ≤ l.length ∧ k ≤ 41 ∧ i = .int .i64 k ∧ Mod NoB w w' ∧ ∀ j (h : j < l.length), j < k → LtrOk l[j].l

set_option maxRecDepth 10000 in
set_option maxHeartbeats 1000000 in
theorem longActs_any (E G : Nat → Prop) (v : Value) (l : List Actn) (w : World) (h : Sl false w E 43 (ActR w G) v l) : Calls Try.prog 29 #[v] w (LongR SmallActs l w) := by
  obtain ⟨av, cap, rfl, hlen, hat⟩ := h.at
  have HA := Lib.hid hat; clear hat
  go_enter Try.func29, Try.ntmps29
  go_wp2
  go_loopw [3] (LongActRel w l) (fun i _ => l.length - (intOf i).toNat)
  case atStart => exact ⟨0, by omega, by omega, rfl, Mod.refl _ _, fun j h hj => by omega⟩
  case round =>
    obtain ⟨k, hk, hk41, rfl, hM, hall⟩ := hrel
    rename_i wr
    by_cases hlt : k < l.length
    · by_cases hlt2 : k < 41
      · obtain ⟨b, off, rfl, -, -, hat⟩ := HA.out k hlt
        obtain ⟨cs, hcs, hR, hcells⟩ := hat k hlt
        obtain ⟨ls, hc⟩ := (hR.keep0 hM).cells
        have hcw := hcells.keep hM id
        have HS := Lib.hid hcs; clear hcs HA
        have hcl : CellsAt wr b (off + k * 43 + 3) ls := by rw [← hc.let']; exact hcw.part (by rw [hc.size]; omega)
        have hls := hc.isL
        have hsz := hls.size
        clear hcells hcw hR
        go_upto_region 4 with (fail)
        refine wp_region_seq [3, 3, 3, 3, 1, 1] (fun _ => True) (by rfl) (by rfl) trivial ?_
        simp only [List.zip_cons_cons, List.zip_nil_right]
        refine wpPi_move _ rfl rfl ?_
        simp only [pl, pn, el, ec, sz, ss, gz, gs, if_true, if_false, Bool.false_eq_true, Bool.not_true, Bool.not_false, Nat.add_zero, Nat.zero_add, Nat.reduceAdd]
        refine wpPi_move _ rfl rfl ?_
        simp only [pl, pn, el, ec, sz, ss, gz, gs, if_true, if_false, Bool.false_eq_true, Bool.not_true, Bool.not_false, Nat.add_zero, Nat.zero_add, Nat.reduceAdd]
        refine wpPi_index _ _ _ _ _ _ _ _ _ rfl rfl rfl rfl Try.underlying57 (n := 43) (by kernel_rfl) hlt ?_
        simp only [pl, pn, el, ec, sz, ss, gz, gs, if_true, if_false, Bool.false_eq_true, Bool.not_true, Bool.not_false, Nat.add_zero, Nat.zero_add, Nat.reduceAdd]
        refine wpPi_field _ _ _ _ _ _ rfl rfl rfl fo_60_3 ?_
        simp only [pl, pn, el, ec, sz, ss, gz, gs, if_true, if_false, Bool.false_eq_true, Bool.not_true, Bool.not_false, Nat.add_zero, Nat.zero_add, Nat.reduceAdd]
        refine wpPi_do rfl (fun K hK => ?_)
        refine wp_exec (exec_loadA 38 _ (by rfl) b (off + k * 43 + 3) (by rfl) _ hcl _ Try.underlying38 rfl 40 (by kernel_rfl) hsz) ?_
        refine hK _ _ trivial ?_
        clear hK K
        try simp only [pl, pn, el, ec, sz, ss, gz, gs, if_true, if_false, Bool.false_eq_true, Bool.not_true, Bool.not_false, Nat.add_zero, Nat.zero_add, Nat.reduceAdd]
        refine wpPi_do rfl (fun K hK => ?_)
        go_wp2_with (go_at_call 38; refine (longLetter_any false _ _ _ _ _ hls).mono ?_; rintro _ w1 ⟨t, rfl, hm1, hok⟩)
        have hM1 := hM.trans0 hm1
        refine hK _ _ trivial ?_
        clear hK K
        try simp only [pl, pn, el, ec, sz, ss, gz, gs, if_true, if_false, Bool.false_eq_true, Bool.not_true, Bool.not_false, Nat.add_zero, Nat.zero_add, Nat.reduceAdd]
        refine wpPi_nil ?_
        cases t
        · go_wp2
          go_roundw
          case rel =>
            refine ⟨k + 1, by omega, by omega, by go_num, hM1, fun j h hj => ?_⟩
            by_cases hjk : j = k
            · subst hjk; exact hok rfl
            · exact hall j h (by omega)
          case measure => simp [intOf]; omega
        · go_wp2
          go_ret
          exact ⟨true, rfl, hM1, fun h => by cases h⟩
      · have hk' : k = 41 := by omega
        have HK := Lib.hid hk'; clear hk'
        clear HA
        go_wp2
        go_ret
        exact ⟨_, rfl, hM, fun h => by have h1 := HK.out; simp at h; omega⟩
    · have hkl : k = l.length := by omega
      have HK := Lib.hid hkl; clear hkl
      clear HA
      go_wp2
      go_ret
      refine ⟨_, rfl, hM, fun h => ⟨by simp at h; omega, fun a ha => ?_⟩⟩
      obtain ⟨j, hj, rfl⟩ := List.getElem_of_mem ha
      exact hall j hj (by have h1 := HK.out; omega)

/-! Is a letter one of some? -/
def AmongRel (w : World) (l : List Ltr) (x : Ltr) (i : Value) (w' : World) : Prop :=
  ∃ k : Nat, k ≤ l.length ∧ i = .int .i64 k ∧ Mod NoB w w' ∧ ∀ y ∈ l.take k, y ≠ x

set_option maxRecDepth 10000 in
set_option maxHeartbeats 1000000 in
theorem among_any (o o' : Bool) (A E G E' G' : Nat → Prop) (v : Value) (l : List Ltr) (cb : Array Value) (x : Ltr) (w : World) (h : Sl o w A 40 (LetR o' w E G) v l) (hx : LetR false w E' G' cb x) :
    Calls Try.prog 39 #[v, .agg cb] w (RetM (.bool (decide (x ∈ l))) w) := by
  obtain ⟨av, cap, rfl, hlen, hat⟩ := h.at
  have HA := Lib.hid hat; clear hat
  obtain ⟨t, ht⟩ : ∃ t, t = decide (x ∈ l) := ⟨_, rfl⟩
  rw [← ht]
  have HT := Lib.hid ht; clear ht
  go_enter Try.func39, Try.ntmps39
  go_upto_region 0 with (fail)
  refine wp_region_seq [1, 3] (fun _ => True) (by rfl) (by rfl) trivial ?_
  simp only [List.zip_cons_cons, List.zip_nil_right]
  refine wpPi_do rfl (fun K hK => ?_)
  refine wp_box 38 _ _ (by rfl) (by rfl) (fun w1 hB0 hM hs1 => ?_)
  replace hB0 : w1.heap[w.heap.size]? = some (.cells cb 38 (0, 0)) := hB0
  refine hK _ _ trivial ?_
  clear hK K
  try simp only [pl, pn, el, ec, sz, ss, gz, gs, if_true, if_false, Bool.false_eq_true, Bool.not_true, Bool.not_false, Nat.add_zero, Nat.zero_add, Nat.reduceAdd]
  refine wpPi_assign _ rfl rfl ?_
  simp only [pl, pn, el, ec, sz, ss, gz, gs, if_true, if_false, Bool.false_eq_true, Bool.not_true, Bool.not_false, Nat.add_zero, Nat.zero_add, Nat.reduceAdd]
  refine wpPi_nil ?_
  have hb := CellsAt.whole hB0
  have hsz := hx.size
  go_wp2
  go_loopw [5] (AmongRel w1 l x) (fun i _ => l.length - (intOf i).toNat)
  case atStart => exact ⟨0, by omega, rfl, Mod.refl _ _, by simp⟩
  case round =>
    obtain ⟨k, hk, rfl, hM1, hall⟩ := hrel
    rename_i wr
    by_cases hlt : k < l.length
    · obtain ⟨b, off, rfl, -, -, hat⟩ := HA.out k hlt
      obtain ⟨cs, hcs, hR, hcells⟩ := hat k hlt
      have hMr := hM.trans0 hM1
      have HS := Lib.hid hcs; clear hcs HA
      go_upto_region 4 with (fail)
      have hS : Mod NoB wr wr.drew := (Mod.refl _ _).drew
      refine wp_region_pi [(0, 3), (1, 3), (2, 3), (3, 0), (4, 0), (5, 1)] [] (fun w' => Mod NoB wr w') (by kernel_rfl) (by kernel_rfl) (by kernel_rfl) (by kernel_rfl) (fun _ _ _ _ hd h => ⟨hd.trans h.1, h.2⟩) hS ?_
      simp only [List.map_cons, List.map_nil, List.getD_cons_zero, List.getD_cons_succ]
      refine wpPi_move _ rfl rfl ?_
      simp only [pl, pn, el, ec, sz, ss, gz, gs, if_true, if_false, Bool.false_eq_true, Bool.not_true, Bool.not_false, Nat.add_zero, Nat.zero_add, Nat.reduceAdd]
      refine wpPi_move _ rfl rfl ?_
      simp only [pl, pn, el, ec, sz, ss, gz, gs, if_true, if_false, Bool.false_eq_true, Bool.not_true, Bool.not_false, Nat.add_zero, Nat.zero_add, Nat.reduceAdd]
      refine wpPi_index _ _ _ _ _ _ _ _ _ rfl rfl rfl rfl Try.underlying43 (n := 40) (by kernel_rfl) hlt ?_
      simp only [pl, pn, el, ec, sz, ss, gz, gs, if_true, if_false, Bool.false_eq_true, Bool.not_true, Bool.not_false, Nat.add_zero, Nat.zero_add, Nat.reduceAdd]
      refine wpPi_val rfl (fun w' hS => exec_loadA _ _ rfl _ _ rfl _ (hcells.keep (hMr.trans0 hS) id) _ Try.underlying38 rfl 40 (by kernel_rfl) HS.out) ?_
      simp only [pl, pn, el, ec, sz, ss, gz, gs, if_true, if_false, Bool.false_eq_true, Bool.not_true, Bool.not_false, Nat.add_zero, Nat.zero_add, Nat.reduceAdd]
      refine wpPi_val rfl (fun w' hS => exec_loadA _ _ rfl _ _ rfl _ (hb.keep (hM1.trans0 hS) id) _ Try.underlying38 rfl 40 (by kernel_rfl) hsz) ?_
      simp only [pl, pn, el, ec, sz, ss, gz, gs, if_true, if_false, Bool.false_eq_true, Bool.not_true, Bool.not_false, Nat.add_zero, Nat.zero_add, Nat.reduceAdd]
      refine wpPi_do rfl (fun K hK => ?_)
      obtain ⟨c, hc⟩ : ∃ c, c = decide (l[k] = x) := ⟨_, rfl⟩
      have HC := Lib.hid hc; clear hc
      go_wp2_with (go_at_call 20; refine (sameLetter_any o' false _ _ _ _ _ _ _ _ _ (hR.keep0 (hMr.trans0 hS)) (hx.keep0 (hMr.trans0 hS))).mono ?_; rintro _ w2 ⟨rfl, hm2⟩; rw [← HC.out])
      have hM2 := hM1.trans0 (hS.trans0 hm2)
      refine hK _ _ (hS.trans0 hm2) ?_
      clear hK K
      try simp only [pl, pn, el, ec, sz, ss, gz, gs, if_true, if_false, Bool.false_eq_true, Bool.not_true, Bool.not_false, Nat.add_zero, Nat.zero_add, Nat.reduceAdd]
      refine wpPi_nil ?_
      cases c
      · go_wp2
        go_roundw
        case rel =>
          refine ⟨k + 1, by omega, by go_num, hM2, fun y hy => ?_⟩
          rw [List.take_succ_eq_append_getElem hlt] at hy
          rcases List.mem_append.1 hy with hy | hy
          · exact hall y hy
          · have e : y = l[k] := by simpa using hy
            rw [e]; exact of_decide_eq_false HC.out.symm
        case measure => simp [intOf]; omega
      · go_wp2
        go_ret
        refine ⟨ret_bool ?_, hM.trans0 hM2⟩
        rw [HT.out]
        have e := of_decide_eq_true HC.out.symm
        exact (decide_eq_true (e ▸ List.getElem_mem hlt)).symm
    · have hkl : k = l.length := by omega
      have HK := Lib.hid hkl; clear hkl
      clear HA
      go_wp2
      go_ret
      refine ⟨ret_bool ?_, hM.trans0 hM1⟩
      rw [HT.out]
      refine (decide_eq_false fun hx => ?_).symm
      rw [HK.out, List.take_length] at hall
      exact hall x hx rfl
end Go.Proofs.Ytdllpakdhnanbaa
