/- OverInts, OverBytes, OverIDs, OverEvents, OverLetters: they write over memory, and leave its shape. -/
import Derived.Test.YtdllpakdhnanbaaOverA
import Derived.Laws.BitsAllLaws
namespace Go.Proofs.Ytdllpakdhnanbaa
set_option linter.unusedSimpArgs false
set_option linter.unusedVariables false
set_option linter.unnecessarySimpa false
open Go.RowKit

def OverR (S : Nat → Prop) (w : World) (e : Ending) (w' : World) : Prop := e = .returned (.tuple #[]) ∧ KMod S w w'
def OverRel (S : Nat → Prop) (w : World) (n : Nat) (i : Value) (w' : World) : Prop := ∃ k : Nat, k ≤ n ∧ i = .int .i64 k ∧ KMod S w w'

/-- The i-th element of a slice, in its row. -/
theorem Sl.elem {S : Nat → Prop} {w : World} {sz n c : Nat} {Sh : Array Value → Prop} {a : Option Addr} {l : List Unit} (h : Sl true w S sz (fun cs _ => Sh cs) (.slice a n c) l) {i : Nat} (hi : i < l.length) :
    ∃ b off cur T cs, a = some ⟨b, off, none⟩ ∧ S b ∧ w.heap[b]? = some (.cells cur T (0, 0)) ∧ cs.size = sz ∧ Sh cs ∧ CellsAt w b (off + i * sz) cs ∧ (∀ j, j < cs.size → cur[off + i * sz + j]? = cs[j]?) ∧ off + i * sz + sz ≤ cur.size ∨ sz = 0 := by
  by_cases hsz : sz = 0
  · exact ⟨0, 0, #[], 0, #[], .inr hsz⟩
  obtain ⟨a', cap, hv, hl, hc, h⟩ := h
  cases hv
  obtain ⟨b, off, ha, hG, ho, h⟩ := h (by rintro rfl; simp at hi)
  obtain ⟨cur, T, hrow⟩ := ho rfl
  obtain ⟨cs, hs, hsh, hcells⟩ := h i hi
  have hcur : ∀ j, j < cs.size → cur[off + i * sz + j]? = cs[j]? := fun j hj => by
    have := hcells j (by omega)
    rwa [cell_of_row w b _ _ _ _ hrow] at this
  refine ⟨b, off, cur, T, cs, .inl ⟨ha, hG, hrow, hs, hsh, hcells, hcur, ?_⟩⟩
  have h1 := hcur (sz - 1) (by omega)
  rw [Array.getElem?_eq_getElem (by omega : sz - 1 < cs.size)] at h1
  rcases Nat.lt_or_ge (off + i * sz + (sz - 1)) cur.size with h2 | h2
  · omega
  · rw [Array.getElem?_eq_none h2] at h1; cases h1

set_option maxRecDepth 10000 in
set_option maxHeartbeats 800000 in
theorem overInts_any (S : Nat → Prop) (v : Value) (l : List Unit) (w : World) (h : Sl true w S 1 (fun cs _ => IntS cs) v l) : Calls Try.prog 59 #[v] w (OverR S w) := by
  obtain ⟨av, cap, rfl, hlen, -⟩ := h.at
  go_enter Try.func59, Try.ntmps59
  go_wp2
  go_loopw [2] (OverRel S w l.length) (fun i _ => l.length - (intOf i).toNat)
  case atStart => exact ⟨0, by omega, rfl, KMod.refl _ _⟩
  case round =>
    obtain ⟨k, hk, rfl, hM⟩ := hrel
    by_cases hlt : k < l.length
    · obtain ⟨b, off, cur, T, cs, ⟨rfl, hS, hrow, hcs, ⟨n, rfl⟩, -, hcur, hfit⟩ | hz⟩ := (h.kmod (by omega) hM IntS.like).elem hlt
      · have h0 := hcur 0 (by simp)
        go_upto_region 3 with (fail)
        refine wp_region_seq [3, 3, 3, 1] (fun _ => True) (by rfl) (by rfl) trivial ?_
        simp only [List.zip_cons_cons, List.zip_nil_right]
        refine wpPi_move _ rfl rfl ?_
        simp only [pl, pn, el, ec, sz, ss, gz, gs, if_true, if_false, Bool.false_eq_true, Bool.not_true, Bool.not_false, Nat.add_zero, Nat.zero_add, Nat.reduceAdd]
        refine wpPi_move _ rfl rfl ?_
        simp only [pl, pn, el, ec, sz, ss, gz, gs, if_true, if_false, Bool.false_eq_true, Bool.not_true, Bool.not_false, Nat.add_zero, Nat.zero_add, Nat.reduceAdd]
        refine wpPi_index _ _ _ _ _ _ _ _ _ rfl rfl rfl rfl Try.underlying30 (n := 1) (by kernel_rfl) hlt ?_
        simp only [pl, pn, el, ec, sz, ss, gz, gs, if_true, if_false, Bool.false_eq_true, Bool.not_true, Bool.not_false, Nat.add_zero, Nat.zero_add, Nat.reduceAdd]
        refine wpPi_do rfl (fun K hK => ?_)
        refine wp_store1 3 _ _ b (off + k * 1) (.int .i64 (-77)) (by rfl) (by rfl) (by rfl) rfl (by kernel_rfl) _ _ hrow (by omega) (fun w2 hb2 hm2 => ?_)
        have hM2 := hM.trans (KMod.row hS hrow hb2 (LikeA.set1 h0 (Like.int _ _)) hm2)
        refine hK _ _ trivial ?_
        clear hK K
        try simp only [pl, pn, el, ec, sz, ss, gz, gs, if_true, if_false, Bool.false_eq_true, Bool.not_true, Bool.not_false, Nat.add_zero, Nat.zero_add, Nat.reduceAdd]
        refine wpPi_nil ?_
        go_wp2
        go_roundw
        case rel => exact ⟨k + 1, by omega, by go_num, hM2⟩
        case measure => simp [intOf]; omega
      · exact absurd hz (by omega)
    · have hkl : k = l.length := by omega
      have HK := Lib.hid hkl; clear hkl
      go_wp2
      go_end0
      exact ⟨rfl, hM⟩

theorem exec_xor {w : World} {o : Oper} {a : Act} (x y : Operand) (yt : TypeId) (c : UInt8) (ho : o.op = .binOp .xor 5 x y yt) (hx : a.eval x = byteV c) (hy : a.eval y = .int .u8 165) : (execOp a.eval o).run Try.prog w = .ok (.value (byteV (c ^^^ 165))) w := by
  have hb := u8_xor_nat c.toNat 165 (UInt8.toNat_lt c) (by omega)
  unfold execOp
  unfold byteV at hx ⊢
  simp only [ho, hx, hy]
  go_simp
  exact hb

set_option maxRecDepth 10000 in
set_option maxHeartbeats 800000 in
theorem overBytes_any (S : Nat → Prop) (v : Value) (l : List Unit) (w : World) (h : Sl true w S 1 (fun cs _ => ByteS cs) v l) : Calls Try.prog 61 #[v] w (OverR S w) := by
  obtain ⟨av, cap, rfl, hlen, -⟩ := h.at
  go_enter Try.func61, Try.ntmps61
  go_wp2
  go_loopw [2] (OverRel S w l.length) (fun i _ => l.length - (intOf i).toNat)
  case atStart => exact ⟨0, by omega, rfl, KMod.refl _ _⟩
  case round =>
    obtain ⟨k, hk, rfl, hM⟩ := hrel
    by_cases hlt : k < l.length
    · obtain ⟨b, off, cur, T, cs, ⟨rfl, hS, hrow, hcs, ⟨n, rfl⟩, hcells, hcur, hfit⟩ | hz⟩ := (h.kmod (by omega) hM ByteS.like).elem hlt
      · have h0 := hcur 0 (by simp)
        have hc := CellsAt.one.1 hcells
        go_upto_region 3 with (fail)
        refine wp_region_seq [3, 3, 3, 3, 3, 1, 3, 3, 1] (fun _ => True) (by rfl) (by rfl) trivial ?_
        simp only [List.zip_cons_cons, List.zip_nil_right]
        refine wpPi_move _ rfl rfl ?_
        simp only [pl, pn, el, ec, sz, ss, gz, gs, if_true, if_false, Bool.false_eq_true, Bool.not_true, Bool.not_false, Nat.add_zero, Nat.zero_add, Nat.reduceAdd]
        refine wpPi_move _ rfl rfl ?_
        simp only [pl, pn, el, ec, sz, ss, gz, gs, if_true, if_false, Bool.false_eq_true, Bool.not_true, Bool.not_false, Nat.add_zero, Nat.zero_add, Nat.reduceAdd]
        refine wpPi_move _ rfl rfl ?_
        simp only [pl, pn, el, ec, sz, ss, gz, gs, if_true, if_false, Bool.false_eq_true, Bool.not_true, Bool.not_false, Nat.add_zero, Nat.zero_add, Nat.reduceAdd]
        refine wpPi_move _ rfl rfl ?_
        simp only [pl, pn, el, ec, sz, ss, gz, gs, if_true, if_false, Bool.false_eq_true, Bool.not_true, Bool.not_false, Nat.add_zero, Nat.zero_add, Nat.reduceAdd]
        refine wpPi_index _ _ _ _ _ _ _ _ _ rfl rfl rfl rfl Try.underlying36 (n := 1) (by kernel_rfl) hlt ?_
        simp only [pl, pn, el, ec, sz, ss, gz, gs, if_true, if_false, Bool.false_eq_true, Bool.not_true, Bool.not_false, Nat.add_zero, Nat.zero_add, Nat.reduceAdd]
        refine wpPi_do rfl (fun K hK => ?_)
        refine wp_exec (exec_load1 5 _ (by rfl) b (off + k * 1) (by rfl) _ hc _ Try.underlying5 rfl) ?_
        refine hK _ _ trivial ?_
        clear hK K
        try simp only [pl, pn, el, ec, sz, ss, gz, gs, if_true, if_false, Bool.false_eq_true, Bool.not_true, Bool.not_false, Nat.add_zero, Nat.zero_add, Nat.reduceAdd]
        refine wpPi_any rfl (fun w' => exec_xor _ _ _ n rfl rfl rfl) ?_
        simp only [pl, pn, el, ec, sz, ss, gz, gs, if_true, if_false, Bool.false_eq_true, Bool.not_true, Bool.not_false, Nat.add_zero, Nat.zero_add, Nat.reduceAdd]
        refine wpPi_index _ _ _ _ _ _ _ _ _ rfl rfl rfl rfl Try.underlying36 (n := 1) (by kernel_rfl) hlt ?_
        simp only [pl, pn, el, ec, sz, ss, gz, gs, if_true, if_false, Bool.false_eq_true, Bool.not_true, Bool.not_false, Nat.add_zero, Nat.zero_add, Nat.reduceAdd]
        refine wpPi_do rfl (fun K hK => ?_)
        refine wp_store1 5 _ _ b (off + k * 1) (byteV (n ^^^ 165)) (by rfl) (by rfl) (by rfl) rfl (by kernel_rfl) _ _ hrow (by omega) (fun w2 hb2 hm2 => ?_)
        have hM2 := hM.trans (KMod.row hS hrow hb2 (LikeA.set1 h0 (Like.byte _ _)) hm2)
        refine hK _ _ trivial ?_
        clear hK K
        try simp only [pl, pn, el, ec, sz, ss, gz, gs, if_true, if_false, Bool.false_eq_true, Bool.not_true, Bool.not_false, Nat.add_zero, Nat.zero_add, Nat.reduceAdd]
        refine wpPi_nil ?_
        go_wp2
        go_roundw
        case rel => exact ⟨k + 1, by omega, by go_num, hM2⟩
        case measure => simp [intOf]; omega
      · exact absurd hz (by omega)
    · have hkl : k = l.length := by omega
      have HK := Lib.hid hkl; clear hkl
      go_wp2
      go_end0
      exact ⟨rfl, hM⟩

def overId : List UInt8 := [1, 2, 3] ++ List.replicate 29 0
theorem exec_build_id {w : World} {o : Oper} {act : Act} (ho : o.op = .build 35 #[(0, .const (.int .u8 1)), (1, .const (.int .u8 2)), (2, .const (.int .u8 3))]) : (execOp act.eval o).run Try.prog w = .ok (.value (.agg (idCells overId))) w := by
  unfold execOp
  simp only [ho]
  have h := run_build (P := Try.prog) w 35 #[(0, .int .u8 1), (1, .int .u8 2), (2, .int .u8 3)] (idCells overId) (by kernel_rfl)
  have e : (Array.map (fun (x : Nat × Operand) => (x.1, act.eval x.2)) #[(0, .const (.int .u8 1)), (1, .const (.int .u8 2)), (2, .const (.int .u8 3))]) = #[(0, .int .u8 1), (1, .int .u8 2), (2, .int .u8 3)] := by
    have hc : ∀ n, act.eval (.const (.int .u8 n)) = .int .u8 n := fun _ => rfl
    simp only [List.map_toArray, List.map_cons, List.map_nil, hc]
  simp only [e, Sem.run_bind, h, Result.andThen_ok, Sem.run_pure]
theorem overId_kinds : KindsS idK (idCells overId) := idS_of _ overId ⟨rfl, by decide⟩
theorem kinds_one {ks : List Kd} {cs : Array Value} (h : KindsS ks cs) : ∀ c ∈ cs, c.oneCell' = true := fun c hc => by
  obtain ⟨j, hj, rfl⟩ := Array.getElem_of_mem hc
  have hs := h.1
  obtain ⟨v, h1, h2⟩ := h.2 j _ (List.getElem?_eq_getElem (show j < ks.length by omega))
  rw [Array.getElem?_eq_getElem hj] at h1
  cases h1
  generalize ks[j] = kk at h2
  cases kk with
  | i => obtain ⟨n, hn⟩ := h2; rw [hn]; rfl
  | b => obtain ⟨n, hn⟩ := h2; rw [hn]; rfl
  | s => obtain ⟨n, hn⟩ := h2; rw [hn]; rfl
  | l => obtain ⟨a, n, c, hn⟩ := h2; rw [hn]; rfl

set_option maxRecDepth 10000 in
set_option maxHeartbeats 800000 in
theorem overIDs_any (S : Nat → Prop) (v : Value) (l : List Unit) (w : World) (h : Sl true w S 32 (fun cs _ => KindsS idK cs) v l) : Calls Try.prog 70 #[v] w (OverR S w) := by
  obtain ⟨av, cap, rfl, hlen, -⟩ := h.at
  have hn : ∀ j : Nat, idK[j]? = some .l → (idCells overId)[j]? = some (.slice none 0 0) := fun j hj => by
    rw [idK, List.getElem?_replicate] at hj
    split at hj <;> cases hj
  go_enter Try.func70, Try.ntmps70
  go_wp2
  go_loopw [2] (OverRel S w l.length) (fun i _ => l.length - (intOf i).toNat)
  case atStart => exact ⟨0, by omega, rfl, KMod.refl _ _⟩
  case round =>
    obtain ⟨k, hk, rfl, hM⟩ := hrel
    by_cases hlt : k < l.length
    · obtain ⟨b, off, cur, T, cs, ⟨rfl, hS, hrow, hcs, hsh, -, hcur, hfit⟩ | hz⟩ := (h.kmod (by omega) hM KindsS.like).elem hlt
      · have hsz : (idCells overId).size = 32 := overId_kinds.1
        have hla := likeA_zero hsh overId_kinds hn
        obtain ⟨ov, hov⟩ : ∃ t, t = idCells overId := ⟨_, rfl⟩
        have hone := kinds_one overId_kinds
        rw [← hov] at hsz hla hone
        have HOV := Lib.hid hov; clear hov hn
        go_upto_region 3 with (fail)
        refine wp_region_seq [3, 3, 1, 3, 1] (fun _ => True) (by rfl) (by rfl) trivial ?_
        simp only [List.zip_cons_cons, List.zip_nil_right]
        refine wpPi_move _ rfl rfl ?_
        simp only [pl, pn, el, ec, sz, ss, gz, gs, if_true, if_false, Bool.false_eq_true, Bool.not_true, Bool.not_false, Nat.add_zero, Nat.zero_add, Nat.reduceAdd]
        refine wpPi_move _ rfl rfl ?_
        simp only [pl, pn, el, ec, sz, ss, gz, gs, if_true, if_false, Bool.false_eq_true, Bool.not_true, Bool.not_false, Nat.add_zero, Nat.zero_add, Nat.reduceAdd]
        refine wpPi_do rfl (fun K hK => ?_)
        refine wp_exec (v := .agg ov) (by rw [HOV.out]; exact exec_build_id (by rfl)) ?_
        refine hK _ _ trivial ?_
        clear hK K
        try simp only [pl, pn, el, ec, sz, ss, gz, gs, if_true, if_false, Bool.false_eq_true, Bool.not_true, Bool.not_false, Nat.add_zero, Nat.zero_add, Nat.reduceAdd]
        refine wpPi_index _ _ _ _ _ _ _ _ _ rfl rfl rfl rfl Try.underlying102 (n := 32) (by kernel_rfl) hlt ?_
        simp only [pl, pn, el, ec, sz, ss, gz, gs, if_true, if_false, Bool.false_eq_true, Bool.not_true, Bool.not_false, Nat.add_zero, Nat.zero_add, Nat.reduceAdd]
        refine wpPi_do rfl (fun K hK => ?_)
        refine wp_storeA 35 _ _ b (off + k * 32) ov (by rfl) (by rfl) (by rfl) hone 32 (by kernel_rfl) hsz _ _ hrow (by omega) (fun w2 hb2 hm2 => ?_)
        have hM2 := hM.trans (KMod.row hS hrow hb2 (LikeA.put (by omega) hcur hla) hm2)
        refine hK _ _ trivial ?_
        clear hK K
        try simp only [pl, pn, el, ec, sz, ss, gz, gs, if_true, if_false, Bool.false_eq_true, Bool.not_true, Bool.not_false, Nat.add_zero, Nat.zero_add, Nat.reduceAdd]
        refine wpPi_nil ?_
        go_wp2
        go_roundw
        case rel => exact ⟨k + 1, by omega, by go_num, hM2⟩
        case measure => simp [intOf]; omega
      · exact absurd hz (by omega)
    · have hkl : k = l.length := by omega
      have HK := Lib.hid hkl; clear hkl hn
      go_wp2
      go_end0
      exact ⟨rfl, hM⟩

def overEv : Evt := ⟨0, 0, [], -7, ByteArray.empty, ByteArray.empty, List.replicate 32 0, []⟩
def overEvC : Array Value := evCells overEv (.slice none 0 0) (.slice none 0 0)
theorem exec_build_ev {w : World} {o : Oper} {act : Act} (ho : o.op = .build 104 #[(2, .const (.int .i64 (-7)))]) : (execOp act.eval o).run Try.prog w = .ok (.value (.agg overEvC)) w := by
  unfold execOp
  simp only [ho]
  have h := run_build (P := Try.prog) w 104 #[(2, .int .i64 (-7))] overEvC (by kernel_rfl)
  have e : (Array.map (fun (x : Nat × Operand) => (x.1, act.eval x.2)) #[(2, .const (.int .i64 (-7)))]) = #[(2, .int .i64 (-7))] := by
    have hc : ∀ n, act.eval (.const (.int .i64 n)) = .int .i64 n := fun _ => rfl
    simp only [List.map_toArray, List.map_cons, List.map_nil, hc]
  simp only [e, Sem.run_bind, h, Result.andThen_ok, Sem.run_pure]
theorem overEv_kinds : KindsS evK overEvC := (evS_of (w := default) (G := NoB) (S := NoB) (fun _ h => h) overEvC overEv ⟨_, _, rfl, by simp [overEv], Sl.nil _ _ _ _ _, Sl.nil _ _ _ _ _, by decide, by decide⟩).kinds
theorem overEv_nil : ∀ j : Nat, evK[j]? = some .l → overEvC[j]? = some (.slice none 0 0) := fun j hj => by
  have hlt : j < 39 := by
    rcases Nat.lt_or_ge j 39 with h | h
    · exact h
    · rw [List.getElem?_eq_none (by simpa [evK, idK] using h)] at hj; cases hj
  have key : ∀ i : Fin 39, evK[i.1]? = some .l → i.1 = 2 ∨ i.1 = 38 := by decide
  have c := evCells_spec overEv (.slice none 0 0) (.slice none 0 0) (by simp [overEv])
  rcases key ⟨j, hlt⟩ hj with e | e <;> simp only at e <;> subst e
  · exact c.c2
  · exact c.c38

set_option maxRecDepth 10000 in
set_option maxHeartbeats 2000000 in
theorem overEvents_any (S : Nat → Prop) (v : Value) (l : List Unit) (w : World) (h : Sl true w S 39 (fun cs _ => EvS w S cs) v l) : Calls Try.prog 60 #[v] w (OverR S w) := by
  obtain ⟨av, cap, rfl, hlen, -⟩ := h.at
  go_enter Try.func60, Try.ntmps60
  go_wp2
  go_loopw [2] (OverRel S w l.length) (fun i _ => l.length - (intOf i).toNat)
  case atStart => exact ⟨0, by omega, rfl, KMod.refl _ _⟩
  case round =>
    obtain ⟨k, hk, rfl, hM⟩ := hrel
    by_cases hlt : k < l.length
    · obtain ⟨b, off, cur, T, cs, ⟨rfl, -, -, -, hsh, hcells, -, -⟩ | hz⟩ := (h.kmod (by omega) hM (EvS.kmod hM)).elem hlt
      · obtain ⟨dv, dl, hd0, hd⟩ := hsh.deps
        have hdc := hcells.cell hd0
        clear hsh hcells hd0
        go_upto_region 3 with (fail)
        refine wp_region_seq [3, 3, 3, 3, 1, 1] (fun _ => True) (by rfl) (by rfl) trivial ?_
        simp only [List.zip_cons_cons, List.zip_nil_right]
        refine wpPi_move _ rfl rfl ?_
        simp only [pl, pn, el, ec, sz, ss, gz, gs, if_true, if_false, Bool.false_eq_true, Bool.not_true, Bool.not_false, Nat.add_zero, Nat.zero_add, Nat.reduceAdd]
        refine wpPi_move _ rfl rfl ?_
        simp only [pl, pn, el, ec, sz, ss, gz, gs, if_true, if_false, Bool.false_eq_true, Bool.not_true, Bool.not_false, Nat.add_zero, Nat.zero_add, Nat.reduceAdd]
        refine wpPi_index _ _ _ _ _ _ _ _ _ rfl rfl rfl rfl Try.underlying31 (n := 39) (by kernel_rfl) hlt ?_
        simp only [pl, pn, el, ec, sz, ss, gz, gs, if_true, if_false, Bool.false_eq_true, Bool.not_true, Bool.not_false, Nat.add_zero, Nat.zero_add, Nat.reduceAdd]
        refine wpPi_field _ _ _ _ _ _ rfl rfl rfl fo_104_1 ?_
        simp only [pl, pn, el, ec, sz, ss, gz, gs, if_true, if_false, Bool.false_eq_true, Bool.not_true, Bool.not_false, Nat.add_zero, Nat.zero_add, Nat.reduceAdd]
        refine wpPi_do rfl (fun K hK => ?_)
        refine wp_exec (exec_load1 30 _ (by rfl) b (off + k * 39 + 2) (by rfl) _ hdc _ Try.underlying30 rfl) ?_
        refine hK _ _ trivial ?_
        clear hK K
        try simp only [pl, pn, el, ec, sz, ss, gz, gs, if_true, if_false, Bool.false_eq_true, Bool.not_true, Bool.not_false, Nat.add_zero, Nat.zero_add, Nat.reduceAdd]
        refine wpPi_do rfl (fun K hK => ?_)
        go_wp2_with (go_at_call 59; refine (overInts_any S dv dl wr hd).mono ?_; rintro _ w2 ⟨rfl, hm2⟩)
        replace hM := hM.trans hm2
        refine hK _ _ trivial ?_
        clear hK K
        try simp only [pl, pn, el, ec, sz, ss, gz, gs, if_true, if_false, Bool.false_eq_true, Bool.not_true, Bool.not_false, Nat.add_zero, Nat.zero_add, Nat.reduceAdd]
        refine wpPi_nil ?_
        clear hd hdc
        obtain ⟨b2, off2, cur2, T2, cs2, ⟨e2, -, -, -, hsh, hcells, -, -⟩ | hz⟩ := (h.kmod (by omega) hM (EvS.kmod hM)).elem hlt
        · cases e2
          obtain ⟨dv, dl, hd0, hd⟩ := hsh.refs
          have hdc := hcells.cell hd0
          clear hsh hcells hd0
          go_upto_region 4 with (fail)
          refine wp_region_seq [3, 3, 3, 3, 1, 1] (fun _ => True) (by rfl) (by rfl) trivial ?_
          simp only [List.zip_cons_cons, List.zip_nil_right]
          refine wpPi_move _ rfl rfl ?_
          simp only [pl, pn, el, ec, sz, ss, gz, gs, if_true, if_false, Bool.false_eq_true, Bool.not_true, Bool.not_false, Nat.add_zero, Nat.zero_add, Nat.reduceAdd]
          refine wpPi_move _ rfl rfl ?_
          simp only [pl, pn, el, ec, sz, ss, gz, gs, if_true, if_false, Bool.false_eq_true, Bool.not_true, Bool.not_false, Nat.add_zero, Nat.zero_add, Nat.reduceAdd]
          refine wpPi_index _ _ _ _ _ _ _ _ _ rfl rfl rfl rfl Try.underlying31 (n := 39) (by kernel_rfl) hlt ?_
          simp only [pl, pn, el, ec, sz, ss, gz, gs, if_true, if_false, Bool.false_eq_true, Bool.not_true, Bool.not_false, Nat.add_zero, Nat.zero_add, Nat.reduceAdd]
          refine wpPi_field _ _ _ _ _ _ rfl rfl rfl fo_104_6 ?_
          simp only [pl, pn, el, ec, sz, ss, gz, gs, if_true, if_false, Bool.false_eq_true, Bool.not_true, Bool.not_false, Nat.add_zero, Nat.zero_add, Nat.reduceAdd]
          refine wpPi_do rfl (fun K hK => ?_)
          refine wp_exec (exec_load1 102 _ (by rfl) b (off + k * 39 + 38) (by rfl) _ hdc _ Try.underlying102 rfl) ?_
          refine hK _ _ trivial ?_
          clear hK K
          try simp only [pl, pn, el, ec, sz, ss, gz, gs, if_true, if_false, Bool.false_eq_true, Bool.not_true, Bool.not_false, Nat.add_zero, Nat.zero_add, Nat.reduceAdd]
          refine wpPi_do rfl (fun K hK => ?_)
          go_wp2_with (go_at_call 70; refine (overIDs_any S dv dl w2 hd).mono ?_; rintro _ w3 ⟨rfl, hm3⟩)
          replace hM := hM.trans hm3
          refine hK _ _ trivial ?_
          clear hK K
          try simp only [pl, pn, el, ec, sz, ss, gz, gs, if_true, if_false, Bool.false_eq_true, Bool.not_true, Bool.not_false, Nat.add_zero, Nat.zero_add, Nat.reduceAdd]
          refine wpPi_nil ?_
          clear hd hdc
          obtain ⟨b3, off3, cur3, T3, cs3, ⟨e3, hS, hrow, hcs, hsh, -, hcur, hfit⟩ | hz⟩ := (h.kmod (by omega) hM (EvS.kmod hM)).elem hlt
          · cases e3
            have hsz : overEvC.size = 39 := overEv_kinds.1
            have hla := likeA_zero hsh.kinds overEv_kinds overEv_nil
            have hone := kinds_one overEv_kinds
            obtain ⟨ov, hov⟩ : ∃ t, t = overEvC := ⟨_, rfl⟩
            rw [← hov] at hsz hla hone
            have HOV := Lib.hid hov; clear hov
            go_upto_region 5 with (fail)
            refine wp_region_seq [3, 3, 1, 3, 1] (fun _ => True) (by rfl) (by rfl) trivial ?_
            simp only [List.zip_cons_cons, List.zip_nil_right]
            refine wpPi_move _ rfl rfl ?_
            simp only [pl, pn, el, ec, sz, ss, gz, gs, if_true, if_false, Bool.false_eq_true, Bool.not_true, Bool.not_false, Nat.add_zero, Nat.zero_add, Nat.reduceAdd]
            refine wpPi_move _ rfl rfl ?_
            simp only [pl, pn, el, ec, sz, ss, gz, gs, if_true, if_false, Bool.false_eq_true, Bool.not_true, Bool.not_false, Nat.add_zero, Nat.zero_add, Nat.reduceAdd]
            refine wpPi_do rfl (fun K hK => ?_)
            refine wp_exec (v := .agg ov) (by rw [HOV.out]; exact exec_build_ev (by rfl)) ?_
            refine hK _ _ trivial ?_
            clear hK K
            try simp only [pl, pn, el, ec, sz, ss, gz, gs, if_true, if_false, Bool.false_eq_true, Bool.not_true, Bool.not_false, Nat.add_zero, Nat.zero_add, Nat.reduceAdd]
            refine wpPi_index _ _ _ _ _ _ _ _ _ rfl rfl rfl rfl Try.underlying31 (n := 39) (by kernel_rfl) hlt ?_
            simp only [pl, pn, el, ec, sz, ss, gz, gs, if_true, if_false, Bool.false_eq_true, Bool.not_true, Bool.not_false, Nat.add_zero, Nat.zero_add, Nat.reduceAdd]
            refine wpPi_do rfl (fun K hK => ?_)
            refine wp_storeA 104 _ _ b (off + k * 39) ov (by rfl) (by rfl) (by rfl) hone 39 (by kernel_rfl) hsz _ _ hrow (by omega) (fun w4 hb4 hm4 => ?_)
            replace hM := hM.trans (KMod.row hS hrow hb4 (LikeA.put (by omega) hcur hla) hm4)
            refine hK _ _ trivial ?_
            clear hK K
            try simp only [pl, pn, el, ec, sz, ss, gz, gs, if_true, if_false, Bool.false_eq_true, Bool.not_true, Bool.not_false, Nat.add_zero, Nat.zero_add, Nat.reduceAdd]
            refine wpPi_nil ?_
            go_wp2
            go_roundw
            case rel => exact ⟨k + 1, by omega, by go_num, hM⟩
            case measure => simp [intOf]; omega
          · exact absurd hz (by omega)
        · exact absurd hz (by omega)
      · exact absurd hz (by omega)
    · have hkl : k = l.length := by omega
      have HK := Lib.hid hkl; clear hkl
      go_wp2
      go_end0
      exact ⟨rfl, hM⟩

def overLt : Ltr := ⟨-7, 0, 0, [], [], 0, 0, List.replicate 32 0, []⟩
def overLtC : Array Value := ltrCells overLt (.slice none 0 0) (.slice none 0 0) (.slice none 0 0)
theorem exec_build_lt {w : World} {o : Oper} {act : Act} (ho : o.op = .build 38 #[(0, .const (.int .i64 (-7)))]) : (execOp act.eval o).run Try.prog w = .ok (.value (.agg overLtC)) w := by
  unfold execOp
  simp only [ho]
  have h := run_build (P := Try.prog) w 38 #[(0, .int .i64 (-7))] overLtC (by kernel_rfl)
  have e : (Array.map (fun (x : Nat × Operand) => (x.1, act.eval x.2)) #[(0, .const (.int .i64 (-7)))]) = #[(0, .int .i64 (-7))] := by
    have hc : ∀ n, act.eval (.const (.int .i64 n)) = .int .i64 n := fun _ => rfl
    simp only [List.map_toArray, List.map_cons, List.map_nil, hc]
  simp only [e, Sem.run_bind, h, Result.andThen_ok, Sem.run_pure]
theorem overLt_kinds : KindsS letK overLtC := (letS_of (w := default) (E := NoB) (G := NoB) (S := NoB) (fun _ h => h) (fun _ h => h) overLtC overLt ⟨_, _, _, rfl, by simp [overLt], Sl.nil _ _ _ _ _, Sl.nil _ _ _ _ _, Sl.nil _ _ _ _ _⟩).kinds
theorem overLt_nil : ∀ j : Nat, letK[j]? = some .l → overLtC[j]? = some (.slice none 0 0) := fun j hj => by
  have hlt : j < 40 := by
    rcases Nat.lt_or_ge j 40 with h | h
    · exact h
    · rw [List.getElem?_eq_none (by simpa [letK, idK] using h)] at hj; cases hj
  have key : ∀ i : Fin 40, letK[i.1]? = some .l → i.1 = 3 ∨ i.1 = 4 ∨ i.1 = 39 := by decide
  have c := ltrCells_spec overLt (.slice none 0 0) (.slice none 0 0) (.slice none 0 0) (by simp [overLt])
  rcases key ⟨j, hlt⟩ hj with e | e | e <;> simp only at e <;> subst e
  · exact c.c3
  · exact c.c4
  · exact c.c39

set_option maxRecDepth 10000 in
set_option maxHeartbeats 2000000 in
theorem overLetters_any (S : Nat → Prop) (v : Value) (l : List Unit) (w : World) (h : Sl true w S 40 (fun cs _ => LetS w S cs) v l) : Calls Try.prog 31 #[v] w (OverR S w) := by
  obtain ⟨av, cap, rfl, hlen, -⟩ := h.at
  go_enter Try.func31, Try.ntmps31
  go_wp2
  go_loopw [2] (OverRel S w l.length) (fun i _ => l.length - (intOf i).toNat)
  case atStart => exact ⟨0, by omega, rfl, KMod.refl _ _⟩
  case round =>
    obtain ⟨k, hk, rfl, hM⟩ := hrel
    by_cases hlt : k < l.length
    · obtain ⟨b, off, cur, T, cs, ⟨rfl, -, -, -, hsh, hcells, -, -⟩ | hz⟩ := (h.kmod (by omega) hM (LetS.kmod hM)).elem hlt
      · obtain ⟨dv, dl, hd0, hd⟩ := hsh.seen
        have hdc := hcells.cell hd0
        clear hsh hcells hd0
        go_upto_region 3 with (fail)
        refine wp_region_seq [3, 3, 3, 3, 1, 1] (fun _ => True) (by rfl) (by rfl) trivial ?_
        simp only [List.zip_cons_cons, List.zip_nil_right]
        refine wpPi_move _ rfl rfl ?_
        simp only [pl, pn, el, ec, sz, ss, gz, gs, if_true, if_false, Bool.false_eq_true, Bool.not_true, Bool.not_false, Nat.add_zero, Nat.zero_add, Nat.reduceAdd]
        refine wpPi_move _ rfl rfl ?_
        simp only [pl, pn, el, ec, sz, ss, gz, gs, if_true, if_false, Bool.false_eq_true, Bool.not_true, Bool.not_false, Nat.add_zero, Nat.zero_add, Nat.reduceAdd]
        refine wpPi_index _ _ _ _ _ _ _ _ _ rfl rfl rfl rfl Try.underlying43 (n := 40) (by kernel_rfl) hlt ?_
        simp only [pl, pn, el, ec, sz, ss, gz, gs, if_true, if_false, Bool.false_eq_true, Bool.not_true, Bool.not_false, Nat.add_zero, Nat.zero_add, Nat.reduceAdd]
        refine wpPi_field _ _ _ _ _ _ rfl rfl rfl fo_38_3 ?_
        simp only [pl, pn, el, ec, sz, ss, gz, gs, if_true, if_false, Bool.false_eq_true, Bool.not_true, Bool.not_false, Nat.add_zero, Nat.zero_add, Nat.reduceAdd]
        refine wpPi_do rfl (fun K hK => ?_)
        refine wp_exec (exec_load1 30 _ (by rfl) b (off + k * 40 + 3) (by rfl) _ hdc _ Try.underlying30 rfl) ?_
        refine hK _ _ trivial ?_
        clear hK K
        try simp only [pl, pn, el, ec, sz, ss, gz, gs, if_true, if_false, Bool.false_eq_true, Bool.not_true, Bool.not_false, Nat.add_zero, Nat.zero_add, Nat.reduceAdd]
        refine wpPi_do rfl (fun K hK => ?_)
        go_wp2_with (go_at_call 59; refine (overInts_any S dv dl wr hd).mono ?_; rintro _ w2 ⟨rfl, hm2⟩)
        replace hM := hM.trans hm2
        refine hK _ _ trivial ?_
        clear hK K
        try simp only [pl, pn, el, ec, sz, ss, gz, gs, if_true, if_false, Bool.false_eq_true, Bool.not_true, Bool.not_false, Nat.add_zero, Nat.zero_add, Nat.reduceAdd]
        refine wpPi_nil ?_
        clear hd hdc
        obtain ⟨b2, off2, cur2, T2, cs2, ⟨e2, -, -, -, hsh, hcells, -, -⟩ | hz⟩ := (h.kmod (by omega) hM (LetS.kmod hM)).elem hlt
        · cases e2
          obtain ⟨dv, dl, hd0, hd⟩ := hsh.events
          have hdc := hcells.cell hd0
          clear hsh hcells hd0
          go_upto_region 4 with (fail)
          refine wp_region_seq [3, 3, 3, 3, 1, 1] (fun _ => True) (by rfl) (by rfl) trivial ?_
          simp only [List.zip_cons_cons, List.zip_nil_right]
          refine wpPi_move _ rfl rfl ?_
          simp only [pl, pn, el, ec, sz, ss, gz, gs, if_true, if_false, Bool.false_eq_true, Bool.not_true, Bool.not_false, Nat.add_zero, Nat.zero_add, Nat.reduceAdd]
          refine wpPi_move _ rfl rfl ?_
          simp only [pl, pn, el, ec, sz, ss, gz, gs, if_true, if_false, Bool.false_eq_true, Bool.not_true, Bool.not_false, Nat.add_zero, Nat.zero_add, Nat.reduceAdd]
          refine wpPi_index _ _ _ _ _ _ _ _ _ rfl rfl rfl rfl Try.underlying43 (n := 40) (by kernel_rfl) hlt ?_
          simp only [pl, pn, el, ec, sz, ss, gz, gs, if_true, if_false, Bool.false_eq_true, Bool.not_true, Bool.not_false, Nat.add_zero, Nat.zero_add, Nat.reduceAdd]
          refine wpPi_field _ _ _ _ _ _ rfl rfl rfl fo_38_4 ?_
          simp only [pl, pn, el, ec, sz, ss, gz, gs, if_true, if_false, Bool.false_eq_true, Bool.not_true, Bool.not_false, Nat.add_zero, Nat.zero_add, Nat.reduceAdd]
          refine wpPi_do rfl (fun K hK => ?_)
          refine wp_exec (exec_load1 31 _ (by rfl) b (off + k * 40 + 4) (by rfl) _ hdc _ Try.underlying31 rfl) ?_
          refine hK _ _ trivial ?_
          clear hK K
          try simp only [pl, pn, el, ec, sz, ss, gz, gs, if_true, if_false, Bool.false_eq_true, Bool.not_true, Bool.not_false, Nat.add_zero, Nat.zero_add, Nat.reduceAdd]
          refine wpPi_do rfl (fun K hK => ?_)
          go_wp2_with (go_at_call 60; refine (overEvents_any S dv dl w2 hd).mono ?_; rintro _ w3 ⟨rfl, hm3⟩)
          replace hM := hM.trans hm3
          refine hK _ _ trivial ?_
          clear hK K
          try simp only [pl, pn, el, ec, sz, ss, gz, gs, if_true, if_false, Bool.false_eq_true, Bool.not_true, Bool.not_false, Nat.add_zero, Nat.zero_add, Nat.reduceAdd]
          refine wpPi_nil ?_
          clear hd hdc
          obtain ⟨b3, off3, cur3, T3, cs3, ⟨e3, -, -, -, hsh, hcells, -, -⟩ | hz⟩ := (h.kmod (by omega) hM (LetS.kmod hM)).elem hlt
          · cases e3
            obtain ⟨dv, dl, hd0, hd⟩ := hsh.bytes
            have hdc := hcells.cell hd0
            clear hsh hcells hd0
            go_upto_region 5 with (fail)
            refine wp_region_seq [3, 3, 3, 3, 1, 1] (fun _ => True) (by rfl) (by rfl) trivial ?_
            simp only [List.zip_cons_cons, List.zip_nil_right]
            refine wpPi_move _ rfl rfl ?_
            simp only [pl, pn, el, ec, sz, ss, gz, gs, if_true, if_false, Bool.false_eq_true, Bool.not_true, Bool.not_false, Nat.add_zero, Nat.zero_add, Nat.reduceAdd]
            refine wpPi_move _ rfl rfl ?_
            simp only [pl, pn, el, ec, sz, ss, gz, gs, if_true, if_false, Bool.false_eq_true, Bool.not_true, Bool.not_false, Nat.add_zero, Nat.zero_add, Nat.reduceAdd]
            refine wpPi_index _ _ _ _ _ _ _ _ _ rfl rfl rfl rfl Try.underlying43 (n := 40) (by kernel_rfl) hlt ?_
            simp only [pl, pn, el, ec, sz, ss, gz, gs, if_true, if_false, Bool.false_eq_true, Bool.not_true, Bool.not_false, Nat.add_zero, Nat.zero_add, Nat.reduceAdd]
            refine wpPi_field _ _ _ _ _ _ rfl rfl rfl fo_38_7 ?_
            simp only [pl, pn, el, ec, sz, ss, gz, gs, if_true, if_false, Bool.false_eq_true, Bool.not_true, Bool.not_false, Nat.add_zero, Nat.zero_add, Nat.reduceAdd]
            refine wpPi_do rfl (fun K hK => ?_)
            refine wp_exec (exec_load1 36 _ (by rfl) b (off + k * 40 + 39) (by rfl) _ hdc _ Try.underlying36 rfl) ?_
            refine hK _ _ trivial ?_
            clear hK K
            try simp only [pl, pn, el, ec, sz, ss, gz, gs, if_true, if_false, Bool.false_eq_true, Bool.not_true, Bool.not_false, Nat.add_zero, Nat.zero_add, Nat.reduceAdd]
            refine wpPi_do rfl (fun K hK => ?_)
            go_wp2_with (go_at_call 61; refine (overBytes_any S dv dl w3 hd).mono ?_; rintro _ w4 ⟨rfl, hm4⟩)
            replace hM := hM.trans hm4
            refine hK _ _ trivial ?_
            clear hK K
            try simp only [pl, pn, el, ec, sz, ss, gz, gs, if_true, if_false, Bool.false_eq_true, Bool.not_true, Bool.not_false, Nat.add_zero, Nat.zero_add, Nat.reduceAdd]
            refine wpPi_nil ?_
            clear hd hdc
            obtain ⟨b4, off4, cur4, T4, cs4, ⟨e4, hS, hrow, hcs, hsh, -, hcur, hfit⟩ | hz⟩ := (h.kmod (by omega) hM (LetS.kmod hM)).elem hlt
            · cases e4
              have hsz : overLtC.size = 40 := overLt_kinds.1
              have hla := likeA_zero hsh.kinds overLt_kinds overLt_nil
              have hone := kinds_one overLt_kinds
              obtain ⟨ov, hov⟩ : ∃ t, t = overLtC := ⟨_, rfl⟩
              rw [← hov] at hsz hla hone
              have HOV := Lib.hid hov; clear hov
              go_upto_region 6 with (fail)
              refine wp_region_seq [3, 3, 1, 3, 1] (fun _ => True) (by rfl) (by rfl) trivial ?_
              simp only [List.zip_cons_cons, List.zip_nil_right]
              refine wpPi_move _ rfl rfl ?_
              simp only [pl, pn, el, ec, sz, ss, gz, gs, if_true, if_false, Bool.false_eq_true, Bool.not_true, Bool.not_false, Nat.add_zero, Nat.zero_add, Nat.reduceAdd]
              refine wpPi_move _ rfl rfl ?_
              simp only [pl, pn, el, ec, sz, ss, gz, gs, if_true, if_false, Bool.false_eq_true, Bool.not_true, Bool.not_false, Nat.add_zero, Nat.zero_add, Nat.reduceAdd]
              refine wpPi_do rfl (fun K hK => ?_)
              refine wp_exec (v := .agg ov) (by rw [HOV.out]; exact exec_build_lt (by rfl)) ?_
              refine hK _ _ trivial ?_
              clear hK K
              try simp only [pl, pn, el, ec, sz, ss, gz, gs, if_true, if_false, Bool.false_eq_true, Bool.not_true, Bool.not_false, Nat.add_zero, Nat.zero_add, Nat.reduceAdd]
              refine wpPi_index _ _ _ _ _ _ _ _ _ rfl rfl rfl rfl Try.underlying43 (n := 40) (by kernel_rfl) hlt ?_
              simp only [pl, pn, el, ec, sz, ss, gz, gs, if_true, if_false, Bool.false_eq_true, Bool.not_true, Bool.not_false, Nat.add_zero, Nat.zero_add, Nat.reduceAdd]
              refine wpPi_do rfl (fun K hK => ?_)
              refine wp_storeA 38 _ _ b (off + k * 40) ov (by rfl) (by rfl) (by rfl) hone 40 (by kernel_rfl) hsz _ _ hrow (by omega) (fun w5 hb5 hm5 => ?_)
              replace hM := hM.trans (KMod.row hS hrow hb5 (LikeA.put (by omega) hcur hla) hm5)
              refine hK _ _ trivial ?_
              clear hK K
              try simp only [pl, pn, el, ec, sz, ss, gz, gs, if_true, if_false, Bool.false_eq_true, Bool.not_true, Bool.not_false, Nat.add_zero, Nat.zero_add, Nat.reduceAdd]
              refine wpPi_nil ?_
              go_wp2
              go_roundw
              case rel => exact ⟨k + 1, by omega, by go_num, hM⟩
              case measure => simp [intOf]; omega
            · exact absurd hz (by omega)
          · exact absurd hz (by omega)
        · exact absurd hz (by omega)
      · exact absurd hz (by omega)
    · have hkl : k = l.length := by omega
      have HK := Lib.hid hkl; clear hkl
      go_wp2
      go_end0
      exact ⟨rfl, hM⟩
end Go.Proofs.Ytdllpakdhnanbaa
