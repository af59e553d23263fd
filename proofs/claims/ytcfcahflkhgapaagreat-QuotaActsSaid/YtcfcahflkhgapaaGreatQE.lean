/- The links, by what they are said to hold. -/
import Derived.Test.YtcfcahflkhgapaaGreatQD
namespace Go.Proofs.YtcfcahflkhgapaaGreat
set_option linter.unusedSimpArgs false
set_option linter.unusedVariables false
set_option linter.unnecessarySimpa false
set_option linter.unusedSectionVars false
open Go.RowKit Go.Shelf

def LkOk (w : World) (p : Value) (limit : Int) (l : LinkL) (F : Nat → Prop) : Prop :=
  ∃ bl ml mu hold us, p = .pointer (some ⟨bl, 0, none⟩) ∧ LkInv w bl ml mu limit hold l us ∧ ∀ k, Foot bl ml mu us k → F k
/-- The links are l, in memory of F; they are newer than w0, of which nothing has turned. -/
structure LkAt (w0 w : World) (p : Value) (limit : Int) (l : LinkL) (F : Nat → Prop) : Prop where
  mod : Mod NoB w0 w
  ok : LkOk w p limit l F
  old : ∀ k, F k → w0.heap.size ≤ k
  lt : ∀ k, F k → k < w.heap.size
/-- The links have become l; of what is not their own nothing has turned. -/
def LStep (w0 w : World) (p : Value) (limit : Int) (F : Nat → Prop) (w' : World) (l : LinkL) : Prop := ∃ F', LkAt w0 w' p limit l F' ∧ Mod F w w' ∧ ∀ k, F' k → F k ∨ New w w' k
def LkNow (w0 w : World) (p : Value) (limit : Int) (l : LinkL) : Prop := ∃ F, LkAt w0 w p limit l F

section
variable {w0 w : World} {p : Value} {limit : Int} {l : LinkL} {F : Nat → Prop}
theorem LkAt.keep {w' : World} {S : Nat → Prop} (h : LkAt w0 w p limit l F) (hm : Mod S w w') (hS : ∀ k, F k → ¬ S k) (hS0 : ∀ k, k < w0.heap.size → ¬ S k) : LkAt w0 w' p limit l F := by
  obtain ⟨hM, ⟨bl, ml, mu, hold, us, hp, hi, hF⟩, hF0, hlt⟩ := h
  exact ⟨hM.trans hm (fun k hk hs => hS0 k hk hs), ⟨bl, ml, mu, hold, us, hp, hi.keep hm (fun k hk => hS k (hF k hk)), hF⟩, hF0, fun k hk => Nat.lt_of_lt_of_le (hlt k hk) hm.size⟩
theorem LkAt.keep0 {w' : World} (h : LkAt w0 w p limit l F) (hm : Mod NoB w w') : LkAt w0 w' p limit l F := h.keep hm (fun _ _ => id) (fun _ _ => id)
theorem LkAt.step {w' : World} (h : LkAt w0 w p limit l F) (hm : Mod NoB w w') : LStep w0 w p limit F w' l := ⟨F, h.keep0 hm, hm.mono (fun _ _ h => False.elim h), fun k hk => .inl hk⟩
theorem LStep.trans0 {w1 w' : World} {l' : LinkL} (hm : Mod NoB w w1) (h : LStep w0 w1 p limit F w' l') : LStep w0 w p limit F w' l' := by
  obtain ⟨F', h1, h2, h3⟩ := h
  exact ⟨F', h1, (hm.mono (S' := F) (fun _ _ h => False.elim h)).trans h2 (fun _ _ h => h), fun k hk => (h3 k hk).imp id (fun hn => ⟨Nat.le_trans hm.size hn.1, hn.2⟩)⟩
theorem LStep.keep0 {w1 w' : World} {l' : LinkL} (h : LStep w0 w p limit F w1 l') (hm : Mod NoB w1 w') : LStep w0 w p limit F w' l' := by
  obtain ⟨F', h1, h2, h3⟩ := h
  exact ⟨F', h1.keep0 hm, h2.trans hm (fun _ _ h => False.elim h), fun k hk => (h3 k hk).imp id (fun hn => ⟨hn.1, Nat.lt_of_lt_of_le hn.2 hm.size⟩)⟩
theorem LStep.now {w' : World} {l' : LinkL} (h : LStep w0 w p limit F w' l') : LkNow w0 w' p limit l' := by
  obtain ⟨F', h1, _⟩ := h
  exact ⟨F', h1⟩
theorem LkNow.keep0 {w' : World} (h : LkNow w0 w p limit l) (hm : Mod NoB w w') : LkNow w0 w' p limit l := by
  obtain ⟨F, h⟩ := h
  exact ⟨F, h.keep0 hm⟩
theorem LkNow.mod (h : LkNow w0 w p limit l) : Mod NoB w0 w := by
  obtain ⟨F, h⟩ := h
  exact h.mod

/-- From the links' own footprint to the step. -/
theorem LStep.mk {bl ml mu : Nat} {us : List (ByteArray × Nat)} {hold : Value} {w' : World} {l' : LinkL} (h : LkAt w0 w (.pointer (some ⟨bl, 0, none⟩)) limit l F) (hF : ∀ k, Foot bl ml mu us k → F k)
    (hL : Lked w bl ml mu limit hold us w' l') : LStep w0 w (.pointer (some ⟨bl, 0, none⟩)) limit F w' l' := by
  obtain ⟨us', hi, hm, hn⟩ := hL
  refine ⟨fun k => F k ∨ New w w' k, ⟨h.mod.trans hm (fun k hk hs => by have := h.old k (hF k hs); omega), ⟨bl, ml, mu, hold, us', rfl, hi, fun k hk => (hn k hk).imp (hF k) id⟩, fun k hk => ?_, fun k hk => ?_⟩, hm.mono (fun k _ hk => hF k hk), fun k hk => hk⟩
  · rcases hk with hk | hk
    · exact h.old k hk
    · have h1 := hk.1; have h2 := h.mod.size; omega
  · rcases hk with hk | hk
    · exact Nat.lt_of_lt_of_le (h.lt k hk) hm.size
    · exact hk.2

theorem new_at (n : Int) (w0 : World) (hn : 0 ≤ n ∧ n ≤ 1099511627776) (w : World) (hM : Mod NoB w0 w) : Calls Tryz.prog 4 #[.int .i64 n] w fun e w' => ∃ b F, e = .returned (.tuple #[.pointer (some ⟨b, 0, none⟩), .int .i64 0]) ∧ LkAt w0 w' (.pointer (some ⟨b, 0, none⟩)) n [] F ∧ Mod NoB w w' ∧ ∀ k, F k → w.heap.size ≤ k := by
  refine (new_any n w).mono ?_
  rintro e w' (⟨_, _, bl, ml, mu, rfl, hi, hm, hF⟩ | ⟨hno, _⟩)
  · exact ⟨bl, Foot bl ml mu [], rfl, ⟨hM.trans0 hm, ⟨bl, ml, mu, _, [], rfl, hi, fun k hk => hk⟩, fun k hk => Nat.le_trans hM.size (hF k hk).1, fun k hk => (hF k hk).2⟩, hm, fun k hk => (hF k hk).1⟩
  · exact absurd hn hno
theorem new_no (n : Int) (hn : ¬ (0 ≤ n ∧ n ≤ 1099511627776)) (w : World) : Calls Tryz.prog 4 #[.int .i64 n] w (RetE (.tuple #[.pointer none, .int .i64 3]) w) := by
  refine (new_any n w).mono ?_
  rintro e w' (⟨h1, h2, _⟩ | ⟨_, rfl, rfl⟩)
  · exact absurd ⟨h1, h2⟩ hn
  · exact ⟨rfl, rfl⟩
theorem link_at (h : LkAt w0 w p limit l F) (k : Key) (hk : KeyOk k) (hsz : k.1.size ≤ maxLen) (size : Int) :
    Calls Tryz.prog 7 #[p, .string k.1, .agg (idCells k.2), .int .i64 size] w (fun e w' => e = .returned (.tuple #[.bool (addE true limit l k size).1, .int .i64 (addE true limit l k size).2]) ∧ LStep w0 w p limit F w' (addL true limit l k size)) := by
  obtain ⟨_, ⟨bl, ml, mu, hold, us, rfl, hi, hF⟩, _, _⟩ := id h
  refine (link_any hi k hk hsz size).mono ?_
  rintro e w' ⟨he, hold', hL⟩
  exact ⟨he, LStep.mk h hF hL⟩
theorem lay_at (h : LkAt w0 w p limit l F) (k : Key) (hk : KeyOk k) (hsz : k.1.size ≤ maxLen) (size : Int) :
    Calls Tryz.prog 9 #[p, .string k.1, .agg (idCells k.2), .int .i64 size] w (fun e w' => e = .returned (.tuple #[.bool (addE false limit l k size).1, .int .i64 (addE false limit l k size).2]) ∧ LStep w0 w p limit F w' (addL false limit l k size)) := by
  obtain ⟨_, ⟨bl, ml, mu, hold, us, rfl, hi, hF⟩, _, _⟩ := id h
  refine (lay_any hi k hk hsz size).mono ?_
  rintro e w' ⟨he, hold', hL⟩
  exact ⟨he, LStep.mk h hF hL⟩
theorem use_at (h : LkAt w0 w p limit l F) (r : ByteArray) : Calls Tryz.prog 38 #[p, .string r] w (RetE (.int .i64 (useOf l r)) w) := by
  obtain ⟨_, ⟨bl, ml, mu, hold, us, rfl, hi, hF⟩, _, _⟩ := id h
  exact use_any hi r
theorem has_at (h : LkAt w0 w p limit l F) (k : Key) (hk : KeyOk k) : Calls Tryz.prog 17 #[p, .string k.1, .agg (idCells k.2)] w (RetM (.bool (getL k l).isSome) w) := by
  obtain ⟨_, ⟨bl, ml, mu, hold, us, rfl, hi, hF⟩, _, _⟩ := id h
  exact has_any hi k hk
theorem limit_at (h : LkAt w0 w p limit l F) : Calls Tryz.prog 22 #[p] w (RetE (.int .i64 limit) w) := by
  obtain ⟨_, ⟨bl, ml, mu, hold, us, rfl, hi, hF⟩, _, _⟩ := id h
  exact limit_any hi
theorem LkAt.facts (h : LkAt w0 w p limit l F) : (∃ b, p = .pointer (some ⟨b, 0, none⟩)) ∧ (l.map (·.1)).Nodup ∧ (∀ q ∈ l, KeyOk q.1) ∧ (∀ q ∈ l, 0 ≤ q.2 ∧ q.2 ≤ 4096) ∧ (∀ q ∈ l, nameB q.1.1 = true) ∧ l.length ≤ 65536 := by
  obtain ⟨_, ⟨bl, ml, mu, hold, us, rfl, hi, hF⟩, _, _⟩ := id h
  exact ⟨⟨_, rfl⟩, hi.nd, hi.keyOk, hi.sz, hi.nm, hi.few⟩

/-! ### The law's own words -/
set_option maxRecDepth 10000 in
set_option maxHeartbeats 1000000 in
/-- links: does a call answer just that? -/
theorem links_at (h : LkAt w0 w p limit l F) (k : Key) (hk : KeyOk k) (hsz : k.1.size ≤ maxLen) (size : Int) (want : Bool) (err : Int) :
    Calls Tryz.prog 40 #[p, .string k.1, .agg (idCells k.2), .int .i64 size, .bool want, .int .i64 err] w (fun e w' => e = .returned (.bool (decide ((addE true limit l k size).1 = want ∧ (addE true limit l k size).2 = err))) ∧ LStep w0 w p limit F w' (addL true limit l k size)) := by
  obtain ⟨R, hR⟩ : ∃ R, addE true limit l k size = R := ⟨_, rfl⟩
  have HR := Lib.hid hR
  rw [hR]
  clear hR
  obtain ⟨b, err'⟩ := R
  obtain ⟨bp, rfl⟩ := h.facts.1
  go_enter Tryz.func40, Tryz.ntmps40
  go_upto_region 0 with (fail)
  refine wp_region_seq [1, 3] (fun _ => True) (by rfl) (by rfl) trivial ?_
  simp only [List.zip_cons_cons, List.zip_nil_right]
  refine wpPi_do rfl (fun K hK => ?_)
  refine wp_box 32 _ _ (by rfl) (by rfl) (fun w1 hB1 hm1 hs1 => ?_)
  replace hB1 : w1.heap[w.heap.size]? = some (.cells (idCells k.2) 32 (0, 0)) := hB1
  refine hK _ _ trivial ?_
  clear hK K
  try simp only [pl, pn, el, ec, sz, ss, gz, gs, if_true, if_false, Bool.false_eq_true, Bool.not_true, Bool.not_false, Nat.add_zero, Nat.zero_add, Nat.reduceAdd]
  refine wpPi_assign _ rfl rfl ?_
  simp only [pl, pn, el, ec, sz, ss, gz, gs, if_true, if_false, Bool.false_eq_true, Bool.not_true, Bool.not_false, Nat.add_zero, Nat.zero_add, Nat.reduceAdd]
  refine wpPi_nil ?_
  have h1 := h.keep0 hm1
  have hca : CellsAt w1 w.heap.size 0 (idCells k.2) := CellsAt.whole hB1
  go_upto_region 1 with (fail)
  refine wp_region_seq [3, 3, 1, 3, 1, 3, 3, 3, 3, 3] (fun _ => True) (by rfl) (by rfl) trivial ?_
  simp only [List.zip_cons_cons, List.zip_nil_right]
  refine wpPi_move _ rfl rfl ?_
  simp only [pl, pn, el, ec, sz, ss, gz, gs, if_true, if_false, Bool.false_eq_true, Bool.not_true, Bool.not_false, Nat.add_zero, Nat.zero_add, Nat.reduceAdd]
  refine wpPi_move _ rfl rfl ?_
  simp only [pl, pn, el, ec, sz, ss, gz, gs, if_true, if_false, Bool.false_eq_true, Bool.not_true, Bool.not_false, Nat.add_zero, Nat.zero_add, Nat.reduceAdd]
  refine wpPi_do rfl (fun K hK => ?_)
  refine wp_exec (exec_loadA 32 _ (by rfl) w.heap.size 0 (by rfl) (idCells k.2) hca _ Tryz.underlying32 rfl 32 (by kernel_rfl) (by rw [idCells_size]; exact hk)) ?_
  refine hK _ _ trivial ?_
  clear hK K
  try simp only [pl, pn, el, ec, sz, ss, gz, gs, if_true, if_false, Bool.false_eq_true, Bool.not_true, Bool.not_false, Nat.add_zero, Nat.zero_add, Nat.reduceAdd]
  refine wpPi_move _ rfl rfl ?_
  simp only [pl, pn, el, ec, sz, ss, gz, gs, if_true, if_false, Bool.false_eq_true, Bool.not_true, Bool.not_false, Nat.add_zero, Nat.zero_add, Nat.reduceAdd]
  refine wpPi_do rfl (fun K hK => ?_)
  go_wp2_with (go_at_call 7; refine (link_at h1 k hk hsz size).mono ?_; rintro _ w2 ⟨rfl, hL⟩; rw [HR.out])
  refine hK _ _ trivial ?_
  clear hK K
  try simp only [pl, pn, el, ec, sz, ss, gz, gs, if_true, if_false, Bool.false_eq_true, Bool.not_true, Bool.not_false, Nat.add_zero, Nat.zero_add, Nat.reduceAdd]
  refine wpPi_move _ rfl rfl ?_
  simp only [pl, pn, el, ec, sz, ss, gz, gs, if_true, if_false, Bool.false_eq_true, Bool.not_true, Bool.not_false, Nat.add_zero, Nat.zero_add, Nat.reduceAdd]
  refine wpPi_any (v := ?_) rfl (fun w' => ?_) ?_; rotate_left; · (go_simp; try with_reducible rfl)
  simp only [pl, pn, el, ec, sz, ss, gz, gs, if_true, if_false, Bool.false_eq_true, Bool.not_true, Bool.not_false, Nat.add_zero, Nat.zero_add, Nat.reduceAdd]
  refine wpPi_any (v := ?_) rfl (fun w' => ?_) ?_; rotate_left; · (go_simp; try with_reducible rfl)
  simp only [pl, pn, el, ec, sz, ss, gz, gs, if_true, if_false, Bool.false_eq_true, Bool.not_true, Bool.not_false, Nat.add_zero, Nat.zero_add, Nat.reduceAdd]
  refine wpPi_assign _ rfl rfl ?_
  simp only [pl, pn, el, ec, sz, ss, gz, gs, if_true, if_false, Bool.false_eq_true, Bool.not_true, Bool.not_false, Nat.add_zero, Nat.zero_add, Nat.reduceAdd]
  refine wpPi_assign _ rfl rfl ?_
  simp only [pl, pn, el, ec, sz, ss, gz, gs, if_true, if_false, Bool.false_eq_true, Bool.not_true, Bool.not_false, Nat.add_zero, Nat.zero_add, Nat.reduceAdd]
  refine wpPi_nil ?_
  replace hL := hL.trans0 hm1
  by_cases he : err' = err
  · subst he
    cases b <;> cases want
    all_goals
      go_wp2
      go_ret
      exact ⟨ret_bool (by simp), hL⟩
  · cases b <;> cases want
    all_goals
      go_wp2
      go_ret
      exact ⟨ret_bool (by simp [he]), hL⟩
end
end Go.Proofs.YtcfcahflkhgapaaGreat
