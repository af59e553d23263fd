/- A link is added. -/
import Derived.Test.YtcfcahflkhgapaaGreatQB
namespace Go.Proofs.YtcfcahflkhgapaaGreat
set_option linter.unusedSimpArgs false
set_option linter.unusedVariables false
set_option linter.unnecessarySimpa false
set_option linter.unusedSectionVars false
open Go.RowKit Go.Shelf

theorem putL_none {α β : Type} [DecidableEq α] {k : α} {l : List (α × β)} (h : getL k l = none) (v : β) : putL k v l = l ++ [(k, v)] := by
  induction l with
  | nil => rfl
  | cons p l ih =>
    unfold getL at h
    split at h
    · cases h
    · rename_i hk; simp [putL, hk, ih h]

/-! ### What asks for the limit -/
def holdB (asked : Bool) (limit a b : Int) : Bool := !asked || decide (a + b ≤ limit)
def HoldIs (w : World) (bl : Nat) (hold : Value) : Bool → Prop
  | true => ∃ bb, hold = .func (.func 26) #[] #[.pointer (some ⟨bb, 0, none⟩)] ∧ w.cell? ⟨bb, 0, none⟩ = some (.pointer (some ⟨bl, 0, none⟩))
  | false => hold = .func (.func 31) #[] #[]
theorem HoldIs.keep0 {w w' : World} {bl : Nat} {hold : Value} {asked : Bool} (h : HoldIs w bl hold asked) (hm : Mod NoB w w') : HoldIs w' bl hold asked := by
  cases asked
  · exact h
  · obtain ⟨bb, h1, h2⟩ := h; exact ⟨bb, h1, hm.cell id h2⟩

theorem linkF_any (bb bl : Nat) (a b limit : Int) (w : World) (h1 : w.cell? ⟨bb, 0, none⟩ = some (.pointer (some ⟨bl, 0, none⟩))) (h2 : w.cell? ⟨bl, 0, none⟩ = some (.int .i64 limit)) (ha : 0 ≤ a ∧ a ≤ 1000000000) (hb : 0 ≤ b ∧ b ≤ 4096) :
    Calls Tryz.prog 26 #[.int .i64 a, .int .i64 b, .pointer (some ⟨bb, 0, none⟩)] w (RetE (.bool (decide (a + b ≤ limit))) w) := by
  obtain ⟨ha1, ha2⟩ := ha
  obtain ⟨hb1, hb2⟩ := hb
  obtain ⟨t, ht⟩ : ∃ t, t = decide (a + b ≤ limit) := ⟨_, rfl⟩
  rw [← ht]
  have HT := Lib.hid ht; clear ht
  go_enter Tryz.func26, Tryz.ntmps26
  go_wp2
  all_goals
    go_ret
    exact ⟨ret_bool (by rw [HT.out]), rfl⟩
theorem layF_any (a b : Int) (w : World) : Calls Tryz.prog 31 #[.int .i64 a, .int .i64 b] w (RetE (.bool true) w) := by
  go_enter Tryz.func31, Tryz.ntmps31
  go_wp2
  go_ret
  exact ⟨rfl, rfl⟩

section
variable {w : World} {bl ml mu : Nat} {limit : Int} {hold : Value} {l : LinkL} {us : List (ByteArray × Nat)}
theorem wp_hold {o : Oper} {act : Act} {K : Act → World → Prop} {Q : Exit → Act → World → Prop} {asked : Bool} (hH : HoldIs w bl hold asked) (hl : w.cell? ⟨bl, 0, none⟩ = some (.int .i64 limit)) (a b : Int) (ha : 0 ≤ a ∧ a ≤ 1000000000) (hb : 0 ≤ b ∧ b ≤ 4096)
    (x y z : Operand) (ts : Array TypeId) (ho : o.op = .call { callee := .value x, args := #[y, z], argTypes := ts }) (hx : act.eval x = hold) (hy : act.eval y = .int .i64 a) (hz : act.eval z = .int .i64 b)
    (h : K (act.put o.dst (.bool (holdB asked limit a b))) w) : o.wp Tryz.prog act w K Q := by
  cases asked
  · refine wp_callv 31 x [y, z] ts #[] #[] ho (hx.trans hH) (enters_of Tryz.func31 (by kernel_rfl) rfl) ?_
    simp only [List.map_cons, List.map_nil, hy, hz]
    refine (layF_any a b w).mono ?_
    rintro _ w' ⟨rfl, hw⟩
    obtain rfl := hw.symm
    exact ⟨_, rfl, h⟩
  · obtain ⟨bb, h1, h2⟩ := hH
    refine wp_callv 26 x [y, z] ts #[] #[.pointer (some ⟨bb, 0, none⟩)] ho (hx.trans h1) (enters_of Tryz.func26 (by kernel_rfl) rfl) ?_
    simp only [List.map_cons, List.map_nil, hy, hz]
    refine (linkF_any bb bl a b limit w h2 hl ha hb).mono ?_
    rintro _ w' ⟨rfl, hw⟩
    obtain rfl := hw.symm
    exact ⟨_, rfl, by simpa [holdB] using h⟩

/-! ### What is told -/
def addE (asked : Bool) (limit : Int) (l : LinkL) (k : Key) (size : Int) : Bool × Int :=
  if nameB k.1 then (if size < 0 ∨ 4096 < size then (false, 3) else (match getL k l with | some old => if old = size then (false, 0) else (false, 17) | none => if holdB asked limit (useOf l k.1) size then (if 65536 ≤ l.length then (false, 10) else (true, 0)) else (false, 11))) else (false, 7)
def addL (asked : Bool) (limit : Int) (l : LinkL) (k : Key) (size : Int) : LinkL := if (addE asked limit l k size).1 then l ++ [(k, size)] else l
/-- Links have become l; in memory of their own, or new. -/
def Lked (w : World) (bl ml mu : Nat) (limit : Int) (hold : Value) (us : List (ByteArray × Nat)) (w' : World) (l' : LinkL) : Prop :=
  ∃ us', LkInv w' bl ml mu limit hold l' us' ∧ Mod (Foot bl ml mu us) w w' ∧ ∀ k, Foot bl ml mu us' k → Foot bl ml mu us k ∨ New w w' k
theorem LkInv.stay {w' : World} (h : LkInv w bl ml mu limit hold l us) (hm : Mod NoB w w') : Lked w bl ml mu limit hold us w' l :=
  ⟨us, h.keep0 hm, hm.mono (fun _ _ h => False.elim h), fun _ hk => .inl hk⟩
theorem Lked.after {w1 w' : World} {l' : LinkL} (hm : Mod NoB w w1) (h : Lked w1 bl ml mu limit hold us w' l') : Lked w bl ml mu limit hold us w' l' := by
  obtain ⟨us', h1, h2, h3⟩ := h
  exact ⟨us', h1, (hm.mono (S' := Foot bl ml mu us) (fun _ _ h => False.elim h)).trans h2 (fun _ _ h => h), fun k hk => (h3 k hk).imp id fun hn => ⟨Nat.le_trans hm.size hn.1, hn.2⟩⟩
theorem Lked.keep0 {w1 w' : World} {l' : LinkL} (h : Lked w bl ml mu limit hold us w1 l') (hm : Mod NoB w1 w') : Lked w bl ml mu limit hold us w' l' := by
  obtain ⟨us', h1, h2, h3⟩ := h
  exact ⟨us', h1.keep0 hm, h2.trans hm (fun _ _ h => False.elim h), fun k hk => (h3 k hk).imp id fun hn => ⟨hn.1, Nat.lt_of_lt_of_le hn.2 hm.size⟩⟩

theorem LkInv.added (h : LkInv w bl ml mu limit hold l us) {k : Key} {size : Int} (hs : 0 ≤ size ∧ size ≤ 4096) (hn : nameB k.1 = true) (hf : l.length < 65536) (hg : getL k l = none) {w' : World} {us' : List (ByteArray × Nat)} {b : Nat}
    (hbox : w'.heap[bl]? = w.heap[bl]?) (hlm : MapIs keyV KeyOk w' ml (putL k (linkV size) (l.map fun p => (p.1, linkV p.2)))) (hum : MapIs Value.string (fun _ => True) w' mu (us'.map fun p => (p.1, useV p.2)))
    (hub : w'.heap[b]? = some (.cells #[.int .i64 (useOf l k.1 + size), .int .i64 (cntOf l k.1 + 1)] 70 (0, 0))) (hot : ∀ p ∈ us', p.1 ≠ k.1 → w'.heap[p.2]? = some (.cells #[.int .i64 (useOf l p.1), .int .i64 (cntOf l p.1)] 70 (0, 0)))
    (hb : ∀ p ∈ us', p.1 = k.1 → p.2 = b) (hbm : k.1 ∈ us'.map (·.1)) (hk' : ∀ r, r ≠ k.1 → (r ∈ us'.map (·.1) ↔ r ∈ us.map (·.1))) (hud : (us'.map (·.2)).Nodup) : LkInv w' bl ml mu limit hold (l ++ [(k, size)]) us' := by
  have hu : ∀ r, useOf (l ++ [(k, size)]) r = useOf l r + if k.1 = r then size else 0 := fun r => by simp [useOf_append, useOf]
  have hc : ∀ r, cntOf (l ++ [(k, size)]) r = cntOf l r + if k.1 = r then 1 else 0 := fun r => by simp [cntOf_append, cntOf]
  refine ⟨hbox.trans h.box, h.one, ?_, hum, fun p hp => ?_, fun r => ?_, hud, fun p hp => ?_, fun p hp => ?_, by simp; omega, h.ne, h.lim⟩
  · rw [putL_map (f := linkV), putL_none hg] at hlm
    exact hlm
  · rw [hu, hc]
    by_cases hp1 : p.1 = k.1
    · rw [hb p hp hp1, hp1, if_pos rfl, if_pos rfl]; exact hub
    · rw [if_neg (fun e => hp1 e.symm), if_neg (fun e => hp1 e.symm), Int.add_zero, Nat.add_zero]; exact hot p hp hp1
  · rw [hc]
    by_cases hr : r = k.1
    · subst hr; simp only [if_true]; exact ⟨fun _ => by omega, fun _ => hbm⟩
    · rw [hk' r hr, h.uk, if_neg (fun e => hr e.symm)]; omega
  · rcases List.mem_append.1 hp with hp | hp
    · exact h.sz p hp
    · simp at hp; subst hp; exact hs
  · rcases List.mem_append.1 hp with hp | hp
    · exact h.nm p hp
    · simp at hp; subst hp; exact hn

theorem nodup_inj {α β : Type} {f : α → β} : ∀ {l : List α}, (l.map f).Nodup → ∀ {p q : α}, p ∈ l → q ∈ l → f p = f q → p = q
  | [], _, _, _, h, _, _ => by cases h
  | x :: l, hn, p, q, hp, hq, e => by
    rw [List.map_cons, List.nodup_cons] at hn
    rcases List.mem_cons.1 hp with h1 | h1 <;> rcases List.mem_cons.1 hq with h2 | h2
    · rw [h1, h2]
    · exact absurd (List.mem_map.2 ⟨q, h2, by rw [← e, h1]⟩) hn.1
    · exact absurd (List.mem_map.2 ⟨p, h1, by rw [e, h2]⟩) hn.1
    · exact nodup_inj hn.2 h1 h2 e

set_option maxRecDepth 10000 in
set_option maxHeartbeats 4000000 in
theorem add_any (h : LkInv w bl ml mu limit hold l us) {asked : Bool} (hH : HoldIs w bl hold asked) (k : Key) (hk : KeyOk k) (hsz : k.1.size ≤ maxLen) (size : Int) :
    Calls Tryz.prog 27 #[.pointer (some ⟨bl, 0, none⟩), .string k.1, .agg (idCells k.2), .int .i64 size] w
      (fun e w' => e = .returned (.tuple #[.bool (addE asked limit l k size).1, .int .i64 (addE asked limit l k size).2]) ∧ Lked w bl ml mu limit hold us w' (addL asked limit l k size)) := by
  obtain ⟨g, hg⟩ : ∃ g, getL k l = g := ⟨_, rfl⟩
  have HG := Lib.hid hg
  obtain ⟨R, hR⟩ : ∃ R, addE asked limit l k size = R := ⟨_, rfl⟩
  have HR := Lib.hid hR
  have hfin : ∀ (b : Bool) (x : Int), R = (b, x) → (addL asked limit l k size) = if b then l ++ [(k, size)] else l := fun b x e => by unfold addL; rw [hR, e]
  have HF := Lib.hid hfin
  unfold addE at hR
  rw [hg] at hR
  rw [HR.out]
  clear hfin hg
  go_enter Tryz.func27, Tryz.ntmps27
  go_upto_region 0 with (fail)
  refine wp_region_seq [1, 3, 3] (fun _ => True) (by rfl) (by rfl) trivial ?_
  simp only [List.zip_cons_cons, List.zip_nil_right]
  refine wpPi_do rfl (fun K hK => ?_)
  refine wp_box 32 _ _ (by rfl) (by rfl) (fun w1 hB1 hm1 hs1 => ?_)
  replace hB1 : w1.heap[w.heap.size]? = some (.cells (idCells k.2) 32 (0, 0)) := hB1
  refine hK _ _ trivial ?_
  clear hK K
  try simp only [pl, pn, el, ec, sz, ss, gz, gs, if_true, if_false, Bool.false_eq_true, Bool.not_true, Bool.not_false, Nat.add_zero, Nat.zero_add, Nat.reduceAdd]
  refine wpPi_assign _ rfl rfl ?_
  simp only [pl, pn, el, ec, sz, ss, gz, gs, if_true, if_false, Bool.false_eq_true, Bool.not_true, Bool.not_false, Nat.add_zero, Nat.zero_add, Nat.reduceAdd]
  refine wpPi_assign _ rfl rfl ?_
  simp only [pl, pn, el, ec, sz, ss, gz, gs, if_true, if_false, Bool.false_eq_true, Bool.not_true, Bool.not_false, Nat.add_zero, Nat.zero_add, Nat.reduceAdd]
  refine wpPi_nil ?_
  have h1 := h.keep0 hm1
  go_upto_region 1 with (fail)
  have hS : Mod NoB w1 w1.drew := (Mod.refl _ _).drew
  refine wp_region_pi [(0, 3), (1, 3), (2, 3), (3, 0), (4, 3), (5, 0), (6, 3), (7, 0), (8, 3), (9, 3), (10, 3), (11, 1), (12, 1), (13, 3)] [] (fun w' => Mod NoB w1 w') (by kernel_rfl) (by kernel_rfl) (by kernel_rfl) (by kernel_rfl) (fun _ _ _ _ hd h => ⟨hd.trans h.1, h.2⟩) hS ?_
  simp only [List.map_cons, List.map_nil, List.getD_cons_zero, List.getD_cons_succ]
  refine wpPi_move _ rfl rfl ?_
  simp only [pl, pn, el, ec, sz, ss, gz, gs, if_true, if_false, Bool.false_eq_true, Bool.not_true, Bool.not_false, Nat.add_zero, Nat.zero_add, Nat.reduceAdd]
  refine wpPi_nilCheck _ _ rfl rfl rfl ?_
  simp only [pl, pn, el, ec, sz, ss, gz, gs, if_true, if_false, Bool.false_eq_true, Bool.not_true, Bool.not_false, Nat.add_zero, Nat.zero_add, Nat.reduceAdd]
  refine wpPi_field _ _ _ _ _ _ rfl rfl rfl fo_53_1 ?_
  simp only [pl, pn, el, ec, sz, ss, gz, gs, if_true, if_false, Bool.false_eq_true, Bool.not_true, Bool.not_false, Nat.add_zero, Nat.zero_add, Nat.reduceAdd]
  refine wpPi_val rfl (fun w' hS => exec_load1 49 _ (by rfl) bl 1 (by rfl) _ (h1.keep0 hS).cell.2.1 _ Tryz.underlying49 rfl) ?_
  simp only [pl, pn, el, ec, sz, ss, gz, gs, if_true, if_false, Bool.false_eq_true, Bool.not_true, Bool.not_false, Nat.add_zero, Nat.zero_add, Nat.reduceAdd]
  refine wpPi_move _ rfl rfl ?_
  simp only [pl, pn, el, ec, sz, ss, gz, gs, if_true, if_false, Bool.false_eq_true, Bool.not_true, Bool.not_false, Nat.add_zero, Nat.zero_add, Nat.reduceAdd]
  refine wpPi_val rfl (fun w' hS => exec_loadA 32 _ (by rfl) w.heap.size 0 (by rfl) (idCells k.2) (CellsAt.whole (hS.obj id hB1)) _ Tryz.underlying32 rfl 32 (by kernel_rfl) (by rw [idCells_size]; exact hk)) ?_
  simp only [pl, pn, el, ec, sz, ss, gz, gs, if_true, if_false, Bool.false_eq_true, Bool.not_true, Bool.not_false, Nat.add_zero, Nat.zero_add, Nat.reduceAdd]
  refine wpPi_any (v := keyV k) rfl (fun w' => exec_build_key _ _ k hk rfl rfl rfl) ?_
  simp only [pl, pn, el, ec, sz, ss, gz, gs, if_true, if_false, Bool.false_eq_true, Bool.not_true, Bool.not_false, Nat.add_zero, Nat.zero_add, Nat.reduceAdd]
  refine wpPi_val rfl (fun w' hS => (h1.keep0 hS).lookK _ _ k hk (by rfl) (by rfl) (by rfl)) ?_
  simp only [pl, pn, el, ec, sz, ss, gz, gs, if_true, if_false, Bool.false_eq_true, Bool.not_true, Bool.not_false, Nat.add_zero, Nat.zero_add, Nat.reduceAdd]
  refine wpPi_move _ rfl rfl ?_
  simp only [pl, pn, el, ec, sz, ss, gz, gs, if_true, if_false, Bool.false_eq_true, Bool.not_true, Bool.not_false, Nat.add_zero, Nat.zero_add, Nat.reduceAdd]
  refine wpPi_any (v := ?_) rfl (fun w' => ?_) ?_; rotate_left; · (go_simp; try with_reducible rfl)
  simp only [pl, pn, el, ec, sz, ss, gz, gs, if_true, if_false, Bool.false_eq_true, Bool.not_true, Bool.not_false, Nat.add_zero, Nat.zero_add, Nat.reduceAdd]
  refine wpPi_any (v := ?_) rfl (fun w' => ?_) ?_; rotate_left; · (go_simp; try with_reducible rfl)
  simp only [pl, pn, el, ec, sz, ss, gz, gs, if_true, if_false, Bool.false_eq_true, Bool.not_true, Bool.not_false, Nat.add_zero, Nat.zero_add, Nat.reduceAdd]
  refine wpPi_do rfl (fun K hK => ?_)
  refine wp_alloc 64 (linkV 0) (by rfl) linkZ (fun w3 hB3 hm3 hs3 => ?_)
  replace hB3 : w3.heap[w1.heap.size]? = some (.cells #[.int .i64 0] 64 (0, 0)) := hB3
  replace hm3 := hS.trans0 hm3
  refine hK _ _ hm3 ?_
  clear hK K
  try simp only [pl, pn, el, ec, sz, ss, gz, gs, if_true, if_false, Bool.false_eq_true, Bool.not_true, Bool.not_false, Nat.add_zero, Nat.zero_add, Nat.reduceAdd]
  refine wpPi_do rfl (fun K hK => ?_)
  refine wp_storeA 64 _ _ w1.heap.size 0 #[.int .i64 ((getL k l).getD 0)] (by rfl) (by rfl) (by rfl) (by simp [Value.oneCell']) 1 (by kernel_rfl) rfl _ _ hB3 (by simp) (fun w4 hB4 hm4 => ?_)
  have hM4 : Mod NoB w1 w4 := hm3.transB hm4 (Nat.le_refl _)
  refine hK _ _ hM4 ?_
  clear hK K
  try simp only [pl, pn, el, ec, sz, ss, gz, gs, if_true, if_false, Bool.false_eq_true, Bool.not_true, Bool.not_false, Nat.add_zero, Nat.zero_add, Nat.reduceAdd]
  refine wpPi_assign _ rfl rfl ?_
  simp only [pl, pn, el, ec, sz, ss, gz, gs, if_true, if_false, Bool.false_eq_true, Bool.not_true, Bool.not_false, Nat.add_zero, Nat.zero_add, Nat.reduceAdd]
  refine wpPi_nil ?_
  replace hB4 : w4.heap[w1.heap.size]? = some (.cells #[.int .i64 ((getL k l).getD 0)] 64 (0, 0)) := hB4
  rw [HG.out] at hB4 ⊢
  have hM := hm1.trans0 hM4
  replace hB1 := hM4.obj id hB1
  clear hm3 hB3 hs3 hm4 hS h1 hm1 hM4
  clear hs1
  -- THE NAME
  obtain ⟨tn, htn⟩ : ∃ tn, nameB k.1 = tn := ⟨_, rfl⟩
  have HN := Lib.hid htn
  rw [htn] at hR
  clear htn
  go_upto_region 2 with (fail)
  refine wp_region_seq [3, 1, 3, 3] (fun _ => True) (by rfl) (by rfl) trivial ?_
  simp only [List.zip_cons_cons, List.zip_nil_right]
  refine wpPi_move _ rfl rfl ?_
  simp only [pl, pn, el, ec, sz, ss, gz, gs, if_true, if_false, Bool.false_eq_true, Bool.not_true, Bool.not_false, Nat.add_zero, Nat.zero_add, Nat.reduceAdd]
  refine wpPi_do rfl (fun K hK => ?_)
  go_wp2_with (go_at_call 32; refine (named_any k.1 _ hsz).mono ?_; rintro _ w5 ⟨rfl, hm5⟩; rw [HN.out])
  refine hK _ _ trivial ?_
  clear hK K
  try simp only [pl, pn, el, ec, sz, ss, gz, gs, if_true, if_false, Bool.false_eq_true, Bool.not_true, Bool.not_false, Nat.add_zero, Nat.zero_add, Nat.reduceAdd]
  refine wpPi_not _ _ _ rfl rfl rfl ?_
  simp only [pl, pn, el, ec, sz, ss, gz, gs, if_true, if_false, Bool.false_eq_true, Bool.not_true, Bool.not_false, Nat.add_zero, Nat.zero_add, Nat.reduceAdd]
  refine wpPi_assign _ rfl rfl ?_
  simp only [pl, pn, el, ec, sz, ss, gz, gs, if_true, if_false, Bool.false_eq_true, Bool.not_true, Bool.not_false, Nat.add_zero, Nat.zero_add, Nat.reduceAdd]
  refine wpPi_nil ?_
  replace hB1 := hm5.obj id hB1
  replace hB4 := hm5.obj id hB4
  replace hM := hM.trans0 hm5
  clear hm5
  cases tn
  · have HR2 := Lib.hid hR
    clear hR
    go_wp2
    go_ret2
    have e : R = (false, 7) := by rw [← HR2.out]; rfl
    rw [e, HF.out _ _ e]
    exact ⟨rfl, h.stay hM⟩
  by_cases hs : size < 0 ∨ 4096 < size
  · have HR2 := Lib.hid hR
    clear hR
    rcases hs with hs' | hs'
    all_goals
      go_wp2
      go_ret2
      have e : R = (false, 3) := by rw [← HR2.out]; simp; omega
      rw [e, HF.out _ _ e]
      exact ⟨rfl, h.stay hM⟩
  obtain ⟨hs0, hs4⟩ : 0 ≤ size ∧ size ≤ 4096 := ⟨by omega, by omega⟩
  rw [if_pos rfl, if_neg hs] at hR
  clear hs
  cases g with
  | some old =>
    have hcl : w5.cell? ⟨w1.heap.size, 0, none⟩ = some (.int .i64 old) := by simp [World.cell?, hB4]
    clear hB4 hB1
    by_cases ho : old = size
    · subst ho
      have HR2 := Lib.hid hR
      clear hR
      go_wp2
      go_ret2
      have e : R = (false, 0) := by rw [← HR2.out]; simp
      rw [e, HF.out _ _ e]
      exact ⟨rfl, h.stay hM⟩
    · have HR2 := Lib.hid hR
      clear hR
      go_wp2
      go_ret2
      have e : R = (false, 17) := by rw [← HR2.out]; simp [ho]
      rw [e, HF.out _ _ e]
      exact ⟨rfl, h.stay hM⟩
  | none =>
    clear hB4
    have h5 := h.keep0 hM
    have hH5 := hH.keep0 hM
    have hub := useOf_le l k.1 h.sz
    have hfew := h.few
    have hub2 : 0 ≤ useOf l k.1 ∧ useOf l k.1 ≤ 1000000000 := ⟨hub.1, by omega⟩
    have hcb := cntOf_le l k.1
    obtain ⟨th, hth⟩ : ∃ th, holdB asked limit (useOf l k.1) size = th := ⟨_, rfl⟩
    have HH := Lib.hid hth
    simp only [hth] at hR
    clear hth
    have HFew := Lib.hid hfew
    have HCb := Lib.hid hcb
    clear hub hcb
    go_upto_region 10 with (fail)
    have hS : Mod NoB w5 w5.drew := (Mod.refl _ _).drew
    refine wp_region_pi [(0, 3), (1, 3), (2, 3), (3, 0), (4, 3), (5, 3), (6, 0), (7, 3), (8, 1), (9, 3), (10, 3)] [] (fun w' => Mod NoB w5 w') (by kernel_rfl) (by kernel_rfl) (by kernel_rfl) (by kernel_rfl) (fun _ _ _ _ hd h => ⟨hd.trans h.1, h.2⟩) hS ?_
    simp only [List.map_cons, List.map_nil, List.getD_cons_zero, List.getD_cons_succ]
    refine wpPi_move _ rfl rfl ?_
    simp only [pl, pn, el, ec, sz, ss, gz, gs, if_true, if_false, Bool.false_eq_true, Bool.not_true, Bool.not_false, Nat.add_zero, Nat.zero_add, Nat.reduceAdd]
    refine wpPi_nilCheck _ _ rfl rfl rfl ?_
    simp only [pl, pn, el, ec, sz, ss, gz, gs, if_true, if_false, Bool.false_eq_true, Bool.not_true, Bool.not_false, Nat.add_zero, Nat.zero_add, Nat.reduceAdd]
    refine wpPi_field _ _ _ _ _ _ rfl rfl rfl fo_53_3 ?_
    simp only [pl, pn, el, ec, sz, ss, gz, gs, if_true, if_false, Bool.false_eq_true, Bool.not_true, Bool.not_false, Nat.add_zero, Nat.zero_add, Nat.reduceAdd]
    refine wpPi_val rfl (fun w' hS => exec_load1 51 _ (by rfl) bl 3 (by rfl) _ (h5.keep0 hS).cell.2.2.2 _ Tryz.underlying51 rfl) ?_
    simp only [pl, pn, el, ec, sz, ss, gz, gs, if_true, if_false, Bool.false_eq_true, Bool.not_true, Bool.not_false, Nat.add_zero, Nat.zero_add, Nat.reduceAdd]
    refine wpPi_move _ rfl rfl ?_
    simp only [pl, pn, el, ec, sz, ss, gz, gs, if_true, if_false, Bool.false_eq_true, Bool.not_true, Bool.not_false, Nat.add_zero, Nat.zero_add, Nat.reduceAdd]
    refine wpPi_move _ rfl rfl ?_
    simp only [pl, pn, el, ec, sz, ss, gz, gs, if_true, if_false, Bool.false_eq_true, Bool.not_true, Bool.not_false, Nat.add_zero, Nat.zero_add, Nat.reduceAdd]
    refine wpPi_call (f := 38) rfl ?_ (fun w' hS => use_any (h5.keep0 hS) k.1) ?_
    · exact run_call 38 _ _ rfl _ Tryz.func38 rfl (by kernel_rfl) _ rfl
    simp only [pl, pn, el, ec, sz, ss, gz, gs, if_true, if_false, Bool.false_eq_true, Bool.not_true, Bool.not_false, Nat.add_zero, Nat.zero_add, Nat.reduceAdd]
    refine wpPi_move _ rfl rfl ?_
    simp only [pl, pn, el, ec, sz, ss, gz, gs, if_true, if_false, Bool.false_eq_true, Bool.not_true, Bool.not_false, Nat.add_zero, Nat.zero_add, Nat.reduceAdd]
    refine wpPi_do rfl (fun K hK => ?_)
    refine wp_hold (hH5.keep0 hS) (h5.keep0 hS).cell.1 (useOf l k.1) size hub2 ⟨hs0, hs4⟩ _ _ _ _ (by rfl) (by rfl) (by rfl) (by rfl) ?_
    rw [HH.out]
    refine hK _ _ hS ?_
    clear hK K
    try simp only [pl, pn, el, ec, sz, ss, gz, gs, if_true, if_false, Bool.false_eq_true, Bool.not_true, Bool.not_false, Nat.add_zero, Nat.zero_add, Nat.reduceAdd]
    refine wpPi_not _ _ _ rfl rfl rfl ?_
    simp only [pl, pn, el, ec, sz, ss, gz, gs, if_true, if_false, Bool.false_eq_true, Bool.not_true, Bool.not_false, Nat.add_zero, Nat.zero_add, Nat.reduceAdd]
    refine wpPi_assign _ rfl rfl ?_
    simp only [pl, pn, el, ec, sz, ss, gz, gs, if_true, if_false, Bool.false_eq_true, Bool.not_true, Bool.not_false, Nat.add_zero, Nat.zero_add, Nat.reduceAdd]
    refine wpPi_nil ?_
    replace hM := hM.trans0 hS
    replace hB1 := hS.obj id hB1
    generalize w5.drew = w6 at hS hM hB1 ⊢
    replace h5 := h5.keep0 hS
    clear hS
    cases th
    · have HR2 := Lib.hid hR
      clear hR
      go_wp2
      go_ret2
      have e : R = (false, 11) := by rw [← HR2.out]; simp
      rw [e, HF.out _ _ e]
      exact ⟨rfl, h.stay hM⟩
    simp only [if_true] at hR
    have hlenl : ((l.map fun p => (p.1, linkV p.2)).length : Int) = l.length := by simp
    obtain ⟨tf, htf⟩ : ∃ tf, cmpB .geq (l.length : Int) 65536 = tf := ⟨_, rfl⟩
    have HTF := Lib.hid htf
    have HLL := Lib.hid hlenl
    have HR3 := Lib.hid hR
    clear hlenl hR hfew htf
    go_upto_region 12 with (fail)
    refine wp_region_seq [3, 3, 3, 1, 1, 3, 3] (fun _ => True) (by rfl) (by rfl) trivial ?_
    simp only [List.zip_cons_cons, List.zip_nil_right]
    refine wpPi_move _ rfl rfl ?_
    simp only [pl, pn, el, ec, sz, ss, gz, gs, if_true, if_false, Bool.false_eq_true, Bool.not_true, Bool.not_false, Nat.add_zero, Nat.zero_add, Nat.reduceAdd]
    refine wpPi_nilCheck _ _ rfl rfl rfl ?_
    simp only [pl, pn, el, ec, sz, ss, gz, gs, if_true, if_false, Bool.false_eq_true, Bool.not_true, Bool.not_false, Nat.add_zero, Nat.zero_add, Nat.reduceAdd]
    refine wpPi_field _ _ _ _ _ _ rfl rfl rfl fo_53_1 ?_
    simp only [pl, pn, el, ec, sz, ss, gz, gs, if_true, if_false, Bool.false_eq_true, Bool.not_true, Bool.not_false, Nat.add_zero, Nat.zero_add, Nat.reduceAdd]
    refine wpPi_do rfl (fun K hK => ?_)
    refine wp_exec (exec_load1 49 _ (by rfl) bl 1 (by rfl) _ h5.cell.2.1 _ Tryz.underlying49 rfl) ?_
    refine hK _ _ trivial ?_
    clear hK K
    try simp only [pl, pn, el, ec, sz, ss, gz, gs, if_true, if_false, Bool.false_eq_true, Bool.not_true, Bool.not_false, Nat.add_zero, Nat.zero_add, Nat.reduceAdd]
    refine wpPi_do rfl (fun K hK => ?_)
    refine wp_exec (exec_lenL h5.lm 49 64 Tryz.underlying49 _ (by rfl) (by rfl)) ?_
    rw [HLL.out]
    refine hK _ _ trivial ?_
    clear hK K
    try simp only [pl, pn, el, ec, sz, ss, gz, gs, if_true, if_false, Bool.false_eq_true, Bool.not_true, Bool.not_false, Nat.add_zero, Nat.zero_add, Nat.reduceAdd]
    refine wpPi_cmp _ _ _ _ _ _ _ _ rfl rfl rfl rfl rfl tf HTF.out ?_
    simp only [pl, pn, el, ec, sz, ss, gz, gs, if_true, if_false, Bool.false_eq_true, Bool.not_true, Bool.not_false, Nat.add_zero, Nat.zero_add, Nat.reduceAdd]
    refine wpPi_assign _ rfl rfl ?_
    simp only [pl, pn, el, ec, sz, ss, gz, gs, if_true, if_false, Bool.false_eq_true, Bool.not_true, Bool.not_false, Nat.add_zero, Nat.zero_add, Nat.reduceAdd]
    refine wpPi_nil ?_
    have HR4 : Hid (R = if tf then (false, 10) else (true, 0)) := Lib.hid (by
      rw [← HR3.out, ← HTF.out]
      simp only [cmpB, decide_eq_true_eq]
      congr 1
      rw [eq_iff_iff]; omega)
    cases tf
    case true =>
      go_wp2
      go_ret2
      have e : R = (false, 10) := HR4.out
      rw [e, HF.out _ _ e]
      exact ⟨rfl, h.stay hM⟩
    have hRt : R = (true, 0) := HR4.out
    have HRt := Lib.hid hRt
    have HFu : Hid (l.length < 65536) := Lib.hid (by have := HTF.out; simp [cmpB] at this; omega)
    clear hRt
    -- THE LINK IS LAID
    have hn := h5.nes
    have hbx : w.heap.size ≠ ml := by have := h.lt ml (.inr (.inl rfl)); omega
    go_upto_region 14 with (fail)
    have hS : Mod (fun j => j = ml) w6 w6.drew := (Mod.refl _ _).drew
    refine wp_region_pi [(0, 3), (1, 3), (2, 3), (3, 0), (4, 3), (5, 0), (6, 3), (7, 3), (8, 3), (9, 1)] [] (fun w' => Mod (fun j => j = ml) w6 w') (by kernel_rfl) (by kernel_rfl) (by kernel_rfl) (by kernel_rfl) (fun _ _ _ _ hd h => ⟨hd.trans h.1, h.2⟩) hS ?_
    simp only [List.map_cons, List.map_nil, List.getD_cons_zero, List.getD_cons_succ]
    refine wpPi_move _ rfl rfl ?_
    simp only [pl, pn, el, ec, sz, ss, gz, gs, if_true, if_false, Bool.false_eq_true, Bool.not_true, Bool.not_false, Nat.add_zero, Nat.zero_add, Nat.reduceAdd]
    refine wpPi_nilCheck _ _ rfl rfl rfl ?_
    simp only [pl, pn, el, ec, sz, ss, gz, gs, if_true, if_false, Bool.false_eq_true, Bool.not_true, Bool.not_false, Nat.add_zero, Nat.zero_add, Nat.reduceAdd]
    refine wpPi_field _ _ _ _ _ _ rfl rfl rfl fo_53_1 ?_
    simp only [pl, pn, el, ec, sz, ss, gz, gs, if_true, if_false, Bool.false_eq_true, Bool.not_true, Bool.not_false, Nat.add_zero, Nat.zero_add, Nat.reduceAdd]
    refine wpPi_val rfl (fun w' hS => exec_load1 49 _ (by rfl) bl 1 (by rfl) _ (hS.cell (by exact hn.1) h5.cell.2.1) _ Tryz.underlying49 rfl) ?_
    simp only [pl, pn, el, ec, sz, ss, gz, gs, if_true, if_false, Bool.false_eq_true, Bool.not_true, Bool.not_false, Nat.add_zero, Nat.zero_add, Nat.reduceAdd]
    refine wpPi_move _ rfl rfl ?_
    simp only [pl, pn, el, ec, sz, ss, gz, gs, if_true, if_false, Bool.false_eq_true, Bool.not_true, Bool.not_false, Nat.add_zero, Nat.zero_add, Nat.reduceAdd]
    refine wpPi_val rfl (fun w' hS => exec_loadA 32 _ (by rfl) w.heap.size 0 (by rfl) (idCells k.2) (CellsAt.whole (hS.obj (b := w.heap.size) (by exact hbx) hB1)) _ Tryz.underlying32 rfl 32 (by kernel_rfl) (by rw [idCells_size]; exact hk)) ?_
    simp only [pl, pn, el, ec, sz, ss, gz, gs, if_true, if_false, Bool.false_eq_true, Bool.not_true, Bool.not_false, Nat.add_zero, Nat.zero_add, Nat.reduceAdd]
    refine wpPi_any (v := keyV k) rfl (fun w' => exec_build_key _ _ k hk rfl rfl rfl) ?_
    simp only [pl, pn, el, ec, sz, ss, gz, gs, if_true, if_false, Bool.false_eq_true, Bool.not_true, Bool.not_false, Nat.add_zero, Nat.zero_add, Nat.reduceAdd]
    refine wpPi_move _ rfl rfl ?_
    simp only [pl, pn, el, ec, sz, ss, gz, gs, if_true, if_false, Bool.false_eq_true, Bool.not_true, Bool.not_false, Nat.add_zero, Nat.zero_add, Nat.reduceAdd]
    refine wpPi_any (v := ?_) rfl (fun w' => ?_) ?_; rotate_left; · (go_simp; try with_reducible rfl)
    simp only [pl, pn, el, ec, sz, ss, gz, gs, if_true, if_false, Bool.false_eq_true, Bool.not_true, Bool.not_false, Nat.add_zero, Nat.zero_add, Nat.reduceAdd]
    refine wpPi_do rfl (fun K hK => ?_)
    refine wp_putL keyT_key (h5.lm.keep0 (Mod.refl NoB w6).drew) k hk 49 64 Tryz.underlying49 _ _ _ (linkV size) (by rfl) (by rfl) (by rfl) (by rfl) (fun w7 hlm7 hm7 => ?_)
    have hM7 : Mod (fun j => j = ml) w6 w7 := hS.trans hm7 (fun _ _ h => h)
    refine hK _ _ hM7 ?_
    clear hK K
    try simp only [pl, pn, el, ec, sz, ss, gz, gs, if_true, if_false, Bool.false_eq_true, Bool.not_true, Bool.not_false, Nat.add_zero, Nat.zero_add, Nat.reduceAdd]
    refine wpPi_nil ?_
    clear hm7 hS
    have hnu := h5.nes.2.2
    have hbox7 := hM7.obj (b := bl) hn.1 h5.box
    have hum7 := h5.um.keep hM7 (fun e => h5.ne e.symm)
    have hc72 : w7.cell? ⟨bl, 2, none⟩ = some (.map (some mu)) := hM7.cell (by exact hn.1) h5.cell.2.2.1
    have hub7 : ∀ p ∈ us, w7.heap[p.2]? = some (.cells #[.int .i64 (useOf l p.1), .int .i64 (cntOf l p.1)] 70 (0, 0)) := fun p hp => hM7.obj (b := p.2) (hnu p hp).2.1 (h5.ub p hp)
    have hltm := h5.lt
    go_upto_region 15 with (fail)
    cases hgu : getL k.1 us with
    | none =>
      refine wp_region_seq [3, 3, 3, 1, 3, 1, 3] (fun _ => True) (by rfl) (by rfl) trivial ?_
      simp only [List.zip_cons_cons, List.zip_nil_right]
      refine wpPi_move _ rfl rfl ?_
      simp only [pl, pn, el, ec, sz, ss, gz, gs, if_true, if_false, Bool.false_eq_true, Bool.not_true, Bool.not_false, Nat.add_zero, Nat.zero_add, Nat.reduceAdd]
      refine wpPi_nilCheck _ _ rfl rfl rfl ?_
      simp only [pl, pn, el, ec, sz, ss, gz, gs, if_true, if_false, Bool.false_eq_true, Bool.not_true, Bool.not_false, Nat.add_zero, Nat.zero_add, Nat.reduceAdd]
      refine wpPi_field _ _ _ _ _ _ rfl rfl rfl fo_53_2 ?_
      simp only [pl, pn, el, ec, sz, ss, gz, gs, if_true, if_false, Bool.false_eq_true, Bool.not_true, Bool.not_false, Nat.add_zero, Nat.zero_add, Nat.reduceAdd]
      refine wpPi_do rfl (fun K hK => ?_)
      refine wp_exec (exec_load1 50 _ (by rfl) bl 2 (by rfl) _ hc72 _ Tryz.underlying50 rfl) ?_
      refine hK _ _ trivial ?_
      clear hK K
      try simp only [pl, pn, el, ec, sz, ss, gz, gs, if_true, if_false, Bool.false_eq_true, Bool.not_true, Bool.not_false, Nat.add_zero, Nat.zero_add, Nat.reduceAdd]
      refine wpPi_move _ rfl rfl ?_
      simp only [pl, pn, el, ec, sz, ss, gz, gs, if_true, if_false, Bool.false_eq_true, Bool.not_true, Bool.not_false, Nat.add_zero, Nat.zero_add, Nat.reduceAdd]
      refine wpPi_do rfl (fun K hK => ?_)
      refine wp_exec (v := .pointer none) (lookS_at hum7 _ _ k.1 (by rfl) (by rfl) (by rfl) (by simp [useP, hgu, useV])) ?_
      refine hK _ _ trivial ?_
      clear hK K
      try simp only [pl, pn, el, ec, sz, ss, gz, gs, if_true, if_false, Bool.false_eq_true, Bool.not_true, Bool.not_false, Nat.add_zero, Nat.zero_add, Nat.reduceAdd]
      refine wpPi_assign _ rfl rfl ?_
      simp only [pl, pn, el, ec, sz, ss, gz, gs, if_true, if_false, Bool.false_eq_true, Bool.not_true, Bool.not_false, Nat.add_zero, Nat.zero_add, Nat.reduceAdd]
      refine wpPi_nil ?_
      have hcn : cntOf l k.1 = 0 := (h5.useNone k.1).1 hgu
      have hun : useOf l k.1 = 0 := useOf_none hcn
      have HUN := Lib.hid hun
      have HCN := Lib.hid hcn
      clear hgu hcn hun
      go_upto_region 17 with (fail)
      refine wp_region_seq [3, 1, 3] (fun _ => True) (by rfl) (by rfl) trivial ?_
      simp only [List.zip_cons_cons, List.zip_nil_right]
      refine wpPi_any (v := ?_) rfl (fun w' => ?_) ?_; rotate_left; · (go_simp; try with_reducible rfl)
      simp only [pl, pn, el, ec, sz, ss, gz, gs, if_true, if_false, Bool.false_eq_true, Bool.not_true, Bool.not_false, Nat.add_zero, Nat.zero_add, Nat.reduceAdd]
      refine wpPi_do rfl (fun K hK => ?_)
      refine wp_box 70 _ _ (by rfl) (by rfl) (fun w71 hB71 hm71 hs71 => ?_)
      replace hB71 : w71.heap[w7.heap.size]? = some (.cells #[.int .i64 0, .int .i64 0] 70 (0, 0)) := hB71
      refine hK _ _ trivial ?_
      clear hK K
      try simp only [pl, pn, el, ec, sz, ss, gz, gs, if_true, if_false, Bool.false_eq_true, Bool.not_true, Bool.not_false, Nat.add_zero, Nat.zero_add, Nat.reduceAdd]
      refine wpPi_assign _ rfl rfl ?_
      simp only [pl, pn, el, ec, sz, ss, gz, gs, if_true, if_false, Bool.false_eq_true, Bool.not_true, Bool.not_false, Nat.add_zero, Nat.zero_add, Nat.reduceAdd]
      refine wpPi_nil ?_
      go_upto_region 18 with (fail)
      refine wp_region_seq [3, 3, 3, 1, 3, 3, 1] (fun _ => True) (by rfl) (by rfl) trivial ?_
      simp only [List.zip_cons_cons, List.zip_nil_right]
      refine wpPi_move _ rfl rfl ?_
      simp only [pl, pn, el, ec, sz, ss, gz, gs, if_true, if_false, Bool.false_eq_true, Bool.not_true, Bool.not_false, Nat.add_zero, Nat.zero_add, Nat.reduceAdd]
      refine wpPi_nilCheck _ _ rfl rfl rfl ?_
      simp only [pl, pn, el, ec, sz, ss, gz, gs, if_true, if_false, Bool.false_eq_true, Bool.not_true, Bool.not_false, Nat.add_zero, Nat.zero_add, Nat.reduceAdd]
      refine wpPi_field _ _ _ _ _ _ rfl rfl rfl fo_53_2 ?_
      simp only [pl, pn, el, ec, sz, ss, gz, gs, if_true, if_false, Bool.false_eq_true, Bool.not_true, Bool.not_false, Nat.add_zero, Nat.zero_add, Nat.reduceAdd]
      refine wpPi_do rfl (fun K hK => ?_)
      refine wp_exec (exec_load1 50 _ (by rfl) bl 2 (by rfl) _ (hm71.cell id hc72) _ Tryz.underlying50 rfl) ?_
      refine hK _ _ trivial ?_
      clear hK K
      try simp only [pl, pn, el, ec, sz, ss, gz, gs, if_true, if_false, Bool.false_eq_true, Bool.not_true, Bool.not_false, Nat.add_zero, Nat.zero_add, Nat.reduceAdd]
      refine wpPi_move _ rfl rfl ?_
      simp only [pl, pn, el, ec, sz, ss, gz, gs, if_true, if_false, Bool.false_eq_true, Bool.not_true, Bool.not_false, Nat.add_zero, Nat.zero_add, Nat.reduceAdd]
      refine wpPi_move _ rfl rfl ?_
      simp only [pl, pn, el, ec, sz, ss, gz, gs, if_true, if_false, Bool.false_eq_true, Bool.not_true, Bool.not_false, Nat.add_zero, Nat.zero_add, Nat.reduceAdd]
      refine wpPi_do rfl (fun K hK => ?_)
      refine wp_putL (keyT_string Tryz.underlying9) (hum7.keep0 hm71) k.1 trivial 50 68 Tryz.underlying50 _ _ _ (useV w7.heap.size) (by rfl) (by rfl) (by rfl) (by rfl) (fun w72 hum72 hm72 => ?_)
      refine hK _ _ trivial ?_
      clear hK K
      try simp only [pl, pn, el, ec, sz, ss, gz, gs, if_true, if_false, Bool.false_eq_true, Bool.not_true, Bool.not_false, Nat.add_zero, Nat.zero_add, Nat.reduceAdd]
      refine wpPi_nil ?_
      have hmult : mu < w7.heap.size := hum7.lt
      have hB72 := hm72.obj (b := w7.heap.size) (by omega) hB71
      have hMu : Mod (fun j => j = mu) w7 w72 := (hm71.mono (S' := fun j => j = mu) (fun _ _ h => False.elim h)).trans hm72 (fun _ _ h => h)
      go_upto_region 19 with (fail)
      refine wp_region_seq [3, 3, 3, 1, 3, 3, 3, 3, 1] (fun _ => True) (by rfl) (by rfl) trivial ?_
      simp only [List.zip_cons_cons, List.zip_nil_right]
      refine wpPi_move _ rfl rfl ?_
      simp only [pl, pn, el, ec, sz, ss, gz, gs, if_true, if_false, Bool.false_eq_true, Bool.not_true, Bool.not_false, Nat.add_zero, Nat.zero_add, Nat.reduceAdd]
      refine wpPi_nilCheck _ _ rfl rfl rfl ?_
      simp only [pl, pn, el, ec, sz, ss, gz, gs, if_true, if_false, Bool.false_eq_true, Bool.not_true, Bool.not_false, Nat.add_zero, Nat.zero_add, Nat.reduceAdd]
      refine wpPi_field _ _ _ _ _ _ rfl rfl rfl fo_70_0 ?_
      simp only [pl, pn, el, ec, sz, ss, gz, gs, if_true, if_false, Bool.false_eq_true, Bool.not_true, Bool.not_false, Nat.add_zero, Nat.zero_add, Nat.reduceAdd]
      refine wpPi_do rfl (fun K hK => ?_)
      refine wp_exec (exec_load1 3 _ (by rfl) w7.heap.size 0 (by rfl) (.int .i64 (0)) (by simp [World.cell?, hB72]) _ Tryz.underlying3 rfl) ?_
      refine hK _ _ trivial ?_
      clear hK K
      try simp only [pl, pn, el, ec, sz, ss, gz, gs, if_true, if_false, Bool.false_eq_true, Bool.not_true, Bool.not_false, Nat.add_zero, Nat.zero_add, Nat.reduceAdd]
      refine wpPi_move _ rfl rfl ?_
      simp only [pl, pn, el, ec, sz, ss, gz, gs, if_true, if_false, Bool.false_eq_true, Bool.not_true, Bool.not_false, Nat.add_zero, Nat.zero_add, Nat.reduceAdd]
      refine wpPi_add _ _ _ _ (0) size rfl rfl rfl rfl (by have := hub2.1; omega) (by have := hub2.2; omega) ?_
      simp only [pl, pn, el, ec, sz, ss, gz, gs, if_true, if_false, Bool.false_eq_true, Bool.not_true, Bool.not_false, Nat.add_zero, Nat.zero_add, Nat.reduceAdd]
      refine wpPi_nilCheck _ _ rfl rfl rfl ?_
      simp only [pl, pn, el, ec, sz, ss, gz, gs, if_true, if_false, Bool.false_eq_true, Bool.not_true, Bool.not_false, Nat.add_zero, Nat.zero_add, Nat.reduceAdd]
      refine wpPi_field _ _ _ _ _ _ rfl rfl rfl fo_70_0 ?_
      simp only [pl, pn, el, ec, sz, ss, gz, gs, if_true, if_false, Bool.false_eq_true, Bool.not_true, Bool.not_false, Nat.add_zero, Nat.zero_add, Nat.reduceAdd]
      refine wpPi_do rfl (fun K hK => ?_)
      refine wp_store1 3 _ _ w7.heap.size 0 (.int .i64 (0 + size)) (by rfl) (by rfl) (by rfl) rfl (by kernel_rfl) _ _ hB72 (by simp) (fun w8 hB8 hm8 => ?_)
      refine hK _ _ trivial ?_
      clear hK K
      try simp only [pl, pn, el, ec, sz, ss, gz, gs, if_true, if_false, Bool.false_eq_true, Bool.not_true, Bool.not_false, Nat.add_zero, Nat.zero_add, Nat.reduceAdd]
      refine wpPi_nil ?_
      replace hB8 : w8.heap[w7.heap.size]? = some (.cells #[.int .i64 (0 + size), .int .i64 (0)] 70 (0, 0)) := hB8
      go_upto_region 20 with (fail)
      refine wp_region_seq [3, 3, 3, 1, 3, 3, 3, 1] (fun _ => True) (by rfl) (by rfl) trivial ?_
      simp only [List.zip_cons_cons, List.zip_nil_right]
      refine wpPi_move _ rfl rfl ?_
      simp only [pl, pn, el, ec, sz, ss, gz, gs, if_true, if_false, Bool.false_eq_true, Bool.not_true, Bool.not_false, Nat.add_zero, Nat.zero_add, Nat.reduceAdd]
      refine wpPi_nilCheck _ _ rfl rfl rfl ?_
      simp only [pl, pn, el, ec, sz, ss, gz, gs, if_true, if_false, Bool.false_eq_true, Bool.not_true, Bool.not_false, Nat.add_zero, Nat.zero_add, Nat.reduceAdd]
      refine wpPi_field _ _ _ _ _ _ rfl rfl rfl fo_70_1 ?_
      simp only [pl, pn, el, ec, sz, ss, gz, gs, if_true, if_false, Bool.false_eq_true, Bool.not_true, Bool.not_false, Nat.add_zero, Nat.zero_add, Nat.reduceAdd]
      refine wpPi_do rfl (fun K hK => ?_)
      refine wp_exec (exec_load1 3 _ (by rfl) w7.heap.size 1 (by rfl) (.int .i64 (0)) (by simp [World.cell?, hB8]) _ Tryz.underlying3 rfl) ?_
      refine hK _ _ trivial ?_
      clear hK K
      try simp only [pl, pn, el, ec, sz, ss, gz, gs, if_true, if_false, Bool.false_eq_true, Bool.not_true, Bool.not_false, Nat.add_zero, Nat.zero_add, Nat.reduceAdd]
      refine wpPi_add _ _ _ _ (0) 1 rfl rfl rfl rfl (by have := HCb.out; have := HFew.out; omega) (by have := HCb.out; have := HFew.out; omega) ?_
      simp only [pl, pn, el, ec, sz, ss, gz, gs, if_true, if_false, Bool.false_eq_true, Bool.not_true, Bool.not_false, Nat.add_zero, Nat.zero_add, Nat.reduceAdd]
      refine wpPi_nilCheck _ _ rfl rfl rfl ?_
      simp only [pl, pn, el, ec, sz, ss, gz, gs, if_true, if_false, Bool.false_eq_true, Bool.not_true, Bool.not_false, Nat.add_zero, Nat.zero_add, Nat.reduceAdd]
      refine wpPi_field _ _ _ _ _ _ rfl rfl rfl fo_70_1 ?_
      simp only [pl, pn, el, ec, sz, ss, gz, gs, if_true, if_false, Bool.false_eq_true, Bool.not_true, Bool.not_false, Nat.add_zero, Nat.zero_add, Nat.reduceAdd]
      refine wpPi_do rfl (fun K hK => ?_)
      refine wp_store1 3 _ _ w7.heap.size 1 (.int .i64 (0 + 1)) (by rfl) (by rfl) (by rfl) rfl (by kernel_rfl) _ _ hB8 (by simp) (fun w9 hB9 hm9 => ?_)
      refine hK _ _ trivial ?_
      clear hK K
      try simp only [pl, pn, el, ec, sz, ss, gz, gs, if_true, if_false, Bool.false_eq_true, Bool.not_true, Bool.not_false, Nat.add_zero, Nat.zero_add, Nat.reduceAdd]
      refine wpPi_nil ?_
      replace hB9 : w9.heap[w7.heap.size]? = some (.cells #[.int .i64 (0 + size), .int .i64 (0 + 1)] 70 (0, 0)) := hB9
      have hm89 : Mod (fun j => j = w7.heap.size) w72 w9 := hm8.trans hm9 (fun _ _ h => h)
      go_wp2
      go_ret2
      have HFu' := HFu.out
      rw [HRt.out, HF.out _ _ HRt.out]
      have hgu : getL k.1 us = none := (h5.useNone k.1).2 HCN.out
      have hlt7 : ∀ j, Foot bl ml mu us j → j < w7.heap.size := fun j hj => Nat.lt_of_lt_of_le (hltm j hj) hM7.size
      rw [putL_map (f := useV), putL_none hgu] at hum72
      have hsz67 := hM7.size
      have hszw := hM.size
      have hbl7 := hlt7 bl (.inl rfl)
      have hml7 := hlt7 ml (.inr (.inl rfl))
      have hlt9 : w7.heap.size < w9.heap.size := (Array.getElem?_eq_some_iff.1 hB9).1
      have hn1 := hn.2.1
      have hne := h5.ne
      have hb9 := hm89.obj (b := bl) (by omega) (hMu.obj (b := bl) hn1 hbox7)
      have hnot : k.1 ∉ us.map (·.1) := getL_none.1 hgu
      refine ⟨rfl, us ++ [(k.1, w7.heap.size)], h5.added (b := w7.heap.size) ⟨hs0, hs4⟩ HN.out HFu' HG.out (hb9.trans h5.box.symm) ((hlm7.keep hMu hne).keep hm89 (by omega)) ?_ ?_ ?_ ?_ (by simp) ?_ ?_, ?_, ?_⟩
      · have := hum72.keep hm89 (by omega)
        simpa using this
      · rw [HUN.out, HCN.out]; exact hB9
      · intro p hp hpk
        rcases List.mem_append.1 hp with hp | hp
        · have h1 := hlt7 p.2 (.inr (.inr (.inr ⟨p, hp, rfl⟩)))
          exact hm89.obj (b := p.2) (by omega) (hMu.obj (b := p.2) (hnu p hp).2.2 (hub7 p hp))
        · simp at hp; subst hp; exact absurd rfl hpk
      · intro p hp hpk
        rcases List.mem_append.1 hp with hp | hp
        · exact absurd (hpk ▸ List.mem_map.2 ⟨p, hp, rfl⟩) hnot
        · simp at hp; subst hp; rfl
      · intro r hr; simp [hr]
      · rw [List.map_append, List.nodup_append]
        refine ⟨h5.ud, by simp, fun x hx y hy e => ?_⟩
        obtain ⟨p, hp, rfl⟩ := List.mem_map.1 hx
        have h1 := hlt7 p.2 (.inr (.inr (.inr ⟨p, hp, rfl⟩)))
        simp at hy; omega
      · exact (((hM.mono (S' := Foot bl ml mu us) (fun _ _ h => False.elim h)).trans hM7 (fun j _ e => .inr (.inl e))).trans hMu (fun j _ e => .inr (.inr (.inl e)))).trans hm89 (fun j hj e => by omega)
      · intro j hj
        rcases hj with e | e | e | ⟨p, hp, e⟩
        · exact .inl (.inl e)
        · exact .inl (.inr (.inl e))
        · exact .inl (.inr (.inr (.inl e)))
        · rcases List.mem_append.1 hp with hp | hp
          · exact .inl (.inr (.inr (.inr ⟨p, hp, e⟩)))
          · simp at hp; subst hp; exact .inr ⟨by rw [e]; show w.heap.size ≤ w7.heap.size; omega, by rw [e]; exact hlt9⟩
    | some ub =>
      refine wp_region_seq [3, 3, 3, 1, 3, 1, 3] (fun _ => True) (by rfl) (by rfl) trivial ?_
      simp only [List.zip_cons_cons, List.zip_nil_right]
      refine wpPi_move _ rfl rfl ?_
      simp only [pl, pn, el, ec, sz, ss, gz, gs, if_true, if_false, Bool.false_eq_true, Bool.not_true, Bool.not_false, Nat.add_zero, Nat.zero_add, Nat.reduceAdd]
      refine wpPi_nilCheck _ _ rfl rfl rfl ?_
      simp only [pl, pn, el, ec, sz, ss, gz, gs, if_true, if_false, Bool.false_eq_true, Bool.not_true, Bool.not_false, Nat.add_zero, Nat.zero_add, Nat.reduceAdd]
      refine wpPi_field _ _ _ _ _ _ rfl rfl rfl fo_53_2 ?_
      simp only [pl, pn, el, ec, sz, ss, gz, gs, if_true, if_false, Bool.false_eq_true, Bool.not_true, Bool.not_false, Nat.add_zero, Nat.zero_add, Nat.reduceAdd]
      refine wpPi_do rfl (fun K hK => ?_)
      refine wp_exec (exec_load1 50 _ (by rfl) bl 2 (by rfl) _ hc72 _ Tryz.underlying50 rfl) ?_
      refine hK _ _ trivial ?_
      clear hK K
      try simp only [pl, pn, el, ec, sz, ss, gz, gs, if_true, if_false, Bool.false_eq_true, Bool.not_true, Bool.not_false, Nat.add_zero, Nat.zero_add, Nat.reduceAdd]
      refine wpPi_move _ rfl rfl ?_
      simp only [pl, pn, el, ec, sz, ss, gz, gs, if_true, if_false, Bool.false_eq_true, Bool.not_true, Bool.not_false, Nat.add_zero, Nat.zero_add, Nat.reduceAdd]
      refine wpPi_do rfl (fun K hK => ?_)
      refine wp_exec (v := .pointer (some ⟨ub, 0, none⟩)) (lookS_at hum7 _ _ k.1 (by rfl) (by rfl) (by rfl) (by simp [useP, hgu, useV])) ?_
      refine hK _ _ trivial ?_
      clear hK K
      try simp only [pl, pn, el, ec, sz, ss, gz, gs, if_true, if_false, Bool.false_eq_true, Bool.not_true, Bool.not_false, Nat.add_zero, Nat.zero_add, Nat.reduceAdd]
      refine wpPi_assign _ rfl rfl ?_
      simp only [pl, pn, el, ec, sz, ss, gz, gs, if_true, if_false, Bool.false_eq_true, Bool.not_true, Bool.not_false, Nat.add_zero, Nat.zero_add, Nat.reduceAdd]
      refine wpPi_nil ?_
      have hmem := getL_mem hgu
      have hBu := hub7 _ hmem
      have HGU := Lib.hid hgu
      clear hgu
      go_upto_region 19 with (fail)
      refine wp_region_seq [3, 3, 3, 1, 3, 3, 3, 3, 1] (fun _ => True) (by rfl) (by rfl) trivial ?_
      simp only [List.zip_cons_cons, List.zip_nil_right]
      refine wpPi_move _ rfl rfl ?_
      simp only [pl, pn, el, ec, sz, ss, gz, gs, if_true, if_false, Bool.false_eq_true, Bool.not_true, Bool.not_false, Nat.add_zero, Nat.zero_add, Nat.reduceAdd]
      refine wpPi_nilCheck _ _ rfl rfl rfl ?_
      simp only [pl, pn, el, ec, sz, ss, gz, gs, if_true, if_false, Bool.false_eq_true, Bool.not_true, Bool.not_false, Nat.add_zero, Nat.zero_add, Nat.reduceAdd]
      refine wpPi_field _ _ _ _ _ _ rfl rfl rfl fo_70_0 ?_
      simp only [pl, pn, el, ec, sz, ss, gz, gs, if_true, if_false, Bool.false_eq_true, Bool.not_true, Bool.not_false, Nat.add_zero, Nat.zero_add, Nat.reduceAdd]
      refine wpPi_do rfl (fun K hK => ?_)
      refine wp_exec (exec_load1 3 _ (by rfl) ub 0 (by rfl) (.int .i64 (useOf l k.1)) (by simp [World.cell?, hBu]) _ Tryz.underlying3 rfl) ?_
      refine hK _ _ trivial ?_
      clear hK K
      try simp only [pl, pn, el, ec, sz, ss, gz, gs, if_true, if_false, Bool.false_eq_true, Bool.not_true, Bool.not_false, Nat.add_zero, Nat.zero_add, Nat.reduceAdd]
      refine wpPi_move _ rfl rfl ?_
      simp only [pl, pn, el, ec, sz, ss, gz, gs, if_true, if_false, Bool.false_eq_true, Bool.not_true, Bool.not_false, Nat.add_zero, Nat.zero_add, Nat.reduceAdd]
      refine wpPi_add _ _ _ _ (useOf l k.1) size rfl rfl rfl rfl (by have := hub2.1; omega) (by have := hub2.2; omega) ?_
      simp only [pl, pn, el, ec, sz, ss, gz, gs, if_true, if_false, Bool.false_eq_true, Bool.not_true, Bool.not_false, Nat.add_zero, Nat.zero_add, Nat.reduceAdd]
      refine wpPi_nilCheck _ _ rfl rfl rfl ?_
      simp only [pl, pn, el, ec, sz, ss, gz, gs, if_true, if_false, Bool.false_eq_true, Bool.not_true, Bool.not_false, Nat.add_zero, Nat.zero_add, Nat.reduceAdd]
      refine wpPi_field _ _ _ _ _ _ rfl rfl rfl fo_70_0 ?_
      simp only [pl, pn, el, ec, sz, ss, gz, gs, if_true, if_false, Bool.false_eq_true, Bool.not_true, Bool.not_false, Nat.add_zero, Nat.zero_add, Nat.reduceAdd]
      refine wpPi_do rfl (fun K hK => ?_)
      refine wp_store1 3 _ _ ub 0 (.int .i64 (useOf l k.1 + size)) (by rfl) (by rfl) (by rfl) rfl (by kernel_rfl) _ _ hBu (by simp) (fun w8 hB8 hm8 => ?_)
      refine hK _ _ trivial ?_
      clear hK K
      try simp only [pl, pn, el, ec, sz, ss, gz, gs, if_true, if_false, Bool.false_eq_true, Bool.not_true, Bool.not_false, Nat.add_zero, Nat.zero_add, Nat.reduceAdd]
      refine wpPi_nil ?_
      replace hB8 : w8.heap[ub]? = some (.cells #[.int .i64 (useOf l k.1 + size), .int .i64 ((cntOf l k.1 : Int))] 70 (0, 0)) := hB8
      go_upto_region 20 with (fail)
      refine wp_region_seq [3, 3, 3, 1, 3, 3, 3, 1] (fun _ => True) (by rfl) (by rfl) trivial ?_
      simp only [List.zip_cons_cons, List.zip_nil_right]
      refine wpPi_move _ rfl rfl ?_
      simp only [pl, pn, el, ec, sz, ss, gz, gs, if_true, if_false, Bool.false_eq_true, Bool.not_true, Bool.not_false, Nat.add_zero, Nat.zero_add, Nat.reduceAdd]
      refine wpPi_nilCheck _ _ rfl rfl rfl ?_
      simp only [pl, pn, el, ec, sz, ss, gz, gs, if_true, if_false, Bool.false_eq_true, Bool.not_true, Bool.not_false, Nat.add_zero, Nat.zero_add, Nat.reduceAdd]
      refine wpPi_field _ _ _ _ _ _ rfl rfl rfl fo_70_1 ?_
      simp only [pl, pn, el, ec, sz, ss, gz, gs, if_true, if_false, Bool.false_eq_true, Bool.not_true, Bool.not_false, Nat.add_zero, Nat.zero_add, Nat.reduceAdd]
      refine wpPi_do rfl (fun K hK => ?_)
      refine wp_exec (exec_load1 3 _ (by rfl) ub 1 (by rfl) (.int .i64 ((cntOf l k.1 : Int))) (by simp [World.cell?, hB8]) _ Tryz.underlying3 rfl) ?_
      refine hK _ _ trivial ?_
      clear hK K
      try simp only [pl, pn, el, ec, sz, ss, gz, gs, if_true, if_false, Bool.false_eq_true, Bool.not_true, Bool.not_false, Nat.add_zero, Nat.zero_add, Nat.reduceAdd]
      refine wpPi_add _ _ _ _ ((cntOf l k.1 : Int)) 1 rfl rfl rfl rfl (by have := HCb.out; have := HFew.out; omega) (by have := HCb.out; have := HFew.out; omega) ?_
      simp only [pl, pn, el, ec, sz, ss, gz, gs, if_true, if_false, Bool.false_eq_true, Bool.not_true, Bool.not_false, Nat.add_zero, Nat.zero_add, Nat.reduceAdd]
      refine wpPi_nilCheck _ _ rfl rfl rfl ?_
      simp only [pl, pn, el, ec, sz, ss, gz, gs, if_true, if_false, Bool.false_eq_true, Bool.not_true, Bool.not_false, Nat.add_zero, Nat.zero_add, Nat.reduceAdd]
      refine wpPi_field _ _ _ _ _ _ rfl rfl rfl fo_70_1 ?_
      simp only [pl, pn, el, ec, sz, ss, gz, gs, if_true, if_false, Bool.false_eq_true, Bool.not_true, Bool.not_false, Nat.add_zero, Nat.zero_add, Nat.reduceAdd]
      refine wpPi_do rfl (fun K hK => ?_)
      refine wp_store1 3 _ _ ub 1 (.int .i64 ((cntOf l k.1 : Int) + 1)) (by rfl) (by rfl) (by rfl) rfl (by kernel_rfl) _ _ hB8 (by simp) (fun w9 hB9 hm9 => ?_)
      refine hK _ _ trivial ?_
      clear hK K
      try simp only [pl, pn, el, ec, sz, ss, gz, gs, if_true, if_false, Bool.false_eq_true, Bool.not_true, Bool.not_false, Nat.add_zero, Nat.zero_add, Nat.reduceAdd]
      refine wpPi_nil ?_
      replace hB9 : w9.heap[ub]? = some (.cells #[.int .i64 (useOf l k.1 + size), .int .i64 ((cntOf l k.1 : Int) + 1)] 70 (0, 0)) := hB9
      have hm89 : Mod (fun j => j = ub) w7 w9 := hm8.trans hm9 (fun _ _ h => h)
      go_wp2
      go_ret2
      have HFu' := HFu.out
      rw [HRt.out, HF.out _ _ HRt.out]
      have hsz67 := hM7.size
      have hszw := hM.size
      have hlt7 : ∀ j, Foot bl ml mu us j → j < w7.heap.size := fun j hj => Nat.lt_of_lt_of_le (hltm j hj) hM7.size
      have hneu := hnu _ hmem
      have hn1 := hneu.1
      have hn2 := hneu.2.1
      have hn3 := hneu.2.2
      refine ⟨rfl, us, h5.added (b := ub) ⟨hs0, hs4⟩ HN.out HFu' HG.out ((hm89.obj (b := bl) (fun e => hn1 e.symm) hbox7).trans h5.box.symm) (hlm7.keep hm89 (fun e => hn2 e.symm)) (hum7.keep hm89 (fun e => hn3 e.symm)) hB9 ?_ ?_ (List.mem_map.2 ⟨_, hmem, rfl⟩) (fun r _ => Iff.rfl) h5.ud, ?_, fun j hj => .inl hj⟩
      · intro p hp hpk
        exact hm89.obj (b := p.2) (fun e => hpk (congrArg Prod.fst (nodup_inj (f := (·.2)) h5.ud hp hmem e))) (hub7 p hp)
      · intro p hp hpk
        exact congrArg Prod.snd (nodup_inj (f := (·.1)) h5.und hp hmem hpk)
      · exact ((hM.mono (S' := Foot bl ml mu us) (fun _ _ h => False.elim h)).trans hM7 (fun j _ e => .inr (.inl e))).trans hm89 (fun j _ e => .inr (.inr (.inr ⟨_, hmem, e⟩)))
end
end Go.Proofs.YtcfcahflkhgapaaGreat
