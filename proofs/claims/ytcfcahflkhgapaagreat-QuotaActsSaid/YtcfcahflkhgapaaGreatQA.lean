/- The links in memory; New, Limit, Use, Has. -/
import Derived.Test.YtcfcahflkhgapaaGreatKeyA
namespace Go.Proofs.YtcfcahflkhgapaaGreat
set_option linter.unusedSimpArgs false
set_option linter.unusedVariables false
set_option linter.unnecessarySimpa false
set_option linter.unusedSectionVars false
open Go.RowKit Go.Shelf

/-! ### Lists of links -/
theorem getL_map {α β γ : Type} [DecidableEq α] (f : β → γ) (k : α) (l : List (α × β)) : getL k (l.map fun p => (p.1, f p.2)) = (getL k l).map f := by
  induction l with
  | nil => rfl
  | cons p l ih => simp only [List.map_cons, getL]; split <;> simp_all
theorem putL_map {α β γ : Type} [DecidableEq α] (f : β → γ) (k : α) (v : β) (l : List (α × β)) : putL k (f v) (l.map fun p => (p.1, f p.2)) = (putL k v l).map fun p => (p.1, f p.2) := by
  induction l with
  | nil => rfl
  | cons p l ih => simp only [List.map_cons, putL]; split <;> simp_all
theorem delL_map {α β γ : Type} [DecidableEq α] (f : β → γ) (k : α) (l : List (α × β)) : delL k (l.map fun p => (p.1, f p.2)) = (delL k l).map fun p => (p.1, f p.2) := by
  induction l with
  | nil => rfl
  | cons p l ih => simp only [List.map_cons, delL]; split <;> simp_all
def linkV (n : Int) : Value := .agg #[.int .i64 n]
def useV (b : Nat) : Value := .pointer (some ⟨b, 0, none⟩)
abbrev LinkL := List (Key × Int)
/-- What a repository has. -/
def useOf : LinkL → ByteArray → Int
  | [], _ => 0
  | p :: l, r => (if p.1.1 = r then p.2 else 0) + useOf l r
def cntOf : LinkL → ByteArray → Nat
  | [], _ => 0
  | p :: l, r => (if p.1.1 = r then 1 else 0) + cntOf l r
theorem useOf_append (l m : LinkL) (r : ByteArray) : useOf (l ++ m) r = useOf l r + useOf m r := by
  induction l with
  | nil => simp [useOf]
  | cons p l ih => simp only [List.cons_append, useOf, ih]; omega
theorem cntOf_append (l m : LinkL) (r : ByteArray) : cntOf (l ++ m) r = cntOf l r + cntOf m r := by
  induction l with
  | nil => simp [cntOf]
  | cons p l ih => simp only [List.cons_append, cntOf, ih]; omega
theorem cntOf_le (l : LinkL) (r : ByteArray) : cntOf l r ≤ l.length := by
  induction l with
  | nil => simp [cntOf]
  | cons p l ih => simp only [cntOf, List.length_cons]; split <;> omega
theorem useOf_le (l : LinkL) (r : ByteArray) (h : ∀ p ∈ l, 0 ≤ p.2 ∧ p.2 ≤ 4096) : 0 ≤ useOf l r ∧ useOf l r ≤ 4096 * l.length := by
  induction l with
  | nil => simp [useOf]
  | cons p l ih =>
    have h1 := h p (by simp)
    have h2 := ih fun q hq => h q (by simp [hq])
    simp only [useOf, List.length_cons]; split <;> omega
theorem cntOf_pos {l : LinkL} {r : ByteArray} (h : 0 < cntOf l r) : ∃ p ∈ l, p.1.1 = r := by
  induction l with
  | nil => simp [cntOf] at h
  | cons p l ih =>
    simp only [cntOf] at h
    by_cases hp : p.1.1 = r
    · exact ⟨p, by simp, hp⟩
    · rw [if_neg hp, Nat.zero_add] at h
      obtain ⟨q, hq, e⟩ := ih h
      exact ⟨q, by simp [hq], e⟩
theorem cntOf_of_mem {l : LinkL} {p : Key × Int} (h : p ∈ l) : 0 < cntOf l p.1.1 := by
  induction l with
  | nil => cases h
  | cons q l ih =>
    simp only [cntOf]
    rcases List.mem_cons.1 h with rfl | h
    · simp; omega
    · have := ih h; omega

/-! ### In memory -/
/-- Block bl is links: under a limit, with the links l (map ml), and for each repository us a block of its use (map mu). -/
structure LkInv (w : World) (bl ml mu : Nat) (limit : Int) (hold : Value) (l : LinkL) (us : List (ByteArray × Nat)) : Prop where
  box : w.heap[bl]? = some (.cells #[.int .i64 limit, .map (some ml), .map (some mu), hold] 53 (0, 0))
  one : hold.oneCell' = true
  lm : MapIs keyV KeyOk w ml (l.map fun p => (p.1, linkV p.2))
  um : MapIs Value.string (fun _ => True) w mu (us.map fun p => (p.1, useV p.2))
  ub : ∀ p ∈ us, w.heap[p.2]? = some (.cells #[.int .i64 (useOf l p.1), .int .i64 (cntOf l p.1)] 70 (0, 0))
  uk : ∀ r, r ∈ us.map (·.1) ↔ 0 < cntOf l r
  ud : (us.map (·.2)).Nodup
  sz : ∀ p ∈ l, 0 ≤ p.2 ∧ p.2 ≤ 4096
  nm : ∀ p ∈ l, nameB p.1.1 = true
  few : l.length ≤ 65536
  ne : ml ≠ mu
  lim : 0 ≤ limit ∧ limit ≤ 1099511627776
def Foot (bl ml mu : Nat) (us : List (ByteArray × Nat)) (k : Nat) : Prop := k = bl ∨ k = ml ∨ k = mu ∨ ∃ p ∈ us, k = p.2

section
variable {w : World} {bl ml mu : Nat} {limit : Int} {hold : Value} {l : LinkL} {us : List (ByteArray × Nat)}
theorem LkInv.keep {S : Nat → Prop} {w' : World} (h : LkInv w bl ml mu limit hold l us) (hm : Mod S w w') (hS : ∀ k, Foot bl ml mu us k → ¬ S k) : LkInv w' bl ml mu limit hold l us :=
  ⟨hm.obj (hS _ (.inl rfl)) h.box, h.one, h.lm.keep hm (hS _ (.inr (.inl rfl))), h.um.keep hm (hS _ (.inr (.inr (.inl rfl)))),
   fun p hp => hm.obj (hS _ (.inr (.inr (.inr ⟨p, hp, rfl⟩)))) (h.ub p hp), h.uk, h.ud, h.sz, h.nm, h.few, h.ne, h.lim⟩
theorem LkInv.keep0 {w' : World} (h : LkInv w bl ml mu limit hold l us) (hm : Mod NoB w w') : LkInv w' bl ml mu limit hold l us := h.keep hm (fun _ _ => id)
theorem LkInv.cell (h : LkInv w bl ml mu limit hold l us) : w.cell? ⟨bl, 0, none⟩ = some (.int .i64 limit) ∧ w.cell? ⟨bl, 1, none⟩ = some (.map (some ml)) ∧ w.cell? ⟨bl, 2, none⟩ = some (.map (some mu)) ∧ w.cell? ⟨bl, 3, none⟩ = some hold := by
  simp [World.cell?, h.box]
theorem LkInv.lt (h : LkInv w bl ml mu limit hold l us) : ∀ k, Foot bl ml mu us k → k < w.heap.size := by
  intro k hk
  rcases hk with rfl | rfl | rfl | ⟨p, hp, rfl⟩
  · exact (Array.getElem?_eq_some_iff.1 h.box).1
  · exact h.lm.lt
  · exact h.um.lt
  · exact (Array.getElem?_eq_some_iff.1 (h.ub p hp)).1
theorem LkInv.nes (h : LkInv w bl ml mu limit hold l us) : bl ≠ ml ∧ bl ≠ mu ∧ ∀ p ∈ us, p.2 ≠ bl ∧ p.2 ≠ ml ∧ p.2 ≠ mu := by
  obtain ⟨es, clk, h1, _⟩ := h.lm.obj
  obtain ⟨es', clk', h2, _⟩ := h.um.obj
  have hb := h.box
  refine ⟨fun e => ?_, fun e => ?_, fun p hp => ⟨fun e => ?_, fun e => ?_, fun e => ?_⟩⟩
  · rw [e, h1] at hb; cases hb
  · rw [e, h2] at hb; cases hb
  · have h3 := h.ub p hp; rw [e, hb] at h3
    have h3 := (Obj.cells.inj (Option.some.inj h3)).1
    have := congrArg Array.size h3; simp at this
  · have h3 := h.ub p hp; rw [e, h1] at h3; cases h3
  · have h3 := h.ub p hp; rw [e, h2] at h3; cases h3
theorem LkInv.nd (h : LkInv w bl ml mu limit hold l us) : (l.map (·.1)).Nodup := by
  have := h.lm.nd
  simpa [List.map_map, Function.comp_def] using this
theorem LkInv.und (h : LkInv w bl ml mu limit hold l us) : (us.map (·.1)).Nodup := by
  have := h.um.nd
  simpa [List.map_map, Function.comp_def] using this
theorem LkInv.keyOk (h : LkInv w bl ml mu limit hold l us) : ∀ p ∈ l, KeyOk p.1 := fun p hp => h.lm.ok (p.1, linkV p.2) (List.mem_map.2 ⟨p, hp, rfl⟩)
theorem LkInv.useNone (h : LkInv w bl ml mu limit hold l us) (r : ByteArray) : getL r us = none ↔ cntOf l r = 0 := by
  rw [getL_none, h.uk]; omega
theorem useOf_none {l : LinkL} {r : ByteArray} (h : cntOf l r = 0) : useOf l r = 0 := by
  induction l with
  | nil => rfl
  | cons p l ih =>
    simp only [cntOf] at h
    have h1 : ¬ p.1.1 = r := fun e => by rw [if_pos e] at h; omega
    have h2 : cntOf l r = 0 := by omega
    simp [useOf, h1, ih h2]

/-- What New tells. -/
def NewR (n : Int) (w : World) (e : Ending) (w' : World) : Prop :=
  (0 ≤ n ∧ n ≤ 1099511627776 ∧ ∃ bl ml mu, e = .returned (.tuple #[.pointer (some ⟨bl, 0, none⟩), .int .i64 0]) ∧ LkInv w' bl ml mu n .nilFunc [] [] ∧ Mod NoB w w' ∧ ∀ k, Foot bl ml mu [] k → New w w' k) ∨
  (¬ (0 ≤ n ∧ n ≤ 1099511627776) ∧ e = .returned (.tuple #[.pointer none, .int .i64 3]) ∧ w' = w)

set_option maxRecDepth 10000 in
set_option maxHeartbeats 400000 in
theorem new_any (n : Int) (w : World) : Calls Tryz.prog 4 #[.int .i64 n] w (NewR n w) := by
  have hmm := @run_makeMap Tryz.prog
  go_enter Tryz.func4, Tryz.ntmps4
  by_cases hn : 0 ≤ n ∧ n ≤ 1099511627776
  · obtain ⟨h1, h2⟩ := hn
    go_upto_region 3 with (fail)
    refine wp_region_seq [3, 1, 1, 1, 1, 3, 3] (fun _ => True) (by rfl) (by rfl) trivial ?_
    simp only [List.zip_cons_cons, List.zip_nil_right]
    refine wpPi_move _ rfl rfl ?_
    simp only [pl, pn, el, ec, sz, ss, gz, gs, if_true, if_false, Bool.false_eq_true, Bool.not_true, Bool.not_false, Nat.add_zero, Nat.zero_add, Nat.reduceAdd]
    refine wpPi_do rfl (fun K hK => ?_)
    unfold Oper.wp execOp
    simp only [Array.map_empty, Option.map_none, Sem.run_bind, hmm, Result.andThen_ok, Sem.run_pure]
    have hB := heap_alloc_new w (.map #[] 0)
    have hM := mod_alloc w (.map #[] 0)
    have hs : w.heap.size < (w.alloc (.map #[] 0)).heap.size := by simp
    generalize w.alloc (.map #[] 0) = w1 at hB hM hs ⊢
    refine hK _ _ trivial ?_
    clear hK K
    try simp only [pl, pn, el, ec, sz, ss, gz, gs, if_true, if_false, Bool.false_eq_true, Bool.not_true, Bool.not_false, Nat.add_zero, Nat.zero_add, Nat.reduceAdd]
    refine wpPi_do rfl (fun K hK => ?_)
    unfold Oper.wp execOp
    simp only [Array.map_empty, Option.map_none, Sem.run_bind, hmm, Result.andThen_ok, Sem.run_pure]
    have hB1 := heap_alloc_new w1 (.map #[] 0)
    have hM1 := mod_alloc w1 (.map #[] 0)
    have hs1 : w1.heap.size < (w1.alloc (.map #[] 0)).heap.size := by simp
    generalize w1.alloc (.map #[] 0) = w2 at hB1 hM1 hs1 ⊢
    refine hK _ _ trivial ?_
    clear hK K
    try simp only [pl, pn, el, ec, sz, ss, gz, gs, if_true, if_false, Bool.false_eq_true, Bool.not_true, Bool.not_false, Nat.add_zero, Nat.zero_add, Nat.reduceAdd]
    refine wpPi_do rfl (fun K hK => ?_)
    go_wp2
    refine hK _ _ trivial ?_
    clear hK K
    try simp only [pl, pn, el, ec, sz, ss, gz, gs, if_true, if_false, Bool.false_eq_true, Bool.not_true, Bool.not_false, Nat.add_zero, Nat.zero_add, Nat.reduceAdd]
    refine wpPi_do rfl (fun K hK => ?_)
    refine wp_box 53 _ _ (by rfl) (by rfl) (fun w3 hB2 hm2 hs2 => ?_)
    refine hK _ _ trivial ?_
    clear hK K
    try simp only [pl, pn, el, ec, sz, ss, gz, gs, if_true, if_false, Bool.false_eq_true, Bool.not_true, Bool.not_false, Nat.add_zero, Nat.zero_add, Nat.reduceAdd]
    refine wpPi_assign _ rfl rfl ?_
    simp only [pl, pn, el, ec, sz, ss, gz, gs, if_true, if_false, Bool.false_eq_true, Bool.not_true, Bool.not_false, Nat.add_zero, Nat.zero_add, Nat.reduceAdd]
    refine wpPi_assign _ rfl rfl ?_
    simp only [pl, pn, el, ec, sz, ss, gz, gs, if_true, if_false, Bool.false_eq_true, Bool.not_true, Bool.not_false, Nat.add_zero, Nat.zero_add, Nat.reduceAdd]
    refine wpPi_nil ?_
    go_wp2
    go_ret2
    have hB1' := hm2.obj id hB1
    have hB' := hm2.obj id (hM1.obj id hB)
    refine .inl ⟨h1, h2, _, _, _, rfl, ⟨hB2, rfl, MapIs.made hB', MapIs.made hB1', by simp, fun r => by simp [cntOf], by simp, by simp, by simp, by simp, by omega, ⟨h1, h2⟩⟩, (hM.trans0 hM1).trans0 hm2, fun k hk => ?_⟩
    rcases hk with rfl | rfl | rfl | ⟨p, hp, _⟩
    · exact ⟨by omega, by omega⟩
    · exact ⟨by omega, by omega⟩
    · exact ⟨by omega, by omega⟩
    · simp at hp
  · go_wp2
    all_goals
      go_ret2
      exact .inr ⟨hn, rfl, rfl⟩

/-- Nobody made it. -/
def NoLinks (w : World) (v : Value) : Prop := v = .pointer none ∨ ∃ b lim mu hold, v = .pointer (some ⟨b, 0, none⟩) ∧ w.heap[b]? = some (.cells #[lim, .map none, mu, hold] 53 (0, 0))

set_option maxRecDepth 10000 in
theorem none_at (b : Nat) (m : Option Nat) (w : World) (hc : w.cell? ⟨b, 1, none⟩ = some (.map m)) : Calls Tryz.prog 25 #[.pointer (some ⟨b, 0, none⟩)] w (RetE (.bool m.isNone) w) := by
  have he := fun (w : World) => run_eql_map_nil (P := Tryz.prog) w 49 67 64 m Tryz.underlying49
  cases m
  all_goals
    go_enter Tryz.func25, Tryz.ntmps25
    go_wp2
    go_ret
    exact ⟨rfl, rfl⟩
theorem none_nil (w : World) : Calls Tryz.prog 25 #[.pointer none] w (RetE (.bool true) w) := by
  go_enter Tryz.func25, Tryz.ntmps25
  go_wp2
  go_ret
  exact ⟨rfl, rfl⟩
theorem none_no {v : Value} (h : NoLinks w v) : Calls Tryz.prog 25 #[v] w (RetE (.bool true) w) := by
  rcases h with rfl | ⟨b, lim, mu, hold, rfl, hb⟩
  · exact none_nil w
  · exact none_at b none w (by simp [World.cell?, hb])
theorem LkInv.made (h : LkInv w bl ml mu limit hold l us) : Calls Tryz.prog 25 #[.pointer (some ⟨bl, 0, none⟩)] w (RetE (.bool false) w) := none_at bl (some ml) w h.cell.2.1

theorem limit_any (h : LkInv w bl ml mu limit hold l us) : Calls Tryz.prog 22 #[.pointer (some ⟨bl, 0, none⟩)] w (RetE (.int .i64 limit) w) := by
  have hc := h.cell.1
  go_enter Tryz.func22, Tryz.ntmps22
  go_wp2_with (go_at_call 25; refine h.made.mono ?_; rintro _ _ ⟨rfl, rfl⟩)
  go_ret
  exact ⟨rfl, rfl⟩
theorem limit_no {v : Value} (h : NoLinks w v) : Calls Tryz.prog 22 #[v] w (RetE (.int .i64 0) w) := by
  go_enter Tryz.func22, Tryz.ntmps22
  go_wp2_with (go_at_call 25; refine (none_no h).mono ?_; rintro _ _ ⟨rfl, rfl⟩)
  go_ret
  exact ⟨rfl, rfl⟩
end
end Go.Proofs.YtcfcahflkhgapaaGreat
