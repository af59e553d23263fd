/- Forget. -/
import Derived.Test.YtcfcahflkhgapaaGreatQJ
namespace Go.Proofs.YtcfcahflkhgapaaGreat
set_option linter.unusedSimpArgs false
set_option linter.unusedVariables false
set_option linter.unnecessarySimpa false
set_option linter.unusedSectionVars false
open Go.RowKit Go.Shelf

/-! ### What is left -/
def forgetL (l : LinkL) (x : List UInt8) : LinkL := l.filter fun p => decide (p.1.2 ≠ x)
def forgetN (l : LinkL) (x : List UInt8) : Nat := (l.filter fun p => decide (p.1.2 = x)).length
theorem delL_filter {α β : Type} [DecidableEq α] (k : α) : ∀ (l : List (α × β)), (l.map (·.1)).Nodup → delL k l = l.filter fun p => decide (p.1 ≠ k)
  | [], _ => rfl
  | p :: l, h => by
    simp only [List.map_cons, List.nodup_cons] at h
    unfold delL
    by_cases hp : k = p.1
    · have hall : l.filter (fun p => decide (p.1 ≠ k)) = l := List.filter_eq_self.2 fun q hq => by
        have : q.1 ≠ k := fun e => h.1 (by rw [← hp, ← e]; exact List.mem_map.2 ⟨q, hq, rfl⟩)
        simpa using this
      rw [if_pos hp, List.filter_cons_of_neg (by simp [hp]), hall]
    · rw [if_neg hp, List.filter_cons_of_pos (by simpa using fun e => hp e.symm), delL_filter k l h.2]
theorem unL_filter (l : LinkL) (k : Key) (h : (l.map (·.1)).Nodup) : unL l k = l.filter fun p => decide (p.1 ≠ k) := by
  unfold unL
  split
  · exact delL_filter k l h
  · rename_i hs
    have hn : getL k l = none := by simpa using hs
    have := getL_none.1 hn
    exact (List.filter_eq_self.2 fun q hq => by
      have : q.1 ≠ k := fun e => this (e ▸ List.mem_map.2 ⟨q, hq, rfl⟩)
      simpa using this).symm
theorem nodup_filter {l : LinkL} {f : Key × Int → Bool} (h : (l.map (·.1)).Nodup) : ((l.filter f).map (·.1)).Nodup := h.sublist (List.filter_sublist.map _)
/-- Behind the first of the names. -/
def hasR (rs : List ByteArray) (r : ByteArray) : Bool := rs.any fun a => decide (a = r)
theorem hasR_iff (rs : List ByteArray) (r : ByteArray) : hasR rs r = true ↔ r ∈ rs := by
  simp only [hasR, List.any_eq_true, decide_eq_true_eq]
  exact ⟨fun ⟨a, h, e⟩ => e ▸ h, fun h => ⟨r, h, rfl⟩⟩
def fgL (l : LinkL) (x : List UInt8) (rs : List ByteArray) : LinkL := l.filter fun p => decide (¬ (hasR rs p.1.1 = true ∧ p.1.2 = x))
def fgN (l : LinkL) (x : List UInt8) (rs : List ByteArray) : Nat := (l.filter fun p => decide (hasR rs p.1.1 = true ∧ p.1.2 = x)).length
theorem fgL_nil (l : LinkL) (x : List UInt8) : fgL l x [] = l := by simp [fgL, hasR]
theorem fgN_nil (l : LinkL) (x : List UInt8) : fgN l x [] = 0 := by simp [fgN, hasR]
theorem fgL_snoc (l : LinkL) (x : List UInt8) (rs : List ByteArray) (r : ByteArray) (h : (l.map (·.1)).Nodup) : unL (fgL l x rs) (r, x) = fgL l x (rs ++ [r]) := by
  unfold fgL
  rw [unL_filter _ _ (nodup_filter h), List.filter_filter]
  apply List.filter_congr
  intro p _
  rw [Bool.eq_iff_iff]
  simp only [Bool.and_eq_true, decide_eq_true_eq, hasR_iff, List.mem_append, List.mem_singleton, Prod.ext_iff, ne_eq]
  constructor
  · rintro ⟨h1, h2⟩ ⟨h3 | h3, h4⟩
    · exact h2 ⟨h3, h4⟩
    · exact h1 ⟨h3, h4⟩
  · intro h1
    exact ⟨fun ⟨h2, h3⟩ => h1 ⟨.inr h2, h3⟩, fun ⟨h2, h3⟩ => h1 ⟨.inl h2, h3⟩⟩
theorem getL_fg (l : LinkL) (x : List UInt8) (rs : List ByteArray) (r : ByteArray) (hr : r ∉ rs) (h : (l.map (·.1)).Nodup) : (getL (r, x) (fgL l x rs)).isSome = (getL (r, x) l).isSome := by
  have key : ∀ m : LinkL, (getL (r, x) m).isSome = true ↔ (r, x) ∈ m.map (·.1) := fun m => by
    have := getL_none (k := (r, x)) (l := m)
    cases hg : getL (r, x) m with
    | none => simp [this.1 hg]
    | some v =>
      simp only [Option.isSome_some, true_iff]
      exact Classical.byContradiction fun hn => by rw [this.2 hn] at hg; cases hg
  rw [Bool.eq_iff_iff, key, key]
  unfold fgL
  simp only [List.mem_map, List.mem_filter, decide_eq_true_eq, hasR_iff]
  constructor
  · rintro ⟨p, ⟨h1, _⟩, h2⟩; exact ⟨p, h1, h2⟩
  · rintro ⟨p, h1, h2⟩; exact ⟨p, ⟨h1, fun h3 => hr (by have h4 := h3.1; rw [h2] at h4; exact h4)⟩, h2⟩
theorem count_key : ∀ {l : LinkL} {k : Key}, (l.map (·.1)).Nodup → (l.filter fun p => decide (p.1 = k)).length = if (getL k l).isSome then 1 else 0
  | [], k, _ => by simp [getL]
  | p :: l, k, h => by
    simp only [List.map_cons, List.nodup_cons] at h
    have ih := count_key (k := k) h.2
    by_cases hp : p.1 = k
    · have hn : getL k l = none := getL_none.2 (hp ▸ h.1)
      rw [hn] at ih
      simp only [List.filter_cons, hp, decide_true, if_true, List.length_cons, ih]
      simp [getL, hp]
    · simp only [List.filter_cons, hp, decide_false, Bool.false_eq_true, if_false, ih]
      have hp' : ¬ k = p.1 := fun e => hp e.symm
      simp [getL, hp']
theorem length_filter_or {α : Type} (f g : α → Bool) (h : ∀ a, ¬ (f a = true ∧ g a = true)) : ∀ l : List α, (l.filter fun a => f a || g a).length = (l.filter f).length + (l.filter g).length
  | [] => rfl
  | a :: l => by
    have ih := length_filter_or f g h l
    have := h a
    simp only [List.filter_cons]
    cases hf : f a <;> cases hg : g a <;> simp_all <;> omega
theorem fgN_snoc (l : LinkL) (x : List UInt8) (rs : List ByteArray) (r : ByteArray) (hr : r ∉ rs) (h : (l.map (·.1)).Nodup) : fgN l x (rs ++ [r]) = fgN l x rs + (if (getL (r, x) l).isSome then 1 else 0) := by
  rw [← count_key h]
  unfold fgN
  rw [← length_filter_or]
  · congr 1
    apply List.filter_congr
    intro p _
    rw [Bool.eq_iff_iff]
    simp only [Bool.or_eq_true, decide_eq_true_eq, hasR_iff, List.mem_append, List.mem_singleton, Prod.ext_iff]
    constructor
    · rintro ⟨h1 | h1, h2⟩
      · exact .inl ⟨h1, h2⟩
      · exact .inr ⟨h1, h2⟩
    · rintro (⟨h1, h2⟩ | ⟨h1, h2⟩)
      · exact ⟨.inl h1, h2⟩
      · exact ⟨.inr h1, h2⟩
  · intro p
    simp only [decide_eq_true_eq, hasR_iff, Prod.ext_iff]
    rintro ⟨⟨h1, _⟩, h2, _⟩
    exact hr (h2 ▸ h1)
theorem fg_all (l : LinkL) (x : List UInt8) (rs : List ByteArray) (h : ∀ r, r ∈ rs ↔ 0 < cntOf l r) : fgL l x rs = forgetL l x ∧ fgN l x rs = forgetN l x := by
  constructor
  · unfold fgL forgetL
    apply List.filter_congr
    intro p hp
    have := (hasR_iff rs p.1.1).2 ((h p.1.1).2 (cntOf_of_mem hp))
    simp [this]
  · unfold fgN forgetN
    congr 1
    apply List.filter_congr
    intro p hp
    have := (hasR_iff rs p.1.1).2 ((h p.1.1).2 (cntOf_of_mem hp))
    simp [this]
theorem fgN_le (l : LinkL) (x : List UInt8) (rs : List ByteArray) : fgN l x rs ≤ l.length := List.length_filter_le _ _

section
variable {w0 w : World} {p : Value} {limit : Int} {l : LinkL} {F : Nat → Prop}
theorem repos_at (h : LkAt w0 w p limit l F) : Calls Tryz.prog 16 #[p] w (RetN w fun v w' => ∃ names, ReposOf l names ∧ Sl true w' (New w w') 1 StrC v names) := by
  obtain ⟨_, ⟨bl, ml, mu, hold, us, rfl, hi, hF⟩, _, _⟩ := id h
  exact repos_any hi
theorem LStep.trans {w1 w2 : World} {l1 l2 : LinkL} (h : LStep w0 w p limit F w1 l1) (k : ∀ F1, LkAt w0 w1 p limit l1 F1 → LStep w0 w1 p limit F1 w2 l2) : LStep w0 w p limit F w2 l2 := by
  obtain ⟨F1, h1, m1, n1⟩ := h
  obtain ⟨F2, h2, m2, n2⟩ := k F1 h1
  refine ⟨F2, h2, m1.trans m2 (fun k hk hs => (n1 k hs).elim id fun hn => ?_), fun k hk => ?_⟩
  · have := hn.1; omega
  · rcases n2 k hk with h | h
    · exact (n1 k h).imp id fun hn => ⟨hn.1, Nat.lt_of_lt_of_le hn.2 m2.size⟩
    · exact .inr ⟨Nat.le_trans m1.size h.1, h.2⟩

def FgRel (w0 w w1 : World) (p : Value) (limit : Int) (l : LinkL) (F : Nat → Prop) (x : List UInt8) (names : List ByteArray) (n i : Value) (wr : World) : Prop :=
  ∃ k Fk, k ≤ names.length ∧ i = .int .i64 k ∧ n = .int .i64 (fgN l x (names.take k)) ∧ LkAt w0 wr p limit (fgL l x (names.take k)) Fk ∧ Mod F w wr ∧ (∀ j, Fk j → F j ∨ w1.heap.size ≤ j) ∧ (∀ j, w.heap.size ≤ j → j < w1.heap.size → wr.heap[j]? = w1.heap[j]?) ∧ Mod (fun j => F j) w1 wr
set_option maxRecDepth 10000 in
set_option maxHeartbeats 4000000 in
theorem forget_at (h : LkAt w0 w p limit l F) (x : List UInt8) (hx : x.length = 32) :
    Calls Tryz.prog 14 #[p, .agg (idCells x)] w (fun e w' => e = .returned (.int .i64 (forgetN l x)) ∧ LStep w0 w p limit F w' (forgetL l x)) := by
  obtain ⟨bp, rfl⟩ := h.facts.1
  have hnd := h.facts.2.1
  have hfew := h.facts.2.2.2.2.2
  go_enter Tryz.func14, Tryz.ntmps14
  go_upto_region 0 with (fail)
  refine wp_region_seq [1, 3] (fun _ => True) (by rfl) (by rfl) trivial ?_
  simp only [List.zip_cons_cons, List.zip_nil_right]
  refine wpPi_do rfl (fun K hK => ?_)
  refine wp_box 32 _ _ (by rfl) (by rfl) (fun w1 hB1 hm1 hs1 => ?_)
  replace hB1 : w1.heap[w.heap.size]? = some (.cells (idCells x) 32 (0, 0)) := hB1
  refine hK _ _ trivial ?_
  clear hK K
  try simp only [pl, pn, el, ec, sz, ss, gz, gs, if_true, if_false, Bool.false_eq_true, Bool.not_true, Bool.not_false, Nat.add_zero, Nat.zero_add, Nat.reduceAdd]
  refine wpPi_assign _ rfl rfl ?_
  simp only [pl, pn, el, ec, sz, ss, gz, gs, if_true, if_false, Bool.false_eq_true, Bool.not_true, Bool.not_false, Nat.add_zero, Nat.zero_add, Nat.reduceAdd]
  refine wpPi_nil ?_
  have h1 := h.keep0 hm1
  have hlt := h.lt
  go_upto_region 1 with (fail)
  refine wp_region_seq [3, 1, 3, 3] (fun _ => True) (by rfl) (by rfl) trivial ?_
  simp only [List.zip_cons_cons, List.zip_nil_right]
  refine wpPi_move _ rfl rfl ?_
  simp only [pl, pn, el, ec, sz, ss, gz, gs, if_true, if_false, Bool.false_eq_true, Bool.not_true, Bool.not_false, Nat.add_zero, Nat.zero_add, Nat.reduceAdd]
  refine wpPi_do rfl (fun K hK => ?_)
  go_wp2_with (go_at_call 16; refine (repos_at h1).mono ?_; rintro _ w2 ⟨v, rfl, hm2, names, hnames, hsl⟩; obtain ⟨na, nc, rfl, hnl, hna⟩ := id hsl.at)
  refine hK _ _ trivial ?_
  clear hK K
  try simp only [pl, pn, el, ec, sz, ss, gz, gs, if_true, if_false, Bool.false_eq_true, Bool.not_true, Bool.not_false, Nat.add_zero, Nat.zero_add, Nat.reduceAdd]
  refine wpPi_len _ _ _ _ _ rfl rfl rfl (by kernel_rfl) ?_
  simp only [pl, pn, el, ec, sz, ss, gz, gs, if_true, if_false, Bool.false_eq_true, Bool.not_true, Bool.not_false, Nat.add_zero, Nat.zero_add, Nat.reduceAdd]
  refine wpPi_move _ rfl rfl ?_
  simp only [pl, pn, el, ec, sz, ss, gz, gs, if_true, if_false, Bool.false_eq_true, Bool.not_true, Bool.not_false, Nat.add_zero, Nat.zero_add, Nat.reduceAdd]
  refine wpPi_nil ?_
  have hrd := hm2.obj id hB1
  have h2 := h1.keep0 hm2
  have hM2 := hm1.trans0 hm2
  have hs2 := hm2.size
  have hndn : names.Nodup := hnames.1.imp fun {a b} hab e => by rw [e] at hab; exact List.lt_irrefl _ hab
  have hmem := hnames.2
  have HND := Lib.hid hndn
  have HMEM := Lib.hid hmem
  have HNA := Lib.hid hna
  clear hB1 hnames hsl hndn hmem hna h1
  go_wp2
  go_loopw [4, 6, 10] (fun n _ i wx => FgRel w0 w w2 (.pointer (some ⟨bp, 0, none⟩)) limit l F x names n i wx) (fun _ _ i _ => names.length - (intOf i).toNat)
  case atStart => exact ⟨0, F, by omega, rfl, by simp [fgN_nil], by simpa [fgL_nil] using h2, hM2.mono (fun _ _ h => h.elim), fun j hj => .inl hj, fun _ _ _ => rfl, Mod.refl _ _⟩
  case round =>
    rename_i wr
    obtain ⟨k, Fk, hk, rfl, rfl, hA, hM, hFk, hkeep, hMw⟩ := hrel
    by_cases hlt2 : k < names.length
    · have hz : (k : Int) < (names.length : Int) := by omega
      obtain ⟨ba, oa, rfl, hba, -, hca⟩ := HNA.out k hlt2
      obtain ⟨_, -, rfl, hca⟩ := hca k hlt2
      have hnm : wr.cell? ⟨ba, oa + k * 1, none⟩ = some (.string names[k]) := by
        have h1 := CellsAt.one.1 hca
        rw [World.cell?_of_block (w := w2) (hkeep ba (by have := hba.1; omega) hba.2)]; exact h1
      have hbx : wr.heap[w.heap.size]? = some (.cells (idCells x) 32 (0, 0)) := (hkeep _ (Nat.le_refl _) (by omega)).trans hrd
      have hcx : CellsAt wr w.heap.size 0 (idCells x) := CellsAt.whole hbx
      have hin : names[k] ∉ names.take k := fun hm => by
        have h1 := List.nodup_iff_pairwise_ne.1 HND.out
        obtain ⟨i, hi, e⟩ := List.getElem_of_mem hm
        have hik : i < k := by simp at hi; omega
        rw [List.getElem_take] at e
        exact (List.pairwise_iff_getElem.1 h1 i k (by omega) hlt2 hik) e
      have hgs := getL_fg l x (names.take k) names[k] hin hnd
      have hst := fgL_snoc l x (names.take k) names[k] hnd
      have hcn := fgN_snoc l x (names.take k) names[k] hin hnd
      rw [← List.take_succ_eq_append_getElem hlt2] at hst hcn
      have hcle := fgN_le l x (names.take k)
      obtain ⟨t, ht⟩ : ∃ t, (getL (names[k], x) l).isSome = t := ⟨_, rfl⟩
      rw [ht] at hgs hcn
      have HGS := Lib.hid hgs
      have HST := Lib.hid hst
      have HCN := Lib.hid hcn
      clear hgs hst hcn ht hca hin
      have hun := unlink_at hA (names[k], x) hx
      rw [HGS.out, HST.out] at hun
      go_upto_region 3 with (fail)
      refine wp_region_seq [3, 1, 3] (fun _ => True) (by rfl) (by rfl) trivial ?_
      simp only [List.zip_cons_cons, List.zip_nil_right]
      refine wpPi_index _ _ _ _ _ _ _ _ _ rfl rfl rfl rfl Tryz.underlying41 (n := 1) (by kernel_rfl) hlt2 ?_
      simp only [pl, pn, el, ec, sz, ss, gz, gs, if_true, if_false, Bool.false_eq_true, Bool.not_true, Bool.not_false, Nat.add_zero, Nat.zero_add, Nat.reduceAdd]
      refine wpPi_do rfl (fun K hK => ?_)
      refine wp_exec (exec_load1 9 _ (by rfl) ba (oa + k * 1) (by rfl) _ hnm _ Tryz.underlying9 rfl) ?_
      refine hK _ _ trivial ?_
      clear hK K
      try simp only [pl, pn, el, ec, sz, ss, gz, gs, if_true, if_false, Bool.false_eq_true, Bool.not_true, Bool.not_false, Nat.add_zero, Nat.zero_add, Nat.reduceAdd]
      refine wpPi_assign _ rfl rfl ?_
      simp only [pl, pn, el, ec, sz, ss, gz, gs, if_true, if_false, Bool.false_eq_true, Bool.not_true, Bool.not_false, Nat.add_zero, Nat.zero_add, Nat.reduceAdd]
      refine wpPi_nil ?_
      go_upto_region 4 with (fail)
      refine wp_region_seq [3, 3, 1, 1] (fun _ => True) (by rfl) (by rfl) trivial ?_
      simp only [List.zip_cons_cons, List.zip_nil_right]
      refine wpPi_move _ rfl rfl ?_
      simp only [pl, pn, el, ec, sz, ss, gz, gs, if_true, if_false, Bool.false_eq_true, Bool.not_true, Bool.not_false, Nat.add_zero, Nat.zero_add, Nat.reduceAdd]
      refine wpPi_move _ rfl rfl ?_
      simp only [pl, pn, el, ec, sz, ss, gz, gs, if_true, if_false, Bool.false_eq_true, Bool.not_true, Bool.not_false, Nat.add_zero, Nat.zero_add, Nat.reduceAdd]
      refine wpPi_do rfl (fun K hK => ?_)
      refine wp_exec (exec_loadA 32 _ (by rfl) w.heap.size 0 (by rfl) (idCells x) hcx _ Tryz.underlying32 rfl 32 (by kernel_rfl) (by rw [idCells_size]; exact hx)) ?_
      refine hK _ _ trivial ?_
      clear hK K
      try simp only [pl, pn, el, ec, sz, ss, gz, gs, if_true, if_false, Bool.false_eq_true, Bool.not_true, Bool.not_false, Nat.add_zero, Nat.zero_add, Nat.reduceAdd]
      refine wpPi_do rfl (fun K hK => ?_)
      go_wp2_with (go_at_call 12; refine hun.mono ?_; rintro _ w4 ⟨rfl, hL⟩)
      refine hK _ _ trivial ?_
      clear hK K
      try simp only [pl, pn, el, ec, sz, ss, gz, gs, if_true, if_false, Bool.false_eq_true, Bool.not_true, Bool.not_false, Nat.add_zero, Nat.zero_add, Nat.reduceAdd]
      refine wpPi_nil ?_
      obtain ⟨F2, hA2, hm4, hn4⟩ := hL
      have hrel2 : ∀ (n2 : Nat), n2 = fgN l x (names.take (k + 1)) → FgRel w0 w w2 (.pointer (some ⟨bp, 0, none⟩)) limit l F x names (.int .i64 n2) (.int .i64 ((k : Int) + 1)) w4 := fun n2 hn2 => by
        have hsz4 := hMw.size
        refine ⟨k + 1, F2, by omega, by go_num, by rw [hn2], hA2, hM.trans hm4 (fun j hj hs => (hFk j hs).elim id fun h => ?_), fun j hj => ?_, fun j h3 h4 => ?_, hMw.trans hm4 (fun j hj hs => (hFk j hs).elim id fun h => ?_)⟩
        · have := hM2.size; omega
        · rcases hn4 j hj with h | h
          · exact hFk j h
          · exact .inr (by have := h.1; omega)
        · rw [hm4.block j (by omega) (fun hs => (hFk j hs).elim (fun h => by have := hlt j h; omega) fun h => by omega)]
          exact hkeep j h3 h4
        · omega
      have HREL := Lib.hid hrel2
      clear hrel2 hm4 hn4 hA2 hA hun
      cases t
      · go_wp2
        go_roundw
        case rel => exact HREL.out _ (by have := HCN.out; simpa using this.symm)
        case measure => simp [intOf]; omega
      · go_wp2
        go_roundw
        case rel =>
          refine HREL.out (fgN l x (names.take k) + 1) ?_
          have := HCN.out; simpa using this.symm
        case measure => simp [intOf]; omega
    · have hz : ¬ (k : Int) < (names.length : Int) := by omega
      have e : names.take k = names := List.take_of_length_le (by omega)
      rw [e] at hA ⊢
      have hall := fg_all l x names HMEM.out
      rw [hall.1] at hA
      rw [hall.2]
      have HL : Hid (LStep w0 w (.pointer (some ⟨bp, 0, none⟩)) limit F wr (forgetL l x)) := ⟨Fk, hA, hM, fun j hj => (hFk j hj).imp id fun h => ⟨by have := hM2.size; omega, hA.lt j hj⟩⟩
      clear hall hA hM hMw hkeep
      go_wp2
      go_ret
      exact ⟨rfl, HL.out⟩
end
end Go.Proofs.YtcfcahflkhgapaaGreat
