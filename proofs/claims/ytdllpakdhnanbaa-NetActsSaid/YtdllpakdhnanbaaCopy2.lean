/- Copies of events and letters. -/
import Derived.Test.YtdllpakdhnanbaaCopy
namespace Go.Proofs.Ytdllpakdhnanbaa
set_option linter.unusedSimpArgs false
set_option linter.unusedVariables false
set_option linter.unnecessarySimpa false
open Go.RowKit

/-- An event that is small enough to be copied. -/
def EvOk (e : Evt) : Prop := e.deps.length ≤ 1048576 ∧ e.refs.length ≤ 1048576

theorem news_at {w : World} {own : Bool} {G : Nat → Prop} {sz : Nat} {α : Type} {R : Array Value → α → Prop} {v : Value} {l : List α} (h : Sl own w G sz R v l) (hz : 0 < sz) :
    ∃ css, All2 R css l ∧ (∀ c ∈ css, c.size = sz) ∧ Src w sz v l.length (css.flatMap Array.toList) := h.src hz

set_option maxRecDepth 10000 in
set_option maxHeartbeats 400000 in
theorem copyEvent_any (own : Bool) (G : Nat → Prop) (cs : Array Value) (e : Evt) (w : World) (he : EvR own w G cs e) (hok : EvOk e) :
    Calls Try.prog 69 #[.agg cs] w (RetN w fun v' w' => ∃ cs', v' = .agg cs' ∧ EvR true w' (New w w') cs' e) := by
  obtain ⟨dv, rv, hca, hi, hd, hr, hsz⟩ := he
  have cA := evCells_spec e dv rv hi; rw [← hca] at cA
  go_enter Try.func69, Try.ntmps69
  go_upto_region 0 with (fail)
  refine wp_region_seq [1, 1] (fun _ => True) (by rfl) (by rfl) trivial ?_
  simp only [List.zip_cons_cons, List.zip_nil_right]
  refine wpPi_do rfl (fun K hK => ?_)
  refine wp_box 104 _ _ (by rfl) (by rfl) (fun w1 hB0 hM hs1 => ?_)
  replace hB0 : w1.heap[w.heap.size]? = some (.cells cs 104 (0, 0)) := hB0
  refine hK _ _ trivial ?_
  clear hK K
  try simp only [pl, pn, el, ec, sz, ss, gz, gs, if_true, if_false, Bool.false_eq_true, Bool.not_true, Bool.not_false, Nat.add_zero, Nat.zero_add, Nat.reduceAdd]
  refine wpPi_do rfl (fun K hK => ?_)
  refine wp_alloc 104 evZero (by rfl) zero104 (fun w2 hB1 hm2 hs2 => ?_)
  replace hB0 := hm2.obj id hB0
  replace hM := hM.trans hm2 (fun _ _ h => h)
  refine hK _ _ trivial ?_
  clear hK K hm2
  try simp only [pl, pn, el, ec, sz, ss, gz, gs, if_true, if_false, Bool.false_eq_true, Bool.not_true, Bool.not_false, Nat.add_zero, Nat.zero_add, Nat.reduceAdd]
  refine wpPi_nil ?_
  go_upto_region 1 with (fail)
  refine wp_region_seq [3, 1, 1, 3, 1] (fun _ => True) (by rfl) (by rfl) trivial ?_
  simp only [List.zip_cons_cons, List.zip_nil_right]
  refine wpPi_field _ _ _ _ _ _ rfl rfl rfl fo_104_1 ?_
  simp only [pl, pn, el, ec, sz, ss, gz, gs, if_true, if_false, Bool.false_eq_true, Bool.not_true, Bool.not_false, Nat.add_zero, Nat.zero_add, Nat.reduceAdd]
  refine wpPi_do rfl (fun K hK => ?_)
  refine wp_exec (exec_load1 30 _ (by rfl) w.heap.size 2 (by rfl) dv ((CellsAt.whole hB0).cell cA.c2) _ Try.underlying30 rfl) ?_
  refine hK _ _ trivial ?_
  clear hK K
  try simp only [pl, pn, el, ec, sz, ss, gz, gs, if_true, if_false, Bool.false_eq_true, Bool.not_true, Bool.not_false, Nat.add_zero, Nat.zero_add, Nat.reduceAdd]
  refine wpPi_do rfl (fun K hK => ?_)
  go_wp2_with (go_at_call 56; refine (copyInts_any own G _ _ _ (hd.keep hM (fun _ _ => id) (fun _ _ h => h)) hok.1).mono ?_; rintro _ w3 ⟨dv', rfl, hm3, hd'⟩)
  replace hB0 := hm3.obj id hB0
  replace hB1 := hm3.obj id hB1
  replace hM := hM.trans hm3 (fun _ _ h => h)
  have hs3 := hm3.size
  refine hK _ _ trivial ?_
  clear hK K hm3
  try simp only [pl, pn, el, ec, sz, ss, gz, gs, if_true, if_false, Bool.false_eq_true, Bool.not_true, Bool.not_false, Nat.add_zero, Nat.zero_add, Nat.reduceAdd]
  refine wpPi_field _ _ _ _ _ _ rfl rfl rfl fo_104_1 ?_
  simp only [pl, pn, el, ec, sz, ss, gz, gs, if_true, if_false, Bool.false_eq_true, Bool.not_true, Bool.not_false, Nat.add_zero, Nat.zero_add, Nat.reduceAdd]
  refine wpPi_do rfl (fun K hK => ?_)
  refine wp_store1 30 _ _ w.heap.size 2 dv' (by rfl) (by rfl) (by rfl) hd'.one (by kernel_rfl) _ _ hB0 (by rw [cA.size]; omega) (fun w4 hB0' hm4 => ?_)
  clear hB0
  replace hB1 := hm4.obj (show ¬ w1.heap.size = w.heap.size by omega) hB1
  replace hM := hM.trans hm4 (fun k hk e => by have : k = w.heap.size := e; omega)
  replace hd' := hd'.keep hm4 (fun k hk e => by have h1 : k = w.heap.size := e; have := hk.1; omega) (fun _ _ h => h)
  have hs4 := hm4.size
  refine hK _ _ trivial ?_
  clear hK K hm4
  try simp only [pl, pn, el, ec, sz, ss, gz, gs, if_true, if_false, Bool.false_eq_true, Bool.not_true, Bool.not_false, Nat.add_zero, Nat.zero_add, Nat.reduceAdd]
  refine wpPi_nil ?_
  rw [hca, evCells_set2, ] at hB0'
  have cB := evCells_spec e dv' rv hi
  go_upto_region 2 with (fail)
  obtain ⟨css, hall, hcsz, hsrc⟩ := (hr.keep hM (fun _ _ => id) (fun _ _ h => h)).src (by omega)
  refine wp_region_seq [1, 3, 1, 1, 3, 1] (fun _ => True) (by rfl) (by rfl) trivial ?_
  simp only [List.zip_cons_cons, List.zip_nil_right]
  refine wpPi_do rfl (fun K hK => ?_)
  refine wp_buildSlice0 102 35 (by rfl) Try.underlying102 (by kernel_rfl) (fun w5 hb hm5 hs5 => ?_)
  replace hB0' := hm5.obj id hB0'
  replace hB1 := hm5.obj id hB1
  replace hM := hM.trans hm5 (fun _ _ h => h)
  replace hd' := hd'.keep hm5 (fun _ _ => id) (fun _ _ h => h)
  refine hK _ _ trivial ?_
  clear hK K
  try simp only [pl, pn, el, ec, sz, ss, gz, gs, if_true, if_false, Bool.false_eq_true, Bool.not_true, Bool.not_false, Nat.add_zero, Nat.zero_add, Nat.reduceAdd]
  refine wpPi_field _ _ _ _ _ _ rfl rfl rfl fo_104_6 ?_
  simp only [pl, pn, el, ec, sz, ss, gz, gs, if_true, if_false, Bool.false_eq_true, Bool.not_true, Bool.not_false, Nat.add_zero, Nat.zero_add, Nat.reduceAdd]
  refine wpPi_do rfl (fun K hK => ?_)
  refine wp_exec (exec_load1 102 _ (by rfl) w.heap.size 38 (by rfl) rv ((CellsAt.whole hB0').cell cB.c38) _ Try.underlying102 rfl) ?_
  refine hK _ _ trivial ?_
  clear hK K
  try simp only [pl, pn, el, ec, sz, ss, gz, gs, if_true, if_false, Bool.false_eq_true, Bool.not_true, Bool.not_false, Nat.add_zero, Nat.zero_add, Nat.reduceAdd]
  refine wpPi_do rfl (fun K hK => ?_)
  refine wp_append _ _ 102 35 idInfo 32 32 (by rfl) Try.underlying102 info35 (by rfl) (by omega) w4.heap.size _ 0 [] (by rfl) (owns_empty _ hb (Nat.le_refl _)) _ e.refs.length (css.flatMap Array.toList) (by rfl) (?_ : Src w5 32 rv e.refs.length (css.flatMap Array.toList)) (all2_one hall fun _ _ => idC_one) (by have := hok.2; unfold maxLen; omega) (by have := hok.2; omega) (by omega) (fun rv' w6 hown hgrow _ => ?_)
  · obtain ⟨h1, ad, c, h2, h3⟩ := hsrc
    refine ⟨h1, ad, c, h2, fun hne => ?_⟩
    obtain ⟨b, off, h4, h5⟩ := h3 hne
    exact ⟨b, off, h4, fun j x hx => hm5.cell id (h5 j x hx)⟩
  have hm6 : Mod (fun k => k = w4.heap.size) w5 w6 := (Mod.refl _ _).grown hgrow (fun k hk _ => by simp [Value.ownBlock] at hk; omega)
  replace hB0' := hm6.obj (show ¬ w.heap.size = w4.heap.size by omega) hB0'
  replace hB1 := hm6.obj (show ¬ w1.heap.size = w4.heap.size by omega) hB1
  replace hM := hM.trans hm6 (fun k hk e => by have h1 : k = w4.heap.size := e; omega)
  replace hd' := hd'.keep hm6 (fun k hk e => by have h1 : k = w4.heap.size := e; have := hk.2; omega) (fun _ _ h => h)
  have hr' := (Sl.of_owns hown (by simp) hcsz hall (by simp)).mono (G' := New w4 w6) (fun k hk => ⟨hk.1, hk.2.1⟩) (fun _ _ h => h)
  have hs6 := hm6.size
  refine hK _ _ trivial ?_
  clear hK K hm6 hgrow hown
  try simp only [pl, pn, el, ec, sz, ss, gz, gs, if_true, if_false, Bool.false_eq_true, Bool.not_true, Bool.not_false, Nat.add_zero, Nat.zero_add, Nat.reduceAdd]
  refine wpPi_field _ _ _ _ _ _ rfl rfl rfl fo_104_6 ?_
  simp only [pl, pn, el, ec, sz, ss, gz, gs, if_true, if_false, Bool.false_eq_true, Bool.not_true, Bool.not_false, Nat.add_zero, Nat.zero_add, Nat.reduceAdd]
  refine wpPi_do rfl (fun K hK => ?_)
  refine wp_store1 102 _ _ w.heap.size 38 rv' (by rfl) (by rfl) (by rfl) hr'.one (by kernel_rfl) _ _ hB0' (by rw [cB.size]; omega) (fun w7 hB0 hm7 => ?_)
  clear hB0'
  replace hB1 := hm7.obj (show ¬ w1.heap.size = w.heap.size by omega) hB1
  replace hM := hM.trans hm7 (fun k hk e => by have : k = w.heap.size := e; omega)
  replace hd' := hd'.keep hm7 (fun k hk e => by have h1 : k = w.heap.size := e; have := hk.1; omega) (fun _ _ h => h)
  replace hr' := hr'.keep hm7 (fun k hk e => by have h1 : k = w.heap.size := e; have := hk.1; omega) (fun _ _ h => h)
  have hs7 := hm7.size
  refine hK _ _ trivial ?_
  clear hK K hm7
  try simp only [pl, pn, el, ec, sz, ss, gz, gs, if_true, if_false, Bool.false_eq_true, Bool.not_true, Bool.not_false, Nat.add_zero, Nat.zero_add, Nat.reduceAdd]
  refine wpPi_nil ?_
  rw [evCells_set38 _ _ _ _ hi] at hB0
  have cC := evCells_spec e dv' rv' hi
  go_upto_region 3 with (fail)
  refine wp_region_seq [1, 1] (fun _ => True) (by rfl) (by rfl) trivial ?_
  simp only [List.zip_cons_cons, List.zip_nil_right]
  refine wpPi_do rfl (fun K hK => ?_)
  refine wp_exec (exec_loadA 104 _ (by rfl) w.heap.size 0 (by rfl) _ (CellsAt.whole hB0) _ Try.underlying104 rfl 39 (by kernel_rfl) cC.size) ?_
  refine hK _ _ trivial ?_
  clear hK K
  try simp only [pl, pn, el, ec, sz, ss, gz, gs, if_true, if_false, Bool.false_eq_true, Bool.not_true, Bool.not_false, Nat.add_zero, Nat.zero_add, Nat.reduceAdd]
  refine wpPi_do rfl (fun K hK => ?_)
  refine wp_storeA 104 _ _ w1.heap.size 0 (evCells e dv' rv') (by rfl) (by rfl) (by rfl) (evCells_one _ _ _ hd'.one hr'.one) 39 (by kernel_rfl) cC.size _ _ hB1 (by rw [cC.size]; exact Nat.le_refl 39) (fun w8 hB1' hm8 => ?_)
  rw [putRow_whole (by rw [cC.size]; rfl)] at hB1'
  clear hB1
  replace hM := hM.trans hm8 (fun k hk e => by have : k = w1.heap.size := e; omega)
  replace hd' := hd'.keep hm8 (fun k hk e => by have h1 : k = w1.heap.size := e; have := hk.1; omega) (fun _ _ h => h)
  replace hr' := hr'.keep hm8 (fun k hk e => by have h1 : k = w1.heap.size := e; have := hk.1; omega) (fun _ _ h => h)
  have hs8 := hm8.size
  refine hK _ _ trivial ?_
  clear hK K hm8
  try simp only [pl, pn, el, ec, sz, ss, gz, gs, if_true, if_false, Bool.false_eq_true, Bool.not_true, Bool.not_false, Nat.add_zero, Nat.zero_add, Nat.reduceAdd]
  refine wpPi_nil ?_
  go_wp2
  refine bodyPost_ret (results_cell_row rfl _ _ w1.heap.size _ _ _ _ (by rfl) hB1' Try.underlying104 rfl (by rw [cC.size]; kernel_rfl)) rfl ?_
  refine ⟨_, rfl, hM, _, rfl, dv', rv', rfl, hi, hd'.mono (fun k hk => ⟨?_, ?_⟩) (fun _ _ h => h), hr'.mono (fun k hk => ⟨?_, ?_⟩) (fun _ _ h => h), hsz⟩
  all_goals (have h1 := hk.1; have h2 := hk.2; omega)

/-- What a loop has gathered: copies of the first k events. -/
def Inn (base : Nat) (v : Value) (w : World) : Nat → Prop := fun k => base ≤ k ∧ k < w.heap.size ∧ v.ownBlock ≠ some k
def EvAcc (base : Nat) (l : List Evt) (k : Nat) (v : Value) (w : World) : Prop :=
  ∃ css, w.ownsRow base 104 39 v k (css.flatMap Array.toList) ∧ (∀ c ∈ css, c.size = 39) ∧ All2 (EvR true w (Inn base v w)) css (l.take k)
theorem EvAcc.nil (base : Nat) (l : List Evt) (w : World) : EvAcc base l 0 (.slice none 0 0) w := ⟨[], World.ownsRow_nil _ _ _ _, by simp, by simpa using All2.nil⟩
theorem owns_keep0 {w w' : World} {base e size n : Nat} {v : Value} {xs : List Value} (h : w.ownsRow base e size v n xs) (hm : Mod NoB w w') : w'.ownsRow base e size v n xs := by
  refine ⟨h.1, ?_⟩
  rcases h.2 with h | ⟨g, cap, cur, hv, hb, hg, r⟩
  · exact .inl h
  · exact .inr ⟨g, cap, cur, hv, hb, hm.obj id hg, r⟩
theorem owns_keepB {w w' : World} {base e size n B : Nat} {v : Value} {xs : List Value} (h : w.ownsRow base e size v n xs) (hm : Mod (fun k => k = B) w w') (hB : v.ownBlock ≠ some B) : w'.ownsRow base e size v n xs := by
  refine ⟨h.1, ?_⟩
  rcases h.2 with h | ⟨g, cap, cur, rfl, hb, hg, r⟩
  · exact .inl h
  · exact .inr ⟨g, cap, cur, rfl, hb, hm.objB (by rintro rfl; exact hB rfl) hg, r⟩
theorem EvAcc.keep0 {base k : Nat} {l : List Evt} {v : Value} {w w' : World} (h : EvAcc base l k v w) (hm : Mod NoB w w') : EvAcc base l k v w' := by
  obtain ⟨css, h1, h2, h3⟩ := h
  exact ⟨css, owns_keep0 h1 hm, h2, h3.imp fun _ _ h => (h.keep0 hm).mono fun k hk => ⟨hk.1, Nat.lt_of_lt_of_le hk.2.1 hm.size, hk.2.2⟩⟩
theorem EvAcc.keepB {base k B : Nat} {l : List Evt} {v : Value} {w w' : World} (h : EvAcc base l k v w) (hm : Mod (fun k => k = B) w w') (hB : B < base) : EvAcc base l k v w' := by
  obtain ⟨css, h1, h2, h3⟩ := h
  refine ⟨css, owns_keepB h1 hm (fun e => ?_), h2, h3.imp fun _ _ h => (h.keepB hm (fun k hk => ?_)).mono fun k hk => ⟨hk.1, Nat.lt_of_lt_of_le hk.2.1 hm.size, hk.2.2⟩⟩
  · have := (h1.lt B e).1; omega
  · have := hk.1; omega
/-- One copy more. w: the world in which the copy is there; w': behind append. -/
theorem EvAcc.step {base k : Nat} {l : List Evt} {v v' : Value} {w w' : World} {css : List (Array Value)} {cs : Array Value} (_h1 : w.ownsRow base 104 39 v k (css.flatMap Array.toList)) (h2 : ∀ c ∈ css, c.size = 39)
    (h3 : All2 (EvR true w (Inn base v w)) css (l.take k)) (hk : k < l.length) (hc : EvR true w (Inn base v w) cs l[k])
    (hown : w'.ownsRow base 104 39 v' (k + 1) (css.flatMap Array.toList ++ cs.toList)) (hg : w.grownBy w' v.ownBlock) (hv : v'.ownBlock = v.ownBlock ∨ v'.ownBlock = some w.heap.size) :
    EvAcc base l (k + 1) v' w' := by
  have hm : Mod (fun k => v.ownBlock = some k) w w' := (Mod.refl _ _).grown hg (fun k hk _ => hk)
  have up : ∀ x y, EvR true w (Inn base v w) x y → EvR true w' (Inn base v' w') x y := fun x y h =>
    (h.keep hm (fun k hk => hk.2.2)).mono fun k hk => ⟨hk.1, Nat.lt_of_lt_of_le hk.2.1 hm.size, by
      rcases hv with hv | hv <;> rw [hv]
      · exact hk.2.2
      · have := hk.2.1; intro e; cases e; omega⟩
  refine ⟨css ++ [cs], by simpa using hown, fun c hc' => ?_, ?_⟩
  · rcases List.mem_append.1 hc' with h | h
    · exact h2 c h
    · have : c = cs := by simpa using h
      rw [this]; exact hc.size
  · rw [List.take_succ_eq_append_getElem hk]
    exact (h3.imp up).snoc (up _ _ hc)
/-- What is gathered reads as the list. -/
theorem EvAcc.done {base : Nat} {l : List Evt} {v : Value} {w : World} (h : EvAcc base l l.length v w) :
    Sl true w (fun k => base ≤ k ∧ k < w.heap.size ∧ v.ownBlock = some k) 39 (EvR true w (Inn base v w)) v l := by
  obtain ⟨css, h1, h2, h3⟩ := h
  rw [List.take_length] at h3
  exact Sl.of_owns h1 rfl h2 h3 rfl

def CopyRel (w0 : World) (l : List Evt) (v i : Value) (w : World) : Prop :=
  ∃ k : Nat, k ≤ l.length ∧ i = .int .i64 k ∧ EvAcc w0.heap.size l k v w ∧ Mod NoB w0 w

set_option maxRecDepth 10000 in
set_option maxHeartbeats 400000 in
theorem copyEvents_any (own : Bool) (E G : Nat → Prop) (v : Value) (l : List Evt) (w : World) (hl : Sl own w E 39 (EvR own w G) v l) (hlen : l.length ≤ 1048576) (hok : ∀ e ∈ l, EvOk e) :
    Calls Try.prog 57 #[v] w (RetN w fun v' w' => Sl true w' (fun k => New w w' k ∧ v'.ownBlock = some k) 39 (EvR true w' (fun k => New w w' k ∧ v'.ownBlock ≠ some k)) v' l) := by
  obtain ⟨a, cap, rfl, hlm, hat⟩ := hl.at
  have HA := Lib.hid hat; clear hat
  go_enter Try.func57, Try.ntmps57
  go_wp2
  go_loopw [3, 4] (CopyRel w l) (fun _ i _ => l.length - (intOf i).toNat)
  case atStart => exact ⟨0, by omega, rfl, EvAcc.nil _ _ _, Mod.refl _ _⟩
  case round =>
    obtain ⟨k, hk, rfl, hacc, hM⟩ := hrel
    rename_i wr
    by_cases hlt : k < l.length
    · obtain ⟨b, off, rfl, -, -, hat⟩ := HA.out k hlt
      obtain ⟨cs, hcs, hev, hcells⟩ := hat k hlt
      obtain ⟨css, h1, h2, h3⟩ := hacc
      have HS := Lib.hid hcs; clear hcs HA
      have hev := hev.keep0 hM
      have hok' : EvOk l[k] := hok _ (List.getElem_mem _)
      have hszw := hM.size
      go_upto_region 5 with (fail)
      refine wp_region_seq [3, 3, 3, 3, 1, 1, 1, 1, 3] (fun _ => True) (by rfl) (by rfl) trivial ?_
      simp only [List.zip_cons_cons, List.zip_nil_right]
      refine wpPi_move _ rfl rfl ?_
      simp only [pl, pn, el, ec, sz, ss, gz, gs, if_true, if_false, Bool.false_eq_true, Bool.not_true, Bool.not_false, Nat.add_zero, Nat.zero_add, Nat.reduceAdd]
      refine wpPi_move _ rfl rfl ?_
      simp only [pl, pn, el, ec, sz, ss, gz, gs, if_true, if_false, Bool.false_eq_true, Bool.not_true, Bool.not_false, Nat.add_zero, Nat.zero_add, Nat.reduceAdd]
      refine wpPi_move _ rfl rfl ?_
      simp only [pl, pn, el, ec, sz, ss, gz, gs, if_true, if_false, Bool.false_eq_true, Bool.not_true, Bool.not_false, Nat.add_zero, Nat.zero_add, Nat.reduceAdd]
      refine wpPi_index _ _ _ _ _ _ _ _ _ rfl rfl rfl rfl Try.underlying31 (n := 39) (by kernel_rfl) hlt ?_
      simp only [pl, pn, el, ec, sz, ss, gz, gs, if_true, if_false, Bool.false_eq_true, Bool.not_true, Bool.not_false, Nat.add_zero, Nat.zero_add, Nat.reduceAdd]
      refine wpPi_do rfl (fun K hK => ?_)
      refine wp_exec (exec_loadA 104 _ (by rfl) b (off + k * 39) (by rfl) _ (hcells.keep hM id) _ Try.underlying104 rfl 39 (by kernel_rfl) HS.out) ?_
      refine hK _ _ trivial ?_
      clear hK K
      try simp only [pl, pn, el, ec, sz, ss, gz, gs, if_true, if_false, Bool.false_eq_true, Bool.not_true, Bool.not_false, Nat.add_zero, Nat.zero_add, Nat.reduceAdd]
      refine wpPi_do rfl (fun K hK => ?_)
      go_wp2_with (go_at_call 69; refine (copyEvent_any own G _ _ _ hev hok').mono ?_; rintro _ w1 ⟨_, rfl, hm1, cs', rfl, hev'⟩)
      have hl1 := h1.lt
      replace h1 := owns_keep0 h1 hm1
      replace h3 := h3.imp fun _ _ h => (h.keep0 hm1).mono (G' := Inn w.heap.size u3 w1) fun k hk => ⟨hk.1, Nat.lt_of_lt_of_le hk.2.1 hm1.size, hk.2.2⟩
      replace hev' := hev'.mono (G' := Inn w.heap.size u3 w1) fun k hk => ⟨by have := hk.1; omega, hk.2, fun e => by have h1 := (hl1 k e).2; have h2 := hk.1; omega⟩
      replace hM := hM.trans0 hm1
      refine hK _ _ trivial ?_
      clear hK K hm1
      try simp only [pl, pn, el, ec, sz, ss, gz, gs, if_true, if_false, Bool.false_eq_true, Bool.not_true, Bool.not_false, Nat.add_zero, Nat.zero_add, Nat.reduceAdd]
      refine wpPi_do rfl (fun K hK => ?_)
      refine wp_buildSlice1 31 104 _ (.agg cs') evZero 39 (by rfl) (by rfl) Try.underlying31 (by kernel_rfl) (by omega) (by omega) hev'.size (fun w2 hb hm2 hs2 => ?_)
      replace hb : w2.heap[w1.heap.size]? = some (.cells cs' 104 (0, 0)) := hb
      replace h1 := owns_keep0 h1 hm2
      replace h3 := h3.imp fun _ _ h => (h.keep0 hm2).mono (G' := Inn w.heap.size u3 w2) fun k hk => ⟨hk.1, Nat.lt_of_lt_of_le hk.2.1 hm2.size, hk.2.2⟩
      replace hev' := (hev'.keep0 hm2).mono (G' := Inn w.heap.size u3 w2) fun k hk => ⟨hk.1, Nat.lt_of_lt_of_le hk.2.1 hm2.size, hk.2.2⟩
      replace hM := hM.trans0 hm2
      refine hK _ _ trivial ?_
      clear hK K
      try simp only [pl, pn, el, ec, sz, ss, gz, gs, if_true, if_false, Bool.false_eq_true, Bool.not_true, Bool.not_false, Nat.add_zero, Nat.zero_add, Nat.reduceAdd]
      refine wpPi_do rfl (fun K hK => ?_)
      refine wp_append _ _ 31 104 evZero 39 136 (by rfl) Try.underlying31 info104 (by rfl) (by omega) w.heap.size u3 k (css.flatMap Array.toList) (by rfl) h1 _ 1 cs'.toList (by rfl)
        (⟨by simp [hev'.size], _, _, rfl, fun _ => ⟨_, _, rfl, fun j x hx => by rw [Nat.zero_add, cell_of_row w2 _ _ _ _ _ hb]; simpa using hx⟩⟩ : Src w2 39 _ 1 cs'.toList)
        (fun c hc => hev'.one c (by simpa using hc)) (by unfold maxLen; omega) (by omega) (by have := hM.size; omega) (fun v1 w3 hown hgrow hvv => ?_)
      have hacc := EvAcc.step h1 h2 h3 hlt hev' hown hgrow hvv
      have hM3 : Mod NoB w w3 := hM.grown hgrow (fun k hk hlt => by have := (h1.lt k hk).1; omega)
      refine hK _ _ trivial ?_
      clear hK K
      try simp only [pl, pn, el, ec, sz, ss, gz, gs, if_true, if_false, Bool.false_eq_true, Bool.not_true, Bool.not_false, Nat.add_zero, Nat.zero_add, Nat.reduceAdd]
      refine wpPi_assign _ rfl rfl ?_
      simp only [pl, pn, el, ec, sz, ss, gz, gs, if_true, if_false, Bool.false_eq_true, Bool.not_true, Bool.not_false, Nat.add_zero, Nat.zero_add, Nat.reduceAdd]
      refine wpPi_nil ?_
      go_wp2
      go_roundw
      case rel => exact ⟨k + 1, by omega, by go_num, hacc, hM3⟩
      case measure => simp [intOf]; omega
    · have hkl : k = l.length := by omega
      have HK := Lib.hid hkl; clear hkl
      go_wp2
      go_ret
      have hkl := HK.out
      rw [hkl] at hacc
      refine ⟨_, rfl, hM, hacc.done.mono (fun k hk => ⟨⟨hk.1, hk.2.1⟩, hk.2.2⟩) fun _ _ h => h.mono fun k hk => ⟨⟨hk.1, hk.2.1⟩, hk.2.2⟩⟩

end Go.Proofs.Ytdllpakdhnanbaa
