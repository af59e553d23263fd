/- Copies of lists. -/
import Derived.Test.YtdllpakdhnanbaaEff
import Derived.Test.YtdllpakdhnanbaaLet
namespace Go.Proofs.Ytdllpakdhnanbaa
set_option linter.unusedSimpArgs false
set_option linter.unusedVariables false
set_option linter.unnecessarySimpa false
open Go.RowKit

def intInfo : Value := .int .i64 0
def byteInfo : Value := .int .u8 0
def idInfo : Value := .agg (Array.replicate 32 (.int .u8 0))
theorem info3 : (Try.prog.info? 3).map (fun i => (i.zero, i.size, i.bytes)) = some (some intInfo, 1, 8) := by kernel_rfl
theorem info5 : (Try.prog.info? 5).map (fun i => (i.zero, i.size, i.bytes)) = some (some byteInfo, 1, 1) := by kernel_rfl
theorem info35 : (Try.prog.info? 35).map (fun i => (i.zero, i.size, i.bytes)) = some (some idInfo, 32, 32) := by kernel_rfl

set_option maxRecDepth 10000 in
set_option maxHeartbeats 400000 in
theorem copyInts_any (own : Bool) (G : Nat → Prop) (v : Value) (l : List Int) (w : World) (hl : Sl own w G 1 IntC v l) (hlen : l.length ≤ 1048576) :
    Calls Try.prog 56 #[v] w (RetN w fun v' w' => Sl true w' (New w w') 1 IntC v' l) := by
  obtain ⟨css, hall, hsz, hsrc⟩ := hl.src (by omega)
  go_enter Try.func56, Try.ntmps56
  go_upto_region 1 with (fail)
  refine wp_region_seq [1, 3, 1, 3] (fun _ => True) (by rfl) (by rfl) trivial ?_
  simp only [List.zip_cons_cons, List.zip_nil_right]
  refine wpPi_do rfl (fun K hK => ?_)
  refine wp_buildSlice0 30 3 (by rfl) Try.underlying30 (by kernel_rfl) (fun w1 hb hm hs => ?_)
  refine hK _ _ trivial ?_
  clear hK K
  try simp only [pl, pn, el, ec, sz, ss, gz, gs, if_true, if_false, Bool.false_eq_true, Bool.not_true, Bool.not_false, Nat.add_zero, Nat.zero_add, Nat.reduceAdd]
  refine wpPi_move _ rfl rfl ?_
  simp only [pl, pn, el, ec, sz, ss, gz, gs, if_true, if_false, Bool.false_eq_true, Bool.not_true, Bool.not_false, Nat.add_zero, Nat.zero_add, Nat.reduceAdd]
  refine wpPi_do rfl (fun K hK => ?_)
  refine wp_append _ _ 30 3 intInfo 1 8 (by rfl) Try.underlying30 info3 (by rfl) (by omega) w.heap.size _ 0 [] (by rfl) (owns_empty _ hb (Nat.le_refl _)) _ l.length (css.flatMap Array.toList) (by rfl) (?_ : Src w1 1 _ l.length (css.flatMap Array.toList)) (all2_one hall fun _ _ => intC_one) (by unfold maxLen; omega) (by omega) (by omega) (fun v' w2 hown hgrow _ => ?_)
  · obtain ⟨h1, ad, c, h2, h3⟩ := hsrc
    refine ⟨h1, ad, c, h2, fun hne => ?_⟩
    obtain ⟨b, off, h4, h5⟩ := h3 hne
    exact ⟨b, off, h4, fun j x hx => hm.cell id (h5 j x hx)⟩
  refine hK _ _ trivial ?_
  clear hK K
  try simp only [pl, pn, el, ec, sz, ss, gz, gs, if_true, if_false, Bool.false_eq_true, Bool.not_true, Bool.not_false, Nat.add_zero, Nat.zero_add, Nat.reduceAdd]
  refine wpPi_assign _ rfl rfl ?_
  simp only [pl, pn, el, ec, sz, ss, gz, gs, if_true, if_false, Bool.false_eq_true, Bool.not_true, Bool.not_false, Nat.add_zero, Nat.zero_add, Nat.reduceAdd]
  refine wpPi_nil ?_
  go_wp2
  go_ret
  have hm2 : Mod NoB w w2 := hm.grown hgrow (fun k hk hlt => by simp [Value.ownBlock] at hk; omega)
  refine ⟨_, rfl, hm2, ?_⟩
  have := Sl.of_owns hown (by simp) hsz hall (by simp)
  exact this.mono (fun k hk => ⟨hk.1, hk.2.1⟩) fun _ _ h => h

set_option maxRecDepth 10000 in
set_option maxHeartbeats 400000 in
theorem copyBytes_any (own : Bool) (G : Nat → Prop) (v : Value) (l : List UInt8) (w : World) (hl : Sl own w G 1 ByteC v l) (hlen : l.length ≤ 1048576) :
    Calls Try.prog 58 #[v] w (RetN w fun v' w' => Sl true w' (New w w') 1 ByteC v' l) := by
  obtain ⟨css, hall, hsz, hsrc⟩ := hl.src (by omega)
  go_enter Try.func58, Try.ntmps58
  go_upto_region 1 with (fail)
  refine wp_region_seq [1, 3, 1, 3] (fun _ => True) (by rfl) (by rfl) trivial ?_
  simp only [List.zip_cons_cons, List.zip_nil_right]
  refine wpPi_do rfl (fun K hK => ?_)
  refine wp_buildSlice0 36 5 (by rfl) Try.underlying36 (by kernel_rfl) (fun w1 hb hm hs => ?_)
  refine hK _ _ trivial ?_
  clear hK K
  try simp only [pl, pn, el, ec, sz, ss, gz, gs, if_true, if_false, Bool.false_eq_true, Bool.not_true, Bool.not_false, Nat.add_zero, Nat.zero_add, Nat.reduceAdd]
  refine wpPi_move _ rfl rfl ?_
  simp only [pl, pn, el, ec, sz, ss, gz, gs, if_true, if_false, Bool.false_eq_true, Bool.not_true, Bool.not_false, Nat.add_zero, Nat.zero_add, Nat.reduceAdd]
  refine wpPi_do rfl (fun K hK => ?_)
  refine wp_append _ _ 36 5 byteInfo 1 1 (by rfl) Try.underlying36 info5 (by rfl) (by omega) w.heap.size _ 0 [] (by rfl) (owns_empty _ hb (Nat.le_refl _)) _ l.length (css.flatMap Array.toList) (by rfl) (?_ : Src w1 1 _ l.length (css.flatMap Array.toList)) (all2_one hall fun _ _ => byteC_one) (by unfold maxLen; omega) (by omega) (by omega) (fun v' w2 hown hgrow _ => ?_)
  · obtain ⟨h1, ad, c, h2, h3⟩ := hsrc
    refine ⟨h1, ad, c, h2, fun hne => ?_⟩
    obtain ⟨b, off, h4, h5⟩ := h3 hne
    exact ⟨b, off, h4, fun j x hx => hm.cell id (h5 j x hx)⟩
  refine hK _ _ trivial ?_
  clear hK K
  try simp only [pl, pn, el, ec, sz, ss, gz, gs, if_true, if_false, Bool.false_eq_true, Bool.not_true, Bool.not_false, Nat.add_zero, Nat.zero_add, Nat.reduceAdd]
  refine wpPi_assign _ rfl rfl ?_
  simp only [pl, pn, el, ec, sz, ss, gz, gs, if_true, if_false, Bool.false_eq_true, Bool.not_true, Bool.not_false, Nat.add_zero, Nat.zero_add, Nat.reduceAdd]
  refine wpPi_nil ?_
  go_wp2
  go_ret
  have hm2 : Mod NoB w w2 := hm.grown hgrow (fun k hk hlt => by simp [Value.ownBlock] at hk; omega)
  refine ⟨_, rfl, hm2, ?_⟩
  have := Sl.of_owns hown (by simp) hsz hall (by simp)
  exact this.mono (fun k hk => ⟨hk.1, hk.2.1⟩) fun _ _ h => h

set_option maxRecDepth 10000 in
set_option maxHeartbeats 400000 in
theorem cloneInts_any (own : Bool) (G : Nat → Prop) (v : Value) (l : List Int) (w : World) (hl : Sl own w G 1 IntC v l) (hlen : l.length ≤ 1048576) :
    Calls Try.prog 65 #[v] w (RetN w fun v' w' => Sl true w' (New w w') 1 IntC v' l) := by
  obtain ⟨css, hall, hsz, hsrc⟩ := hl.src (by omega)
  by_cases hnil : ∃ n c, v = .slice none n c
  · obtain ⟨n, c, rfl⟩ := hnil
    have h0 : l = [] ∧ n = 0 := by
      obtain ⟨h1, ad, c', h2, h3⟩ := hsrc
      cases h2
      by_cases hne : l.length = 0
      · exact ⟨List.eq_nil_of_length_eq_zero hne, hne⟩
      · obtain ⟨b, off, h4, _⟩ := h3 hne
        cases h4
    obtain ⟨rfl, rfl⟩ := h0
    have he := fun w => Lib.run_eql_slice_nil (P := Try.prog) w 30 3 none 0 c 0 0 Try.underlying30
    go_enter Try.func65, Try.ntmps65
    go_wp2
    go_ret
    exact ⟨_, rfl, Mod.refl _ _, Sl.nil _ _ _ _ _⟩
  have hsome : ∃ a0 n c, v = .slice (some a0) n c := by
    obtain ⟨h1, ad, c', h2, h3⟩ := hsrc
    cases ad with
    | none => exact absurd ⟨_, _, h2⟩ hnil
    | some a0 => exact ⟨a0, _, _, h2⟩
  obtain ⟨a0, n0, c0, rfl⟩ := hsome
  have he := fun w => Lib.run_eql_slice_nil (P := Try.prog) w 30 3 (some a0) n0 c0 0 0 Try.underlying30
  go_enter Try.func65, Try.ntmps65
  go_upto_region 3 with (fail)
  refine wp_region_seq [1, 3, 1, 3] (fun _ => True) (by rfl) (by rfl) trivial ?_
  simp only [List.zip_cons_cons, List.zip_nil_right]
  refine wpPi_do rfl (fun K hK => ?_)
  refine wp_buildSlice0 30 3 (by rfl) Try.underlying30 (by kernel_rfl) (fun w1 hb hm hs => ?_)
  refine hK _ _ trivial ?_
  clear hK K
  try simp only [pl, pn, el, ec, sz, ss, gz, gs, if_true, if_false, Bool.false_eq_true, Bool.not_true, Bool.not_false, Nat.add_zero, Nat.zero_add, Nat.reduceAdd]
  refine wpPi_move _ rfl rfl ?_
  simp only [pl, pn, el, ec, sz, ss, gz, gs, if_true, if_false, Bool.false_eq_true, Bool.not_true, Bool.not_false, Nat.add_zero, Nat.zero_add, Nat.reduceAdd]
  refine wpPi_do rfl (fun K hK => ?_)
  refine wp_append _ _ 30 3 intInfo 1 8 (by rfl) Try.underlying30 info3 (by rfl) (by omega) w.heap.size _ 0 [] (by rfl) (owns_empty _ hb (Nat.le_refl _)) _ l.length (css.flatMap Array.toList) (by rfl) (?_ : Src w1 1 _ l.length (css.flatMap Array.toList)) (all2_one hall fun _ _ => intC_one) (by unfold maxLen; omega) (by omega) (by omega) (fun v' w2 hown hgrow _ => ?_)
  · obtain ⟨h1, ad, c, h2, h3⟩ := hsrc
    refine ⟨h1, ad, c, h2, fun hne => ?_⟩
    obtain ⟨b, off, h4, h5⟩ := h3 hne
    exact ⟨b, off, h4, fun j x hx => hm.cell id (h5 j x hx)⟩
  refine hK _ _ trivial ?_
  clear hK K
  try simp only [pl, pn, el, ec, sz, ss, gz, gs, if_true, if_false, Bool.false_eq_true, Bool.not_true, Bool.not_false, Nat.add_zero, Nat.zero_add, Nat.reduceAdd]
  refine wpPi_assign _ rfl rfl ?_
  simp only [pl, pn, el, ec, sz, ss, gz, gs, if_true, if_false, Bool.false_eq_true, Bool.not_true, Bool.not_false, Nat.add_zero, Nat.zero_add, Nat.reduceAdd]
  refine wpPi_nil ?_
  go_wp2
  go_ret
  have hm2 : Mod NoB w w2 := hm.grown hgrow (fun k hk hlt => by simp [Value.ownBlock] at hk; omega)
  refine ⟨_, rfl, hm2, ?_⟩
  have := Sl.of_owns hown (by simp) hsz hall (by simp)
  exact this.mono (fun k hk => ⟨hk.1, hk.2.1⟩) fun _ _ h => h

set_option maxRecDepth 10000 in
set_option maxHeartbeats 400000 in
theorem cloneBytes_any (own : Bool) (G : Nat → Prop) (v : Value) (l : List UInt8) (w : World) (hl : Sl own w G 1 ByteC v l) (hlen : l.length ≤ 1048576) :
    Calls Try.prog 66 #[v] w (RetN w fun v' w' => Sl true w' (New w w') 1 ByteC v' l) := by
  obtain ⟨css, hall, hsz, hsrc⟩ := hl.src (by omega)
  by_cases hnil : ∃ n c, v = .slice none n c
  · obtain ⟨n, c, rfl⟩ := hnil
    have h0 : l = [] ∧ n = 0 := by
      obtain ⟨h1, ad, c', h2, h3⟩ := hsrc
      cases h2
      by_cases hne : l.length = 0
      · exact ⟨List.eq_nil_of_length_eq_zero hne, hne⟩
      · obtain ⟨b, off, h4, _⟩ := h3 hne
        cases h4
    obtain ⟨rfl, rfl⟩ := h0
    have he := fun w => Lib.run_eql_slice_nil (P := Try.prog) w 36 5 none 0 c 0 0 Try.underlying36
    go_enter Try.func66, Try.ntmps66
    go_wp2
    go_ret
    exact ⟨_, rfl, Mod.refl _ _, Sl.nil _ _ _ _ _⟩
  have hsome : ∃ a0 n c, v = .slice (some a0) n c := by
    obtain ⟨h1, ad, c', h2, h3⟩ := hsrc
    cases ad with
    | none => exact absurd ⟨_, _, h2⟩ hnil
    | some a0 => exact ⟨a0, _, _, h2⟩
  obtain ⟨a0, n0, c0, rfl⟩ := hsome
  have he := fun w => Lib.run_eql_slice_nil (P := Try.prog) w 36 5 (some a0) n0 c0 0 0 Try.underlying36
  go_enter Try.func66, Try.ntmps66
  go_upto_region 3 with (fail)
  refine wp_region_seq [1, 3, 1, 3] (fun _ => True) (by rfl) (by rfl) trivial ?_
  simp only [List.zip_cons_cons, List.zip_nil_right]
  refine wpPi_do rfl (fun K hK => ?_)
  refine wp_buildSlice0 36 5 (by rfl) Try.underlying36 (by kernel_rfl) (fun w1 hb hm hs => ?_)
  refine hK _ _ trivial ?_
  clear hK K
  try simp only [pl, pn, el, ec, sz, ss, gz, gs, if_true, if_false, Bool.false_eq_true, Bool.not_true, Bool.not_false, Nat.add_zero, Nat.zero_add, Nat.reduceAdd]
  refine wpPi_move _ rfl rfl ?_
  simp only [pl, pn, el, ec, sz, ss, gz, gs, if_true, if_false, Bool.false_eq_true, Bool.not_true, Bool.not_false, Nat.add_zero, Nat.zero_add, Nat.reduceAdd]
  refine wpPi_do rfl (fun K hK => ?_)
  refine wp_append _ _ 36 5 byteInfo 1 1 (by rfl) Try.underlying36 info5 (by rfl) (by omega) w.heap.size _ 0 [] (by rfl) (owns_empty _ hb (Nat.le_refl _)) _ l.length (css.flatMap Array.toList) (by rfl) (?_ : Src w1 1 _ l.length (css.flatMap Array.toList)) (all2_one hall fun _ _ => byteC_one) (by unfold maxLen; omega) (by omega) (by omega) (fun v' w2 hown hgrow _ => ?_)
  · obtain ⟨h1, ad, c, h2, h3⟩ := hsrc
    refine ⟨h1, ad, c, h2, fun hne => ?_⟩
    obtain ⟨b, off, h4, h5⟩ := h3 hne
    exact ⟨b, off, h4, fun j x hx => hm.cell id (h5 j x hx)⟩
  refine hK _ _ trivial ?_
  clear hK K
  try simp only [pl, pn, el, ec, sz, ss, gz, gs, if_true, if_false, Bool.false_eq_true, Bool.not_true, Bool.not_false, Nat.add_zero, Nat.zero_add, Nat.reduceAdd]
  refine wpPi_assign _ rfl rfl ?_
  simp only [pl, pn, el, ec, sz, ss, gz, gs, if_true, if_false, Bool.false_eq_true, Bool.not_true, Bool.not_false, Nat.add_zero, Nat.zero_add, Nat.reduceAdd]
  refine wpPi_nil ?_
  go_wp2
  go_ret
  have hm2 : Mod NoB w w2 := hm.grown hgrow (fun k hk hlt => by simp [Value.ownBlock] at hk; omega)
  refine ⟨_, rfl, hm2, ?_⟩
  have := Sl.of_owns hown (by simp) hsz hall (by simp)
  exact this.mono (fun k hk => ⟨hk.1, hk.2.1⟩) fun _ _ h => h

set_option maxRecDepth 10000 in
set_option maxHeartbeats 400000 in
theorem cloneIDs_any (own : Bool) (G : Nat → Prop) (v : Value) (l : List (List UInt8)) (w : World) (hl : Sl own w G 32 IdC v l) (hlen : l.length ≤ 1048576) :
    Calls Try.prog 67 #[v] w (RetN w fun v' w' => Sl true w' (New w w') 32 IdC v' l) := by
  obtain ⟨css, hall, hsz, hsrc⟩ := hl.src (by omega)
  by_cases hnil : ∃ n c, v = .slice none n c
  · obtain ⟨n, c, rfl⟩ := hnil
    have h0 : l = [] ∧ n = 0 := by
      obtain ⟨h1, ad, c', h2, h3⟩ := hsrc
      cases h2
      by_cases hne : l.length = 0
      · exact ⟨List.eq_nil_of_length_eq_zero hne, hne⟩
      · obtain ⟨b, off, h4, _⟩ := h3 hne
        cases h4
    obtain ⟨rfl, rfl⟩ := h0
    have he := fun w => Lib.run_eql_slice_nil (P := Try.prog) w 102 35 none 0 c 0 0 Try.underlying102
    go_enter Try.func67, Try.ntmps67
    go_wp2
    go_ret
    exact ⟨_, rfl, Mod.refl _ _, Sl.nil _ _ _ _ _⟩
  have hsome : ∃ a0 n c, v = .slice (some a0) n c := by
    obtain ⟨h1, ad, c', h2, h3⟩ := hsrc
    cases ad with
    | none => exact absurd ⟨_, _, h2⟩ hnil
    | some a0 => exact ⟨a0, _, _, h2⟩
  obtain ⟨a0, n0, c0, rfl⟩ := hsome
  have he := fun w => Lib.run_eql_slice_nil (P := Try.prog) w 102 35 (some a0) n0 c0 0 0 Try.underlying102
  go_enter Try.func67, Try.ntmps67
  go_upto_region 3 with (fail)
  refine wp_region_seq [1, 3, 1, 3] (fun _ => True) (by rfl) (by rfl) trivial ?_
  simp only [List.zip_cons_cons, List.zip_nil_right]
  refine wpPi_do rfl (fun K hK => ?_)
  refine wp_buildSlice0 102 35 (by rfl) Try.underlying102 (by kernel_rfl) (fun w1 hb hm hs => ?_)
  refine hK _ _ trivial ?_
  clear hK K
  try simp only [pl, pn, el, ec, sz, ss, gz, gs, if_true, if_false, Bool.false_eq_true, Bool.not_true, Bool.not_false, Nat.add_zero, Nat.zero_add, Nat.reduceAdd]
  refine wpPi_move _ rfl rfl ?_
  simp only [pl, pn, el, ec, sz, ss, gz, gs, if_true, if_false, Bool.false_eq_true, Bool.not_true, Bool.not_false, Nat.add_zero, Nat.zero_add, Nat.reduceAdd]
  refine wpPi_do rfl (fun K hK => ?_)
  refine wp_append _ _ 102 35 idInfo 32 32 (by rfl) Try.underlying102 info35 (by rfl) (by omega) w.heap.size _ 0 [] (by rfl) (owns_empty _ hb (Nat.le_refl _)) _ l.length (css.flatMap Array.toList) (by rfl) (?_ : Src w1 32 _ l.length (css.flatMap Array.toList)) (all2_one hall fun _ _ => idC_one) (by unfold maxLen; omega) (by omega) (by omega) (fun v' w2 hown hgrow _ => ?_)
  · obtain ⟨h1, ad, c, h2, h3⟩ := hsrc
    refine ⟨h1, ad, c, h2, fun hne => ?_⟩
    obtain ⟨b, off, h4, h5⟩ := h3 hne
    exact ⟨b, off, h4, fun j x hx => hm.cell id (h5 j x hx)⟩
  refine hK _ _ trivial ?_
  clear hK K
  try simp only [pl, pn, el, ec, sz, ss, gz, gs, if_true, if_false, Bool.false_eq_true, Bool.not_true, Bool.not_false, Nat.add_zero, Nat.zero_add, Nat.reduceAdd]
  refine wpPi_assign _ rfl rfl ?_
  simp only [pl, pn, el, ec, sz, ss, gz, gs, if_true, if_false, Bool.false_eq_true, Bool.not_true, Bool.not_false, Nat.add_zero, Nat.zero_add, Nat.reduceAdd]
  refine wpPi_nil ?_
  go_wp2
  go_ret
  have hm2 : Mod NoB w w2 := hm.grown hgrow (fun k hk hlt => by simp [Value.ownBlock] at hk; omega)
  refine ⟨_, rfl, hm2, ?_⟩
  have := Sl.of_owns hown (by simp) hsz hall (by simp)
  exact this.mono (fun k hk => ⟨hk.1, hk.2.1⟩) fun _ _ h => h
end Go.Proofs.Ytdllpakdhnanbaa
