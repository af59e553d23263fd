/- Repos: a map's keys, sorted. -/
import Derived.Test.YtcfcahflkhgapaaGreatQI
import Derived.Test.YtcfcahflkhgapaaGreatCmpA
import Derived.Test.YtcfcahflkhgapaaGreatShelf
namespace Go.Proofs.YtcfcahflkhgapaaGreat
set_option linter.unusedSimpArgs false
set_option linter.unusedVariables false
set_option linter.unnecessarySimpa false
set_option linter.unusedSectionVars false
open Go.RowKit Go.Shelf Go.Maps Go.Sort Go.WideShapes Go.WideMaps

def StrC (cs : Array Value) (x : ByteArray) : Prop := cs = #[.string x]
def sortS (ks : List ByteArray) : List ByteArray := ((ks.map (·.data.toList)).mergeSort fun x y => decide (x ≤ y)).map fun x => ⟨x.toArray⟩
/-- names: rising, and just those that have a link. -/
def ReposOf (l : LinkL) (names : List ByteArray) : Prop := names.Pairwise (fun a b => a.data.toList < b.data.toList) ∧ ∀ r, r ∈ names ↔ 0 < cntOf l r

theorem sortS_perm (ks : List ByteArray) : (sortS ks).Perm ks := by
  have h := (List.mergeSort_perm (ks.map (·.data.toList)) (fun x y => decide (x ≤ y))).map (fun x : List UInt8 => (⟨x.toArray⟩ : ByteArray))
  simpa [sortS, List.map_map, Function.comp_def] using h
theorem sortS_sorted {ks : List ByteArray} (hn : ks.Nodup) : (sortS ks).Pairwise (fun a b => a.data.toList < b.data.toList) := by
  have tr : ∀ a b c : List UInt8, decide (a ≤ b) = true → decide (b ≤ c) = true → decide (a ≤ c) = true := fun a b c h1 h2 => by simp only [decide_eq_true_eq] at *; exact List.le_trans h1 h2
  have tot : ∀ a b : List UInt8, (decide (a ≤ b) || decide (b ≤ a)) = true := fun a b => by simp only [Bool.or_eq_true, decide_eq_true_eq]; exact List.le_total a b
  have h := List.pairwise_mergeSort tr tot (ks.map (·.data.toList))
  have hnd : (ks.map (·.data.toList)).Nodup := by
    refine List.pairwise_map.2 (hn.imp fun {a b} hne e => hne ?_)
    obtain ⟨⟨a⟩⟩ := a; obtain ⟨⟨b⟩⟩ := b
    simp at e; rw [e]
  have hnd2 : ((ks.map (·.data.toList)).mergeSort fun x y => decide (x ≤ y)).Nodup := (List.mergeSort_perm _ _).nodup_iff.2 hnd
  unfold sortS
  rw [List.pairwise_map]
  refine (h.and hnd2).imp fun {a b} hab => ?_
  obtain ⟨h1, h2⟩ := hab
  simp only [decide_eq_true_eq] at h1
  rcases List.le_iff_lt_or_eq.1 h1 with h3 | h3
  · exact h3
  · exact absurd h3 h2

theorem flatMap_one {α β : Type} (f : α → β) : ∀ l : List α, l.flatMap (fun a => [f a]) = l.map f
  | [] => rfl
  | x :: l => by simp [List.flatMap_cons, flatMap_one f l]
theorem perm_keys {H : Type} (f : MapEntry → Lit × DataW H) (es : List MapEntry) : (((es.map f).foldr DataW.insert []).map (fun p => strOf p.1)).Perm (es.map fun x => strOf (f x).1) := by
  have := (sorted_perm (es.map f)).map (fun p => strOf p.1)
  rw [List.map_map] at this
  exact this
section
variable {w : World} {mu : Nat} {us : List (ByteArray × Nat)}
/-- maps.Keys of the uses. -/
theorem keysS_any (w : World) (mu : Nat) : Calls Tryz.prog 34 #[.map (some mu)] w fun e w' => e = .returned (.func (.func 48) #[] #[.pointer (some ⟨w.heap.size, 0, none⟩)]) ∧ w' = w.alloc (.cells #[.map (some mu)] 50) :=
  callsIn_wide.1 (AnyZ.keys_in Tryz.keysA Fence.wide 5 trivial rfl (some mu) w)

theorem sorts_in (m : Nat) : AnyZ.SortsIn Tryz.prog Tryz.sortedA_ren Fence.wide m :=
  ⟨fun blk off cap ss W hH hblk hsz => callsIn_wide.2 (AnyM.slices_Sort_string Tryz.sortA blk off cap ss W hH hblk hsz),
   fun p cap W => callsIn_wide.2 (AnyM.slices_Sort_string_none Tryz.sortA p cap W)⟩

theorem owns_uses (hum : MapIs Value.string (fun _ => True) w mu (us.map fun p => (p.1, useV p.2))) (hsz : ∀ p ∈ us, p.1.size ≤ maxLen) (hlen : us.length ≤ 65536) :
    ∃ D0 : DataW Unit, w.ownsMap Tryz.prog 9 (fun _ => some (.nil, [])) mu us.length D0 ∧ (strKeys D0).Perm (us.map (·.1.data.toList)) ∧ Maps.size D0 = us.length := by
  obtain ⟨⟨es, clk, hb, hkd, hbo, hbn⟩, hnd, _⟩ := hum
  have hlen' : es.size = us.length := by have := congrArg List.length hkd; simpa using this
  have hkeys : es.toList.map (·.key) = us.map fun p => Value.string p.1 := by
    have := congrArg (List.map (·.1)) hkd
    simpa [List.map_map, Function.comp_def] using this
  have hkof : ∀ x ∈ es.toList, ∃ s : ByteArray, x.key = .string s ∧ s.size ≤ maxLen := by
    intro x hx
    have h1 : x.key ∈ es.toList.map (·.key) := List.mem_map.2 ⟨x, hx, rfl⟩
    rw [hkeys] at h1
    obtain ⟨p, hp, e⟩ := List.mem_map.1 h1
    exact ⟨p.1, e.symm, hsz p hp⟩
  have hrg : es.toList.map (fun x => strOf (WideElems.rg (H := Unit) Tryz.prog 9 (fun _ => some (.nil, [])) x).1) = us.map (·.1.data.toList) := by
    have h2 : es.toList.map (fun x => strOf (WideElems.rg (H := Unit) Tryz.prog 9 (fun _ => some (.nil, [])) x).1) = (es.toList.map (·.key)).map (fun v => match v with | .string s => s.data.toList | _ => []) := by
      rw [List.map_map]
      apply List.map_congr_left
      intro x hx
      obtain ⟨s, hs, hl⟩ := hkof x hx
      simp [WideElems.rg, WideElems.rd, hs, keyOf_string_mk Tryz.underlying9 hl, strOf]
    rw [h2, hkeys, List.map_map]; rfl
  refine ⟨_, ⟨es, clk, hb, ⟨?_, ⟨hbo, hbn, ?_⟩, ?_⟩, by omega, rfl⟩, ?_, ?_⟩
  · unfold maxLen; omega
  · rw [hkeys]
    have : (us.map fun p => p.1).Nodup := by simpa [List.map_map, Function.comp_def] using hnd
    refine List.pairwise_map.2 ((List.pairwise_map.1 this).imp fun hne e => hne (by simpa using e))
  · intro x hx
    obtain ⟨s, hs, hl⟩ := hkof x hx
    exact ⟨(.string s.data.toList, .nil), by simp only [WideElems.rd, hs, keyOf_string_mk Tryz.underlying9 hl, Option.bind_some, Option.map_some]⟩
  · simp only [strKeys]
    rw [← hrg]
    exact perm_keys _ _
  · simp only [Maps.size]
    rw [(sorted_perm _).length_eq]; simp [hlen']

/-- slices.Sorted of that. -/
theorem sortedS_any (hum : MapIs Value.string (fun _ => True) w mu (us.map fun p => (p.1, useV p.2))) (hsz : ∀ p ∈ us, p.1.size ≤ maxLen) (hlen : us.length ≤ 65536) :
    Calls Tryz.prog 33 #[.func (.func 48) #[] #[.pointer (some ⟨w.heap.size, 0, none⟩)]] (w.alloc (.cells #[.map (some mu)] 50)) (RetN w fun v w' => Sl true w' (New w w') 1 StrC v (sortS (us.map (·.1)))) := by
  obtain ⟨D0, hown, hperm, hsize⟩ := owns_uses hum hsz hlen
  have hbl := hown.lt
  have hseq : SeqGives Fence.wide 2 Tryz.prog 48 #[.pointer (some ⟨w.heap.size, 0, none⟩)] encStr (fun ss => ss.Perm (strKeys D0)) (Maps.size D0) (w.alloc (.cells #[.map (some mu)] 50)) :=
    AnyZ.keys_gives (ρ := Tryz.keysA_ren) { Tryz.keysA with } Fence.wide _ trivial rfl (by omega) w.heap.size mu us.length D0 _ (by simp) (by simp) (by
      obtain ⟨es, clock, hb, Ft, hs, hD⟩ := hown
      exact ⟨es, clock, (Below.heap_alloc _ _ mu hbl).trans hb, Ft, hs, hD⟩)
  have h := AnyZ.sorted_in Tryz.sortedA Fence.wide 5 trivial trivial trivial trivial rfl (by omega) (sorts_in _) (enters_of Tryz.func47 (by kernel_rfl) rfl) 48 #[.pointer (some ⟨w.heap.size, 0, none⟩)] trivial (enters_of Tryz.func48 (by kernel_rfl) rfl) _ _ (by rw [hsize]; unfold maxLen; omega) (by rw [hsize]; omega) _ hseq
  refine (callsIn_wide.1 h).mono ?_
  rintro e w' ⟨v, ss, rfl, hp, hrow, hnil, hb⟩
  have hsort : ss.mergeSort (fun x y => decide (x ≤ y)) = (us.map (·.1.data.toList)).mergeSort (fun x y => decide (x ≤ y)) := mergeSort_of_perm (hp.trans hperm)
  have hM : Mod NoB w w' := (mod_alloc w _).trans0 ((Mod.of_below hb).mono fun k hk h => by omega)
  refine ⟨v, rfl, hM, ?_⟩
  have hlen2 : ss.length = (sortS (us.map (·.1))).length := by
    rw [(sortS_perm _).length_eq, (hp.trans hperm).length_eq]; simp
  have hmap : (ss.mergeSort (fun x y => decide (x ≤ y))).map encStr = (sortS (us.map (·.1))).map Value.string := by
    rw [hsort]; unfold sortS; simp [List.map_map, Function.comp_def]
  have hS := Sl.of_owns (R := StrC) (css := (sortS (us.map (·.1))).map fun x => #[.string x]) (l := sortS (us.map (·.1))) hrow (by rw [hmap, List.flatMap_map]; exact (flatMap_one _ _).symm) (by simp) ⟨by simp, fun i h h' => by simp [StrC]⟩ hlen2
  exact hS.mono (fun k hk => ⟨by have h1 := hk.1; simp at h1; omega, hk.2.1⟩) (fun _ _ h => h)
end

section
variable {w : World} {bl ml mu : Nat} {limit : Int} {hold : Value} {l : LinkL} {us : List (ByteArray × Nat)}
theorem LkInv.repos (h : LkInv w bl ml mu limit hold l us) : ReposOf l (sortS (us.map (·.1))) ∧ us.length ≤ 65536 ∧ ∀ p ∈ us, p.1.size ≤ 128 := by
  have hmem : ∀ p ∈ us, ∃ q ∈ l, q.1.1 = p.1 := fun p hp => cntOf_pos ((h.uk p.1).1 (List.mem_map.2 ⟨p, hp, rfl⟩))
  refine ⟨⟨sortS_sorted h.und, fun r => by rw [(sortS_perm _).mem_iff]; exact h.uk r⟩, ?_, fun p hp => ?_⟩
  · have hsub : ∀ r ∈ us.map (·.1), r ∈ l.map (·.1.1) := fun r hr => by
      obtain ⟨q, hq, e⟩ := cntOf_pos ((h.uk r).1 hr)
      exact List.mem_map.2 ⟨q, hq, e⟩
    have := length_le_of_sub h.und hsub
    have h2 := h.few
    simp at this; omega
  · obtain ⟨q, hq, e⟩ := hmem p hp
    have := h.nm q hq
    rw [e] at this
    unfold nameB at this
    simp only [Bool.and_eq_true, decide_eq_true_eq] at this
    exact this.1

set_option maxRecDepth 10000 in
set_option maxHeartbeats 1000000 in
theorem repos_any (h : LkInv w bl ml mu limit hold l us) : Calls Tryz.prog 16 #[.pointer (some ⟨bl, 0, none⟩)] w (RetN w fun v w' => ∃ names, ReposOf l names ∧ Sl true w' (New w w') 1 StrC v names) := by
  obtain ⟨hR, hlen, hsz⟩ := h.repos
  have hc := h.cell.2.2.1
  have hsz' : ∀ p ∈ us, p.1.size ≤ maxLen := fun p hp => by have := hsz p hp; unfold maxLen; omega
  go_enter Tryz.func16, Tryz.ntmps16
  go_upto_region 3 with (go_at_call 25; refine h.made.mono ?_; rintro _ w1 ⟨rfl, hw⟩; obtain rfl := hw.symm)
  refine wp_region_seq [3, 3, 3, 1, 1, 1, 3] (fun _ => True) (by rfl) (by rfl) trivial ?_
  simp only [List.zip_cons_cons, List.zip_nil_right]
  refine wpPi_move _ rfl rfl ?_
  simp only [pl, pn, el, ec, sz, ss, gz, gs, if_true, if_false, Bool.false_eq_true, Bool.not_true, Bool.not_false, Nat.add_zero, Nat.zero_add, Nat.reduceAdd]
  refine wpPi_nilCheck _ _ rfl rfl rfl ?_
  simp only [pl, pn, el, ec, sz, ss, gz, gs, if_true, if_false, Bool.false_eq_true, Bool.not_true, Bool.not_false, Nat.add_zero, Nat.zero_add, Nat.reduceAdd]
  refine wpPi_field _ _ _ _ _ _ rfl rfl rfl fo_53_2 ?_
  simp only [pl, pn, el, ec, sz, ss, gz, gs, if_true, if_false, Bool.false_eq_true, Bool.not_true, Bool.not_false, Nat.add_zero, Nat.zero_add, Nat.reduceAdd]
  refine wpPi_do rfl (fun K hK => ?_)
  refine wp_exec (exec_load1 50 _ (by rfl) bl 2 (by rfl) _ hc _ Tryz.underlying50 rfl) ?_
  refine hK _ _ trivial ?_
  clear hK K
  try simp only [pl, pn, el, ec, sz, ss, gz, gs, if_true, if_false, Bool.false_eq_true, Bool.not_true, Bool.not_false, Nat.add_zero, Nat.zero_add, Nat.reduceAdd]
  refine wpPi_do rfl (fun K hK => ?_)
  go_wp2_with (go_at_call 34; refine (keysS_any _ mu).mono ?_; rintro _ w2 ⟨rfl, rfl⟩)
  refine hK _ _ trivial ?_
  clear hK K
  try simp only [pl, pn, el, ec, sz, ss, gz, gs, if_true, if_false, Bool.false_eq_true, Bool.not_true, Bool.not_false, Nat.add_zero, Nat.zero_add, Nat.reduceAdd]
  refine wpPi_do rfl (fun K hK => ?_)
  go_wp2_with (go_at_call 33; refine (sortedS_any h.um hsz' hlen).mono ?_; rintro _ w3 ⟨v, rfl, hm3, hv⟩)
  refine hK _ _ trivial ?_
  clear hK K
  try simp only [pl, pn, el, ec, sz, ss, gz, gs, if_true, if_false, Bool.false_eq_true, Bool.not_true, Bool.not_false, Nat.add_zero, Nat.zero_add, Nat.reduceAdd]
  refine wpPi_assign _ rfl rfl ?_
  simp only [pl, pn, el, ec, sz, ss, gz, gs, if_true, if_false, Bool.false_eq_true, Bool.not_true, Bool.not_false, Nat.add_zero, Nat.zero_add, Nat.reduceAdd]
  refine wpPi_nil ?_
  go_wp2
  go_ret
  exact ⟨v, rfl, hm3, _, hR, hv⟩
end
end Go.Proofs.YtcfcahflkhgapaaGreat
