/- slices.SortedFunc of the links' keys. -/
import Derived.Test.YtcfcahflkhgapaaGreatSortR
import Derived.Test.YtcfcahflkhgapaaGreatShelf
import Derived.Shelf.SlSortCmp.NoneTotal
namespace Go.Proofs.YtcfcahflkhgapaaGreat
set_option linter.unusedSimpArgs false
set_option linter.unusedVariables false
set_option linter.unnecessarySimpa false
set_option linter.unusedSectionVars false
open Go.RowKit Go.Shelf Go.Sort

theorem isAggKey (w : World) : (isAgg 67).run Tryz.prog w = .ok true w := by
  unfold isAgg
  rw [Sem.run_bind, run_underlying Tryz.underlying67 w]; rfl
theorem sizeKey (w : World) : (Go.sizeOf 67).run Tryz.prog w = .ok 33 w := sizeOf_of (by kernel_rfl) w
def KeyR (cs : Array Value) (x : KeyS) : Prop := cs = (keyL x).toArray
def sortK (ks : List KeyS) : List KeyS := ks.mergeSort fun x y => !(ltOf cfK) y x
theorem sortK_perm (ks : List KeyS) : (sortK ks).Perm ks := List.mergeSort_perm _ _
theorem sortK_sorted {ks : List KeyS} (hn : ks.Nodup) : (sortK ks).Pairwise (fun a b => ltK a.1 b.1) := by
  have hlt : ∀ a b : KeyS, (!(ltOf cfK) b a) = true ↔ ¬ ltK b.1 a.1 := fun a b => by simp [ltOf, cfK_neg]
  have h := List.pairwise_mergeSort (le := fun x y => !(ltOf cfK) y x) (fun a b c h1 h2 => by
    rw [hlt] at *
    intro h
    rcases ltK_tri a.1 b.1 with h3 | h3 | h3
    · exact h2 (ltK_trans h h3)
    · rw [h3] at h; exact h2 h
    · exact h1 h3) (fun a b => by
    rw [Bool.or_eq_true, hlt, hlt]
    by_cases h : ltK b.1 a.1
    · exact .inr fun h' => ltK_irrefl _ (ltK_trans h h')
    · exact .inl h) ks
  have hn2 : (ks.mergeSort fun x y => !(ltOf cfK) y x).Nodup := (List.mergeSort_perm _ _).nodup_iff.2 hn
  refine (h.and hn2).imp fun {a b} hab => ?_
  have h1 := (hlt a b).1 hab.1
  rcases ltK_tri a.1 b.1 with h2 | h2 | h2
  · exact h2
  · exact absurd (Subtype.ext h2) hab.2
  · exact absurd h2 h1

theorem cmpLaysK (g off size : Nat) (w : World) : CmpLays Tryz.prog 51 #[] keyL 33 cfK g off size w := by
  intro m os dk _ x y
  have h := idsF_any x.1 y.1 x.2 y.2 (sortWorldK keyL 33 w g off m dk os)
  have e : (#[.agg (keyL x).toArray, .agg (keyL y).toArray] ++ #[] : Array Value) = #[.agg (keyCells x.1), .agg (keyCells y.1)] := by simp [keyL]
  rw [e]
  refine h.mono ?_
  rintro _ w' ⟨rfl, q, os', rfl⟩
  exact ⟨rfl, q, os', rfl⟩

theorem sortFuncK_any (v : Value) (ks : List KeyS) (w : World) (base : Nat) (h : w.ownsRow base 67 33 v ks.length (ks.flatMap keyL)) (hlen : ks.length ≤ 65536) :
    Calls Tryz.prog 65 #[v, .func (.func 51) #[] #[]] w fun e w' => e = .returned (.tuple #[]) ∧ Mod (fun j => v.ownBlock = some j) w w' ∧ Sl false w' (fun j => v.ownBlock = some j) 33 KeyR v (sortK ks) := by
  rcases h.2 with ⟨rfl, h0⟩ | ⟨g, cap, cur, rfl, hb, hg, hc, hm, hcs, ht⟩
  · have : ks = [] := List.eq_nil_of_length_eq_zero h0
    subst this
    refine (AnyF.slices_SortFunc_none Tryz.sortK none 0 _ w).mono ?_
    rintro _ _ ⟨rfl, rfl⟩
    have e : sortK [] = [] := by simp [sortK]
    rw [e]
    exact ⟨rfl, Mod.refl _ _, Sl.nil _ _ _ _ _⟩
  · have hH : HoldsK keyL 33 w g 0 ks.toArray := holdsK_of_cells keyL_len (by omega) hg ht
    have hlt : g < w.heap.size := (Array.getElem?_eq_some_iff.1 hg).1
    have hs := AnyQ.slices_SortFunc_total Tryz.sortK 33 isAggKey sizeKey keyL keyL_len keyL_one cfK swoK 51 #[] g 0 cap ks.toArray w (enters_of Tryz.func51 (by kernel_rfl) rfl) (cmpLaysK g 0 _ w) hH hlt (by simp; omega) (fun x y h1 h2 => by
      simp only [ltOf, decide_eq_false_iff_not, cfK_neg] at h1 h2
      rcases ltK_tri x.1 y.1 with h | h | h
      · exact absurd h h1
      · exact Subtype.ext h
      · exact absurd h h2)
    have e : ks.toArray.size = ks.length := by simp
    rw [e] at hs
    refine hs.mono ?_
    rintro _ w' ⟨rfl, n, os, rfl⟩
    have hM : Mod (fun j => j = g) w (sortWorldK keyL 33 w g 0 n (sortK ks).toArray os) := mod_sortWorldK
    have hH' := holdsK_sortWorldK_c keyL 33 w g 0 ks.toArray (sortK ks).toArray n os hH hlt (by simp [(sortK_perm ks).length_eq])
    refine ⟨rfl, hM.mono (fun j _ e => by subst e; rfl), ?_⟩
    have hl : (sortK ks).length = ks.length := (sortK_perm ks).length_eq
    have := sl_of_holdsK keyL_len hH' (cap := cap) (by rw [hl]; exact hc) hm
    rw [hl] at this
    exact this.mono (fun j e => by subst e; rfl) (fun _ _ h => h)

/-- keys: rising, and just those of the links. -/
def KeysOf (l : LinkL) (ks : List KeyS) : Prop := ks.Pairwise (fun a b => ltK a.1 b.1) ∧ (ks.map (·.1)).Perm (l.map (·.1))
theorem sortedK_any {w : World} {mb : Nat} {l : LinkL} (hM : MapIs keyV KeyOk w mb (l.map fun p => (p.1, linkV p.2))) (hnd : (l.map (·.1)).Nodup) (hlen : l.length ≤ 65536) :
    Calls Tryz.prog 49 #[.func (.func 66) #[] #[.pointer (some ⟨w.heap.size, 0, none⟩)], .func (.func 51) #[] #[]] (w.alloc (.cells #[.map (some mb)] 49)) (RetN w fun v w' => ∃ ks, KeysOf l ks ∧ Sl false w' (New w w') 33 KeyR v ks) := by
  have hm1 := mod_alloc w (.cells #[.map (some mb)] 49)
  have hB := heap_alloc_new w (.cells #[.map (some mb)] 49)
  have hs1 : w.heap.size < (w.alloc (.cells #[.map (some mb)] 49)).heap.size := by simp
  generalize w.alloc (.cells #[.map (some mb)] 49) = w1 at hm1 hB hs1 ⊢
  have hst := keysK_stops 2 (by omega) w1 w.heap.size mb l hB (hM.keep0 hm1)
  have hc := collectK_any 3 (by omega) 66 #[.pointer (some ⟨w.heap.size, 0, none⟩)] (enters_of Tryz.func66 (by kernel_rfl) rfl) _ _ l.length hlen w1 hst
  go_enter Tryz.func49, Tryz.ntmps49
  go_upto_region 2 with (go_at_call 64; refine hc.mono ?_; rintro _ w2 ⟨v, ks, rfl, hS, hrow, hb⟩)
  have hkl : ks.length = l.length := by have := hS.length_eq; simpa using this
  have hf := sortFuncK_any v ks w2 _ hrow (by omega)
  have hvb := hrow.lt
  have hM2 := hm1.trans0 (Mod.of_below0 hb)
  have hs2 := hb.size
  clear hrow hb hc hst
  refine wp_region_seq [3, 3, 1] (fun _ => True) (by rfl) (by rfl) trivial ?_
  simp only [List.zip_cons_cons, List.zip_nil_right]
  refine wpPi_move _ rfl rfl ?_
  simp only [pl, pn, el, ec, sz, ss, gz, gs, if_true, if_false, Bool.false_eq_true, Bool.not_true, Bool.not_false, Nat.add_zero, Nat.zero_add, Nat.reduceAdd]
  refine wpPi_move _ rfl rfl ?_
  simp only [pl, pn, el, ec, sz, ss, gz, gs, if_true, if_false, Bool.false_eq_true, Bool.not_true, Bool.not_false, Nat.add_zero, Nat.zero_add, Nat.reduceAdd]
  refine wpPi_do rfl (fun K hK => ?_)
  go_wp2_with (go_at_call 65; refine hf.mono ?_; rintro _ w3 ⟨rfl, hm3, hsl⟩)
  refine hK _ _ trivial ?_
  clear hK K
  try simp only [pl, pn, el, ec, sz, ss, gz, gs, if_true, if_false, Bool.false_eq_true, Bool.not_true, Bool.not_false, Nat.add_zero, Nat.zero_add, Nat.reduceAdd]
  refine wpPi_nil ?_
  go_wp2
  go_ret
  have hm3s := hm3.size
  refine ⟨v, rfl, hM2.trans hm3 (fun k hk e => ?_), sortK ks, ⟨sortK_sorted ?_, ((sortK_perm ks).map _).trans hS⟩, hsl.mono (fun k e => ⟨?_, ?_⟩) (fun _ _ h => h)⟩
  · have := (hvb k e).1; omega
  · have : (ks.map (·.1)).Nodup := hS.nodup_iff.2 hnd
    exact (List.pairwise_map.1 this).imp fun hne e => hne (by rw [e])
  · have := (hvb k e).1; omega
  · have := (hvb k e).2; omega
end Go.Proofs.YtcfcahflkhgapaaGreat
