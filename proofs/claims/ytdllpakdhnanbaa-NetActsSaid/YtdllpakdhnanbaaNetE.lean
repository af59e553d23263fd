/- The net as it is held: its letters, each with the memory that is its own. -/
import Derived.Test.YtdllpakdhnanbaaNetD
namespace Go.Proofs.Ytdllpakdhnanbaa
set_option linter.unusedSimpArgs false
set_option linter.unusedVariables false
set_option linter.unnecessarySimpa false
open Go.RowKit

/-- A letter under way: its link's block, its cells, the blocks of its own slices, and what it says. -/
structure It where
  b : Nat
  cs : Array Value
  E : Nat → Prop
  G : Nat → Prop
  l : Ltr
def It.lk (x : It) : Nat × Array Value := (x.b, x.cs)
def It.foot (x : It) (k : Nat) : Prop := x.E k ∨ x.G k

/-- All that the net owns. -/
def NetFoot (bx mb : Nat) (its : List It) (k : Nat) : Prop := k = bx ∨ k = mb ∨ ∃ x ∈ its, k = x.b ∨ x.foot k

structure NetInv (w : World) (bx mb : Nat) (n lost : Int) (cut : Int × Int → Bool) (its : List It) : Prop where
  net : NetW w bx mb n lost (its.map It.lk)
  map : ∃ ps, MapW w mb ps ∧ ∀ q, q ∈ ps ↔ cut q = true
  lets : ∀ x ∈ its, LetR true w x.E x.G x.cs x.l ∧ LtrOk x.l ∧ (∀ k, x.E k → ¬ x.G k)
  old : ∀ x ∈ its, ∀ k, x.foot k → k < w.heap.size
  apart : ∀ x ∈ its, ∀ k, x.foot k → k ≠ bx ∧ k ≠ mb ∧ ∀ y ∈ its, k ≠ y.b
  pw : its.Pairwise (fun x y => ∀ k, x.foot k → ¬ y.foot k)
  few : its.length ≤ 4096
  hn : 1 ≤ n

theorem lt_of_obj {w : World} {b : Nat} {o : Obj} (h : w.heap[b]? = some o) : b < w.heap.size := by
  rcases Nat.lt_or_ge b w.heap.size with h' | h'
  · exact h'
  · rw [Array.getElem?_eq_none h'] at h; cases h

theorem map_eraseIdx {α β : Type} (f : α → β) (l : List α) : ∀ i, (l.eraseIdx i).map f = (l.map f).eraseIdx i := by
  induction l with
  | nil => intro i; simp
  | cons x l ih => intro i; cases i <;> simp [ih]

theorem NetW.lt_link {w : World} {bx mb : Nat} {n lost : Int} {links : List (Nat × Array Value)} (h : NetW w bx mb n lost links) : ∀ x ∈ links, x.1 < w.heap.size := by
  intro x hx
  obtain ⟨i, hi, rfl⟩ := List.getElem_of_mem hx
  exact lt_of_obj (h.link i hi)

section
variable {w w' : World} {bx mb : Nat} {n lost : Int} {cut : Int × Int → Bool} {its : List It}

theorem NetInv.lt_mb (h : NetInv w bx mb n lost cut its) : mb < w.heap.size := by
  obtain ⟨ps, ⟨⟨es, clk, hb, _⟩, _⟩, _⟩ := h.map
  exact lt_of_obj hb
theorem NetInv.lt_bx (h : NetInv w bx mb n lost cut its) : bx < w.heap.size := lt_of_obj h.net.obj
theorem NetInv.lt_b (h : NetInv w bx mb n lost cut its) : ∀ x ∈ its, x.b < w.heap.size := fun x hx => h.net.lt_link _ (List.mem_map_of_mem (f := It.lk) hx)
theorem NetInv.lt (h : NetInv w bx mb n lost cut its) : ∀ k, NetFoot bx mb its k → k < w.heap.size := by
  rintro k (rfl | rfl | ⟨x, hx, rfl | hf⟩)
  · exact h.lt_bx
  · exact h.lt_mb
  · exact h.lt_b x hx
  · exact h.old x hx k hf
theorem NetInv.mb_ne (h : NetInv w bx mb n lost cut its) : mb ≠ bx ∧ ∀ x ∈ its, mb ≠ x.b := by
  obtain ⟨ps, ⟨⟨es, clk, hb, _⟩, _⟩, _⟩ := h.map
  refine ⟨fun e => ?_, fun x hx e => ?_⟩
  · rw [e, h.net.obj] at hb; cases hb
  · obtain ⟨i, hi, rfl⟩ := List.getElem_of_mem hx
    have := h.net.link i (by simpa using hi)
    simp only [List.getElem_map, It.lk] at this
    rw [e, this] at hb; cases hb
theorem NetInv.netBl {k : Nat} (h : ∃ x ∈ its.map It.lk, x.1 = k) : ∃ x ∈ its, k = x.b := by
  obtain ⟨x, hx, rfl⟩ := h
  obtain ⟨y, hy, rfl⟩ := List.mem_map.1 hx
  exact ⟨y, hy, rfl⟩
theorem NetInv.bl_foot {k : Nat} (h : NetBl bx (its.map It.lk) k) : NetFoot bx mb its k := by
  rcases h with rfl | h
  · exact .inl rfl
  · obtain ⟨x, hx, rfl⟩ := NetInv.netBl h
    exact .inr (.inr ⟨x, hx, .inl rfl⟩)

theorem NetInv.keep {S : Nat → Prop} (h : NetInv w bx mb n lost cut its) (hm : Mod S w w') (hd : ∀ k, NetFoot bx mb its k → ¬ S k) : NetInv w' bx mb n lost cut its := by
  obtain ⟨ps, hps, hq⟩ := h.map
  refine ⟨h.net.keep hm (hd _ (.inl rfl)) (fun x hx => ?_), ⟨ps, hps.keep hm (hd _ (.inr (.inl rfl))), hq⟩, fun x hx => ?_, fun x hx k hk => Nat.lt_of_lt_of_le (h.old x hx k hk) hm.size, h.apart, h.pw, h.few, h.hn⟩
  · obtain ⟨y, hy, rfl⟩ := List.mem_map.1 hx
    exact hd _ (.inr (.inr ⟨y, hy, .inl rfl⟩))
  · obtain ⟨h1, h2, h3⟩ := h.lets x hx
    exact ⟨h1.keep hm (fun k hk => hd _ (.inr (.inr ⟨x, hx, .inr (.inl hk)⟩))) (fun k hk => hd _ (.inr (.inr ⟨x, hx, .inr (.inr hk)⟩))), h2, h3⟩
theorem NetInv.keep0 (h : NetInv w bx mb n lost cut its) (hm : Mod NoB w w') : NetInv w' bx mb n lost cut its := h.keep hm (fun _ _ => id)

/-- The letters are as they were where just the structure has turned. -/
theorem NetInv.lets_keep (h : NetInv w bx mb n lost cut its) {S : Nat → Prop} (hm : Mod S w w') (hS : ∀ k, S k → k = bx ∨ k = mb ∨ ∃ x ∈ its, k = x.b) :
    (∀ x ∈ its, LetR true w' x.E x.G x.cs x.l ∧ LtrOk x.l ∧ (∀ k, x.E k → ¬ x.G k)) ∧ (∀ x ∈ its, ∀ k, x.foot k → k < w'.heap.size) := by
  refine ⟨fun x hx => ?_, fun x hx k hk => Nat.lt_of_lt_of_le (h.old x hx k hk) hm.size⟩
  obtain ⟨h1, h2, h3⟩ := h.lets x hx
  have hno : ∀ k, x.foot k → ¬ S k := fun k hk hs => by
    obtain ⟨e1, e2, e3⟩ := h.apart x hx k hk
    rcases hS k hs with e | e | ⟨y, hy, e⟩
    · exact e1 e
    · exact e2 e
    · exact e3 y hy e
  exact ⟨h1.keep hm (fun k hk => hno k (.inl hk)) (fun k hk => hno k (.inr hk)), h2, h3⟩

theorem NetInv.pull (h : NetInv w bx mb n lost cut its) (i : Nat) (hi : i < its.length) (hnet : NetW w' bx mb n lost ((its.map It.lk).eraseIdx i)) (hm : Mod (NetBl bx (its.map It.lk)) w w') :
    NetInv w' bx mb n lost cut (its.eraseIdx i) ∧ LetR true w' its[i].E its[i].G its[i].cs its[i].l ∧ ∀ k, its[i].foot k → ¬ NetFoot bx mb (its.eraseIdx i) k := by
  have hS : ∀ k, NetBl bx (its.map It.lk) k → k = bx ∨ k = mb ∨ ∃ x ∈ its, k = x.b := fun k hk => by
    rcases hk with e | hk
    · exact .inl e
    · exact .inr (.inr (NetInv.netBl hk))
  obtain ⟨hl, ho⟩ := h.lets_keep hm hS
  obtain ⟨ps, hps, hq⟩ := h.map
  have hmem : ∀ x, x ∈ its.eraseIdx i → x ∈ its := fun x hx => List.mem_of_mem_eraseIdx hx
  have hsplit : its = its.take i ++ its[i] :: its.drop (i + 1) := by rw [List.getElem_cons_drop, List.take_append_drop]
  refine ⟨⟨by rw [map_eraseIdx]; exact hnet, ⟨ps, hps.keep hm (fun hk => ?_), hq⟩, fun x hx => hl x (hmem x hx), fun x hx => ho x (hmem x hx),
    fun x hx k hk => ?_, h.pw.sublist (List.eraseIdx_sublist _ _), by rw [List.length_eraseIdx_of_lt hi]; have := h.few; omega, h.hn⟩, (hl _ (List.getElem_mem hi)).1, fun k hk hf => ?_⟩
  · rcases hk with e | hk
    · exact h.mb_ne.1 e
    · obtain ⟨x, hx, e⟩ := NetInv.netBl hk
      exact h.mb_ne.2 x hx e
  · obtain ⟨e1, e2, e3⟩ := h.apart x (hmem x hx) k hk
    exact ⟨e1, e2, fun y hy => e3 y (hmem y hy)⟩
  · obtain ⟨e1, e2, e3⟩ := h.apart _ (List.getElem_mem hi) k hk
    rcases hf with e | e | ⟨x, hx, e | hx'⟩
    · exact e1 e
    · exact e2 e
    · exact e3 x (hmem x hx) e
    · have hp := h.pw
      rw [hsplit, List.pairwise_append, List.pairwise_cons] at hp
      rw [List.eraseIdx_eq_take_drop_succ] at hx
      rcases List.mem_append.1 hx with h1 | h1
      · exact hp.2.2 x h1 its[i] List.mem_cons_self k hx' hk
      · exact hp.2.1.1 x h1 k hk hx'

theorem NetInv.push (h : NetInv w bx mb n lost cut its) (hfew : its.length < 4096) {b : Nat} {cs : Array Value} {E G : Nat → Prop} {l : Ltr}
    (hnet : NetW w' bx mb n lost ((its.map It.lk) ++ [(b, cs)])) (hm : Mod (NetBl bx (its.map It.lk)) w w') (hb : New w w' b)
    (hl : LetR true w E G cs l) (hok : LtrOk l) (hEG : ∀ k, E k → ¬ G k) (hold : ∀ k, E k ∨ G k → k < w.heap.size) (hap : ∀ k, E k ∨ G k → ¬ NetFoot bx mb its k) :
    NetInv w' bx mb n lost cut (its ++ [⟨b, cs, E, G, l⟩]) := by
  have hS : ∀ k, NetBl bx (its.map It.lk) k → k = bx ∨ k = mb ∨ ∃ x ∈ its, k = x.b := fun k hk => by
    rcases hk with e | hk
    · exact .inl e
    · exact .inr (.inr (NetInv.netBl hk))
  obtain ⟨hls, ho⟩ := h.lets_keep hm hS
  obtain ⟨ps, hps, hq⟩ := h.map
  have hno : ∀ k, E k ∨ G k → ¬ NetBl bx (its.map It.lk) k := fun k hk hb => hap k hk (NetInv.bl_foot hb)
  refine ⟨by simpa [It.lk] using hnet, ⟨ps, hps.keep hm (fun hk => ?_), hq⟩, fun x hx => ?_, fun x hx k hk => ?_, fun x hx k hk => ?_, ?_, by simp; omega, h.hn⟩
  · rcases hk with e | hk
    · exact h.mb_ne.1 e
    · obtain ⟨x, hx, e⟩ := NetInv.netBl hk
      exact h.mb_ne.2 x hx e
  · rcases List.mem_append.1 hx with h1 | h1
    · exact hls x h1
    · have e : x = ⟨b, cs, E, G, l⟩ := by simpa using h1
      subst e
      exact ⟨hl.keep hm (fun k hk => hno k (.inl hk)) (fun k hk => hno k (.inr hk)), hok, hEG⟩
  · rcases List.mem_append.1 hx with h1 | h1
    · exact ho x h1 k hk
    · have e : x = ⟨b, cs, E, G, l⟩ := by simpa using h1
      subst e
      exact Nat.lt_of_lt_of_le (hold k hk) hm.size
  · have key : k < w.heap.size ∧ k ≠ bx ∧ k ≠ mb ∧ ∀ y ∈ its, k ≠ y.b := by
      rcases List.mem_append.1 hx with h1 | h1
      · exact ⟨h.old x h1 k hk, h.apart x h1 k hk⟩
      · have e : x = ⟨b, cs, E, G, l⟩ := by simpa using h1
        subst e
        exact ⟨hold k hk, fun e => hap k hk (.inl e), fun e => hap k hk (.inr (.inl e)), fun y hy e => hap k hk (.inr (.inr ⟨y, hy, .inl e⟩))⟩
    refine ⟨key.2.1, key.2.2.1, fun y hy => ?_⟩
    rcases List.mem_append.1 hy with h1 | h1
    · exact key.2.2.2 y h1
    · have e : y = ⟨b, cs, E, G, l⟩ := by simpa using h1
      subst e
      have h2 := hb.1; have h3 := key.1
      intro (e : k = b); omega
  · rw [List.pairwise_append]
    refine ⟨h.pw, by simp, fun x hx y hy k hk hk' => ?_⟩
    have e : y = ⟨b, cs, E, G, l⟩ := by simpa using hy
    subst e
    exact hap k hk' (.inr (.inr ⟨x, hx, .inr hk⟩))

theorem NetInv.cell (h : NetInv w bx mb n lost cut its) : w.cell? ⟨bx, 0, none⟩ = some (.int .i64 n) ∧ w.cell? ⟨bx, 1, none⟩ = some (.int .i64 lost) ∧ w.cell? ⟨bx, 3, none⟩ = some (.int .i64 its.length) ∧ w.cell? ⟨bx, 4, none⟩ = some (.map (some mb)) := by
  have h1 := h.net.obj
  refine ⟨?_, ?_, ?_, ?_⟩ <;> rw [cell_of_row w bx _ _ _ _ h1] <;> simp [netCells]
theorem NetInv.hn0 (h : NetInv w bx mb n lost cut its) : (n == 0) = false := by have := h.hn; simp; omega
end

end Go.Proofs.Ytdllpakdhnanbaa
