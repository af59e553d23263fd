/- The net's functions, by what the net is said to hold. -/
import Derived.Test.YtdllpakdhnanbaaNetJ
namespace Go.Proofs.Ytdllpakdhnanbaa
set_option linter.unusedSimpArgs false
set_option linter.unusedVariables false
set_option linter.unnecessarySimpa false
open Go.RowKit

/-- A net: how many regions, how many letters were lost, which ways are cut, what is under way. -/
structure Ns where
  n : Int
  lost : Int
  cut : Int × Int → Bool
  ls : List Ltr

def NetOk (w : World) (p : Value) (N : Ns) (F : Nat → Prop) : Prop :=
  ∃ bx mb its, p = .pointer (some ⟨bx, 0, none⟩) ∧ NetInv w bx mb N.n N.lost N.cut its ∧ N.ls = its.map It.l ∧ ∀ k, NetFoot bx mb its k → F k

/-- The net is as N says, in memory of F; it is newer than w0, of which nothing has turned. -/
structure NetAt (w0 w : World) (p : Value) (N : Ns) (F : Nat → Prop) : Prop where
  mod : Mod NoB w0 w
  ok : NetOk w p N F
  old : ∀ k, F k → w0.heap.size ≤ k
  lt : ∀ k, F k → k < w.heap.size
/-- The net has become N; of what is not its own nothing has turned. -/
def Step (w0 w : World) (p : Value) (F : Nat → Prop) (w' : World) (N : Ns) : Prop := ∃ F', NetAt w0 w' p N F' ∧ Mod F w w' ∧ ∀ k, F' k → F k ∨ New w w' k

def inR (N : Ns) (i : Int) : Bool := decide (0 ≤ i ∧ i < N.ls.length)
def sendB (N : Ns) (l : Ltr) : Bool := twoB N.n l.src l.dst && !N.cut (l.src, l.dst) && decide (N.ls.length < 4096)
def sendE (N : Ns) (l : Ltr) : Int := if twoB N.n l.src l.dst then 0 else 2
def sendN (N : Ns) (l : Ltr) : Ns := if twoB N.n l.src l.dst then (if sendB N l then { N with ls := N.ls ++ [l] } else { N with lost := N.lost + 1 }) else N
def takeE (N : Ns) (i : Int) : Int := if inR N i then 0 else 26
def takeL (N : Ns) (i : Int) : Ltr := if inR N i then N.ls.getD i.toNat ltr0 else ltr0
def takeN (N : Ns) (i : Int) : Ns := if inR N i then { N with ls := N.ls.eraseIdx i.toNat } else N
def dropN (N : Ns) (i : Int) : Ns := if inR N i then { N with lost := N.lost + 1, ls := N.ls.eraseIdx i.toNat } else N
def copyE (N : Ns) (i : Int) : Int := if inR N i then (if 4096 ≤ N.ls.length then 10 else 0) else 26
def copyN (N : Ns) (i : Int) : Ns := if inR N i then (if 4096 ≤ N.ls.length then N else { N with ls := N.ls ++ [N.ls.getD i.toNat ltr0] }) else N
def turnE (N : Ns) (a b : Int) : Int := if twoB N.n a b then 0 else 2
def cutN (N : Ns) (a b : Int) : Ns := if twoB N.n a b then { N with cut := cutP N.cut (a, b) } else N
def healN (N : Ns) (a b : Int) : Ns := if twoB N.n a b then { N with cut := healP N.cut (a, b) } else N

theorem NetFoot.erase {bx mb i : Nat} {its : List It} {k : Nat} (h : NetFoot bx mb (its.eraseIdx i) k) : NetFoot bx mb its k := by
  rcases h with e | e | ⟨x, hx, e⟩
  · exact .inl e
  · exact .inr (.inl e)
  · exact .inr (.inr ⟨x, List.mem_of_mem_eraseIdx hx, e⟩)

section
variable {w0 w : World} {p : Value} {N : Ns} {F : Nat → Prop}

theorem NetAt.keep {w' : World} {S : Nat → Prop} (h : NetAt w0 w p N F) (hm : Mod S w w') (hS : ∀ k, F k → ¬ S k) (hS0 : ∀ k, k < w0.heap.size → ¬ S k) : NetAt w0 w' p N F := by
  obtain ⟨hM, ⟨bx, mb, its, hp, hi, hls, hF⟩, hF0, hlt⟩ := h
  exact ⟨hM.trans hm (fun k hk hs => hS0 k hk hs), ⟨bx, mb, its, hp, hi.keep hm (fun k hk => hS k (hF k hk)), hls, hF⟩, hF0, fun k hk => Nat.lt_of_lt_of_le (hlt k hk) hm.size⟩
theorem NetAt.keep0 {w' : World} (h : NetAt w0 w p N F) (hm : Mod NoB w w') : NetAt w0 w' p N F := h.keep hm (fun _ _ => id) (fun _ _ => id)
theorem NetAt.step {w' : World} (h : NetAt w0 w p N F) (hm : Mod NoB w w') : Step w0 w p F w' N := ⟨F, h.keep0 hm, hm.mono (fun _ _ h => False.elim h), fun k hk => .inl hk⟩
theorem Step.trans0 {w1 w' : World} {N' : Ns} (hm : Mod NoB w w1) (h : Step w0 w1 p F w' N') : Step w0 w p F w' N' := by
  obtain ⟨F', h1, h2, h3⟩ := h
  exact ⟨F', h1, (hm.mono (S' := F) (fun _ _ h => False.elim h)).trans h2 (fun _ _ h => h), fun k hk => (h3 k hk).imp id (fun hn => ⟨Nat.le_trans hm.size hn.1, hn.2⟩)⟩
theorem Step.keep0 {w1 w' : World} {N' : Ns} (h : Step w0 w p F w1 N') (hm : Mod NoB w1 w') : Step w0 w p F w' N' := by
  obtain ⟨F', h1, h2, h3⟩ := h
  exact ⟨F', h1.keep0 hm, h2.trans hm (fun _ _ h => False.elim h), fun k hk => (h3 k hk).imp id (fun hn => ⟨hn.1, Nat.lt_of_lt_of_le hn.2 hm.size⟩)⟩

theorem NetAt.len (h : NetAt w0 w p N F) : N.ls.length ≤ 4096 := by
  obtain ⟨hM, ⟨bx, mb, its, hp, hi, hls, hF⟩, hF0, hlt⟩ := h
  rw [hls, List.length_map]; exact hi.few

theorem Step.mk {bx mb : Nat} {its its' : List It} {lost' : Int} {cut' : Int × Int → Bool} {w' : World} {S : Nat → Prop} {n : Int} (h : NetAt w0 w p N F) (hF : ∀ k, NetFoot bx mb its k → F k)
    (hi : NetInv w' bx mb n lost' cut' its') (hm : Mod S w w') (hS : ∀ k, S k → NetFoot bx mb its k) (hnew : ∀ k, NetFoot bx mb its' k → NetFoot bx mb its k ∨ New w w' k) (ls : List Ltr) (hls : ls = its'.map It.l) :
    Step w0 w (.pointer (some ⟨bx, 0, none⟩)) F w' ⟨n, lost', cut', ls⟩ :=
  ⟨fun k => F k ∨ New w w' k, ⟨h.mod.trans hm (fun k hk hs => by have := h.old k (hF k (hS k hs)); omega), ⟨bx, mb, its', rfl, hi, hls, fun k hk => (hnew k hk).imp (hF k) id⟩, fun k hk => by
    rcases hk with hk | hk
    · exact h.old k hk
    · have h1 := hk.1; have h2 := h.mod.size; omega, fun k hk => by
    rcases hk with hk | hk
    · exact Nat.lt_of_lt_of_le (h.lt k hk) hm.size
    · exact hk.2⟩, hm.mono (fun k _ hk => hF k (hS k hk)), fun k hk => hk⟩

theorem PushR.foot {w' : World} {bx mb : Nat} {n lost : Int} {cut : Int × Int → Bool} {its : List It} {l : Ltr} (h : PushR w bx mb n lost cut its l w') :
    ∃ its', its'.map It.l = its.map It.l ++ [l] ∧ NetInv w' bx mb n lost cut its' ∧ Mod (NetBl bx (its.map It.lk)) w w' ∧ ∀ k, NetFoot bx mb its' k → NetFoot bx mb its k ∨ New w w' k := by
  obtain ⟨x, hx, hi, hm, hn⟩ := h
  refine ⟨_, by simp [hx], hi, hm, fun k hk => ?_⟩
  rcases hk with e | e | ⟨y, hy, e⟩
  · exact .inl (.inl e)
  · exact .inl (.inr (.inl e))
  · rcases List.mem_append.1 hy with h1 | h1
    · exact .inl (.inr (.inr ⟨y, h1, e⟩))
    · have e' : y = x := by simpa using h1
      subst e'
      exact .inr (hn k e)

theorem new_at (n : Int) (w0 : World) (hn : 1 ≤ n ∧ n ≤ 16) (w : World) (hM : Mod NoB w0 w) : Calls Try.prog 10 #[.int .i64 n] w fun e w' => ∃ b F, e = .returned (.tuple #[.pointer (some ⟨b, 0, none⟩), .int .i64 0]) ∧ NetAt w0 w' (.pointer (some ⟨b, 0, none⟩)) ⟨n, 0, fun _ => false, []⟩ F ∧ Mod NoB w w' ∧ ∀ k, F k → w.heap.size ≤ k := by
  refine (new_any n w).mono ?_
  rintro e w' (⟨_, _, bx, mb, rfl, hi, hm, hb1, hb2⟩ | ⟨hno, _⟩)
  · have hge : ∀ k, NetFoot bx mb [] k → New w w' k := fun k hk => by
      rcases hk with e | e | ⟨x, hx, _⟩
      · rw [e]; exact hb1
      · rw [e]; exact hb2
      · simp at hx
    exact ⟨bx, NetFoot bx mb [], rfl, ⟨hM.trans0 hm, ⟨bx, mb, [], rfl, hi, rfl, fun k hk => hk⟩, fun k hk => Nat.le_trans hM.size (hge k hk).1, fun k hk => (hge k hk).2⟩, hm, fun k hk => (hge k hk).1⟩
  · exact absurd hn hno
theorem new_no (n : Int) (hn : ¬ (1 ≤ n ∧ n ≤ 16)) (w : World) : Calls Try.prog 10 #[.int .i64 n] w (RetE (.tuple #[.pointer none, .int .i64 3]) w) := by
  refine (new_any n w).mono ?_
  rintro e w' (⟨h1, h2, _⟩ | ⟨_, rfl, rfl⟩)
  · exact absurd ⟨h1, h2⟩ hn
  · exact ⟨rfl, rfl⟩

theorem send_at (h : NetAt w0 w p N F) (hl : 0 ≤ N.lost ∧ N.lost ≤ 1000000000) (own : Bool) (E G : Nat → Prop) (cs : Array Value) (l : Ltr) (hlet : LetR own w E G cs l) (hok : LtrOk l) :
    Calls Try.prog 12 #[p, .agg cs] w fun e w' => e = .returned (.tuple #[.bool (sendB N l), .int .i64 (sendE N l)]) ∧ Step w0 w p F w' (sendN N l) := by
  obtain ⟨_, ⟨bx, mb, its, rfl, hi, hls, hF⟩, _, _⟩ := id h
  have hlen : N.ls.length = its.length := by rw [hls, List.length_map]
  refine (send_any hi hl own E G cs l hlet hok).mono ?_
  rintro e w' (⟨ht, rfl, hi', hm⟩ | ⟨ht, hc, rfl, hi', hm⟩ | ⟨ht, hc, hf, rfl, hp⟩)
  · refine ⟨by simp [sendB, sendE, ht], ?_⟩
    rw [show sendN N l = N by simp [sendN, ht]]
    exact h.step hm
  · have hb : sendB N l = false := by
      rcases hc with hc | hc
      · simp [sendB, hc]
      · simp [sendB, hlen]; intro _ _; omega
    refine ⟨by simp [hb, sendE, ht], ?_⟩
    rw [show sendN N l = ⟨N.n, N.lost + 1, N.cut, N.ls⟩ by simp [sendN, ht, hb]]
    exact Step.mk h hF hi' hm (fun k => NetInv.bl_foot) (fun k hk => .inl hk) _ hls
  · have hb : sendB N l = true := by simp [sendB, ht, hc, hlen, hf]
    obtain ⟨its', hl', hi', hm, hn⟩ := hp.foot
    refine ⟨by simp [hb, sendE, ht], ?_⟩
    rw [show sendN N l = ⟨N.n, N.lost, N.cut, N.ls ++ [l]⟩ by simp [sendN, ht, hb]]
    exact Step.mk h hF hi' hm (fun k => NetInv.bl_foot) hn _ (by rw [hls, hl'])

theorem LetR.zero (own : Bool) (w : World) (E G : Nat → Prop) : LetR own w E G zeroLet ltr0 := ⟨_, _, _, rfl, by rfl, Sl.nil _ _ _ _ _, Sl.nil _ _ _ _ _, Sl.nil _ _ _ _ _⟩

theorem take_at (h : NetAt w0 w p N F) (i : Int) :
    Calls Try.prog 18 #[p, .int .i64 i] w fun e w' => ∃ cs E G, e = .returned (.tuple #[.agg cs, .int .i64 (takeE N i)]) ∧ LetR true w' E G cs (takeL N i) ∧ Step w0 w p F w' (takeN N i) := by
  obtain ⟨_, ⟨bx, mb, its, rfl, hi, hls, hF⟩, _, _⟩ := id h
  have hlen : N.ls.length = its.length := by rw [hls, List.length_map]
  refine (take_any hi i).mono ?_
  rintro e w' (⟨k, hk, rfl, rfl, hi', hm, hl, hd⟩ | ⟨hno, rfl, hi', hm⟩)
  · have hin : inR N k = true := by simp [inR, hlen]; omega
    have hL : takeL N k = its[k].l := by simp [takeL, hin, hls, List.getD, hk]
    refine ⟨its[k].cs, _, _, by simp [takeE, hin], by rw [hL]; exact hl, ?_⟩
    rw [show takeN N k = ⟨N.n, N.lost, N.cut, N.ls.eraseIdx k⟩ by simp [takeN, hin]]
    exact Step.mk h hF hi' hm (fun k => NetInv.bl_foot) (fun k hk => .inl hk.erase) _ (by rw [hls, map_eraseIdx])
  · have hin : inR N i = false := by simp only [inR, hlen]; simpa using hno
    refine ⟨zeroLet, NoB, NoB, by simp [takeE, hin], by simp only [takeL, hin]; exact LetR.zero _ _ _ _, ?_⟩
    rw [show takeN N i = N by simp [takeN, hin]]
    exact h.step hm

theorem drop_at (h : NetAt w0 w p N F) (hl : 0 ≤ N.lost ∧ N.lost ≤ 1000000000) (i : Int) :
    Calls Try.prog 28 #[p, .int .i64 i] w fun e w' => e = .returned (.int .i64 (takeE N i)) ∧ Step w0 w p F w' (dropN N i) := by
  obtain ⟨_, ⟨bx, mb, its, rfl, hi, hls, hF⟩, _, _⟩ := id h
  have hlen : N.ls.length = its.length := by rw [hls, List.length_map]
  refine (drop_any hi hl i).mono ?_
  rintro e w' (⟨k, hk, rfl, rfl, hi', hm⟩ | ⟨hno, rfl, hi', hm⟩)
  · have hin : inR N k = true := by simp [inR, hlen]; omega
    refine ⟨by simp [takeE, hin], ?_⟩
    rw [show dropN N k = ⟨N.n, N.lost + 1, N.cut, N.ls.eraseIdx k⟩ by simp [dropN, hin]]
    exact Step.mk h hF hi' hm (fun k => NetInv.bl_foot) (fun k hk => .inl hk.erase) _ (by rw [hls, map_eraseIdx])
  · have hin : inR N i = false := by simp only [inR, hlen]; simpa using hno
    refine ⟨by simp [takeE, hin], ?_⟩
    rw [show dropN N i = N by simp [dropN, hin]]
    exact h.step hm

theorem copy_at (h : NetAt w0 w p N F) (i : Int) :
    Calls Try.prog 14 #[p, .int .i64 i] w fun e w' => e = .returned (.int .i64 (copyE N i)) ∧ Step w0 w p F w' (copyN N i) := by
  obtain ⟨_, ⟨bx, mb, its, rfl, hi, hls, hF⟩, _, _⟩ := id h
  have hlen : N.ls.length = its.length := by rw [hls, List.length_map]
  refine (copy_any hi i).mono ?_
  rintro e w' (⟨k, hk, r, rfl, rfl, (⟨hge, rfl, hi', hm⟩ | ⟨hlt, rfl, hp⟩)⟩ | ⟨hno, rfl, hi', hm⟩)
  · have hin : inR N k = true := by simp [inR, hlen]; omega
    have hge' : 4096 ≤ N.ls.length := by omega
    refine ⟨by simp only [copyE, hin, if_true, if_pos hge'], ?_⟩
    rw [show copyN N k = N by simp only [copyN, hin, if_true, if_pos hge']]
    exact h.step hm
  · have hin : inR N k = true := by simp [inR, hlen]; omega
    have hge' : ¬ 4096 ≤ N.ls.length := by omega
    obtain ⟨its', hl', hi', hm, hn⟩ := hp.foot
    have hL : N.ls.getD k ltr0 = its[k].l := by simp [hls, List.getD, hk]
    refine ⟨by simp only [copyE, hin, if_true, if_neg hge'], ?_⟩
    rw [show copyN N k = ⟨N.n, N.lost, N.cut, N.ls ++ [its[k].l]⟩ by simp only [copyN, hin, if_true, if_neg hge', Int.toNat_natCast, hL]]
    exact Step.mk h hF hi' hm (fun k => NetInv.bl_foot) hn _ (by rw [hls, hl'])
  · have hin : inR N i = false := by simp only [inR, hlen]; simpa using hno
    refine ⟨by simp [copyE, hin], ?_⟩
    rw [show copyN N i = N by simp [copyN, hin]]
    exact h.step hm

theorem cut_at (h : NetAt w0 w p N F) (a b : Int) : Calls Try.prog 25 #[p, .int .i64 a, .int .i64 b] w fun e w' => e = .returned (.int .i64 (turnE N a b)) ∧ Step w0 w p F w' (cutN N a b) := by
  obtain ⟨_, ⟨bx, mb, its, rfl, hi, hls, hF⟩, _, _⟩ := id h
  refine (cut_any hi a b).mono ?_
  rintro e w' (⟨ht, rfl, hi', hm⟩ | ⟨ht, rfl, hi', hm⟩)
  · refine ⟨by simp [turnE, ht], ?_⟩
    rw [show cutN N a b = ⟨N.n, N.lost, cutP N.cut (a, b), N.ls⟩ by simp [cutN, ht]]
    exact Step.mk h hF hi' hm (fun k e => .inr (.inl e)) (fun k hk => .inl hk) _ hls
  · refine ⟨by simp [turnE, ht], ?_⟩
    rw [show cutN N a b = N by simp [cutN, ht]]
    exact h.step hm
theorem heal_at (h : NetAt w0 w p N F) (a b : Int) : Calls Try.prog 27 #[p, .int .i64 a, .int .i64 b] w fun e w' => e = .returned (.int .i64 (turnE N a b)) ∧ Step w0 w p F w' (healN N a b) := by
  obtain ⟨_, ⟨bx, mb, its, rfl, hi, hls, hF⟩, _, _⟩ := id h
  refine (heal_any hi a b).mono ?_
  rintro e w' (⟨ht, rfl, hi', hm⟩ | ⟨ht, rfl, hi', hm⟩)
  · refine ⟨by simp [turnE, ht], ?_⟩
    rw [show healN N a b = ⟨N.n, N.lost, healP N.cut (a, b), N.ls⟩ by simp [healN, ht]]
    exact Step.mk h hF hi' hm (fun k e => .inr (.inl e)) (fun k hk => .inl hk) _ hls
  · refine ⟨by simp [turnE, ht], ?_⟩
    rw [show healN N a b = N by simp [healN, ht]]
    exact h.step hm
theorem open_at (h : NetAt w0 w p N F) (a b : Int) : Calls Try.prog 26 #[p, .int .i64 a, .int .i64 b] w fun e w' => e = .returned (.bool (openB N.n N.cut a b)) ∧ Step w0 w p F w' N := by
  obtain ⟨_, ⟨bx, mb, its, rfl, hi, hls, hF⟩, _, _⟩ := id h
  exact (open_any hi a b).mono fun e w' ⟨he, hm⟩ => ⟨he, h.step hm⟩
theorem len_at (h : NetAt w0 w p N F) : Calls Try.prog 16 #[p] w fun e w' => e = .returned (.int .i64 N.ls.length) ∧ Step w0 w p F w' N := by
  obtain ⟨_, ⟨bx, mb, its, rfl, hi, hls, hF⟩, _, _⟩ := id h
  have hlen : N.ls.length = its.length := by rw [hls, List.length_map]
  rw [hlen]
  exact (len_any hi).mono fun e w' ⟨he, hw⟩ => ⟨he, hw ▸ h.step (Mod.refl _ _)⟩
theorem lost_at (h : NetAt w0 w p N F) : Calls Try.prog 17 #[p] w fun e w' => e = .returned (.int .i64 N.lost) ∧ Step w0 w p F w' N := by
  obtain ⟨_, ⟨bx, mb, its, rfl, hi, hls, hF⟩, _, _⟩ := id h
  exact (lost_any hi).mono fun e w' ⟨he, hw⟩ => ⟨he, hw ▸ h.step (Mod.refl _ _)⟩
end
end Go.Proofs.Ytdllpakdhnanbaa
