/- The net and the document's net, side by side. -/
import Derived.Test.YtdllpakdhnanbaaRefE
namespace Go.Proofs.Ytdllpakdhnanbaa
set_option linter.unusedSimpArgs false
set_option linter.unusedVariables false
set_option linter.unnecessarySimpa false
open Go.RowKit

structure Two (w0 w : World) (p q : Value) (N M : Ns) (F R : Nat → Prop) : Prop where
  net : NetAt w0 w p N F
  ref : RefAt w0 w q M R
  dis : ∀ k, F k → ¬ R k

section
variable {w0 w w' : World} {p q : Value} {N M N' M' : Ns} {F R : Nat → Prop}
theorem Two.mod (h : Two w0 w p q N M F R) : Mod NoB w0 w := h.net.mod
theorem Two.keep {S : Nat → Prop} (h : Two w0 w p q N M F R) (hm : Mod S w w') (h1 : ∀ k, F k → ¬ S k) (h2 : ∀ k, R k → ¬ S k) (h3 : ∀ k, k < w0.heap.size → ¬ S k) : Two w0 w' p q N M F R :=
  ⟨h.net.keep hm h1 h3, h.ref.keep hm h2 h3, h.dis⟩
theorem Two.keep0 (h : Two w0 w p q N M F R) (hm : Mod NoB w w') : Two w0 w' p q N M F R := h.keep hm (fun _ _ => id) (fun _ _ => id) (fun _ _ => id)
/-- New memory is neither's. -/
theorem Two.keepN (h : Two w0 w p q N M F R) {wa : World} {S : Nat → Prop} (hm : Mod S w w') (hw : ∀ k, F k ∨ R k → k < wa.heap.size) (h0 : w0.heap.size ≤ wa.heap.size) (hS : ∀ k, S k → wa.heap.size ≤ k) : Two w0 w' p q N M F R :=
  h.keep hm (fun k hk hs => by have h1 := hw k (.inl hk); have h2 := hS k hs; omega) (fun k hk hs => by have h1 := hw k (.inr hk); have h2 := hS k hs; omega) (fun k hk hs => by have h2 := hS k hs; omega)
theorem Two.lt (h : Two w0 w p q N M F R) : ∀ k, F k ∨ R k → k < w.heap.size := fun k hk => by
  rcases hk with hk | hk
  · exact h.net.lt k hk
  · exact h.ref.lt k hk
theorem Two.old (h : Two w0 w p q N M F R) : ∀ k, F k ∨ R k → w0.heap.size ≤ k := fun k hk => by
  rcases hk with hk | hk
  · exact h.net.old k hk
  · exact h.ref.old k hk
/-- What a step of the one leaves. -/
def StepN (w0 w : World) (p q : Value) (N' M : Ns) (F R : Nat → Prop) (w' : World) : Prop := ∃ F', Two w0 w' p q N' M F' R ∧ Mod F w w' ∧ ∀ k, F' k → F k ∨ New w w' k
def StepM (w0 w : World) (p q : Value) (N M' : Ns) (F R : Nat → Prop) (w' : World) : Prop := ∃ R', Two w0 w' p q N M' F R' ∧ Mod R w w' ∧ ∀ k, R' k → R k ∨ New w w' k
theorem Two.stepN (h : Two w0 w p q N M F R) (hs : Step w0 w p F w' N') : StepN w0 w p q N' M F R w' := by
  obtain ⟨F', h1, h2, h3⟩ := hs
  refine ⟨F', ⟨h1, h.ref.keep h2 (fun k hk hF => h.dis k hF hk) (fun k hk hF => by have := h.net.old k hF; omega), fun k hk hR => ?_⟩, h2, h3⟩
  rcases h3 k hk with h4 | h4
  · exact h.dis k h4 hR
  · have h5 := h.ref.lt k hR
    have h6 := h4.1
    omega
theorem Two.stepM (h : Two w0 w p q N M F R) (hs : RStep w0 w q R w' M') : StepM w0 w p q N M' F R w' := by
  obtain ⟨R', h1, h2, h3⟩ := hs
  refine ⟨R', ⟨h.net.keep h2 (fun k hk hF => h.dis k hk hF) (fun k hk hF => by have := h.ref.old k hF; omega), h1, fun k hk hR => ?_⟩, h2, h3⟩
  rcases h3 k hR with h4 | h4
  · exact h.dis k hk h4
  · have h5 := h.net.lt k hk
    have h6 := h4.1
    omega

/-- The state alone: which memory, does not matter. -/
def TwoNow (w0 w : World) (p q : Value) (N M : Ns) : Prop := ∃ F R, Two w0 w p q N M F R
theorem TwoNow.keep0 (h : TwoNow w0 w p q N M) (hm : Mod NoB w w') : TwoNow w0 w' p q N M := by
  obtain ⟨F, R, h⟩ := h
  exact ⟨F, R, h.keep0 hm⟩
theorem TwoNow.mod (h : TwoNow w0 w p q N M) : Mod NoB w0 w := by
  obtain ⟨F, R, h⟩ := h
  exact h.mod
theorem StepN.now (h : StepN w0 w p q N' M F R w') : TwoNow w0 w' p q N' M := by
  obtain ⟨F', h, _⟩ := h
  exact ⟨F', R, h⟩
theorem StepM.now (h : StepM w0 w p q N M' F R w') : TwoNow w0 w' p q N M' := by
  obtain ⟨R', h, _⟩ := h
  exact ⟨F, R', h⟩

theorem copy_two (h : TwoNow w0 w p q N M) (i v : Int) (hv : copyE N i = v) : Calls Try.prog 14 #[p, .int .i64 i] w fun e w' => e = .returned (.int .i64 v) ∧ TwoNow w0 w' p q (copyN N i) M := by
  subst hv
  obtain ⟨F, R, h⟩ := h
  exact (copy_at h.net i).mono fun e w' ⟨he, hs⟩ => ⟨he, (h.stepN hs).now⟩
theorem refCopy_two (h : TwoNow w0 w p q N M) (i v : Int) (hv : copyE M i = v) : Calls Try.prog 15 #[q, .int .i64 i] w fun e w' => e = .returned (.int .i64 v) ∧ TwoNow w0 w' p q N (copyN M i) := by
  subst hv
  obtain ⟨F, R, h⟩ := h
  exact (refCopy_at h.ref i).mono fun e w' ⟨he, hs⟩ => ⟨he, (h.stepM hs).now⟩
theorem len_two (h : TwoNow w0 w p q N M) (v : Int) (hv : (N.ls.length : Int) = v) : Calls Try.prog 16 #[p] w fun e w' => e = .returned (.int .i64 v) ∧ TwoNow w0 w' p q N M := by
  subst hv
  obtain ⟨F, R, h⟩ := h
  exact (len_at h.net).mono fun e w' ⟨he, hs⟩ => ⟨he, (h.stepN hs).now⟩
theorem lost_two (h : TwoNow w0 w p q N M) (v : Int) (hv : N.lost = v) : Calls Try.prog 17 #[p] w fun e w' => e = .returned (.int .i64 v) ∧ TwoNow w0 w' p q N M := by
  subst hv
  obtain ⟨F, R, h⟩ := h
  exact (lost_at h.net).mono fun e w' ⟨he, hs⟩ => ⟨he, (h.stepN hs).now⟩
/-- What Len and Lost do, to the letter: nothing has turned. -/
theorem len_same (h : TwoNow w0 w p q N M) (v : Int) (hv : (N.ls.length : Int) = v) : Calls Try.prog 16 #[p] w (RetE (.int .i64 v) w) := by
  subst hv
  obtain ⟨F, R, h⟩ := h
  obtain ⟨_, ⟨bx, mb, its, rfl, hi, hls, hF⟩, _, _⟩ := h.net
  rw [hls, List.length_map]
  exact len_any hi
theorem lost_same (h : TwoNow w0 w p q N M) (v : Int) (hv : N.lost = v) : Calls Try.prog 17 #[p] w (RetE (.int .i64 v) w) := by
  subst hv
  obtain ⟨F, R, h⟩ := h
  obtain ⟨_, ⟨bx, mb, its, rfl, hi, hls, hF⟩, _, _⟩ := h.net
  exact lost_any hi
/-- What the document's net has in its own cells. -/
theorem TwoNow.cells (h : TwoNow w0 w p q N M) (br : Nat) (hq : q = .pointer (some ⟨br, 0, none⟩)) : w.cell? ⟨br, 1, none⟩ = some (.int .i64 M.lost) ∧ ∃ a c, w.cell? ⟨br, 2, none⟩ = some (.slice a M.ls.length c) := by
  obtain ⟨F, R, h⟩ := h
  obtain ⟨_, ⟨br', bw, Lv, ways, hq', ho, ha, _⟩, _⟩ := h.ref
  have e : br' = br := by rw [hq] at hq'; cases hq'; rfl
  subst e
  obtain ⟨a, c, hv⟩ := ha.shape
  exact ⟨ho.cell.2.1, a, c, hv ▸ ho.cell.2.2.1⟩
/-- What Take does, and which memory is whose behind it. -/
def TakeF (w0 w : World) (p : Value) (N : Ns) (F : Nat → Prop) (i v : Int) (e : Ending) (w' : World) : Prop :=
  ∃ cs E G F', e = .returned (.tuple #[.agg cs, .int .i64 v]) ∧ LetR true w' E G cs (takeL N i) ∧ NetAt w0 w' p (takeN N i) F' ∧ Mod F w w' ∧ (∀ k, F' k → F k) ∧ (∀ k, E k ∨ G k → F k) ∧ ∀ k, E k ∨ G k → ¬ F' k
theorem take_apart (h : NetAt w0 w p N F) (i v : Int) (hv : takeE N i = v) : Calls Try.prog 18 #[p, .int .i64 i] w (TakeF w0 w p N F i v) := by
  subst hv
  obtain ⟨hM, ⟨bx, mb, its, rfl, hi, hls, hF⟩, hold, hlt⟩ := id h
  have hlen : N.ls.length = its.length := by rw [hls, List.length_map]
  refine (take_any hi i).mono ?_
  rintro e w' (⟨k, hk, rfl, rfl, hi', hm, hl, hd⟩ | ⟨hno, rfl, hi', hm⟩)
  · have hin : inR N k = true := by simp [inR, hlen]; omega
    have hL : takeL N k = its[k].l := by simp [takeL, hin, hls, List.getD, hk]
    have hN : takeN N k = ⟨N.n, N.lost, N.cut, N.ls.eraseIdx k⟩ := by simp [takeN, hin]
    refine ⟨its[k].cs, its[k].E, its[k].G, NetFoot bx mb (its.eraseIdx k), by simp [takeE, hin], by rw [hL]; exact hl, ?_, hm.mono (fun j _ hj => hF j (NetInv.bl_foot hj)), fun j hj => hF j hj.erase, fun j hj => hF j (.inr (.inr ⟨_, List.getElem_mem hk, .inr hj⟩)), hd⟩
    rw [hN]
    exact ⟨hM.trans hm (fun j hj hs => by have := hold j (hF j (NetInv.bl_foot hs)); omega), ⟨bx, mb, _, rfl, hi', by simp only [hls, map_eraseIdx], fun j hj => hj⟩, fun j hj => hold j (hF j hj.erase), fun j hj => Nat.lt_of_lt_of_le (hlt j (hF j hj.erase)) hm.size⟩
  · have hin : inR N i = false := by simp only [inR, hlen]; simpa using hno
    refine ⟨zeroLet, NoB, NoB, F, by simp [takeE, hin], by simp only [takeL, hin]; exact LetR.zero _ _ _ _, ?_, hm.mono (fun _ _ h => False.elim h), fun _ h => h, fun k hk => by rcases hk with hk | hk <;> exact False.elim hk, fun k hk => by rcases hk with hk | hk <;> exact False.elim hk⟩
    rw [show takeN N i = N by simp [takeN, hin]]
    exact h.keep0 hm
theorem send_lost (N : Ns) (l : Ltr) (h : 0 ≤ N.lost) : 0 ≤ (sendN N l).lost ∧ (sendN N l).lost ≤ N.lost + 1 := by
  unfold sendN
  split
  · split
    · exact ⟨h, by show N.lost ≤ N.lost + 1; omega⟩
    · exact ⟨by show 0 ≤ N.lost + 1; omega, by show N.lost + 1 ≤ N.lost + 1; omega⟩
  · exact ⟨h, by omega⟩
end
end Go.Proofs.Ytdllpakdhnanbaa
