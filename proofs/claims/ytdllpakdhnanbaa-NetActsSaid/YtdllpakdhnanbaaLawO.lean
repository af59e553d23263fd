/- NetCounts: its walk. -/
import Derived.Test.YtdllpakdhnanbaaReadC
import Derived.Test.YtdllpakdhnanbaaLawD
import Derived.Deep.CutBlock
namespace Go.Proofs.Ytdllpakdhnanbaa
set_option linter.unusedSimpArgs false
set_option linter.unusedVariables false
set_option linter.unnecessarySimpa false
open Go.RowKit

def actZero : Value := .agg (#[.int .i64 0, .int .i64 0, .int .i64 0] ++ ltrCells ltr0 (.slice none 0 0) (.slice none 0 0) (.slice none 0 0))
theorem zero60 : (Try.prog.info? 60).bind (·.zero) = some actZero := by kernel_rfl

/-- A net, and the list of what was sent, beside it. -/
structure CI (w0 w : World) (p : Value) (N : Ns) (S : List Ltr) (s : Value) (F : Nat → Prop) : Prop where
  net : NetAt w0 w p N F
  acc : LtAcc false w0.heap.size (fun k => k < w0.heap.size) S s w
  dis : ∀ j, F j → s.ownBlock ≠ some j

section
variable {w0 w w' : World} {p : Value} {N N' : Ns} {S : List Ltr} {s : Value} {F : Nat → Prop}
theorem CI.step (h : CI w0 w p N S s F) (hs : Step w0 w p F w' N') : ∃ F', CI w0 w' p N' S s F' := by
  obtain ⟨F', h1, h2, h3⟩ := hs
  refine ⟨F', h1, h.acc.keep h2 (fun k hk hF => ?_) (fun k hk hF => h.dis k hF hk), fun j hj e => ?_⟩
  · have h4 := h.net.old k hF
    have h5 := hk.1
    omega
  · rcases h3 j hj with h4 | h4
    · exact h.dis j h4 e
    · have h5 := (h.acc.lt j e).2
      have h6 := h4.1
      omega
theorem CI.keep0 (h : CI w0 w p N S s F) (hm : Mod NoB w w') : CI w0 w' p N S s F := ⟨h.net.keep0 hm, h.acc.keep0 hm, h.dis⟩
theorem CI.mod (h : CI w0 w p N S s F) : Mod NoB w0 w := h.net.mod
/-- The list grows by a letter of old memory. -/
theorem CI.more {s' : Value} {css : List (Array Value)} {cs : Array Value} {x : Ltr} (h : CI w0 w p N S s F) (h2 : ∀ c ∈ css, c.size = 40)
    (h3 : All2 (LetR false w (Fp (fun k => k < w0.heap.size) s w) (Fp (fun k => k < w0.heap.size) s w)) css S) (hc : LetR false w (fun k => k < w0.heap.size) (fun k => k < w0.heap.size) cs x)
    (hown : w'.ownsRow w0.heap.size 38 40 s' (S.length + 1) (css.flatMap Array.toList ++ cs.toList)) (hg : w.grownBy w' s.ownBlock) (hv : s'.ownBlock = s.ownBlock ∨ s'.ownBlock = some w.heap.size) :
    CI w0 w' p N (S ++ [x]) s' F := by
  have hm : Mod (fun k => s.ownBlock = some k) w w' := (Mod.refl _ _).grown hg (fun k hk _ => hk)
  have hlo : ∀ k, k < w0.heap.size → Fp (fun k => k < w0.heap.size) s w k := fun k hk => ⟨hk, by have := h.net.mod.size; omega, fun e => by have := (h.acc.lt k e).1; omega⟩
  refine ⟨h.net.keep hm (fun k hk e => h.dis k hk e) (fun k hk e => by have := (h.acc.lt k e).1; omega), LtAcc.step h2 h3 (hc.mono hlo hlo) hown hg hv, fun j hj e => ?_⟩
  rcases hv with hv | hv <;> rw [hv] at e
  · exact h.dis j hj e
  · cases e
    have := h.net.lt _ hj
    omega

theorem send_ci (h : CI w0 w p N S s F) (hl : 0 ≤ N.lost ∧ N.lost ≤ 1000000000) (own : Bool) (E G : Nat → Prop) (cs : Array Value) (l : Ltr) (hlet : LetR own w E G cs l) (hok : LtrOk l) (b : Bool) (e : Int) (hb : sendB N l = b) (he : sendE N l = e) :
    Calls Try.prog 12 #[p, .agg cs] w fun x w' => x = .returned (.tuple #[.bool b, .int .i64 e]) ∧ Mod F w w' ∧ ∃ F', CI w0 w' p (sendN N l) S s F' := by
  subst hb he
  exact (send_at h.net hl own E G cs l hlet hok).mono fun e w' ⟨he, hs⟩ => ⟨he, by obtain ⟨_, _, hm, _⟩ := hs; exact hm, h.step hs⟩
theorem take_ci (h : CI w0 w p N S s F) (i : Int) (v : Int) (hv : takeE N i = v) : Calls Try.prog 18 #[p, .int .i64 i] w fun e w' => ∃ cs E G F', e = .returned (.tuple #[.agg cs, .int .i64 v]) ∧ LetR true w' E G cs (takeL N i) ∧ CI w0 w' p (takeN N i) S s F' := by
  subst hv
  exact (take_at h.net i).mono fun e w' ⟨cs, E, G, he, hl, hs⟩ => by
    obtain ⟨F', hF'⟩ := h.step hs
    exact ⟨cs, E, G, F', he, hl, hF'⟩
theorem drop_ci (h : CI w0 w p N S s F) (hl : 0 ≤ N.lost ∧ N.lost ≤ 1000000000) (i : Int) : Calls Try.prog 28 #[p, .int .i64 i] w fun e w' => e = .returned (.int .i64 (takeE N i)) ∧ ∃ F', CI w0 w' p (dropN N i) S s F' :=
  (drop_at h.net hl i).mono fun e w' ⟨he, hs⟩ => ⟨he, h.step hs⟩
theorem copy_ci (h : CI w0 w p N S s F) (i : Int) : Calls Try.prog 14 #[p, .int .i64 i] w fun e w' => e = .returned (.int .i64 (copyE N i)) ∧ ∃ F', CI w0 w' p (copyN N i) S s F' :=
  (copy_at h.net i).mono fun e w' ⟨he, hs⟩ => ⟨he, h.step hs⟩
theorem cut_ci (h : CI w0 w p N S s F) (a b : Int) : Calls Try.prog 25 #[p, .int .i64 a, .int .i64 b] w fun e w' => e = .returned (.int .i64 (turnE N a b)) ∧ ∃ F', CI w0 w' p (cutN N a b) S s F' :=
  (cut_at h.net a b).mono fun e w' ⟨he, hs⟩ => ⟨he, h.step hs⟩
theorem heal_ci (h : CI w0 w p N S s F) (a b : Int) : Calls Try.prog 27 #[p, .int .i64 a, .int .i64 b] w fun e w' => e = .returned (.int .i64 (turnE N a b)) ∧ ∃ F', CI w0 w' p (healN N a b) S s F' :=
  (heal_at h.net a b).mono fun e w' ⟨he, hs⟩ => ⟨he, h.step hs⟩
theorem len_ci (h : CI w0 w p N S s F) : Calls Try.prog 16 #[p] w fun e w' => e = .returned (.int .i64 N.ls.length) ∧ ∃ F', CI w0 w' p N S s F' :=
  (len_at h.net).mono fun e w' ⟨he, hs⟩ => ⟨he, h.step hs⟩
theorem lost_ci (h : CI w0 w p N S s F) : Calls Try.prog 17 #[p] w fun e w' => e = .returned (.int .i64 N.lost) ∧ ∃ F', CI w0 w' p N S s F' :=
  (lost_at h.net).mono fun e w' ⟨he, hs⟩ => ⟨he, h.step hs⟩
theorem list_ci (h : CI w0 w p N S s F) : Calls Try.prog 35 #[p] w fun e w' => (∃ a c, e = .returned (.slice a N.ls.length c)) ∧ CI w0 w' p N S s F :=
  (list_at h.net).mono fun e w' ⟨v, he, hm, ha⟩ => by
    obtain ⟨a, c, hv⟩ := ha.shape
    exact ⟨⟨a, c, hv ▸ he⟩, h.keep0 hm⟩
end

/-- The counts are right, after k calls. -/
structure Cnt (N : Ns) (S : List Ltr) (T : Int) (k : Nat) : Prop where
  t0 : 0 ≤ T
  l0 : 0 ≤ N.lost
  le : T + N.lost + N.ls.length ≤ k
  sl : S.length ≤ k
  sub : ∀ x ∈ N.ls, x ∈ S

def CntRel (w0 : World) (p : Value) (n : Nat) (s a t i : Value) (w : World) : Prop :=
  ∃ (k : Nat) (N : Ns) (F : Nat → Prop) (S : List Ltr) (T A : Int), k ≤ n ∧ i = .int .i64 k ∧ t = .int .i64 T ∧ a = .int .i64 A ∧ A = T + N.lost + N.ls.length ∧ CI w0 w p N S s F ∧ Cnt N S T k
def CntMid (w0 : World) (p : Value) (k : Nat) (s a t : Value) (w : World) : Prop :=
  ∃ (N : Ns) (F : Nat → Prop) (S : List Ltr) (T A : Int), t = .int .i64 T ∧ a = .int .i64 A ∧ A = T + N.lost + N.ls.length ∧ CI w0 w p N S s F ∧ Cnt N S T k

theorem inR_of {N : Ns} {i : Int} (h : inR N i = true) : i.toNat < N.ls.length := by
  have := of_decide_eq_true h
  omega
theorem erase_len {N : Ns} {i : Int} (h : inR N i = true) : ((N.ls.eraseIdx i.toNat).length : Int) = N.ls.length - 1 := by
  have := inR_of h
  rw [List.length_eraseIdx_of_lt this]
  omega
section
variable {N : Ns} {S : List Ltr} {T : Int} {k : Nat}
theorem Cnt.up (h : Cnt N S T k) : Cnt N S T (k + 1) := ⟨h.t0, h.l0, by have := h.le; omega, by have := h.sl; omega, h.sub⟩
theorem Cnt.cut (h : Cnt N S T k) (a b : Int) : Cnt (cutN N a b) S T (k + 1) ∧ (cutN N a b).lost = N.lost ∧ (cutN N a b).ls.length = N.ls.length := by
  unfold cutN; split
  · exact ⟨⟨h.t0, h.l0, by have := h.le; simp only; omega, by have := h.sl; omega, h.sub⟩, rfl, rfl⟩
  · exact ⟨h.up, rfl, rfl⟩
theorem Cnt.heal (h : Cnt N S T k) (a b : Int) : Cnt (healN N a b) S T (k + 1) ∧ (healN N a b).lost = N.lost ∧ (healN N a b).ls.length = N.ls.length := by
  unfold healN; split
  · exact ⟨⟨h.t0, h.l0, by have := h.le; simp only; omega, by have := h.sl; omega, h.sub⟩, rfl, rfl⟩
  · exact ⟨h.up, rfl, rfl⟩
theorem Cnt.drop (h : Cnt N S T k) (i : Int) : Cnt (dropN N i) S T (k + 1) ∧ (dropN N i).lost + (dropN N i).ls.length = N.lost + N.ls.length := by
  unfold dropN; split
  · rename_i hr
    have he := erase_len hr
    have h1 := h.l0; have h2 := h.le
    exact ⟨⟨h.t0, by simp only; omega, by simp only; omega, by have := h.sl; omega, fun x hx => h.sub x (List.mem_of_mem_eraseIdx hx)⟩, by simp only; omega⟩
  · exact ⟨h.up, rfl⟩
theorem Cnt.take (h : Cnt N S T k) (i : Int) (hr : inR N i = true) : Cnt (takeN N i) S (T + 1) (k + 1) ∧ (T + 1) + (takeN N i).lost + (takeN N i).ls.length = T + N.lost + N.ls.length ∧ takeL N i ∈ S := by
  unfold takeN takeL
  rw [if_pos hr, if_pos hr]
  have he := erase_len hr
  have h1 := h.t0; have h2 := h.le
  refine ⟨⟨by omega, h.l0, by simp only; omega, by have := h.sl; omega, fun x hx => h.sub x (List.mem_of_mem_eraseIdx hx)⟩, by simp only; omega, ?_⟩
  have := inR_of hr
  rw [List.getD, List.getElem?_eq_getElem this]
  exact h.sub _ (List.getElem_mem this)
theorem Cnt.takeNo (h : Cnt N S T k) (i : Int) (hr : inR N i = false) : Cnt (takeN N i) S T (k + 1) ∧ takeN N i = N := by
  have : takeN N i = N := by unfold takeN; rw [if_neg (by simp [hr])]
  rw [this]; exact ⟨h.up, rfl⟩
theorem Cnt.copy (h : Cnt N S T k) (i : Int) (hr : copyE N i = 0) : Cnt (copyN N i) S T (k + 1) ∧ (copyN N i).lost = N.lost ∧ (copyN N i).ls.length = N.ls.length + 1 := by
  have hi : inR N i = true := by
    unfold copyE at hr; cases hb : inR N i
    · rw [hb] at hr; simp at hr
    · rfl
  have hf : ¬ 4096 ≤ N.ls.length := by unfold copyE at hr; rw [if_pos hi] at hr; intro h; rw [if_pos h] at hr; simp at hr
  unfold copyN
  rw [if_pos hi, if_neg hf]
  have h1 := h.le
  refine ⟨⟨h.t0, h.l0, by simp only [List.length_append, List.length_singleton]; omega, by have := h.sl; omega, fun x hx => ?_⟩, rfl, by simp⟩
  rcases List.mem_append.1 hx with hx | hx
  · exact h.sub x hx
  · have := inR_of hi
    have e : x = N.ls.getD i.toNat ltr0 := by simpa using hx
    rw [e, List.getD, List.getElem?_eq_getElem this]
    exact h.sub _ (List.getElem_mem this)
theorem Cnt.copyNo (h : Cnt N S T k) (i : Int) (hr : copyE N i ≠ 0) : Cnt (copyN N i) S T (k + 1) ∧ copyN N i = N := by
  have : copyN N i = N := by
    unfold copyN copyE at *
    split
    · rename_i hi; rw [if_pos hi] at hr
      split
      · rfl
      · rename_i h; rw [if_neg h] at hr; exact absurd rfl hr
    · rfl
  rw [this]; exact ⟨h.up, rfl⟩
theorem Cnt.sendNo (h : Cnt N S T k) (l : Ltr) (ht : twoB N.n l.src l.dst = false) : sendB N l = false ∧ sendE N l = 2 ∧ sendN N l = N := by
  refine ⟨by simp [sendB, ht], by simp [sendE, ht], by simp [sendN, ht]⟩
theorem Cnt.sendLost (h : Cnt N S T k) (l : Ltr) (ht : twoB N.n l.src l.dst = true) (hb : sendB N l = false) : sendE N l = 0 ∧ Cnt (sendN N l) S T (k + 1) ∧ (sendN N l).lost = N.lost + 1 ∧ (sendN N l).ls.length = N.ls.length := by
  have e : sendN N l = { N with lost := N.lost + 1 } := by simp [sendN, ht, hb]
  rw [e]
  have h1 := h.le; have h2 := h.l0
  exact ⟨by simp [sendE, ht], ⟨h.t0, by simp only; omega, by simp only; omega, by have := h.sl; omega, h.sub⟩, rfl, rfl⟩
theorem Cnt.sendIs (h : Cnt N S T k) (l : Ltr) (ht : twoB N.n l.src l.dst = true) (hb : sendB N l = true) : sendE N l = 0 ∧ Cnt (sendN N l) (S ++ [l]) T (k + 1) ∧ (sendN N l).lost = N.lost ∧ (sendN N l).ls.length = N.ls.length + 1 := by
  have e : sendN N l = { N with ls := N.ls ++ [l] } := by simp [sendN, ht, hb]
  rw [e]
  have h1 := h.le; have h2 := h.sl
  refine ⟨by simp [sendE, ht], ⟨h.t0, h.l0, by simp only [List.length_append, List.length_singleton]; omega, by simp; omega, fun x hx => ?_⟩, rfl, by simp⟩
  rcases List.mem_append.1 hx with hx | hx
  · exact List.mem_append_left _ (h.sub x hx)
  · exact List.mem_append_right _ hx
end
end Go.Proofs.Ytdllpakdhnanbaa
