/- What the statement TreeRoots needs, part 1. -/
import Derived.Test.YtchkikmmcmjcgaaGreatRows
import Derived.WalkKit
import Derived.WalkSpells
import Derived.WalkLawsBesides
import Derived.Deep.QuietTactic
import Derived.BigQuiet
import Derived.Lib.Hide
import Derived.Deep.RegionHeld3
import Derived.Deep.DeepCutAuto
import Derived.OrdersHeld
import Derived.Stop.BytesEq
import Derived.Lib.SlBytesRow
import Derived.Deep.AppendLies
import Derived.Laws.BitsAllLaws
import Derived.Laws.Tables
/- Memory, said once: what a call may have changed, and slices that read as lists. -/
namespace Go.Proofs.YtchkikmmcmjcgaaGreat
set_option linter.unusedSimpArgs false
set_option linter.unusedVariables false
set_option linter.unnecessarySimpa false
set_option linter.unusedSectionVars false
open Go.RowKit

/-- The call returns v; the world is as it was, but for draws. -/
def RetD (v : Value) (w : World) : Ending → World → Prop := fun e w' => e = .returned v ∧ ∃ n, w' = w.drewN n

/-- The call returns v, and what the world has become is told by R. -/
def RetW (v : Value) (R : World → Prop) : Ending → World → Prop := fun e w' => e = .returned v ∧ R w'

/-- Are the first k of two lists the same? -/
def pre {α : Type} [DecidableEq α] (k : Nat) (a b : List α) : Bool := decide (a.take k = b.take k)
theorem pre_zero {α : Type} [DecidableEq α] (a b : List α) : pre 0 a b = true := by simp [pre]
theorem pre_succ {α : Type} [DecidableEq α] {k : Nat} {a b : List α} (ha : k < a.length) (hb : k < b.length) (h : pre k a b = true) :
    pre (k + 1) a b = decide (a[k] = b[k]) := by
  simp only [pre, decide_eq_true_eq] at h ⊢
  rw [List.take_succ_eq_append_getElem ha, List.take_succ_eq_append_getElem hb, h]
  rw [decide_eq_decide]
  constructor
  · intro h'; exact (List.append_cancel_left h' |> List.cons.inj).1
  · intro h'; rw [h']
theorem pre_full {α : Type} [DecidableEq α] {k : Nat} {a b : List α} (hl : a.length = b.length) (h : a.length ≤ k) : pre k a b = decide (a = b) := by
  simp [pre, List.take_of_length_le h, List.take_of_length_le (hl ▸ h)]
theorem pre_false {α : Type} [DecidableEq α] {k : Nat} {a b : List α} (h : pre k a b = false) : decide (a = b) = false := by
  simp only [pre, decide_eq_false_iff_not] at h ⊢
  rintro rfl; exact h rfl
theorem ret_bool {a b : Bool} (h : a = b) : Ending.returned (.bool a) = .returned (.bool b) := by rw [h]

/-- Of the blocks that were there, none outside S has turned. -/
structure Mod (S : Nat → Prop) (w w' : World) : Prop where
  os : w'.os = w.os
  tape : w'.tape = w.tape
  output : w'.output = w.output
  size : w.heap.size ≤ w'.heap.size
  block : ∀ k, k < w.heap.size → ¬ S k → w'.heap[k]? = w.heap[k]?

def NoB : Nat → Prop := fun _ => False
/-- The call returns v, and what was there is as it was. -/
def RetM (v : Value) (w : World) : Ending → World → Prop := fun e w' => e = .returned v ∧ Mod NoB w w'
/-- Likewise, and R holds of what it returns and of the world. -/
def RetN (w : World) (R : Value → World → Prop) : Ending → World → Prop := fun e w' => ∃ v, e = .returned v ∧ Mod NoB w w' ∧ R v w'
/-- The state of a loop that holds two lists side by side. -/
def SameRel {α : Type} [DecidableEq α] (la lb : List α) (w0 : World) (s i : Value) (w : World) : Prop :=
  ∃ (k : Nat), k ≤ la.length ∧ i = .int .i64 k ∧ s = .bool (pre k la lb) ∧ Mod NoB w0 w

theorem Mod.refl (S : Nat → Prop) (w : World) : Mod S w w := ⟨rfl, rfl, rfl, Nat.le_refl _, fun _ _ _ => rfl⟩
theorem Mod.mono {S S' : Nat → Prop} {w w' : World} (h : Mod S w w') (hs : ∀ k, k < w.heap.size → S k → S' k) : Mod S' w w' :=
  ⟨h.os, h.tape, h.output, h.size, fun k hk hn => h.block k hk (fun h' => hn (hs k hk h'))⟩
theorem Mod.trans {S S' : Nat → Prop} {a b c : World} (h : Mod S a b) (k : Mod S' b c) (hs : ∀ k, k < a.heap.size → S' k → S k) : Mod S a c :=
  ⟨k.os.trans h.os, k.tape.trans h.tape, k.output.trans h.output, Nat.le_trans h.size k.size,
   fun i hi hn => (k.block i (Nat.lt_of_lt_of_le hi h.size) (fun h' => hn (hs i hi h'))).trans (h.block i hi hn)⟩
theorem Mod.drewN {S : Nat → Prop} {a b : World} (h : Mod S a b) (n : Nat) : Mod S a (b.drewN n) := ⟨h.os, h.tape, h.output, h.size, h.block⟩
theorem Mod.drew {S : Nat → Prop} {a b : World} (h : Mod S a b) : Mod S a b.drew := ⟨h.os, h.tape, h.output, h.size, h.block⟩
theorem Mod.alloc {S : Nat → Prop} {a b : World} (h : Mod S a b) (o : Obj) : Mod S a (b.alloc o) :=
  ⟨h.os, h.tape, h.output, by have := h.size; simp; omega, fun k hk hn => (Below.heap_alloc _ _ _ (Nat.lt_of_lt_of_le hk h.size)).trans (h.block k hk hn)⟩
theorem Mod.setCell {S : Nat → Prop} {a b : World} (h : Mod S a b) {p : Addr} (hp : p.block < a.heap.size → S p.block) (u : Value) : Mod S a (b.setCell p u) :=
  ⟨h.os, h.tape, h.output, by simpa [World.setCell] using h.size, fun k hk hn =>
    (Below.heap_setCell _ _ _ _ (fun e => hn (by subst e; exact hp hk))).trans (h.block k hk hn)⟩
theorem Mod.below {S : Nat → Prop} {w w' : World} (h : Mod S w w') (hS : ∀ k, k < w.heap.size → ¬ S k) : Below w.heap.size w w' :=
  ⟨h.os, h.tape, h.output, h.size, fun k hk => h.block k hk (hS k hk)⟩
theorem Mod.of_below {B : Nat} {w w' : World} (h : Below B w w') : Mod (fun k => B ≤ k) w w' :=
  ⟨h.os, h.tape, h.output, h.size, fun k _ hn => h.block k (by omega)⟩
theorem Mod.grown {S : Nat → Prop} {a w w' : World} {row : Option Nat} (h : Mod S a w) (hg : w.grownBy w' row) (hr : ∀ k, row = some k → k < a.heap.size → S k) : Mod S a w' :=
  ⟨hg.os.trans h.os, hg.tape.trans h.tape, hg.output.trans h.output, Nat.le_trans h.size hg.size,
   fun k hk hn => (hg.block k (Nat.lt_of_lt_of_le hk h.size) (fun e => hn (hr k e.symm hk))).trans (h.block k hk hn)⟩

theorem Mod.cell {S : Nat → Prop} {w w' : World} (h : Mod S w w') {b o : Nat} {v : Value} (hn : ¬ S b) (hc : w.cell? ⟨b, o, none⟩ = some v) : w'.cell? ⟨b, o, none⟩ = some v := by
  have hb := block_lt_of_cell hc
  rw [World.cell?_of_block (w := w) (h.block b hb hn)]; exact hc
theorem Mod.obj {S : Nat → Prop} {w w' : World} (h : Mod S w w') {b : Nat} {o : Obj} (hn : ¬ S b) (hc : w.heap[b]? = some o) : w'.heap[b]? = some o := by
  have hb : b < w.heap.size := by
    rcases Nat.lt_or_ge b w.heap.size with h | h
    · exact h
    · rw [Array.getElem?_eq_none h] at hc; cases hc
  rw [h.block b hb hn]; exact hc

/-- The cells from an address on. -/
def CellsAt (w : World) (b off : Nat) (cs : Array Value) : Prop := ∀ j, j < cs.size → w.cell? ⟨b, off + j, none⟩ = cs[j]?

theorem Mod.objB {B : Nat} {w w' : World} (h : Mod (fun k => k = B) w w') {b : Nat} {o : Obj} (hn : b ≠ B) (hc : w.heap[b]? = some o) : w'.heap[b]? = some o := h.obj hn hc
theorem Mod.transB {a b c : World} {B : Nat} (h : Mod NoB a b) (k : Mod (fun k => k = B) b c) (hs : a.heap.size ≤ B) : Mod NoB a c := h.trans k (fun k hk e => by have h1 : k = B := e; omega)
theorem Mod.trans0 {a b c : World} (h : Mod NoB a b) (k : Mod NoB b c) : Mod NoB a c := h.trans k (fun _ _ h => h)

/-- Where own is true: the block is a row of cells that may be written. -/
def Owned (own : Bool) (w : World) (b : Nat) : Prop := own = true → ∃ cur T, w.heap[b]? = some (.cells cur T (0, 0))

/-- The value v is a slice that reads as the list l: each element takes sz cells, which R reads; all lie in blocks of G. -/
def Sl {α : Type} (own : Bool) (w : World) (G : Nat → Prop) (sz : Nat) (R : Array Value → α → Prop) (v : Value) (l : List α) : Prop :=
  ∃ a cap, v = .slice a l.length cap ∧ l.length ≤ cap ∧ cap ≤ maxLen ∧
    (l ≠ [] → ∃ b off, a = some ⟨b, off, none⟩ ∧ G b ∧ Owned own w b ∧ ∀ i (h : i < l.length), ∃ cs : Array Value, cs.size = sz ∧ R cs l[i] ∧ CellsAt w b (off + i * sz) cs)

def IntC (cs : Array Value) (x : Int) : Prop := cs = #[.int .i64 x]
def byteV (b : UInt8) : Value := .int .u8 (b.toNat : Int)
def ByteC (cs : Array Value) (x : UInt8) : Prop := cs = #[byteV x]
def idCells (x : List UInt8) : Array Value := (x.map byteV).toArray
def IdC (cs : Array Value) (x : List UInt8) : Prop := cs = idCells x ∧ x.length = 32
theorem idCells_size (x : List UInt8) : (idCells x).size = x.length := by simp [idCells]

theorem CellsAt.keep {S : Nat → Prop} {w w' : World} (hm : Mod S w w') {b off : Nat} {cs : Array Value} (h : CellsAt w b off cs) (hn : ¬ S b) : CellsAt w' b off cs := fun j hj => by
  have := h j hj
  rw [Array.getElem?_eq_getElem hj] at this ⊢
  exact hm.cell hn this
theorem CellsAt.of_obj {w : World} {b off : Nat} {cs whole : Array Value} {T : TypeId} {fr : Nat × Nat} (h : w.heap[b]? = some (.cells whole T fr)) (hs : ∀ j, j < cs.size → whole[off + j]? = cs[j]?) : CellsAt w b off cs := fun j hj => by
  rw [cell_of_row w b _ whole T fr h]; exact hs j hj
theorem CellsAt.whole {w : World} {b : Nat} {cs : Array Value} {T : TypeId} {fr : Nat × Nat} (h : w.heap[b]? = some (.cells cs T fr)) : CellsAt w b 0 cs := fun j _ => by
  rw [cell_of_row w b _ cs T fr h, Nat.zero_add]
theorem CellsAt.part {w : World} {b off : Nat} {cs : Array Value} (h : CellsAt w b off cs) {i j : Nat} (hj : j ≤ cs.size) : CellsAt w b (off + i) (cs.extract i j) := fun k hk => by
  simp only [Array.size_extract] at hk
  rw [Nat.add_assoc, h (i + k) (by omega), Array.getElem?_extract, if_pos (by omega)]
theorem CellsAt.one {w : World} {b off : Nat} {c : Value} : CellsAt w b off #[c] ↔ w.cell? ⟨b, off, none⟩ = some c := by
  constructor
  · intro h; simpa using h 0 (by simp)
  · intro h j hj
    have : j = 0 := by simp at hj; omega
    subst this; simpa using h
theorem CellsAt.cell {w : World} {b off : Nat} {cs : Array Value} (h : CellsAt w b off cs) {j : Nat} {v : Value} (hv : cs[j]? = some v) : w.cell? ⟨b, off + j, none⟩ = some v := by
  have hj : j < cs.size := by
    rcases Nat.lt_or_ge j cs.size with h | h
    · exact h
    · rw [Array.getElem?_eq_none h] at hv; cases hv
  rw [h j hj, hv]

theorem Owned.keep {own : Bool} {S : Nat → Prop} {w w' : World} (hm : Mod S w w') {b : Nat} (h : Owned own w b) (hn : ¬ S b) : Owned own w' b := fun ho => by
  obtain ⟨cur, T, h⟩ := h ho
  exact ⟨cur, T, hm.obj hn h⟩

/-- Opened at an index: for a loop that reads it. -/
theorem Sl.at {α : Type} {own : Bool} {w : World} {G : Nat → Prop} {sz : Nat} {R : Array Value → α → Prop} {v : Value} {l : List α} (h : Sl own w G sz R v l) :
    ∃ a cap, v = .slice a l.length cap ∧ l.length ≤ 9223372036854775807 ∧
      (∀ i, i < l.length → ∃ b off, a = some ⟨b, off, none⟩ ∧ G b ∧ Owned own w b ∧ ∀ i (h : i < l.length), ∃ cs : Array Value, cs.size = sz ∧ R cs l[i] ∧ CellsAt w b (off + i * sz) cs) := by
  obtain ⟨a, cap, hv, hl, hc, h⟩ := h
  exact ⟨a, cap, hv, by unfold maxLen at hc; omega, fun i hi => h (by rintro rfl; simp at hi)⟩

theorem Sl.keep {α : Type} {own : Bool} {w w' : World} {G S : Nat → Prop} {sz : Nat} {R R' : Array Value → α → Prop} {v : Value} {l : List α} (h : Sl own w G sz R v l) (hm : Mod S w w') (hd : ∀ k, G k → ¬ S k)
    (hR : ∀ cs x, R cs x → R' cs x) : Sl own w' G sz R' v l := by
  obtain ⟨a, cap, hv, hl, hc, h⟩ := h
  refine ⟨a, cap, hv, hl, hc, fun hne => ?_⟩
  obtain ⟨b, off, ha, hG, ho, h⟩ := h hne
  refine ⟨b, off, ha, hG, ho.keep hm (hd b hG), fun i hi => ?_⟩
  obtain ⟨cs, hs, hR', hcs⟩ := h i hi
  exact ⟨cs, hs, hR _ _ hR', hcs.keep hm (hd b hG)⟩

theorem Sl.keep0 {α : Type} {own : Bool} {w w' : World} {G : Nat → Prop} {sz : Nat} {R : Array Value → α → Prop} {v : Value} {l : List α} (h : Sl own w G sz R v l) (hm : Mod NoB w w') : Sl own w' G sz R v l := h.keep hm (fun _ _ => id) (fun _ _ h => h)
theorem Sl.keepB {α : Type} {own : Bool} {w w' : World} {G : Nat → Prop} {B : Nat} {sz : Nat} {R : Array Value → α → Prop} {v : Value} {l : List α} (h : Sl own w G sz R v l) (hm : Mod (fun k => k = B) w w') (hd : ∀ k, G k → k ≠ B) : Sl own w' G sz R v l := h.keep hm hd (fun _ _ h => h)
theorem Sl.mono {α : Type} {own : Bool} {w : World} {G G' : Nat → Prop} {sz : Nat} {R R' : Array Value → α → Prop} {v : Value} {l : List α} (h : Sl own w G sz R v l) (hg : ∀ k, G k → G' k)
    (hR : ∀ cs x, R cs x → R' cs x) : Sl own w G' sz R' v l := by
  obtain ⟨a, cap, hv, hl, hc, h⟩ := h
  refine ⟨a, cap, hv, hl, hc, fun hne => ?_⟩
  obtain ⟨b, off, ha, hG, ho, h⟩ := h hne
  refine ⟨b, off, ha, hg _ hG, ho, fun i hi => ?_⟩
  obtain ⟨cs, hs, hR', hcs⟩ := h i hi
  exact ⟨cs, hs, hR _ _ hR', hcs⟩
theorem Sl.weak {α : Type} {own : Bool} {w : World} {G : Nat → Prop} {sz : Nat} {R : Array Value → α → Prop} {v : Value} {l : List α} (h : Sl own w G sz R v l) : Sl false w G sz R v l := by
  obtain ⟨a, cap, hv, hl, hc, h⟩ := h
  refine ⟨a, cap, hv, hl, hc, fun hne => ?_⟩
  obtain ⟨b, off, ha, hG, _, h⟩ := h hne
  exact ⟨b, off, ha, hG, (fun h => by cases h), h⟩
theorem Sl.one {α : Type} {own : Bool} {w : World} {G : Nat → Prop} {sz : Nat} {R : Array Value → α → Prop} {v : Value} {l : List α} (h : Sl own w G sz R v l) : v.oneCell' = true := by
  obtain ⟨a, cap, rfl, _⟩ := h; rfl
theorem Sl.nil {α : Type} (own : Bool) (w : World) (G : Nat → Prop) (sz : Nat) (R : Array Value → α → Prop) : Sl own w G sz R (.slice none 0 0) ([] : List α) :=
  ⟨none, 0, rfl, Nat.le_refl _, Nat.zero_le _, fun h => absurd rfl h⟩

/-- Two lists, element by element. -/
def All2 {α β : Type} (R : α → β → Prop) (a : List α) (b : List β) : Prop := a.length = b.length ∧ ∀ i (h : i < a.length) (h' : i < b.length), R a[i] b[i]
theorem All2.nil {α β : Type} {R : α → β → Prop} : All2 R [] [] := ⟨rfl, fun i h => by simp at h⟩
theorem All2.snoc {α β : Type} {R : α → β → Prop} {a : List α} {b : List β} {x : α} {y : β} (h : All2 R a b) (hxy : R x y) : All2 R (a ++ [x]) (b ++ [y]) := by
  refine ⟨by simp [h.1], fun i hi hi' => ?_⟩
  rcases Nat.lt_or_ge i a.length with hlt | hge
  · rw [List.getElem_append_left hlt, List.getElem_append_left (h.1 ▸ hlt)]
    exact h.2 i hlt _
  · have e : i = a.length := by simp at hi; omega
    have e' : i = b.length := by rw [e, h.1]
    have h1 : (a ++ [x])[i] = x := by subst e; simp
    have h2 : (b ++ [y])[i] = y := by
      have : ∀ (n : Nat) (hn : n < (b ++ [y]).length), n = b.length → (b ++ [y])[n] = y := fun n hn e => by subst e; simp
      exact this i hi' e'
    rw [h1, h2]; exact hxy
theorem All2.imp {α β : Type} {R R' : α → β → Prop} {a : List α} {b : List β} (h : All2 R a b) (hi : ∀ x y, R x y → R' x y) : All2 R' a b := ⟨h.1, fun i h1 h2 => hi _ _ (h.2 i h1 h2)⟩

/-- What the call itself has gathered by append reads as a list. -/
theorem Sl.of_owns {α : Type} {w : World} {base T sz n : Nat} {v : Value} {css : List (Array Value)} {xs : List Value} {l : List α} {R : Array Value → α → Prop} (h : w.ownsRow base T sz v n xs)
    (hx : xs = css.flatMap Array.toList) (hs : ∀ c ∈ css, c.size = sz) (hR : All2 R css l) (hn : n = l.length) :
    Sl true w (fun k => base ≤ k ∧ k < w.heap.size ∧ v.ownBlock = some k) sz R v l := by
  subst hn
  have hlen : css.length = l.length := hR.1
  rcases h.2 with ⟨rfl, h0⟩ | ⟨g, cap, cur, rfl, hb, hg, hc, hm, hcs, ht⟩
  · have : l = [] := List.eq_nil_of_length_eq_zero h0
    subst this
    exact Sl.nil _ _ _ _ _
  · refine ⟨_, cap, rfl, hc, hm, fun hne => ⟨g, 0, rfl, ⟨hb, ?_, rfl⟩, fun _ => ⟨cur, T, hg⟩, fun i hi => ?_⟩⟩
    · rcases Nat.lt_or_ge g w.heap.size with h | h
      · exact h
      · rw [Array.getElem?_eq_none h] at hg; cases hg
    · have hic : i < css.length := by omega
      refine ⟨css[i], hs _ (List.getElem_mem _), ?_, fun j hj => ?_⟩
      · exact hR.2 i hic hi
      · rw [cell_of_row w g _ cur T (0, 0) hg, Nat.zero_add]
        have hsz : css[i].size = sz := hs _ (List.getElem_mem _)
        have hflat : ∀ (css : List (Array Value)) (i : Nat) (hic : i < css.length), (∀ c ∈ css, c.size = sz) → ∀ j, j < sz → (css.flatMap Array.toList)[i * sz + j]? = css[i][j]? := by
          intro css
          induction css with
          | nil => intro i hic; simp at hic
          | cons c css ih =>
            intro i hic hs j hj
            have hc : c.toList.length = sz := by simpa using hs c (by simp)
            cases i with
            | zero => simp only [List.flatMap_cons, Nat.zero_mul, Nat.zero_add, List.getElem_cons_zero]; rw [List.getElem?_append_left (by omega)]; simp
            | succ i =>
              simp only [List.flatMap_cons, List.getElem_cons_succ]
              rw [List.getElem?_append_right (by rw [hc, Nat.succ_mul]; omega), hc, show (i + 1) * sz + j - sz = i * sz + j by rw [Nat.succ_mul]; omega]
              exact ih i (by simpa using hic) (fun c hc => hs c (by simp [hc])) j hj
        rw [← hflat css i hic hs j (hsz ▸ hj), ← hx, ← ht]
        have hlt : i * sz + j < l.length * sz := by
          have h1 : (i + 1) * sz ≤ l.length * sz := Nat.mul_le_mul_right _ hi
          rw [Nat.succ_mul] at h1; have := hsz ▸ hj; omega
        rw [List.getElem?_take_of_lt hlt]
        simp

/-! ### A region that draws its order, walked in one order of our own -/

section
variable {P : Program} {ops : Array Oper} {Q : Exit → Act → World → Prop} {S : World → Prop} {md : Region.Mode}

/-- The run gives v and leaves the world as it is: by itself, or by a call that does so. -/
def GivesV (P : Program) (r : Result Next) (v : Value) (w : World) : Prop :=
  r = .ok (.value v) w ∨ ∃ f args, r = .ok (.enter f args) w ∧ Calls P f args w (fun e w' => e = .returned v ∧ w' = w)

/-- In state 'a', in every world that meets S, operation 'o' leaves 'v' in its temporary and does nothing else. -/
def YieldsC (P : Program) (ops : Array Oper) (S : World → Prop) (o : Oper) (v : Value) (a : Act) : Prop :=
  (Region.wanted o (yielded ops a.tmps) = true ∧ ∀ w, S w → GivesV P ((execOp a.eval o).run P w) v w) ∨
  (Region.wanted o (yielded ops a.tmps) = false ∧ v = undef)

theorem GivesV.wp {o : Oper} {a : Act} {v : Value} {w : World} (h : GivesV P ((execOp a.eval o).run P w) v w) {K : Act → World → Prop} {Q : Exit → Act → World → Prop} (k : K (a.put o.dst v) w) : o.wp P a w K Q := by
  unfold Oper.wp
  rcases h with h | ⟨f, args, h, hc⟩
  · rw [h]; exact k
  · rw [h]
    refine hc.mono fun e w' ⟨he, hw⟩ => ?_
    subst he; subst hw
    exact k

theorem YieldsC.wpOp {i : Nat} {o : Oper} {v : Value} {a : Act} (hi : ops[i]? = some o) (hy : YieldsC P ops S o v a)
    {K : Act → World → Prop} {w : World} (hS : S w) (h : K (a.put o.dst v) w) : wpOp P ops Q i K a w := by
  unfold Go.wpOp
  simp only [hi]
  rcases hy with ⟨hw, hv⟩ | ⟨hw, rfl⟩
  · simp only [hw, if_true]; exact .inl ((hv w hS).wp h)
  · simp only [hw, Bool.false_eq_true, if_false]; exact h

theorem YieldsC.of_same {o : Oper} {v : Value} {a a' : Act} (hy : YieldsC P ops S o v a) (he : execOp a'.eval o = execOp a.eval o)
    (hw : Region.wanted o (yielded ops a'.tmps) = Region.wanted o (yielded ops a.tmps)) : YieldsC P ops S o v a' := by
  unfold YieldsC at *
  rw [he, hw]
  exact hy

/-- One operation 'oj', apart from 'oi': whether 'oi''s value is already in its temporary makes no difference to it, and it makes none to 'oi'. (After the base's wpOp_putIf.) -/
theorem wpOp_putC {j : Nat} {oi oj : Oper} {v : Value} (hj : ops[j]? = some oj) (hap : oi.apart ops oj = true)
    (hsi : ∀ cs b, oi.op ≠ .select cs b) (hsj : ∀ cs b, oj.op ≠ .select cs b)
    (hQ : ∀ c a w, Q (.panic c) (a.put oi.dst v) w → Q (.panic c) a w) {K : Act → World → Prop} {a : Act} {w : World}
    (hy : YieldsC P ops S oi v a) (h : wpOp P ops Q j K (a.put oi.dst v) w) :
    wpOp P ops Q j (fun a' w' => YieldsC P ops S oi v a' ∧ K (a'.put oi.dst v) w') a w := by
  obtain ⟨h1, h2, h3⟩ := Oper.apart_spec hap
  have keep : ∀ (a : Act), YieldsC P ops S oi v a → ∀ u, YieldsC P ops S oi v (a.put oj.dst u) := fun a hy u =>
    hy.of_same (execOp_put oi hsi a oj.dst u h3) (wanted_put oi a oj.dst u h3)
  have keepD : ∀ d, YieldsC P ops S oi v { a with defers := d :: a.defers } := fun d => hy.of_same rfl rfl
  unfold wpOp at *
  simp only [hj] at *
  rw [wanted_put oj a oi.dst v h1] at h
  split
  · rename_i hw
    simp only [hw, if_true] at h
    rcases h with h | ⟨hasks, hlets⟩
    case inr => exact .inr ⟨by unfold Oper.asks at *; rw [execOp_put oj hsj a oi.dst v h1] at hasks; exact hasks, hlets⟩
    refine .inl ?_
    unfold Oper.wp at *
    rw [execOp_put oj hsj a oi.dst v h1] at h
    generalize (execOp a.eval oj).run P w = r at *
    cases r with
    | ok n w' =>
      cases n <;> simp only [Oper.upon] at h ⊢
      case value u => exact ⟨keep a hy u, by rw [← Act.put_comm a v u h2]; exact h⟩
      case skip => exact ⟨keep a hy _, by rw [← Act.put_comm a v undef h2]; exact h⟩
      case defer d =>
        refine ⟨keep _ (keepD d) _, ?_⟩
        rw [← Act.put_comm _ v undef h2, ← Act.put_defers]
        exact h
      case enter f args =>
        refine Calls.mono h fun e w'' he => ?_
        cases e with
        | returned u => exact ⟨keep a hy u, by rw [← Act.put_comm a v u h2]; exact he⟩
        | panicked c => exact hQ _ _ _ he
        | outgrown => exact he
      case row row args => exact Rows.mono h fun u w'' he => ⟨keep a hy u, by rw [← Act.put_comm a v u h2]; exact he⟩
    | halt x w' =>
      cases x <;> simp only [Oper.upon] at h ⊢
      case panic u => exact hQ _ _ _ h
  · rename_i hw
    simp only [hw] at h
    exact ⟨keep a hy _, by rw [← Act.put_comm a v undef h2]; exact h⟩

/-- Has none of the operations tl come up yet? -/
def noneOf (tl : List Nat) (listed : Array Bool) : Bool := tl.all fun t => !listed.getD t false

/-- Whatever order is picked from here on; as long as none of tl has come up, S holds behind every operation. -/
def wpAnyG (P : Program) (md : Region.Mode) (ops : Array Oper) (Q : Exit → Act → World → Prop) (S : World → Prop) (tl : List Nat) : Nat → Array Bool → Act → World → Prop
  | 0, listed, a, w => Region.ready md ops listed = [] ∧ Q .normal a w
  | fuel + 1, listed, a, w =>
    (Region.ready md ops listed = [] → Q .normal a w) ∧
    ∀ i ∈ Region.ready md ops listed, wpOp P ops Q i (fun a' w' => (noneOf tl (listed.setIfInBounds i true) = true → S w') ∧ wpAnyG P md ops Q S tl fuel (listed.setIfInBounds i true) a' w') a w

theorem wpAny_of_G {tl : List Nat} : ∀ (fuel : Nat) (listed : Array Bool) (a : Act) (w : World), wpAnyG P md ops Q S tl fuel listed a w → wpAny P md ops Q fuel listed a w
  | 0, _, _, _, h => h
  | fuel + 1, _, _, _, h => ⟨h.1, fun i hi => wpOp_mono (fun a' w' h' => wpAny_of_G fuel _ a' w' h'.2) (h.2 i hi)⟩

def PanicSame (Q : Exit → Act → World → Prop) : Prop := ∀ c a a' w, a'.defers = a.defers → Q (.panic c) a w → Q (.panic c) a' w

theorem put_defers (a : Act) (d : Option Tmp) (v : Value) : (a.put d v).defers = a.defers := by cases d <;> rfl

/-- Do all of tl wait for i? -/
def waitsAll (md : Region.Mode) (ops : Array Oper) (tl : List Nat) (i : Nat) : Bool :=
  tl.all fun t => t != i && (match ops[t]? with | some o => o.after.any fun e => Region.binds md e && e.on == i | none => false)

theorem noneOf_set {tl : List Nat} {listed : Array Bool} {j : Nat} (h : noneOf tl listed = true) (hj : j ∉ tl) : noneOf tl (listed.setIfInBounds j true) = true := by
  simp only [noneOf, List.all_eq_true, Bool.not_eq_true'] at h ⊢
  intro t ht
  rw [getD_set_ne false (by rintro rfl; exact hj ht)]
  exact h t ht

theorem wpAnyG_first {tl : List Nat} {i : Nat} {oi : Oper} {v : Value} (hi : ops[i]? = some oi) (hsel : ∀ (j : Nat) (o : Oper) cs b, ops[j]? = some o → o.op ≠ .select cs b)
    (hQ : PanicSame Q) (htl : waitsAll md ops tl i = true) :
    ∀ (fuel : Nat) (listed : Array Bool) (a : Act) (w : World),
      (∀ j oj, ops[j]? = some oj → j ≠ i → listed.getD j true = false → (∀ e ∈ oj.after, Region.binds md e = true → e.on ≠ i) → oi.apart ops oj = true) →
      i ∈ Region.ready md ops listed → YieldsC P ops S oi v a → S w → noneOf tl listed = true →
      wpAnyG P md ops Q S tl fuel (listed.setIfInBounds i true) (a.put oi.dst v) w → wpAnyG P md ops Q S tl (fuel + 1) listed a w := by
  intro fuel
  have hw : ∀ t ∈ tl, t ≠ i ∧ ∃ o, ops[t]? = some o ∧ ∃ e ∈ o.after, Region.binds md e = true ∧ e.on = i := by
    intro t ht
    have := List.all_eq_true.1 htl t ht
    simp only [Bool.and_eq_true, bne_iff_ne] at this
    obtain ⟨h1, h2⟩ := this
    refine ⟨h1, ?_⟩
    cases ho : ops[t]? with
    | none => simp [ho] at h2
    | some o =>
      simp only [ho] at h2
      obtain ⟨e, he, hb⟩ := Array.any_eq_true'.1 h2
      exact ⟨o, rfl, e, he, by simpa using hb⟩
  induction fuel with
  | zero =>
    intro listed a w _ hr hy hS _ H
    refine ⟨fun h => (by rw [h] at hr; cases hr), fun j hj => ?_⟩
    by_cases hji : j = i
    · subst hji; exact hy.wpOp hi hS ⟨fun _ => hS, H⟩
    · have := ready_mono hj hji
      rw [H.1] at this
      cases this
  | succ fuel ih =>
    intro listed a w hfree hr hy hS hn H
    refine ⟨fun h => (by rw [h] at hr; cases hr), fun j hj => ?_⟩
    by_cases hji : j = i
    · subst hji; exact hy.wpOp hi hS ⟨fun _ => hS, H⟩
    · have h1 := H.2 j (ready_mono hj hji)
      obtain ⟨hjun, oj, hoj, hall⟩ := mem_ready.1 hj
      have hnot : ∀ e ∈ oj.after, Region.binds md e = true → e.on ≠ i := fun e he hb heq => by
        have h1 := hall e he hb
        have h0 := (mem_ready.1 hr).1
        rw [heq] at h1
        rcases Nat.lt_or_ge i listed.size with h' | h'
        · simp [h'] at h0 h1; rw [h0] at h1; cases h1
        · simp [Array.getElem?_eq_none h'] at h1
      have hjt : j ∉ tl := fun ht => by
        obtain ⟨_, o, ho, e, he, hb, hon⟩ := hw j ht
        rw [hoj] at ho; cases ho
        exact hnot e he hb hon
      have h2 := wpOp_putC hoj (hfree j oj hoj hji hjun hnot) (fun cs b => hsel i oi cs b hi) (fun cs b => hsel j oj cs b hoj) (fun c a w hq => hQ _ _ _ _ (by simp [put_defers]) hq) hy h1
      have hfree' : ∀ k ok, ops[k]? = some ok → k ≠ i → (listed.setIfInBounds j true).getD k true = false →
          (∀ e ∈ ok.after, Region.binds md e = true → e.on ≠ i) → oi.apart ops ok = true := fun k ok hk hki hun hno => by
        refine hfree k ok hk hki ?_ hno
        by_cases hjk : j = k
        · subst hjk; exact hjun
        · rw [getD_set_ne true hjk] at hun; exact hun
      have hn' := noneOf_set hn hjt
      have hni : noneOf tl ((listed.setIfInBounds i true).setIfInBounds j true) = true := noneOf_set (noneOf_set hn fun ht => (hw i ht).1 rfl) hjt
      refine wpOp_mono (fun a' w' h3 => ⟨fun _ => h3.2.1 hni, ih (listed.setIfInBounds j true) a' w' hfree' (ready_mono hr (Ne.symm hji)) h3.1 (h3.2.1 hni) hn' ?_⟩) h2
      rw [Array.setIfInBounds_comm _ _ hji]
      exact h3.2.2

theorem wpAnyG_free {tl : List Nat} {i : Nat} {oi : Oper} {v : Value} (hi : ops[i]? = some oi) (hsel : ∀ (j : Nat) (o : Oper) cs b, ops[j]? = some o → o.op ≠ .select cs b)
    (hQ : PanicSame Q) (hit : i ∉ tl) :
    ∀ (fuel : Nat) (listed : Array Bool) (a : Act) (w : World),
      (∀ j oj, ops[j]? = some oj → j ≠ i → listed.getD j true = false → (∀ e ∈ oj.after, Region.binds md e = true → e.on ≠ i) → oi.apart ops oj = true) →
      i ∈ Region.ready md ops listed → YieldsC P ops (fun _ => True) oi v a → (noneOf tl listed = true → S w) →
      wpAnyG P md ops Q S tl fuel (listed.setIfInBounds i true) (a.put oi.dst v) w → wpAnyG P md ops Q S tl (fuel + 1) listed a w := by
  intro fuel
  have hback : ∀ listed : Array Bool, noneOf tl (listed.setIfInBounds i true) = true → noneOf tl listed = true := by
    intro listed h
    simp only [noneOf, List.all_eq_true, Bool.not_eq_true'] at h ⊢
    intro t ht
    have := h t ht
    rwa [getD_set_ne false (by rintro rfl; exact hit ht)] at this
  induction fuel with
  | zero =>
    intro listed a w _ hr hy hS H
    refine ⟨fun h => (by rw [h] at hr; cases hr), fun j hj => ?_⟩
    by_cases hji : j = i
    · subst hji; exact hy.wpOp hi trivial ⟨fun hn => hS (hback _ hn), H⟩
    · have := ready_mono hj hji
      rw [H.1] at this
      cases this
  | succ fuel ih =>
    intro listed a w hfree hr hy hS H
    refine ⟨fun h => (by rw [h] at hr; cases hr), fun j hj => ?_⟩
    by_cases hji : j = i
    · subst hji; exact hy.wpOp hi trivial ⟨fun hn => hS (hback _ hn), H⟩
    · have h1 := H.2 j (ready_mono hj hji)
      obtain ⟨hjun, oj, hoj, hall⟩ := mem_ready.1 hj
      have hnot : ∀ e ∈ oj.after, Region.binds md e = true → e.on ≠ i := fun e he hb heq => by
        have h1 := hall e he hb
        have h0 := (mem_ready.1 hr).1
        rw [heq] at h1
        rcases Nat.lt_or_ge i listed.size with h' | h'
        · simp [h'] at h0 h1; rw [h0] at h1; cases h1
        · simp [Array.getElem?_eq_none h'] at h1
      have h2 := wpOp_putC hoj (hfree j oj hoj hji hjun hnot) (fun cs b => hsel i oi cs b hi) (fun cs b => hsel j oj cs b hoj) (fun c a w hq => hQ _ _ _ _ (by simp [put_defers]) hq) hy h1
      have hfree' : ∀ k ok, ops[k]? = some ok → k ≠ i → (listed.setIfInBounds j true).getD k true = false →
          (∀ e ∈ ok.after, Region.binds md e = true → e.on ≠ i) → oi.apart ops ok = true := fun k ok hk hki hun hno => by
        refine hfree k ok hk hki ?_ hno
        by_cases hjk : j = k
        · subst hjk; exact hjun
        · rw [getD_set_ne true hjk] at hun; exact hun
      have hfwd : noneOf tl (listed.setIfInBounds j true) = true → noneOf tl ((listed.setIfInBounds i true).setIfInBounds j true) = true := fun h => by
        rw [Array.setIfInBounds_comm _ _ (Ne.symm hji)]
        exact noneOf_set h hit
      refine wpOp_mono (fun a' w' h3 => ⟨fun hn => h3.2.1 (hfwd hn), ih (listed.setIfInBounds j true) a' w' hfree' (ready_mono hr (Ne.symm hji)) h3.1 (fun hn => h3.2.1 (hfwd hn)) ?_⟩) h2
      rw [Array.setIfInBounds_comm _ _ hji]
      exact h3.2.2

/-- May the operations be taken in this order? 0: one that yields its value in every world of the class; 3: one that yields it in whatever world; 1: any other, which must then be the only one that may come up; 2: likewise, and it is one of the stores at the end (tl): S need not hold behind it. -/
def piOk (md : Region.Mode) (ops : Array Oper) (tl : List Nat) : List (Nat × Nat) → Array Bool → Bool
  | [], listed => (Region.ready md ops listed).isEmpty
  | (i, 0) :: r, listed => i < ops.size && Region.free md ops listed i && (Region.ready md ops listed).contains i && waitsAll md ops tl i && noneOf tl listed && piOk md ops tl r (listed.setIfInBounds i true)
  | (i, 1) :: r, listed => i < ops.size && (Region.ready md ops listed) == [i] && !tl.contains i && piOk md ops tl r (listed.setIfInBounds i true)
  | (i, 2) :: r, listed => i < ops.size && (Region.ready md ops listed) == [i] && tl.contains i && !noneOf tl (listed.setIfInBounds i true) && piOk md ops tl r (listed.setIfInBounds i true)
  | (i, _ + 3) :: r, listed => i < ops.size && Region.free md ops listed i && (Region.ready md ops listed).contains i && !tl.contains i && piOk md ops tl r (listed.setIfInBounds i true)

/-- What is to be shown, by the flags of piOk. -/
def wpPi (P : Program) (ops : Array Oper) (Q : Exit → Act → World → Prop) : (World → Prop) → List (Oper × Nat) → Act → World → Prop
  | _, [], a, w => Q .normal a w
  | S, (o, 0) :: r, a, w => ∃ v, YieldsC P ops S o v a ∧ wpPi P ops Q S r (a.put o.dst v) w
  | S, (o, 1) :: r, a, w =>
    if Region.wanted o (yielded ops a.tmps) then o.wp P a w (fun a' w' => ∃ S' : World → Prop, (∀ w, S' w → S w) ∧ S' w' ∧ wpPi P ops Q S' r a' w') Q ∨ (o.asks P a w ∧ LetsOut Q)
    else S w ∧ wpPi P ops Q S r (a.put o.dst undef) w
  | S, (o, 2) :: r, a, w =>
    if Region.wanted o (yielded ops a.tmps) then o.wp P a w (wpPi P ops Q S r) Q ∨ (o.asks P a w ∧ LetsOut Q)
    else wpPi P ops Q S r (a.put o.dst undef) w
  | S, (o, _ + 3) :: r, a, w => ∃ v, YieldsC P ops (fun _ => True) o v a ∧ wpPi P ops Q S r (a.put o.dst v) w

theorem wpAnyG_weaken {S' : World → Prop} {tl : List Nat} (hSS : ∀ w, S' w → S w) : ∀ (fuel : Nat) (listed : Array Bool) (a : Act) (w : World), wpAnyG P md ops Q S' tl fuel listed a w → wpAnyG P md ops Q S tl fuel listed a w
  | 0, _, _, _, h => h
  | fuel + 1, _, _, _, h => ⟨h.1, fun i hi => wpOp_mono (fun a' w' h' => ⟨fun hn => hSS _ (h'.1 hn), wpAnyG_weaken hSS fuel _ a' w' h'.2⟩) (h.2 i hi)⟩

theorem wpAnyG_of_pi {tl : List Nat} (hs : Region.noSelect ops = true) (hQ : PanicSame Q) :
    ∀ (S : World → Prop) (l : List (Nat × Nat)) (listed : Array Bool) (a : Act) (w : World), piOk md ops tl l listed = true → (noneOf tl listed = true → S w) → wpPi P ops Q S (l.map fun x => (ops.getD x.1 default, x.2)) a w →
      wpAnyG P md ops Q S tl l.length listed a w
  | S, [], listed, a, w, hp, _, h => by
    simp only [piOk, List.isEmpty_iff] at hp
    exact ⟨hp, h⟩
  | S, (i, 0) :: r, listed, a, w, hp, hS, h => by
    simp only [piOk, Bool.and_eq_true, decide_eq_true_eq] at hp
    obtain ⟨⟨⟨⟨⟨hi, hf⟩, hr⟩, hwa⟩, hn⟩, hp⟩ := hp
    obtain ⟨v, hy, h⟩ := h
    have hi' : ops[i]? = some (ops.getD i default) := by simp [Array.getD, hi]
    exact wpAnyG_first hi' (Region.noSelect_spec hs) hQ hwa r.length listed a w (Region.free_spec hi' hf) (by simpa using hr) hy (hS hn) hn
      (wpAnyG_of_pi hs hQ S r _ _ w hp (fun _ => hS hn) h)
  | S, (i, n + 3) :: r, listed, a, w, hp, hS, h => by
    simp only [piOk, Bool.and_eq_true, decide_eq_true_eq, Bool.not_eq_true'] at hp
    obtain ⟨⟨⟨⟨hi, hf⟩, hr⟩, hit⟩, hp⟩ := hp
    obtain ⟨v, hy, h⟩ := h
    have hit' : i ∉ tl := by simpa using hit
    have hi' : ops[i]? = some (ops.getD i default) := by simp [Array.getD, hi]
    refine wpAnyG_free hi' (Region.noSelect_spec hs) hQ hit' r.length listed a w (Region.free_spec hi' hf) (by simpa using hr) hy hS
      (wpAnyG_of_pi hs hQ S r _ _ w hp (fun hn => hS ?_) h)
    simp only [noneOf, List.all_eq_true, Bool.not_eq_true'] at hn ⊢
    intro t ht
    have := hn t ht
    rwa [getD_set_ne false (by rintro rfl; exact hit' ht)] at this
  | S, (i, 1) :: r, listed, a, w, hp, hS, h => by
    simp only [piOk, Bool.and_eq_true, decide_eq_true_eq, beq_iff_eq] at hp
    obtain ⟨⟨⟨hi, hr⟩, ht⟩, hp⟩ := hp
    refine ⟨fun h0 => (by rw [hr] at h0; cases h0), fun j hj => ?_⟩
    have : j = i := by rw [hr] at hj; simpa using hj
    subst this
    have hi' : ops[j]? = some (ops.getD j default) := by simp [Array.getD, hi]
    simp only [List.map_cons] at h
    refine wpOp_mono (K := fun a' w' => ∃ S' : World → Prop, (∀ w, S' w → S w) ∧ S' w' ∧ wpPi P ops Q S' (r.map fun x => (ops.getD x.1 default, x.2)) a' w')
      (fun a' w' h' => (by
        obtain ⟨S', hSS, h1, h2⟩ := h'
        exact ⟨fun _ => hSS _ h1, wpAnyG_weaken hSS _ _ _ _ (wpAnyG_of_pi hs hQ S' r _ _ w' hp (fun _ => h1) h2)⟩)) ?_
    unfold wpPi at h
    unfold wpOp
    generalize ops.getD j default = oj at hi' h
    simp only [hi']
    by_cases hg : Region.wanted oj (yielded ops a.tmps) = true
    · rw [if_pos hg] at h ⊢
      exact h
    · rw [if_neg hg] at h ⊢
      exact ⟨S, fun _ h => h, h.1, h.2⟩
  | S, (i, 2) :: r, listed, a, w, hp, hS, h => by
    simp only [piOk, Bool.and_eq_true, decide_eq_true_eq, beq_iff_eq, Bool.not_eq_true'] at hp
    obtain ⟨⟨⟨⟨hi, hr⟩, ht⟩, hno⟩, hp⟩ := hp
    refine ⟨fun h0 => (by rw [hr] at h0; cases h0), fun j hj => ?_⟩
    have : j = i := by rw [hr] at hj; simpa using hj
    subst this
    have hi' : ops[j]? = some (ops.getD j default) := by simp [Array.getD, hi]
    simp only [List.map_cons] at h
    refine wpOp_mono (K := fun a' w' => wpPi P ops Q S (r.map fun x => (ops.getD x.1 default, x.2)) a' w')
      (fun a' w' h' => ⟨fun hn => (by rw [hno] at hn; cases hn), wpAnyG_of_pi hs hQ S r _ _ w' hp (fun hn => (by rw [hno] at hn; cases hn)) h'⟩) ?_
    unfold wpOp
    generalize ops.getD j default = oj at hi' h
    simp only [hi']
    exact h

theorem wp_region_pi {id : Nat} {a : Act} {w : World} {l : List Oper} (p : List (Nat × Nat)) (tl : List Nat) (S : World → Prop) (hm : P.follows .mixedOrders = true) (hs : Region.noSelect l.toArray = true)
    (hl : p.length = l.toArray.size) (hp : piOk .any l.toArray tl p (Array.replicate l.toArray.size false) = true) (hQ : PanicSame Q) (hS : S w.drew)
    (h : wpPi P l.toArray Q S (p.map fun x => (l.getD x.1 default, x.2)) a w.drew) : (Code.region id l.toArray true).wp P Q a w :=
  wp_region_any hm (by
    have e : (p.map fun x => ((l.toArray).getD x.1 default, x.2)) = (p.map fun x => (l.getD x.1 default, x.2)) := by
      apply List.map_congr_left; intro x _; simp [Array.getD_eq_getD_getElem?, List.getD]
    have H := wpAny_of_G _ _ _ _ (wpAnyG_of_pi hs hQ S p _ a w.drew hp (fun _ => hS) (by rw [e]; exact h))
    rw [hl] at H
    exact H)

/-- A region that does not draw: one behind the other. -/
theorem wpList_of_pi : ∀ (S : World → Prop) (l : List (Oper × Nat)) (a : Act) (w : World), (∀ x ∈ l, x.2 ≠ 2) → S w → wpPi P ops Q S l a w → wpList P ops Q (l.map (·.1)) a w
  | _, [], _, _, _, _, h => h
  | S, (o, 0) :: r, a, w, hl, hS, h => by
    obtain ⟨v, hy, h⟩ := h
    have ih := wpList_of_pi S r _ w (fun x hx => hl x (by simp [hx])) hS h
    simp only [List.map_cons]
    unfold wpList
    rcases hy with ⟨hw, hv⟩ | ⟨hw, rfl⟩
    · rw [if_pos hw]
      refine .inl ?_
      exact (hv w hS).wp ih
    · rw [hw]; exact ih
  | S, (o, n + 3) :: r, a, w, hl, hS, h => by
    obtain ⟨v, hy, h⟩ := h
    have ih := wpList_of_pi S r _ w (fun x hx => hl x (by simp [hx])) hS h
    simp only [List.map_cons]
    unfold wpList
    rcases hy with ⟨hw, hv⟩ | ⟨hw, rfl⟩
    · rw [if_pos hw]
      refine .inl ?_
      exact (hv w trivial).wp ih
    · rw [hw]; exact ih
  | S, (o, 2) :: r, a, w, hl, hS, h => absurd rfl (hl (o, 2) (by simp))
  | S, (o, 1) :: r, a, w, hl, hS, h => by
    simp only [List.map_cons]
    unfold wpList
    unfold wpPi at h
    split
    · rename_i hw
      rw [if_pos hw] at h
      exact h.imp (fun h => Oper.wp_mono (fun a' w' ⟨S', _, h1, h2⟩ => wpList_of_pi S' r a' w' (fun x hx => hl x (by simp [hx])) h1 h2) h) id
    · rename_i hw
      rw [if_neg hw] at h
      exact wpList_of_pi S r _ w (fun x hx => hl x (by simp [hx])) h.1 h.2

theorem wp_region_seq {id : Nat} {a : Act} {w : World} {l : List Oper} (p : List Nat) (S : World → Prop) (hl : p.length = l.length) (hp : (p.all (· != 2)) = true) (hS : S w)
    (h : wpPi P l.toArray Q S (l.zip p) a w) : (Code.region id l.toArray false).wp P Q a w :=
  wp_region_lit (by
    have := wpList_of_pi S (l.zip p) a w (fun x hx => by
      have := List.of_mem_zip hx
      simpa using List.all_eq_true.1 hp x.2 this.2) hS h
    rwa [List.map_fst_zip (by omega)] at this)

theorem wpPi_nil {a : Act} {w : World} (h : Q .normal a w) : wpPi P ops Q S [] a w := h
/-- The operation yields its value in every world of the class. -/
theorem wpPi_val {o : Oper} {r : List (Oper × Nat)} {a : Act} {w : World} {v : Value} (hw : Region.wanted o (yielded ops a.tmps) = true)
    (hv : ∀ w, S w → (execOp a.eval o).run P w = .ok (.value v) w) (h : wpPi P ops Q S r (a.put o.dst v) w) : wpPi P ops Q S ((o, 0) :: r) a w :=
  ⟨v, .inl ⟨hw, fun w hS => .inl (hv w hS)⟩, h⟩
/-- The operation yields its value in whatever world. -/
theorem wpPi_any {o : Oper} {r : List (Oper × Nat)} {a : Act} {w : World} {v : Value} (hw : Region.wanted o (yielded ops a.tmps) = true)
    (hv : ∀ w, (execOp a.eval o).run P w = .ok (.value v) w) (h : wpPi P ops Q S r (a.put o.dst v) w) : wpPi P ops Q S ((o, 3) :: r) a w :=
  ⟨v, .inl ⟨hw, fun w _ => .inl (hv w)⟩, h⟩
/-- The operation's guard says no. -/
theorem wpPi_skip {o : Oper} {r : List (Oper × Nat)} {a : Act} {w : World} (hw : Region.wanted o (yielded ops a.tmps) = false)
    (h : wpPi P ops Q S r (a.put o.dst undef) w) : wpPi P ops Q S ((o, 3) :: r) a w :=
  ⟨undef, .inr ⟨hw, rfl⟩, h⟩
theorem wpPi_skip0 {o : Oper} {r : List (Oper × Nat)} {a : Act} {w : World} (hw : Region.wanted o (yielded ops a.tmps) = false)
    (h : wpPi P ops Q S r (a.put o.dst undef) w) : wpPi P ops Q S ((o, 0) :: r) a w :=
  ⟨undef, .inr ⟨hw, rfl⟩, h⟩
/-- A call that leaves the world as it is, taken like a value. -/
theorem wpPi_call {o : Oper} {r : List (Oper × Nat)} {a : Act} {w : World} {v : Value} {f : FuncId} {args : Array Value} (hw : Region.wanted o (yielded ops a.tmps) = true)
    (hr : ∀ w, (execOp a.eval o).run P w = .ok (.enter f args) w) (hc : ∀ w, S w → Calls P f args w (fun e w' => e = .returned v ∧ w' = w)) (h : wpPi P ops Q S r (a.put o.dst v) w) : wpPi P ops Q S ((o, 0) :: r) a w :=
  ⟨v, .inl ⟨hw, fun w hS => .inr ⟨f, args, hr w, hc w hS⟩⟩, h⟩
/-- An operation that is carried out in the world at hand. -/
theorem wpPi_do {o : Oper} {r : List (Oper × Nat)} {a : Act} {w : World} (hg : Region.wanted o (yielded ops a.tmps) = true)
    (h : ∀ K : Act → World → Prop, (∀ a' w', S w' → wpPi P ops Q S r a' w' → K a' w') → o.wp P a w K Q) : wpPi P ops Q S ((o, 1) :: r) a w := by
  unfold wpPi
  rw [if_pos hg]
  exact .inl (h _ fun a' w' h1 h2 => ⟨S, fun _ h => h, h1, h2⟩)
/-- Likewise, and a narrower class from there on. -/
theorem wpPi_do_to {o : Oper} {r : List (Oper × Nat)} {a : Act} {w : World} (hg : Region.wanted o (yielded ops a.tmps) = true)
    (h : ∀ K : Act → World → Prop, (∀ (S' : World → Prop) a' w', (∀ w, S' w → S w) → S' w' → wpPi P ops Q S' r a' w' → K a' w') → o.wp P a w K Q) : wpPi P ops Q S ((o, 1) :: r) a w := by
  unfold wpPi
  rw [if_pos hg]
  exact .inl (h _ fun S' a' w' hSS h1 h2 => ⟨S', hSS, h1, h2⟩)
/-- One of the last: S need not hold behind it. -/
theorem wpPi_last {o : Oper} {r : List (Oper × Nat)} {a : Act} {w : World} (hg : Region.wanted o (yielded ops a.tmps) = true)
    (h : ∀ K : Act → World → Prop, (∀ a' w', wpPi P ops Q S r a' w' → K a' w') → o.wp P a w K Q) : wpPi P ops Q S ((o, 2) :: r) a w := by
  unfold wpPi
  rw [if_pos hg]
  exact .inl (h _ fun a' w' h2 => h2)
theorem wpPi_do_skip {o : Oper} {r : List (Oper × Nat)} {a : Act} {w : World} (hg : Region.wanted o (yielded ops a.tmps) = false) (hS : S w)
    (h : wpPi P ops Q S r (a.put o.dst undef) w) : wpPi P ops Q S ((o, 1) :: r) a w := by
  unfold wpPi
  rw [hg]
  exact ⟨hS, h⟩
end

/-- A call of a named function with a body. -/
theorem run_call {P : Program} {o : Oper} {a : Act} (f : FuncId) (xs : List Operand) (ts : Array TypeId) (ho : o.op = .call { callee := .value (.func f), args := xs.toArray, argTypes := ts }) (fn : Func) (hf : P.funcs[f]? = some fn)
    (hb : fn.body.isSome = true) (hn : (fn.name == "runtime.NumGoroutine") = false) (args : List Value) (ha : xs.map a.eval = args) (w : World) : (execOp a.eval o).run P w = .ok (.enter f args.toArray) w := by
  subst ha
  have hb' : ¬ fn.body = none := by intro h; simp [h] at hb
  have hn' : ¬ fn.name = "runtime.NumGoroutine" := by simpa using hn
  unfold execOp
  simp [ho, resolve, Act.eval, Deferred.ofValue, invoke, callFunc, hf, hb', hn']

/-! ### Loads and stores of structs and arrays -/
theorem run_loadVar_cells {P : Program} {w : World} {b off : Nat} {ty : TypeId} {cs : Array Value} {d : TypeDesc} (hc : CellsAt w b off cs)
    (hu : P.underlying ty = some d) (hd : (match d with | .struct _ | .array _ _ => true | _ => false) = true) (hi : (P.info? ty).map (·.size) = some cs.size) :
    (loadVar ty ⟨b, off, none⟩).run P w = .ok (.agg cs) w := by
  have hl : (loadCells ⟨b, off, none⟩ cs.toList.length).run P w = .ok cs.toList.toArray w :=
    run_loadCells_list (P := P) w ⟨b, off, none⟩ cs.toList (fun j v hv => by
      have hj : j < cs.size := by
        rcases Nat.lt_or_ge j cs.toList.length with h | h
        · simpa using h
        · rw [List.getElem?_eq_none h] at hv; cases hv
      have hadd : (⟨b, off, none⟩ : Addr).add j = ⟨b, off + j, none⟩ := by unfold Addr.add; split <;> simp_all
      rw [hadd, hc j hj]
      simpa using hv)
  cases hq : P.info? ty with
  | none => simp [hq] at hi
  | some i =>
    have hs : i.size = cs.size := by simpa [hq] using hi
    have hagg : (isAgg ty).run P w = .ok true w := by
      unfold isAgg
      rw [Sem.run_bind, run_underlying hu w]
      cases d <;> simp_all
    simp only [Array.length_toList, Array.toArray_toList] at hl
    simp [loadVar, Sem.run_bind, hagg, sizeOf, typeInfo, hq, hs, hl]

theorem exec_loadA {P : Program} {w : World} {o : Oper} {a : Act} (ty : TypeId) (x : Operand) (ho : o.op = .load ty x) (b off : Nat) (hx : a.eval x = .pointer (some ⟨b, off, none⟩))
    (cs : Array Value) (hc : CellsAt w b off cs) (d : TypeDesc) (hu : P.underlying ty = some d) (hd : (match d with | .struct _ | .array _ _ => true | _ => false) = true) (n : Nat) (hi : (P.info? ty).map (·.size) = some n) (hn : cs.size = n) :
    (execOp a.eval o).run P w = .ok (.value (.agg cs)) w := by
  unfold execOp
  simp only [ho, hx, Instr.loadAt, Instr.sureAddr, Sem.run_bind, Sem.run_pure, Result.andThen_ok, run_loadVar_cells hc hu hd (hn ▸ hi)]

/-- A load of one cell. -/
theorem exec_load1 {P : Program} {w : World} {o : Oper} {a : Act} (ty : TypeId) (x : Operand) (ho : o.op = .load ty x) (b off : Nat) (hx : a.eval x = .pointer (some ⟨b, off, none⟩))
    (v : Value) (hc : w.cell? ⟨b, off, none⟩ = some v) (d : TypeDesc) (hu : P.underlying ty = some d) (hd : (match d with | .struct _ | .array _ _ => true | _ => false) = false) :
    (execOp a.eval o).run P w = .ok (.value v) w := by
  have hagg : (isAgg ty).run P w = .ok false w := by
    unfold isAgg
    rw [Sem.run_bind, run_underlying hu w]
    cases d <;> simp_all
  unfold execOp
  simp only [ho, hx, Instr.loadAt, Instr.sureAddr, Sem.run_bind, Sem.run_pure, Result.andThen_ok, loadVar, hagg, Bool.false_eq_true, if_false]
  simp [load, Sem.run, hc]

theorem wpList_loadA {P : Program} {ops : Array Oper} {rest : List Oper} {o : Oper} {a : Act} {w : World} {Q : Exit → Act → World → Prop} (hgd : o.guard = none) (ty : TypeId) (x : Operand) (ho : o.op = .load ty x)
    (b off : Nat) (hx : a.eval x = .pointer (some ⟨b, off, none⟩)) (cs : Array Value) (hc : CellsAt w b off cs) (d : TypeDesc)
    (hu : P.underlying ty = some d) (hd : (match d with | .struct _ | .array _ _ => true | _ => false) = true) (n : Nat) (hi : (P.info? ty).map (·.size) = some n) (hn : cs.size = n)
    (h : wpList P ops Q rest (a.put o.dst (.agg cs)) w) : wpList P ops Q (o :: rest) a w :=
  wpList_plain hgd fun _ hK => by
    unfold Oper.wp
    rw [exec_loadA ty x ho b off hx cs hc d hu hd n hi hn]
    exact hK _ _ h

/-- '==' on two arrays of bytes. -/
theorem exec_eql_id {P : Program} {w : World} {o : Oper} {a : Act} (t : TypeId) (x y : Operand) (yt : TypeId) (ho : o.op = .binOp .eql t x y yt) (xs ys : List UInt8)
    (hx : a.eval x = .agg (idCells xs)) (hy : a.eval y = .agg (idCells ys)) (n : Nat) (e : TypeId) (ht : P.underlying t = some (.array n e)) (he : P.underlying e = some (.int .u8))
    (hsz : (P.info? e).map (·.size) = some 1) (hg : P.eqGuardType P.depth t = false) (hxs : xs.length = n) (hys : ys.length = n) (b : Bool) (hb : decide (xs = ys) = b) :
    (execOp a.eval o).run P w = .ok (.value (.bool b)) w := by
  subst hb
  have hs : ∀ w, (sizeOf e).run P w = .ok 1 w := fun w => by
    cases hq : P.info? e with
    | none => simp [hq] at hsz
    | some i => simp [hq] at hsz; simp [sizeOf, typeInfo, hq, hsz]
  have h1 := run_eqGuard_agg (P := P) w .eql t x y (idCells xs) (idCells ys) hg
  have h2 := run_eql_bytes (P := P) w t e n ht he hs xs ys hxs hys
  unfold execOp
  simp only [ho, hx, hy, Sem.run_bind, h1, Result.andThen_ok]
  rw [show idCells xs = (xs.map Extern.Stop.cell).toArray from rfl, show idCells ys = (ys.map Extern.Stop.cell).toArray from rfl, h2]
  simp only [Result.andThen_ok, Sem.run_pure]
  have : (xs == ys) = decide (xs = ys) := by rw [Bool.eq_iff_iff]; simp
  rw [this]

theorem exec_eql_int {P : Program} {w : World} {o : Oper} {a : Act} (t : TypeId) (x y : Operand) (yt : TypeId) (ho : o.op = .binOp .eql t x y yt) (k : IntKind) (m n : Int)
    (hx : a.eval x = .int k m) (hy : a.eval y = .int k n) (b : Bool) (hb : decide (m = n) = b) : (execOp a.eval o).run P w = .ok (.value (.bool b)) w := by
  subst hb
  unfold execOp
  simp [ho, hx, hy, eqGuard, binOp, Op.intCmp]
  rw [Bool.eq_iff_iff]; simp

theorem exec_eql_str {P : Program} {w : World} {o : Oper} {a : Act} (t : TypeId) (x y : Operand) (yt : TypeId) (ho : o.op = .binOp .eql t x y yt) (m n : ByteArray)
    (hx : a.eval x = .string m) (hy : a.eval y = .string n) (b : Bool) (hb : decide (m = n) = b) : (execOp a.eval o).run P w = .ok (.value (.bool b)) w := by
  subst hb
  unfold execOp
  have h : (m.toList == n.toList) = decide (m = n) := by
    rw [← beq_toListBytes, Bool.eq_iff_iff, decide_eq_true_iff]
    obtain ⟨⟨x⟩⟩ := m
    obtain ⟨⟨y⟩⟩ := n
    show ((⟨x⟩ : Array UInt8) == ⟨y⟩) = true ↔ _
    simp
  simp [ho, hx, hy, eqGuard, binOp, Op.stringOp, h]

/-- 'string(b)' of bytes. -/
theorem run_string_of_bytes {P : Program} {w : World} {own : Bool} {G : Nat → Prop} {v : Value} {l : List UInt8} (h : Sl own w G 1 ByteC v l) (src e dst : TypeId)
    (hs : P.underlying src = some (.slice e)) (he : P.underlying e = some (.int .u8)) (hd : P.underlying dst = some .string) :
    (convert src dst v).run P w = .ok (.string ⟨l.toArray⟩) w := by
  obtain ⟨a, cap, rfl, hl, hc, h⟩ := h
  by_cases hne : l = []
  · subst hne
    cases a with
    | none => rw [run_convert_bytes_nil (P := P) w src e hs he _ _ dst hd]; rfl
    | some a =>
      rw [run_convert_bytes_string (P := P) w src dst e _ _ _ hs he hd]
      simp [Conv.bytesToString, loadCells, loadCellsFrom]
      rfl
  · obtain ⟨b, off, rfl, -, -, h⟩ := h hne
    have := Lib.run_convert_whole (P := P) w src e dst hs he hd b off ⟨l.toArray⟩ (fun i hi => by
      have hi' : i < l.length := by simpa [ByteArray.size] using hi
      obtain ⟨cs, -, rfl, hc⟩ := h i hi'
      have := CellsAt.one.1 hc
      rw [Nat.mul_one] at this
      rw [this]; rfl) cap
    simpa [ByteArray.size] using this
theorem exec_string_of_bytes {P : Program} {w : World} {o : Oper} {a : Act} {own : Bool} {G : Nat → Prop} (src e dst : TypeId) (x : Operand) (ho : o.op = .convert src dst x) (v : Value) (hx : a.eval x = v) {l : List UInt8} (h : Sl own w G 1 ByteC v l)
    (hs : P.underlying src = some (.slice e)) (he : P.underlying e = some (.int .u8)) (hd : P.underlying dst = some .string) : (execOp a.eval o).run P w = .ok (.value (.string ⟨l.toArray⟩)) w := by
  unfold execOp
  simp only [ho, hx, Sem.run_bind, run_string_of_bytes h src e dst hs he hd, Result.andThen_ok, Sem.run_pure]
theorem bytes_inj {a b : List UInt8} : ((⟨a.toArray⟩ : ByteArray) = ⟨b.toArray⟩) ↔ a = b := by
  constructor
  · intro h
    have := congrArg (fun x : ByteArray => x.data.toList) h
    simpa using this
  · intro h; rw [h]

/-! ### Cheap steps of a region -/
def fieldOff (P : Program) (s : TypeId) (f : Nat) : Option Nat :=
  match P.underlying s with
  | some (.struct fs) =>
    match fs[f]? with
    | some fd => match (P.info? fd.type).map (·.size) with | some 0 => none | some _ => some fd.offset | none => none
    | none => none
  | _ => none

section
variable {P : Program} {ops : Array Oper} {Q : Exit → Act → World → Prop} {S : World → Prop} {o : Oper} {r : List (Oper × Nat)} {a : Act} {w : World}
theorem wpPi_move (x : Operand) (hw : Region.wanted o (yielded ops a.tmps) = true) (ho : o.op = .move x) (h : wpPi P ops Q S r (a.put o.dst (a.eval x)) w) : wpPi P ops Q S ((o, 3) :: r) a w :=
  wpPi_any hw (fun w => by unfold execOp; simp only [ho]; rfl) h
theorem wpPi_assign (x : Operand) (hw : Region.wanted o (yielded ops a.tmps) = true) (ho : o.op = .assign x) (h : wpPi P ops Q S r (a.put o.dst (a.eval x)) w) : wpPi P ops Q S ((o, 3) :: r) a w :=
  wpPi_any hw (fun w => by unfold execOp; simp only [ho]; rfl) h
theorem wpPi_pick (c x y : Operand) (t : Bool) (hw : Region.wanted o (yielded ops a.tmps) = true) (ho : o.op = .pick c x y) (hc : a.eval c = .bool t)
    (h : wpPi P ops Q S r (a.put o.dst (if t then a.eval x else a.eval y)) w) : wpPi P ops Q S ((o, 3) :: r) a w :=
  wpPi_any hw (fun w => by unfold execOp; simp only [ho, hc]; cases t <;> simp [asBool]) h
theorem wpPi_nilCheck (x : Operand) (p : Addr) (hw : Region.wanted o (yielded ops a.tmps) = true) (ho : o.op = .nilCheck x) (hx : a.eval x = .pointer (some p))
    (h : wpPi P ops Q S r (a.put o.dst (.pointer (some p))) w) : wpPi P ops Q S ((o, 3) :: r) a w :=
  wpPi_any hw (fun w => by unfold execOp; simp only [ho, hx]; rfl) h
theorem wpPi_not (x : Operand) (t : TypeId) (b : Bool) (hw : Region.wanted o (yielded ops a.tmps) = true) (ho : o.op = .unOp .not t x) (hx : a.eval x = .bool b)
    (h : wpPi P ops Q S r (a.put o.dst (.bool (!b))) w) : wpPi P ops Q S ((o, 3) :: r) a w :=
  wpPi_any hw (fun w => by unfold execOp; simp [ho, hx, Op.unary]) h
def isSliceT (P : Program) (t : TypeId) : Bool := match P.underlying t with | some (.slice _) => true | _ => false
theorem wpPi_len (x : Operand) (t : TypeId) (ad : Option Addr) (n c : Nat) (hw : Region.wanted o (yielded ops a.tmps) = true) (ho : o.op = .call { callee := .builtin .len, args := #[x], argTypes := #[t] }) (hx : a.eval x = .slice ad n c) (ht : isSliceT P t = true)
    (h : wpPi P ops Q S r (a.put o.dst (.int .i64 n)) w) : wpPi P ops Q S ((o, 3) :: r) a w :=
  wpPi_any hw (fun w => by
    unfold isSliceT at ht
    split at ht
    · rename_i e hu
      unfold execOp; simp [ho, hx, resolve, invoke, builtin, Builtin.len_, run_underlying hu, goInt]
    · cases ht) h
theorem run_fieldAt {s : TypeId} {b off f k : Nat} (hk : fieldOff P s f = some k) (w : World) : (Instr.fieldAt s (.pointer (some ⟨b, off, none⟩)) f).run P w = .ok (.pointer (some ⟨b, off + k, none⟩)) w := by
  unfold fieldOff at hk
  split at hk
  · rename_i fs hu
    split at hk
    · rename_i fd hf
      have hadd : (⟨b, off, none⟩ : Addr).add fd.offset = ⟨b, off + fd.offset, none⟩ := by unfold Addr.add; split <;> simp_all
      cases hi : P.info? fd.type with
      | none => simp [hi] at hk
      | some i =>
        simp only [hi, Option.map_some] at hk
        split at hk
        · cases hk
        · rename_i n hn heq
          have hz : i.size ≠ 0 := by rintro h0; rw [h0] at heq; cases heq; exact hn rfl
          have hk' : fd.offset = k := by simpa using hk
          subst hk'
          simp [Instr.fieldAt, run_underlying hu, hf, Instr.sureAddr, fieldPlace, sizeOf, typeInfo, hi, hz, hadd]
        · cases hk
    · cases hk
  · cases hk
theorem wpPi_field (s : TypeId) (x : Operand) (f b off k : Nat) (hw : Region.wanted o (yielded ops a.tmps) = true) (ho : o.op = .fieldAddr s x f) (hx : a.eval x = .pointer (some ⟨b, off, none⟩)) (hk : fieldOff P s f = some k)
    (h : wpPi P ops Q S r (a.put o.dst (.pointer (some ⟨b, off + k, none⟩))) w) : wpPi P ops Q S ((o, 3) :: r) a w :=
  wpPi_any hw (fun w => by unfold execOp; simp only [ho, hx, Sem.run_bind, run_fieldAt hk, Result.andThen_ok, Sem.run_pure]) h
theorem wrap_in {m : Int} (h1 : -9223372036854775808 ≤ m) (h2 : m ≤ 9223372036854775807) : IntKind.i64.wrap m = m := IntWalk.i64_in _ ⟨h1, h2⟩
theorem wpPi_add (t : TypeId) (x y : Operand) (yt : TypeId) (m n : Int) (hw : Region.wanted o (yielded ops a.tmps) = true) (ho : o.op = .binOp .add t x y yt) (hx : a.eval x = .int .i64 m) (hy : a.eval y = .int .i64 n)
    (h1 : -9223372036854775808 ≤ m + n) (h2 : m + n ≤ 9223372036854775807) (h : wpPi P ops Q S r (a.put o.dst (.int .i64 (m + n))) w) : wpPi P ops Q S ((o, 3) :: r) a w :=
  wpPi_any hw (fun w => by
    unfold execOp
    have e := wrap_in h1 h2
    simp [ho, hx, hy, eqGuard, binOp, Op.intArith, e]) h
theorem wpPi_sub (t : TypeId) (x y : Operand) (yt : TypeId) (m n : Int) (hw : Region.wanted o (yielded ops a.tmps) = true) (ho : o.op = .binOp .sub t x y yt) (hx : a.eval x = .int .i64 m) (hy : a.eval y = .int .i64 n)
    (h1 : -9223372036854775808 ≤ m - n) (h2 : m - n ≤ 9223372036854775807) (h : wpPi P ops Q S r (a.put o.dst (.int .i64 (m - n))) w) : wpPi P ops Q S ((o, 3) :: r) a w :=
  wpPi_any hw (fun w => by
    unfold execOp
    have e := wrap_in h1 h2
    simp [ho, hx, hy, eqGuard, binOp, Op.intArith, e]) h
theorem wpPi_mul (t : TypeId) (x y : Operand) (yt : TypeId) (m n : Int) (hw : Region.wanted o (yielded ops a.tmps) = true) (ho : o.op = .binOp .mul t x y yt) (hx : a.eval x = .int .i64 m) (hy : a.eval y = .int .i64 n)
    (h1 : -9223372036854775808 ≤ m * n) (h2 : m * n ≤ 9223372036854775807) (h : wpPi P ops Q S r (a.put o.dst (.int .i64 (m * n))) w) : wpPi P ops Q S ((o, 3) :: r) a w :=
  wpPi_any hw (fun w => by
    unfold execOp
    have e := wrap_in h1 h2
    simp [ho, hx, hy, eqGuard, binOp, Op.intArith, e]) h
/-- A test on two ints, its outcome known or left as it is. -/
def cmpB : BinOp → Int → Int → Bool
  | .lss, m, n => decide (m < n)
  | .leq, m, n => decide (m ≤ n)
  | .gtr, m, n => decide (n < m)
  | .geq, m, n => decide (n ≤ m)
  | .eql, m, n => decide (m = n)
  | _, m, n => decide (m ≠ n)
def isCmp : BinOp → Bool
  | .lss | .leq | .gtr | .geq | .eql | .neq => true
  | _ => false
theorem exec_cmp {P : Program} {w : World} {o : Oper} {a : Act} (op : BinOp) (t : TypeId) (x y : Operand) (yt : TypeId) (k : IntKind) (m n : Int) (ho : o.op = .binOp op t x y yt) (hc : isCmp op = true) (hx : a.eval x = .int k m) (hy : a.eval y = .int k n)
    (b : Bool) (hb : cmpB op m n = b) : (execOp a.eval o).run P w = .ok (.value (.bool b)) w := by
  subst hb
  have hb : ∀ (p q : Int), (p == q) = decide (p = q) := fun p q => by rw [Bool.eq_iff_iff]; simp
  have hb' : ∀ (p q : Int), (p != q) = decide (p ≠ q) := fun p q => by rw [Bool.eq_iff_iff]; simp
  unfold execOp
  cases op <;> simp [isCmp] at hc <;> simp [ho, hx, hy, eqGuard, binOp, Op.intCmp, cmpB, hb, hb']
theorem wpPi_cmp (op : BinOp) (t : TypeId) (x y : Operand) (yt : TypeId) (k : IntKind) (m n : Int) (hw : Region.wanted o (yielded ops a.tmps) = true) (ho : o.op = .binOp op t x y yt) (hc : isCmp op = true) (hx : a.eval x = .int k m) (hy : a.eval y = .int k n)
    (b : Bool) (hb : cmpB op m n = b) (h : wpPi P ops Q S r (a.put o.dst (.bool b)) w) : wpPi P ops Q S ((o, 3) :: r) a w :=
  wpPi_any hw (fun _ => exec_cmp op t x y yt k m n ho hc hx hy b hb) h
/-- 'xs[i]' of a slice: the element's address. -/
theorem run_indexAt_slice {t e : TypeId} {b off len cap n i : Nat} (hu : P.underlying t = some (.slice e)) (hi : (P.info? e).map (·.size) = some n) (h : i < len) (w : World) :
    (Instr.indexAt t (.slice (some ⟨b, off, none⟩) len cap) (.int .i64 i)).run P w = .ok (.pointer (some ⟨b, off + i * n, none⟩)) w := by
  have hadd : (⟨b, off, none⟩ : Addr).add (i * n) = ⟨b, off + i * n, none⟩ := by unfold Addr.add; split <;> simp_all
  cases hq : P.info? e with
  | none => simp [hq] at hi
  | some j =>
    have hs : j.size = n := by simpa [hq] using hi
    simp [Instr.indexAt, asIntOf, run_underlying hu, h, sizeOf, typeInfo, hq, hs, hadd]
theorem wpPi_index (t : TypeId) (x y : Operand) (e : TypeId) (b off len cap n i : Nat) (hw : Region.wanted o (yielded ops a.tmps) = true) (ho : o.op = .indexAddr t x y)
    (hx : a.eval x = .slice (some ⟨b, off, none⟩) len cap) (hy : a.eval y = .int .i64 i) (hu : P.underlying t = some (.slice e)) (hi : (P.info? e).map (·.size) = some n) (hlt : i < len)
    (h : wpPi P ops Q S r (a.put o.dst (.pointer (some ⟨b, off + i * n, none⟩))) w) : wpPi P ops Q S ((o, 3) :: r) a w :=
  wpPi_any hw (fun w => by unfold execOp; simp only [ho, hx, hy, Sem.run_bind, run_indexAt_slice hu hi hlt, Result.andThen_ok, Sem.run_pure]) h
end

/-! ### A frame written out, laid anew behind a put -/
theorem pl (t : List Value) (df : List Deferred) (d : Nat) (v : Value) : Act.put ⟨t.toArray, df⟩ (some d) v = ⟨(t.set d v).toArray, df⟩ := by simp [Act.put]
theorem pn (a : Act) (v : Value) : Act.put a none v = a := rfl
theorem el (t : List Value) (df : List Deferred) (i : Nat) : Act.eval ⟨t.toArray, df⟩ (.tmp i) = t.getD i undef := by simp [Act.eval, List.getD]
theorem ec (t : Array Value) (df : List Deferred) (v : Value) : Act.eval ⟨t, df⟩ (.const v) = v := rfl
theorem sz {α : Type} (x y : α) (l : List α) : (x :: l).set 0 y = y :: l := rfl
theorem ss {α : Type} (x y : α) (l : List α) (n : Nat) : (x :: l).set (n + 1) y = x :: l.set n y := rfl
theorem gz {α : Type} (x y : α) (l : List α) : (x :: l).getD 0 y = x := rfl
theorem gs {α : Type} (x y : α) (l : List α) (n : Nat) : (x :: l).getD (n + 1) y = l.getD n y := rfl

end Go.Proofs.YtchkikmmcmjcgaaGreat

/- Operations that make or write memory: each leaves a world of which only what is told is known. -/
namespace Go.Proofs.YtchkikmmcmjcgaaGreat
set_option linter.unusedSimpArgs false
set_option linter.unusedVariables false
set_option linter.unnecessarySimpa false
set_option linter.unusedSectionVars false
open Go.RowKit

theorem mod_alloc (w : World) (o : Obj) : Mod NoB w (w.alloc o) := (Mod.refl _ _).alloc _

section
variable {P : Program} {o : Oper} {a : Act} {w : World} {K : Act → World → Prop} {Q : Exit → Act → World → Prop}

theorem wp_box (elem : TypeId) (x : Operand) (v : Value) (ho : o.op = .box elem x) (hx : a.eval x = v)
    (h : ∀ w', w'.heap[w.heap.size]? = some (.cells v.cells elem (0, 0)) → Mod NoB w w' → w.heap.size < w'.heap.size → K (a.put o.dst (.pointer (some ⟨w.heap.size, 0, none⟩))) w') : o.wp P a w K Q := by
  unfold Oper.wp execOp
  simp only [ho, hx]
  have hr : (Instr.box elem v).run P w = .ok (.pointer (some ⟨w.heap.size, 0, none⟩)) (w.alloc (.cells v.cells elem)) := by
    simp [Instr.box, newVar, newRow]
  simp only [Sem.run_bind, hr, Result.andThen_ok, Sem.run_pure]
  exact h _ (heap_alloc_new _ _) (mod_alloc _ _) (by simp)

theorem wp_alloc (elem : TypeId) (z : Value) (ho : o.op = .alloc elem) (hz : (P.info? elem).bind (·.zero) = some z)
    (h : ∀ w', w'.heap[w.heap.size]? = some (.cells z.cells elem (0, 0)) → Mod NoB w w' → w.heap.size < w'.heap.size → K (a.put o.dst (.pointer (some ⟨w.heap.size, 0, none⟩))) w') : o.wp P a w K Q := by
  unfold Oper.wp execOp
  simp only [ho]
  cases hi : P.info? elem with
  | none => simp [hi] at hz
  | some i =>
    simp only [hi, Option.bind_some] at hz
    have hr : (Instr.alloc elem true (.tuple #[])).run P w = .ok (.pointer (some ⟨w.heap.size, 0, none⟩)) (w.alloc (.cells z.cells elem)) := by
      simp [Instr.alloc, zeroValue, typeInfo, hi, hz, newVar, newRow]
    simp only [Sem.run_bind, hr, Result.andThen_ok, Sem.run_pure]
    exact h _ (heap_alloc_new _ _) (mod_alloc _ _) (by simp)

theorem wp_buildSlice0 (t e : TypeId) (ho : o.op = .buildSlice t 0 #[]) (hu : P.underlying t = some (.slice e)) (hi : (P.info? e).isSome = true)
    (h : ∀ w', w'.heap[w.heap.size]? = some (.cells #[] e (0, 0)) → Mod NoB w w' → w.heap.size < w'.heap.size → K (a.put o.dst (.slice (some ⟨w.heap.size, 0, none⟩) 0 0)) w') : o.wp P a w K Q := by
  unfold Oper.wp execOp
  simp only [ho]
  cases hi' : P.info? e with
  | none => simp [hi'] at hi
  | some i =>
    have hr : (Instr.buildSlice t 0 (Array.map (fun (x : Nat × Operand) => (x.1, a.eval x.2)) #[])).run P w = .ok (.slice (some ⟨w.heap.size, 0, none⟩) 0 0) (w.alloc (.cells #[] e)) := by
      simp [Instr.buildSlice, run_underlying hu, sizeOf, typeInfo, hi', Instr.fill, newRow]
      rw [show Array.range 0 = #[] from Array.eq_empty_of_size_eq_zero (by simp), Array.map_empty]
    simp only [Sem.run_bind, hr, Result.andThen_ok, Sem.run_pure]
    exact h _ (heap_alloc_new _ _) (mod_alloc _ _) (by simp)

theorem foldl_set_tail : ∀ (l : List Value) (k : Nat) (pre : List Value) (old tail : List Value), pre.length = k → old.length = l.length →
    (l.zipIdx k).foldl (fun (cs : Array Value) (x : Value × Nat) => cs.setIfInBounds x.2 x.1) (pre ++ (old ++ tail)).toArray = (pre ++ (l ++ tail)).toArray
  | [], k, pre, old, tail, _, ho => by
    have : old = [] := List.eq_nil_of_length_eq_zero (by simpa using ho)
    simp [this]
  | v :: l, k, pre, old, tail, hp, ho => by
    match old, ho with
    | u :: old, ho =>
      rw [List.zipIdx_cons, List.foldl_cons]
      have e : (pre ++ (u :: old ++ tail)).toArray.setIfInBounds k v = ((pre ++ [v]) ++ (old ++ tail)).toArray := by
        subst hp
        simp
      rw [e, foldl_set_tail l (k + 1) (pre ++ [v]) old tail (by simp [hp]) (by simpa using ho)]
      simp
theorem foldl_set_all (l : List Value) (k : Nat) (pre : List Value) (old : List Value) (hp : pre.length = k) (ho : old.length = l.length) :
    (l.zipIdx k).foldl (fun (cs : Array Value) (x : Value × Nat) => cs.setIfInBounds x.2 x.1) (pre ++ old).toArray = (pre ++ l).toArray := by
  simpa using foldl_set_tail l k pre old [] hp ho

theorem wp_buildSlice1 (t e : TypeId) (x : Operand) (v : Value) (z : Value) (n : Nat) (ho : o.op = .buildSlice t 1 #[(0, x)]) (hx : a.eval x = v) (hu : P.underlying t = some (.slice e))
    (hi : (P.info? e).map (fun i => (i.zero, i.size)) = some (some z, n)) (hn : 0 < n) (hn' : n ≤ 16777216) (hv : v.cells.size = n)
    (h : ∀ w', w'.heap[w.heap.size]? = some (.cells v.cells e (0, 0)) → Mod NoB w w' → w.heap.size < w'.heap.size → K (a.put o.dst (.slice (some ⟨w.heap.size, 0, none⟩) 1 1)) w') : o.wp P a w K Q := by
  unfold Oper.wp execOp
  simp only [ho]
  cases hi' : P.info? e with
  | none => simp [hi'] at hi
  | some i =>
    simp only [hi', Option.map_some, Option.some.injEq, Prod.mk.injEq] at hi
    obtain ⟨hz0, hz1⟩ := hi
    have hr : (Instr.buildSlice t 1 (Array.map (fun x => (x.1, a.eval x.2)) #[(0, x)])).run P w = .ok (.slice (some ⟨w.heap.size, 0, none⟩) 1 1) (w.alloc (.cells v.cells e)) := by
      have hf : (v.cells.zipIdx.foldl (fun (cs : Array Value) (x : Value × Nat) => cs.setIfInBounds x.2 x.1) (Array.map (fun x => z.cells[x % z.cells.size]!) (Array.range n))) = v.cells := by
        have := foldl_set_all v.cells.toList 0 [] (Array.map (fun x => z.cells[x % z.cells.size]!) (Array.range n)).toList rfl (by simp [hv])
        simp only [List.nil_append, Array.toArray_toList] at this
        rw [← Array.foldl_toList, Array.toList_zipIdx]
        exact this
      have hf' := hf
      rw [← Array.foldl_toList, Array.toList_zipIdx] at hf'
      simp [Instr.buildSlice, run_underlying hu, sizeOf, typeInfo, hi', hz1, zeroValue, hz0, Nat.not_lt.2 hn', Nat.pos_iff_ne_zero.1 hn, Instr.fill, hx, hv, newRow]
      congr 2
      rw [← hv] at hf ⊢
      have hsz : v.cells.zipIdx.size = v.cells.size := by simp
      rw [hsz] at hf; exact hf
    simp only [Sem.run_bind, hr, Result.andThen_ok, Sem.run_pure]
    exact h _ (heap_alloc_new _ _) (mod_alloc _ _) (by simp)

theorem wp_store1 (ty : TypeId) (p x : Operand) (b off : Nat) (v : Value) (ho : o.op = .store ty p x) (hp : a.eval p = .pointer (some ⟨b, off, none⟩)) (hx : a.eval x = v) (h1 : v.oneCell' = true)
    (hs : (P.info? ty).map (·.size) = some 1) (cur : Array Value) (T : TypeId) (hb : w.heap[b]? = some (.cells cur T (0, 0))) (hoff : off < cur.size)
    (h : ∀ w', w'.heap[b]? = some (.cells (cur.setIfInBounds off v) T (0, 0)) → Mod (fun k => k = b) w w' → K (a.put o.dst undef) w') : o.wp P a w K Q := by
  unfold Oper.wp execOp
  simp only [ho, hp, hx]
  have hsz : (sizeOf ty).run P w = .ok 1 w := by
    cases hq : P.info? ty with
    | none => simp [hq] at hs
    | some i => simp [hq] at hs; simp [sizeOf, typeInfo, hq, hs]
  have hc : v.cells = #[v] := by cases v <;> simp_all [Value.cells, Value.oneCell']
  have hr : (Instr.storeAt ty (.pointer (some ⟨b, off, none⟩)) v).run P w = .ok () (w.setCell ⟨b, off, none⟩ v) := by
    have hcell : w.cell? ⟨b, off, none⟩ = some cur[off] := by simp [World.cell?, hb, hoff]
    have hfro : w.frozen? ⟨b, off, none⟩ = false := by simp [World.frozen?, hb]
    simp [Instr.storeAt, Instr.sureAddr, storeVar, hsz, hc, storeCells, run_store, h1, hcell, hfro, Addr.add]
  simp only [Sem.run_bind, hr, Result.andThen_ok, Sem.run_pure]
  refine h _ ?_ (Mod.setCell (S := fun k => k = b) (Mod.refl _ _) (fun _ => rfl) v)
  simp [World.setCell, hb, Array.getElem?_modify]

/-- A struct or an array stored into a row, from off on. -/
def putRow (cur : Array Value) (off : Nat) (cs : Array Value) : Array Value := (cur.toList.take off ++ cs.toList ++ cur.toList.drop (off + cs.size)).toArray
theorem putRow_size {cur : Array Value} {off : Nat} {cs : Array Value} (h : off + cs.size ≤ cur.size) : (putRow cur off cs).size = cur.size := by
  simp [putRow]; omega
theorem putRow_whole {cur cs : Array Value} (h : cs.size = cur.size) : putRow cur 0 cs = cs := by
  apply Array.toList_inj.1
  simp only [putRow, List.take_zero, List.nil_append, Nat.zero_add]
  rw [List.drop_eq_nil_of_le (by simp [h])]
  simp

theorem wp_storeA (ty : TypeId) (p x : Operand) (b off : Nat) (cs : Array Value) (ho : o.op = .store ty p x) (hp : a.eval p = .pointer (some ⟨b, off, none⟩)) (hx : a.eval x = .agg cs) (h1 : ∀ c ∈ cs, c.oneCell' = true)
    (n : Nat) (hs : (P.info? ty).map (·.size) = some n) (hn : cs.size = n) (cur : Array Value) (T : TypeId) (hb : w.heap[b]? = some (.cells cur T (0, 0))) (hoff : off + cs.size ≤ cur.size)
    (h : ∀ w', w'.heap[b]? = some (.cells (putRow cur off cs) T (0, 0)) → Mod (fun k => k = b) w w' → K (a.put o.dst undef) w') : o.wp P a w K Q := by
  unfold Oper.wp execOp
  simp only [ho, hp, hx]
  have hsz : (sizeOf ty).run P w = .ok n w := by
    cases hq : P.info? ty with
    | none => simp [hq] at hs
    | some i => simp [hq] at hs; simp [sizeOf, typeInfo, hq, hs]
  have hr : (Instr.storeAt ty (.pointer (some ⟨b, off, none⟩)) (.agg cs)).run P w = .ok () (w.setRow b (putRow cur off cs)) := by
    have := run_storeCells_at P b off T cs.toList 0 cur w hb (by simpa using hoff) (fun v hv => h1 v (by simpa using hv))
    simp only [Nat.add_zero, Array.length_toList] at this
    simp [Instr.storeAt, Instr.sureAddr, storeVar, hsz, hn, Value.cells, this, putRow]
  simp only [Sem.run_bind, hr, Result.andThen_ok, Sem.run_pure]
  refine h _ (setRow_heap w b cur _ T _ hb) ⟨rfl, rfl, rfl, by simp, fun k _ hk => setRow_other w b k _ (fun e => hk e)⟩

end

/-- A value whose cells can be read: what append takes. -/
def Src (w : World) (sz : Nat) (u : Value) (m : Nat) (news : List Value) : Prop :=
  news.length = m * sz ∧ ∃ ad c, u = .slice ad m c ∧ (m ≠ 0 → ∃ b off, ad = some ⟨b, off, none⟩ ∧ ∀ j x, news[j]? = some x → w.cell? ⟨b, off + j, none⟩ = some x)

theorem flat_get {sz : Nat} : ∀ (css : List (Array Value)) (i : Nat) (hic : i < css.length), (∀ c ∈ css, c.size = sz) → ∀ j, j < sz → (css.flatMap Array.toList)[i * sz + j]? = css[i][j]?
  | c :: css, 0, _, hs, j, hj => by
    have hc : c.toList.length = sz := by simpa using hs c (by simp)
    simp only [List.flatMap_cons, Nat.zero_mul, Nat.zero_add, List.getElem_cons_zero]; rw [List.getElem?_append_left (by omega)]; simp
  | c :: css, i + 1, hic, hs, j, hj => by
    have hc : c.toList.length = sz := by simpa using hs c (by simp)
    simp only [List.flatMap_cons, List.getElem_cons_succ]
    rw [List.getElem?_append_right (by rw [hc, Nat.succ_mul]; omega), hc, show (i + 1) * sz + j - sz = i * sz + j by rw [Nat.succ_mul]; omega]
    exact flat_get css i (by simpa using hic) (fun c hc => hs c (by simp [hc])) j hj
theorem flat_len {sz : Nat} : ∀ (css : List (Array Value)), (∀ c ∈ css, c.size = sz) → (css.flatMap Array.toList).length = css.length * sz
  | [], _ => by simp
  | c :: css, hs => by
    have hc : c.size = sz := hs c (by simp)
    simp [flat_len css (fun c h => hs c (by simp [h])), hc, Nat.add_mul]; omega

theorem Sl.src {α : Type} {own : Bool} {w : World} {G : Nat → Prop} {sz : Nat} {R : Array Value → α → Prop} {v : Value} {l : List α} (h : Sl own w G sz R v l) (hz : 0 < sz) :
    ∃ css, All2 R css l ∧ (∀ c ∈ css, c.size = sz) ∧ Src w sz v l.length (css.flatMap Array.toList) := by
  obtain ⟨a, cap, rfl, hl, hc, h⟩ := h
  by_cases hne : l = []
  · subst hne
    exact ⟨[], All2.nil, by simp, by simp, a, cap, rfl, fun h => absurd rfl h⟩
  · obtain ⟨b, off, ha, _, _, h⟩ := h hne
    have key : ∀ k, k ≤ l.length → ∃ css : List (Array Value), css.length = k ∧ (∀ i (hi : i < css.length) (hi' : i < l.length), R css[i] l[i]) ∧ (∀ c ∈ css, c.size = sz) ∧ (∀ i (hi : i < css.length), CellsAt w b (off + i * sz) css[i]) := by
      intro k
      induction k with
      | zero => intro _; exact ⟨[], rfl, fun i hi => by simp at hi, by simp, fun i hi => by simp at hi⟩
      | succ k ih =>
        intro hk
        obtain ⟨css, h1, h2, h3, h4⟩ := ih (by omega)
        obtain ⟨cs, hs, hR, hcs⟩ := h k (by omega)
        have hlast : ∀ (i : Nat) (hi : i < (css ++ [cs]).length), i = k → (css ++ [cs])[i] = cs := fun i hi e => by subst e; subst h1; simp
        refine ⟨css ++ [cs], by simp [h1], fun i hi hi' => ?_, fun c hc => ?_, fun i hi => ?_⟩
        · by_cases hik : i < css.length
          · rw [List.getElem_append_left hik]; exact h2 i hik hi'
          · have e : i = k := by simp at hi; omega
            rw [hlast i hi e]; subst e; exact hR
        · rcases List.mem_append.1 hc with hc | hc
          · exact h3 c hc
          · have : c = cs := by simpa using hc
            rw [this, hs]
        · by_cases hik : i < css.length
          · rw [List.getElem_append_left hik]; exact h4 i hik
          · have e : i = k := by simp at hi; omega
            rw [hlast i hi e, e]; exact hcs
    obtain ⟨css, h1, h2, h3, h4⟩ := key l.length (Nat.le_refl _)
    refine ⟨css, ⟨h1, h2⟩, h3, by rw [flat_len css h3, h1], a, cap, rfl, fun _ => ⟨b, off, ha, fun j x hj => ?_⟩⟩
    have hjl : j < (css.flatMap Array.toList).length := by
      rcases Nat.lt_or_ge j (css.flatMap Array.toList).length with h | h
      · exact h
      · rw [List.getElem?_eq_none h] at hj; cases hj
    rw [flat_len css h3] at hjl
    have hi : j / sz < css.length := Nat.div_lt_of_lt_mul (by rw [Nat.mul_comm]; exact hjl)
    have hm : j % sz < sz := Nat.mod_lt _ hz
    have e : j / sz * sz + j % sz = j := by rw [Nat.mul_comm]; exact Nat.div_add_mod j sz
    have hg := flat_get css (j / sz) hi h3 (j % sz) hm
    rw [e, hj] at hg
    have := (h4 (j / sz) hi).cell hg.symm
    rw [← this, Nat.add_assoc, e]

section
variable {P : Program} {o : Oper} {a : Act} {w : World} {K : Act → World → Prop} {Q : Exit → Act → World → Prop}

/-- append onto a slice that the call itself has made. -/
theorem wp_append (s x : Operand) (t e : TypeId) (z : Value) (size bytes : Nat)
    (ho : o.op = .call { callee := .builtin .append, args := #[s, x], argTypes := #[t, t] }) (ht : P.underlying t = some (.slice e))
    (hi : (P.info? e).map (fun i => (i.zero, i.size, i.bytes)) = some (some z, size, bytes)) (hzs : z.cells.size = size) (hsz : 0 < size)
    (base : Nat) (v : Value) (n : Nat) (xs : List Value) (hs : a.eval s = v) (hown : w.ownsRow base e size v n xs)
    (u : Value) (m : Nat) (news : List Value) (hx : a.eval x = u) (hsrc : Src w size u m news) (h1 : ∀ c ∈ news, c.oneCell' = true)
    (h63 : n + m ≤ maxLen) (hbytes : (n + m) * bytes ≤ 140737488355328) (hbase : base ≤ w.heap.size)
    (h : ∀ v' w', w'.ownsRow base e size v' (n + m) (xs ++ news) → w.grownBy w' v.ownBlock → (v'.ownBlock = v.ownBlock ∨ v'.ownBlock = some w.heap.size) → K (a.put o.dst v') w') : o.wp P a w K Q := by
  obtain ⟨i, hi0, hi1, hi2, hi3⟩ := info_parts hi
  obtain ⟨hl, ad, c, rfl, hsrc⟩ := hsrc
  by_cases hm : m = 0
  · subst hm
    have hn0 : news = [] := List.eq_nil_of_length_eq_zero (by simpa using hl)
    subst hn0
    have hr : (Builtin.append_ #[t, t] o.type #[v, .slice ad 0 c]).run P w = .ok v w := by
      rcases hown.2 with ⟨rfl, rfl⟩ | ⟨g, cap, cur, rfl, hb, hg, hc, hm, hcs, htk⟩
      · cases ad <;> simp [Builtin.append_, run_underlying ht, sizeOf, typeInfo, hi0, Builtin.lenOf, Builtin.firstCells, loadCells, loadCellsFrom]
      · cases ad <;> simp [Builtin.append_, run_underlying ht, sizeOf, typeInfo, hi0, Builtin.lenOf, Builtin.firstCells, loadCells, loadCellsFrom, hc, storeCells]
    unfold Oper.wp execOp
    simp only [ho, resolve, invoke, builtin, Sem.run_bind, Sem.run_pure, Result.andThen_ok, List.map_toArray, List.map_cons, List.map_nil, hs, hx, hr]
    exact h v w (by simpa using hown) ⟨rfl, rfl, rfl, Nat.le_refl _, fun _ _ _ => rfl⟩ (.inl rfl)
  · obtain ⟨b, off, rfl, hc⟩ := hsrc hm
    obtain ⟨v', w', hr, h2, h3, _, h5⟩ := run_append_own_at (P := P) w base t o.type e i z size bytes ht hi0 hi1 hi2 hi3 hzs hsz v n xs hown ⟨b, off, none⟩ m c news hl (fun j y hy => by
      have hadd : (⟨b, off, none⟩ : Addr).add j = ⟨b, off + j, none⟩ := by unfold Addr.add; split <;> simp_all
      rw [hadd]; exact hc j y hy) h1 h63 hbytes hbase
    unfold Oper.wp execOp
    simp only [ho, resolve, invoke, builtin, Sem.run_bind, Sem.run_pure, Result.andThen_ok, List.map_toArray, List.map_cons, List.map_nil, hs, hx, hr]
    exact h v' w' h2 h3 h5

/-- The row of no elements that 'T{}' lays is owned. -/
theorem owns_empty {w : World} {b e size : Nat} (base : Nat) (hb : w.heap[b]? = some (.cells #[] e (0, 0))) (h : base ≤ b) : w.ownsRow base e size (.slice (some ⟨b, 0, none⟩) 0 0) 0 [] :=
  ⟨by simp, .inr ⟨b, 0, #[], rfl, h, hb, Nat.le_refl _, Nat.zero_le _, by simp, by simp⟩⟩
end

/-- An operation that leaves the world as it is, at the world at hand. -/
theorem wp_exec {P : Program} {o : Oper} {a : Act} {w : World} {K : Act → World → Prop} {Q : Exit → Act → World → Prop} {v : Value} (h : (execOp a.eval o).run P w = .ok (.value v) w) (k : K (a.put o.dst v) w) : o.wp P a w K Q := by
  unfold Oper.wp
  rw [h]
  exact k

/-- A block that has been made since. -/
def New (w w' : World) : Nat → Prop := fun k => w.heap.size ≤ k ∧ k < w'.heap.size

theorem intC_one {cs : Array Value} {x : Int} (h : IntC cs x) : ∀ c ∈ cs, c.oneCell' = true := by subst h; simp [Value.oneCell']
theorem byteC_one {cs : Array Value} {x : UInt8} (h : ByteC cs x) : ∀ c ∈ cs, c.oneCell' = true := by subst h; simp [byteV, Value.oneCell']
theorem idCells_one (x : List UInt8) : ∀ c ∈ idCells x, c.oneCell' = true := by
  intro c hc
  simp only [idCells, List.mem_toArray, List.mem_map] at hc
  obtain ⟨b, _, rfl⟩ := hc
  rfl
theorem idC_one {cs : Array Value} {x : List UInt8} (h : IdC cs x) : ∀ c ∈ cs, c.oneCell' = true := by
  rw [h.1]; exact idCells_one x
theorem all2_one {α : Type} {R : Array Value → α → Prop} {css : List (Array Value)} {l : List α} (h : All2 R css l) (h1 : ∀ cs x, R cs x → ∀ c ∈ cs, c.oneCell' = true) : ∀ c ∈ css.flatMap Array.toList, c.oneCell' = true := by
  intro c hc
  obtain ⟨cs, hcs, hc⟩ := List.mem_flatMap.1 hc
  obtain ⟨i, hi, rfl⟩ := List.getElem_of_mem hcs
  exact h1 _ _ (h.2 i hi (h.1 ▸ hi)) c (by simpa using hc)

theorem grown_mod {S : Nat → Prop} {a w w' : World} {row : Option Nat} (h : Mod S a w) (hg : w.grownBy w' row) (hr : ∀ k, row = some k → k < a.heap.size → S k) : Mod S a w' := h.grown hg hr

end Go.Proofs.YtchkikmmcmjcgaaGreat

/- SHA-256 in plain words: what both texts compute. -/
namespace Go.Proofs.YtchkikmmcmjcgaaGreat
set_option linter.unusedSimpArgs false
set_option linter.unusedVariables false
set_option linter.unnecessarySimpa false
set_option linter.unusedSectionVars false
open Go.RowKit

/-! ### Words -/
def shlU (x : UInt32) (n : Nat) : UInt32 := UInt32.ofNat (x.toNat * 2 ^ n)
def shrU (x : UInt32) (n : Nat) : UInt32 := UInt32.ofNat (x.toNat / 2 ^ n)
def rotr (x : UInt32) (n : Nat) : UInt32 := shlU x (32 - n) ||| shrU x n
def byteW (b : UInt8) : UInt32 := UInt32.ofNat b.toNat
structure W8 where
  a : UInt32
  b : UInt32
  c : UInt32
  d : UInt32
  e : UInt32
  f : UInt32
  g : UInt32
  h : UInt32
deriving DecidableEq
def W8.list (s : W8) : List UInt32 := [s.a, s.b, s.c, s.d, s.e, s.f, s.g, s.h]
def shaBegin : W8 := ⟨0x6a09e667, 0xbb67ae85, 0x3c6ef372, 0xa54ff53a, 0x510e527f, 0x9b05688c, 0x1f83d9ab, 0x5be0cd19⟩
def shaKeys : List UInt32 := [
  0x428a2f98, 0x71374491, 0xb5c0fbcf, 0xe9b5dba5, 0x3956c25b, 0x59f111f1, 0x923f82a4, 0xab1c5ed5,
  0xd807aa98, 0x12835b01, 0x243185be, 0x550c7dc3, 0x72be5d74, 0x80deb1fe, 0x9bdc06a7, 0xc19bf174,
  0xe49b69c1, 0xefbe4786, 0x0fc19dc6, 0x240ca1cc, 0x2de92c6f, 0x4a7484aa, 0x5cb0a9dc, 0x76f988da,
  0x983e5152, 0xa831c66d, 0xb00327c8, 0xbf597fc7, 0xc6e00bf3, 0xd5a79147, 0x06ca6351, 0x14292967,
  0x27b70a85, 0x2e1b2138, 0x4d2c6dfc, 0x53380d13, 0x650a7354, 0x766a0abb, 0x81c2c92e, 0x92722c85,
  0xa2bfe8a1, 0xa81a664b, 0xc24b8b70, 0xc76c51a3, 0xd192e819, 0xd6990624, 0xf40e3585, 0x106aa070,
  0x19a4c116, 0x1e376c08, 0x2748774c, 0x34b0bcb5, 0x391c0cb3, 0x4ed8aa4a, 0x5b9cca4f, 0x682e6ff3,
  0x748f82ee, 0x78a5636f, 0x84c87814, 0x8cc70208, 0x90befffa, 0xa4506ceb, 0xbef9a3f7, 0xc67178f2]
/-- The i-th of a block's first sixteen words. -/
def wordAt (b : List UInt8) (i : Nat) : UInt32 :=
  ((shlU (byteW (b.getD (4 * i) 0)) 24 ||| shlU (byteW (b.getD (4 * i + 1) 0)) 16) ||| shlU (byteW (b.getD (4 * i + 2) 0)) 8) ||| byteW (b.getD (4 * i + 3) 0)
def sig0 (x : UInt32) : UInt32 := (rotr x 7 ^^^ rotr x 18) ^^^ shrU x 3
def sig1 (x : UInt32) : UInt32 := (rotr x 17 ^^^ rotr x 19) ^^^ shrU x 10
def wordNext (w : List UInt32) (i : Nat) : UInt32 := ((w.getD (i - 16) 0 + sig0 (w.getD (i - 15) 0)) + w.getD (i - 7) 0) + sig1 (w.getD (i - 2) 0)
/-- A block's first n words. -/
def spreadL (b : List UInt8) : Nat → List UInt32
  | 0 => []
  | i + 1 => spreadL b i ++ [if i < 16 then wordAt b i else wordNext (spreadL b i) i]
theorem spreadL_len (b : List UInt8) : ∀ n, (spreadL b n).length = n
  | 0 => rfl
  | n + 1 => by simp [spreadL, spreadL_len b n]
def roundX (c : W8) (k w : UInt32) : UInt32 := (((c.h + ((rotr c.e 6 ^^^ rotr c.e 11) ^^^ rotr c.e 25)) + ((c.e &&& c.f) ^^^ ((4294967295 ^^^ c.e) &&& c.g))) + k) + w
def roundY (c : W8) : UInt32 := ((rotr c.a 2 ^^^ rotr c.a 13) ^^^ rotr c.a 22) + (((c.a &&& c.b) ^^^ (c.a &&& c.c)) ^^^ (c.b &&& c.c))
def round (c : W8) (k w : UInt32) : W8 := ⟨roundX c k w + roundY c, c.a, c.b, c.c, c.d + roundX c k w, c.e, c.f, c.g⟩
def rounds (ks ws : List UInt32) : Nat → W8 → W8
  | 0, c => c
  | i + 1, c => round (rounds ks ws i c) (ks.getD i 0) (ws.getD i 0)
def addW (s t : W8) : W8 := ⟨s.a + t.a, s.b + t.b, s.c + t.c, s.d + t.d, s.e + t.e, s.f + t.f, s.g + t.g, s.h + t.h⟩
def blockL (s : W8) (b : List UInt8) : W8 := addW s (rounds shaKeys (spreadL b 64) 64 s)
/-- The whole blocks of a text. -/
def blocksL : Nat → W8 → List UInt8 → W8
  | 0, s, _ => s
  | n + 1, s, m => blocksL n (blockL s (m.take 64)) (m.drop 64)
theorem blocksL_add : ∀ (n k : Nat) (s : W8) (m : List UInt8), blocksL (n + k) s m = blocksL k (blocksL n s m) (m.drop (64 * n))
  | 0, k, s, m => by simp [blocksL]
  | n + 1, k, s, m => by
    rw [show n + 1 + k = (n + k) + 1 by omega]
    simp only [blocksL]
    rw [blocksL_add n k, List.drop_drop]
    congr 2; omega
theorem blocksL_app : ∀ (n : Nat) (s : W8) (m t : List UInt8), 64 * n ≤ m.length → blocksL n s (m ++ t) = blocksL n s m
  | 0, _, _, _, _ => rfl
  | n + 1, s, m, t, h => by
    simp only [blocksL]
    rw [List.take_append_of_le_length (by omega), List.drop_append_of_le_length (by omega), blocksL_app n _ _ _ (by simp; omega)]
/-- How many noughts stand behind the 128, and the length's bytes. -/
def padN (n : Nat) : Nat := (119 - n % 64) % 64
def lenBytes (n : Nat) : List UInt8 := (List.range 8).map fun i => UInt8.ofNat (n * 8 / 2 ^ (56 - 8 * i))
def padL (m : List UInt8) : List UInt8 := m ++ [128] ++ List.replicate (padN m.length) 0 ++ lenBytes m.length
theorem lenBytes_len (n : Nat) : (lenBytes n).length = 8 := by simp [lenBytes]
theorem padL_len (m : List UInt8) : (padL m).length = m.length + 9 + padN m.length ∧ (padL m).length % 64 = 0 := by
  have h : (padL m).length = m.length + 9 + padN m.length := by simp [padL, lenBytes_len]; omega
  refine ⟨h, ?_⟩
  rw [h]
  unfold padN
  omega
def outByte (s : W8) (i : Nat) : UInt8 := UInt8.ofNat (shrU (s.list.getD (i / 4) 0) (24 - 8 * (i % 4))).toNat
def outL (s : W8) : List UInt8 := (List.range 32).map (outByte s)
def shaL (m : List UInt8) : List UInt8 := outL (blocksL ((padL m).length / 64) shaBegin (padL m))
theorem shaL_len (m : List UInt8) : (shaL m).length = 32 := by simp [shaL, outL]

/-! ### Words in memory, and what the operations on them give -/
def wordV (x : UInt32) : Value := .int .u32 (x.toNat : Int)
def wordCells (l : List UInt32) : Array Value := (l.map wordV).toArray
theorem wordCells_size (l : List UInt32) : (wordCells l).size = l.length := by simp [wordCells]
theorem wordCells_at {l : List UInt32} {i : Nat} (h : i < l.length) : (wordCells l)[i]? = some (wordV l[i]) := by simp [wordCells, h]
theorem wordCells_one (l : List UInt32) : ∀ c ∈ wordCells l, c.oneCell' = true := by
  intro c hc
  simp [wordCells] at hc
  obtain ⟨x, _, rfl⟩ := hc
  rfl
end Go.Proofs.YtchkikmmcmjcgaaGreat

/- What the operations on words and bytes give. -/
namespace Go.Proofs.YtchkikmmcmjcgaaGreat
set_option linter.unusedSimpArgs false
set_option linter.unusedVariables false
set_option linter.unnecessarySimpa false
set_option linter.unusedSectionVars false
open Go.RowKit

section
variable {P : Program} {w : World} {o : Oper} {a : Act}
theorem w_lt (m : UInt32) : m.toNat < 4294967296 := m.toNat_lt
theorem exec_xor32 (t : TypeId) (x y : Operand) (yt : TypeId) (m n : UInt32) (ho : o.op = .binOp .xor t x y yt) (hx : a.eval x = wordV m) (hy : a.eval y = wordV n) : (execOp a.eval o).run P w = .ok (.value (wordV (m ^^^ n))) w := by
  have hb := u32_xor_nat m.toNat n.toNat (w_lt m) (w_lt n)
  unfold execOp
  unfold wordV at hx hy ⊢
  simp only [ho, hx, hy]
  go_simp
theorem exec_and32 (t : TypeId) (x y : Operand) (yt : TypeId) (m n : UInt32) (ho : o.op = .binOp .and t x y yt) (hx : a.eval x = wordV m) (hy : a.eval y = wordV n) : (execOp a.eval o).run P w = .ok (.value (wordV (m &&& n))) w := by
  have hb := u32_and_nat m.toNat n.toNat (w_lt m) (w_lt n)
  unfold execOp
  unfold wordV at hx hy ⊢
  simp only [ho, hx, hy]
  go_simp
theorem exec_or32 (t : TypeId) (x y : Operand) (yt : TypeId) (m n : UInt32) (ho : o.op = .binOp .or t x y yt) (hx : a.eval x = wordV m) (hy : a.eval y = wordV n) : (execOp a.eval o).run P w = .ok (.value (wordV (m ||| n))) w := by
  have hb := u32_or_nat m.toNat n.toNat (w_lt m) (w_lt n)
  unfold execOp
  unfold wordV at hx hy ⊢
  simp only [ho, hx, hy]
  go_simp
theorem exec_add32 (t : TypeId) (x y : Operand) (yt : TypeId) (m n : UInt32) (ho : o.op = .binOp .add t x y yt) (hx : a.eval x = wordV m) (hy : a.eval y = wordV n) : (execOp a.eval o).run P w = .ok (.value (wordV (m + n))) w := by
  unfold execOp
  unfold wordV at hx hy ⊢
  simp only [ho, hx, hy]
  go_simp
  rw [IntKind.wrap_u32']
theorem exec_not32 (t : TypeId) (x : Operand) (m : UInt32) (ho : o.op = .unOp .xor t x) (hx : a.eval x = wordV m) : (execOp a.eval o).run P w = .ok (.value (wordV (4294967295 ^^^ m))) w := by
  have hb := u32_xor_nat 4294967295 m.toNat (by omega) (w_lt m)
  unfold execOp
  unfold wordV at hx ⊢
  simp only [ho, hx]
  go_simp
  exact hb
theorem exec_shl32 (t : TypeId) (x y : Operand) (yt : TypeId) (m : UInt32) (k : IntKind) (n : Nat) (ho : o.op = .binOp .shl t x y yt) (hx : a.eval x = wordV m) (hy : a.eval y = .int k (n : Int)) (hn : n ≤ 32) : (execOp a.eval o).run P w = .ok (.value (wordV (shlU m n))) w := by
  unfold execOp
  unfold wordV shlU at *
  simp only [ho, hx, hy]
  go_simp
  rw [IntKind.wrap_u32']
theorem exec_shr32 (t : TypeId) (x y : Operand) (yt : TypeId) (m : UInt32) (k : IntKind) (n : Nat) (ho : o.op = .binOp .shr t x y yt) (hx : a.eval x = wordV m) (hy : a.eval y = .int k (n : Int)) (hn : n ≤ 32) : (execOp a.eval o).run P w = .ok (.value (wordV (shrU m n))) w := by
  unfold execOp
  unfold wordV shrU at *
  simp only [ho, hx, hy]
  go_simp
  have h1 : (0 : Int) ≤ (m.toNat : Int) / 2 ^ n := Int.ediv_nonneg (by omega) (Int.le_of_lt (Int.pow_pos (by omega)))
  have h2 : (m.toNat : Int) / 2 ^ n ≤ (m.toNat : Int) := Int.ediv_le_self _ (by omega)
  have h3 := w_lt m
  rw [Int.emod_eq_of_lt h1 (by omega)]
theorem exec_word_of_byte (t u : TypeId) (x : Operand) (m : UInt8) (ho : o.op = .convert t u x) (hx : a.eval x = byteV m) (ht : (P.underlying t).isSome = true) (hu : P.underlying u = some (.int .u32)) :
    (execOp a.eval o).run P w = .ok (.value (wordV (byteW m))) w := by
  unfold execOp
  unfold byteV at hx
  simp only [ho, hx]
  have hk : P.intKind u = .u32 := by simp [Program.intKind, hu]
  have h1 := run_convert_int (P := P) w t u .u8 (m.toNat : Int) ht (by rw [hk]; exact hu)
  rw [hk] at h1
  have h2 : IntKind.u32.wrap (m.toNat : Int) = ((byteW m).toNat : Int) := by
    rw [IntKind.wrap_u32']
    unfold byteW
    have h9 := m.toNat_lt
    simp
    omega
  rw [h2] at h1
  rw [Sem.run_bind, h1]
  rfl
theorem exec_byte_of_word (t u : TypeId) (x : Operand) (m : UInt32) (ho : o.op = .convert t u x) (hx : a.eval x = wordV m) (ht : (P.underlying t).isSome = true) (hu : P.underlying u = some (.int .u8)) :
    (execOp a.eval o).run P w = .ok (.value (byteV (UInt8.ofNat m.toNat))) w := by
  unfold execOp
  unfold wordV at hx
  simp only [ho, hx]
  have hk : P.intKind u = .u8 := by simp [Program.intKind, hu]
  have h1 := run_convert_int (P := P) w t u .u32 (m.toNat : Int) ht (by rw [hk]; exact hu)
  rw [hk] at h1
  have h2 : IntKind.u8.wrap (m.toNat : Int) = ((UInt8.ofNat m.toNat).toNat : Int) := by
    rw [IntKind.wrap_u8']
    simp
  rw [h2] at h1
  rw [Sem.run_bind, h1]
  rfl
end
section
variable {P : Program} {ops : Array Oper} {Q : Exit → Act → World → Prop} {S : World → Prop} {o : Oper} {r : List (Oper × Nat)} {a : Act} {w : World}
theorem wpPi_xor32 (t : TypeId) (x y : Operand) (yt : TypeId) (m n : UInt32) (hw : Region.wanted o (yielded ops a.tmps) = true) (ho : o.op = .binOp .xor t x y yt) (hx : a.eval x = wordV m) (hy : a.eval y = wordV n)
    (h : wpPi P ops Q S r (a.put o.dst (wordV (m ^^^ n))) w) : wpPi P ops Q S ((o, 3) :: r) a w := wpPi_any hw (fun _ => exec_xor32 t x y yt m n ho hx hy) h
theorem wpPi_and32 (t : TypeId) (x y : Operand) (yt : TypeId) (m n : UInt32) (hw : Region.wanted o (yielded ops a.tmps) = true) (ho : o.op = .binOp .and t x y yt) (hx : a.eval x = wordV m) (hy : a.eval y = wordV n)
    (h : wpPi P ops Q S r (a.put o.dst (wordV (m &&& n))) w) : wpPi P ops Q S ((o, 3) :: r) a w := wpPi_any hw (fun _ => exec_and32 t x y yt m n ho hx hy) h
theorem wpPi_or32 (t : TypeId) (x y : Operand) (yt : TypeId) (m n : UInt32) (hw : Region.wanted o (yielded ops a.tmps) = true) (ho : o.op = .binOp .or t x y yt) (hx : a.eval x = wordV m) (hy : a.eval y = wordV n)
    (h : wpPi P ops Q S r (a.put o.dst (wordV (m ||| n))) w) : wpPi P ops Q S ((o, 3) :: r) a w := wpPi_any hw (fun _ => exec_or32 t x y yt m n ho hx hy) h
theorem wpPi_add32 (t : TypeId) (x y : Operand) (yt : TypeId) (m n : UInt32) (hw : Region.wanted o (yielded ops a.tmps) = true) (ho : o.op = .binOp .add t x y yt) (hx : a.eval x = wordV m) (hy : a.eval y = wordV n)
    (h : wpPi P ops Q S r (a.put o.dst (wordV (m + n))) w) : wpPi P ops Q S ((o, 3) :: r) a w := wpPi_any hw (fun _ => exec_add32 t x y yt m n ho hx hy) h
theorem wpPi_not32 (t : TypeId) (x : Operand) (m : UInt32) (hw : Region.wanted o (yielded ops a.tmps) = true) (ho : o.op = .unOp .xor t x) (hx : a.eval x = wordV m)
    (h : wpPi P ops Q S r (a.put o.dst (wordV (4294967295 ^^^ m))) w) : wpPi P ops Q S ((o, 3) :: r) a w := wpPi_any hw (fun _ => exec_not32 t x m ho hx) h
theorem wpPi_shl32 (t : TypeId) (x y : Operand) (yt : TypeId) (m : UInt32) (k : IntKind) (n : Nat) (hw : Region.wanted o (yielded ops a.tmps) = true) (ho : o.op = .binOp .shl t x y yt) (hx : a.eval x = wordV m) (hy : a.eval y = .int k (n : Int)) (hn : n ≤ 32)
    (h : wpPi P ops Q S r (a.put o.dst (wordV (shlU m n))) w) : wpPi P ops Q S ((o, 3) :: r) a w := wpPi_any hw (fun _ => exec_shl32 t x y yt m k n ho hx hy hn) h
theorem wpPi_shr32 (t : TypeId) (x y : Operand) (yt : TypeId) (m : UInt32) (k : IntKind) (n : Nat) (hw : Region.wanted o (yielded ops a.tmps) = true) (ho : o.op = .binOp .shr t x y yt) (hx : a.eval x = wordV m) (hy : a.eval y = .int k (n : Int)) (hn : n ≤ 32)
    (h : wpPi P ops Q S r (a.put o.dst (wordV (shrU m n))) w) : wpPi P ops Q S ((o, 3) :: r) a w := wpPi_any hw (fun _ => exec_shr32 t x y yt m k n ho hx hy hn) h
end
end Go.Proofs.YtchkikmmcmjcgaaGreat

/- Two rules for numbers. -/
namespace Go.Proofs.YtchkikmmcmjcgaaGreat
set_option linter.unusedSimpArgs false
set_option linter.unusedVariables false
set_option linter.unnecessarySimpa false
set_option linter.unusedSectionVars false
open Go.RowKit

theorem wpPi_subR {P : Program} {ops : Array Oper} {Q : Exit → Act → World → Prop} {S : World → Prop} {o : Oper} {r : List (Oper × Nat)} {a : Act} {w : World} (t : TypeId) (x y : Operand) (yt : TypeId) (m n d : Int) (hw : Region.wanted o (yielded ops a.tmps) = true) (ho : o.op = .binOp .sub t x y yt) (hx : a.eval x = .int .i64 m) (hy : a.eval y = .int .i64 n)
    (hd : m - n = d) (h1 : -9223372036854775808 ≤ d) (h2 : d ≤ 9223372036854775807) (h : wpPi P ops Q S r (a.put o.dst (.int .i64 d)) w) : wpPi P ops Q S ((o, 3) :: r) a w := by
  subst hd
  exact wpPi_sub t x y yt m n hw ho hx hy h1 h2 h
theorem wpPi_addR {P : Program} {ops : Array Oper} {Q : Exit → Act → World → Prop} {S : World → Prop} {o : Oper} {r : List (Oper × Nat)} {a : Act} {w : World} (t : TypeId) (x y : Operand) (yt : TypeId) (m n d : Int) (hw : Region.wanted o (yielded ops a.tmps) = true) (ho : o.op = .binOp .add t x y yt) (hx : a.eval x = .int .i64 m) (hy : a.eval y = .int .i64 n)
    (hd : m + n = d) (h1 : -9223372036854775808 ≤ d) (h2 : d ≤ 9223372036854775807) (h : wpPi P ops Q S r (a.put o.dst (.int .i64 d)) w) : wpPi P ops Q S ((o, 3) :: r) a w := by
  subst hd
  exact wpPi_add t x y yt m n hw ho hx hy h1 h2 h
theorem run_indexAt_arr {P : Program} {t e : TypeId} {b off len n i : Nat} (hu : P.underlying t = some (.array len e)) (hi : (P.info? e).map (·.size) = some n) (h : i < len) (w : World) :
    (Instr.indexAt t (.pointer (some ⟨b, off, none⟩)) (.int .i64 i)).run P w = .ok (.pointer (some ⟨b, off + i * n, none⟩)) w := by
  have hadd : (⟨b, off, none⟩ : Addr).add (i * n) = ⟨b, off + i * n, none⟩ := by unfold Addr.add; split <;> simp_all
  cases hq : P.info? e with
  | none => simp [hq] at hi
  | some j =>
    have hs : j.size = n := by simpa [hq] using hi
    simp [Instr.indexAt, Instr.sureAddr, asIntOf, run_underlying hu, h, sizeOf, typeInfo, hq, hs, hadd]
theorem wpPi_indexA {P : Program} {ops : Array Oper} {Q : Exit → Act → World → Prop} {S : World → Prop} {o : Oper} {r : List (Oper × Nat)} {a : Act} {w : World} (t : TypeId) (x y : Operand) (e : TypeId) (b off len n i : Nat) (hw : Region.wanted o (yielded ops a.tmps) = true) (ho : o.op = .indexAddr t x y)
    (hx : a.eval x = .pointer (some ⟨b, off, none⟩)) (hy : a.eval y = .int .i64 i) (hu : P.underlying t = some (.array len e)) (hi : (P.info? e).map (·.size) = some n) (hlt : i < len)
    (h : wpPi P ops Q S r (a.put o.dst (.pointer (some ⟨b, off + i * n, none⟩))) w) : wpPi P ops Q S ((o, 3) :: r) a w :=
  wpPi_any hw (fun w => by unfold execOp; simp only [ho, hx, hy, Sem.run_bind, run_indexAt_arr hu hi hlt, Result.andThen_ok, Sem.run_pure]) h
theorem exec_lss_str {P : Program} {w : World} {o : Oper} {a : Act} (t : TypeId) (x y : Operand) (yt : TypeId) (ho : o.op = .binOp .lss t x y yt) (m n : ByteArray)
    (hx : a.eval x = .string m) (hy : a.eval y = .string n) (b : Bool) (hb : Op.bytesLess m.toList n.toList = b) : (execOp a.eval o).run P w = .ok (.value (.bool b)) w := by
  subst hb
  unfold execOp
  simp [ho, hx, hy, eqGuard, binOp, Op.stringOp]
theorem exec_neq_str {P : Program} {w : World} {o : Oper} {a : Act} (t : TypeId) (x y : Operand) (yt : TypeId) (ho : o.op = .binOp .neq t x y yt) (m n : ByteArray)
    (hx : a.eval x = .string m) (hy : a.eval y = .string n) (b : Bool) (hb : decide (m ≠ n) = b) : (execOp a.eval o).run P w = .ok (.value (.bool b)) w := by
  subst hb
  unfold execOp
  have h : (!(m.toList == n.toList)) = decide (m ≠ n) := by
    rw [← beq_toListBytes, Bool.eq_iff_iff, decide_eq_true_iff]
    obtain ⟨⟨x⟩⟩ := m
    obtain ⟨⟨y⟩⟩ := n
    show (!((⟨x⟩ : Array UInt8) == ⟨y⟩)) = true ↔ _
    simp
  simp [ho, hx, hy, eqGuard, binOp, Op.stringOp, h]
theorem wpPi_mulR {P : Program} {ops : Array Oper} {Q : Exit → Act → World → Prop} {S : World → Prop} {o : Oper} {r : List (Oper × Nat)} {a : Act} {w : World} (t : TypeId) (x y : Operand) (yt : TypeId) (m n d : Int) (hw : Region.wanted o (yielded ops a.tmps) = true) (ho : o.op = .binOp .mul t x y yt) (hx : a.eval x = .int .i64 m) (hy : a.eval y = .int .i64 n)
    (hd : m * n = d) (h1 : -9223372036854775808 ≤ d) (h2 : d ≤ 9223372036854775807) (h : wpPi P ops Q S r (a.put o.dst (.int .i64 d)) w) : wpPi P ops Q S ((o, 3) :: r) a w := by
  subst hd
  exact wpPi_mul t x y yt m n hw ho hx hy h1 h2 h
end Go.Proofs.YtchkikmmcmjcgaaGreat

/- The call returns v; the world is as it was. -/
namespace Go.Proofs.YtchkikmmcmjcgaaGreat
set_option linter.unusedSimpArgs false
set_option linter.unusedVariables false
set_option linter.unnecessarySimpa false
set_option linter.unusedSectionVars false
def RetE (v : Value) (w : World) : Ending → World → Prop := fun e w' => e = .returned v ∧ w' = w
end Go.Proofs.YtchkikmmcmjcgaaGreat

/- SHA-256: turned words, the first words, the keys, a block's words. -/
namespace Go.Proofs.YtchkikmmcmjcgaaGreat
set_option linter.unusedSimpArgs false
set_option linter.unusedVariables false
set_option linter.unnecessarySimpa false
set_option linter.unusedSectionVars false
open Go.RowKit


section
variable {P : Program} {w : World} {o : Oper} {a : Act}
theorem exec_conv_uint (t u : TypeId) (x : Operand) (m : Int) (ho : o.op = .convert t u x) (hx : a.eval x = .int .i64 m) (ht : (P.underlying t).isSome = true) (hu : P.underlying u = some (.int .u64)) (v : Int) (hv : IntKind.u64.wrap m = v) :
    (execOp a.eval o).run P w = .ok (.value (.int .u64 v)) w := by
  subst hv
  unfold execOp
  simp only [ho, hx]
  have hk : P.intKind u = .u64 := by simp [Program.intKind, hu]
  have h1 := run_convert_int (P := P) w t u .i64 m ht (by rw [hk]; exact hu)
  rw [hk] at h1
  rw [Sem.run_bind, h1]
  rfl
theorem exec_and64 (t : TypeId) (x y : Operand) (yt : TypeId) (m n : Int) (ho : o.op = .binOp .and t x y yt) (hx : a.eval x = .int .u64 m) (hy : a.eval y = .int .u64 n) (v : Int) (hv : bits .and .u64 m n = v) : (execOp a.eval o).run P w = .ok (.value (.int .u64 v)) w := by
  subst hv
  unfold execOp
  simp only [ho, hx, hy]
  go_simp
theorem exec_sub64 (t : TypeId) (x y : Operand) (yt : TypeId) (m n : Int) (ho : o.op = .binOp .sub t x y yt) (hx : a.eval x = .int .u64 m) (hy : a.eval y = .int .u64 n) (v : Int) (hv : IntKind.u64.wrap (m - n) = v) : (execOp a.eval o).run P w = .ok (.value (.int .u64 v)) w := by
  subst hv
  unfold execOp
  simp only [ho, hx, hy]
  go_simp
theorem exec_neg (t : TypeId) (x : Operand) (m : Int) (ho : o.op = .unOp .neg t x) (hx : a.eval x = .int .i64 m) (v : Int) (hv : IntKind.i64.wrap (0 - m) = v) : (execOp a.eval o).run P w = .ok (.value (.int .i64 v)) w := by
  subst hv
  unfold execOp
  simp only [ho, hx]
  go_simp
end
theorem and31 (n : Nat) (h : 0 < n ∧ n < 32) : bits .and .u64 ((18446744073709551616 - n : Nat) : Int) ((31 : Nat) : Int) = ((32 - n : Nat) : Int) := by
  rw [u64_and_nat _ _ (by omega) (by omega)]
  congr 1
  rw [show (31 : Nat) = 2 ^ 5 - 1 by rfl, Nat.and_two_pow_sub_one_eq_mod]
  omega
set_option maxRecDepth 10000 in
theorem rotL_any (x : UInt32) (n : Nat) (h : 0 < n ∧ n < 32) (w : World) : Calls Tryz.prog 100 #[wordV x, .int .i64 (-(n : Int))] w (RetE (wordV (rotr x n)) w) := by
  go_enter Tryz.func100, Tryz.ntmps100
  go_upto_region 1 with (fail)
  have h1 : IntKind.u64.wrap (-(n : Int)) = ((18446744073709551616 - n : Nat) : Int) := by simp [IntKind.wrap, IntKind.bits, IntKind.signed]; omega
  have h2 := and31 n h
  have h3 : IntKind.u64.wrap ((32 : Int) - ((32 - n : Nat) : Int)) = ((n : Nat) : Int) := by simp [IntKind.wrap, IntKind.bits, IntKind.signed]; omega
  have H1 := Lib.hid h1; have H2 := Lib.hid h2; have H3 := Lib.hid h3
  clear h1 h2 h3
  refine wp_region_seq [3, 3, 3, 3] (fun _ => True) (by rfl) (by rfl) trivial ?_
  simp only [List.zip_cons_cons, List.zip_nil_right]
  refine wpPi_move _ rfl rfl ?_
  simp only [pl, pn, el, ec, sz, ss, gz, gs, if_true, if_false, Bool.false_eq_true, Bool.not_true, Bool.not_false, Nat.add_zero, Nat.zero_add, Nat.reduceAdd]
  refine wpPi_any (v := .int .u64 ((18446744073709551616 - n : Nat) : Int)) rfl (fun w' => exec_conv_uint 3 87 _ _ rfl rfl (by kernel_rfl) Tryz.underlying87 _ H1.out) ?_
  simp only [pl, pn, el, ec, sz, ss, gz, gs, if_true, if_false, Bool.false_eq_true, Bool.not_true, Bool.not_false, Nat.add_zero, Nat.zero_add, Nat.reduceAdd]
  refine wpPi_any (v := .int .u64 ((32 - n : Nat) : Int)) rfl (fun w' => exec_and64 _ _ _ _ ((18446744073709551616 - n : Nat) : Int) ((31 : Nat) : Int) rfl rfl rfl _ H2.out) ?_
  simp only [pl, pn, el, ec, sz, ss, gz, gs, if_true, if_false, Bool.false_eq_true, Bool.not_true, Bool.not_false, Nat.add_zero, Nat.zero_add, Nat.reduceAdd]
  refine wpPi_assign _ rfl rfl ?_
  simp only [pl, pn, el, ec, sz, ss, gz, gs, if_true, if_false, Bool.false_eq_true, Bool.not_true, Bool.not_false, Nat.add_zero, Nat.zero_add, Nat.reduceAdd]
  refine wpPi_nil ?_
  go_upto_region 2 with (fail)
  refine wp_region_seq [3, 3, 3, 3, 3, 3, 3, 3, 3] (fun _ => True) (by rfl) (by rfl) trivial ?_
  simp only [List.zip_cons_cons, List.zip_nil_right]
  refine wpPi_move _ rfl rfl ?_
  simp only [pl, pn, el, ec, sz, ss, gz, gs, if_true, if_false, Bool.false_eq_true, Bool.not_true, Bool.not_false, Nat.add_zero, Nat.zero_add, Nat.reduceAdd]
  refine wpPi_move _ rfl rfl ?_
  simp only [pl, pn, el, ec, sz, ss, gz, gs, if_true, if_false, Bool.false_eq_true, Bool.not_true, Bool.not_false, Nat.add_zero, Nat.zero_add, Nat.reduceAdd]
  refine wpPi_shl32 _ _ _ _ _ .u64 (32 - n) rfl rfl rfl rfl (by omega) ?_
  simp only [pl, pn, el, ec, sz, ss, gz, gs, if_true, if_false, Bool.false_eq_true, Bool.not_true, Bool.not_false, Nat.add_zero, Nat.zero_add, Nat.reduceAdd]
  refine wpPi_move _ rfl rfl ?_
  simp only [pl, pn, el, ec, sz, ss, gz, gs, if_true, if_false, Bool.false_eq_true, Bool.not_true, Bool.not_false, Nat.add_zero, Nat.zero_add, Nat.reduceAdd]
  refine wpPi_move _ rfl rfl ?_
  simp only [pl, pn, el, ec, sz, ss, gz, gs, if_true, if_false, Bool.false_eq_true, Bool.not_true, Bool.not_false, Nat.add_zero, Nat.zero_add, Nat.reduceAdd]
  refine wpPi_any (v := .int .u64 ((n : Nat) : Int)) rfl (fun w' => exec_sub64 _ _ _ _ (32 : Int) ((32 - n : Nat) : Int) rfl rfl rfl _ H3.out) ?_
  simp only [pl, pn, el, ec, sz, ss, gz, gs, if_true, if_false, Bool.false_eq_true, Bool.not_true, Bool.not_false, Nat.add_zero, Nat.zero_add, Nat.reduceAdd]
  refine wpPi_shr32 _ _ _ _ _ .u64 n rfl rfl rfl rfl (by omega) ?_
  simp only [pl, pn, el, ec, sz, ss, gz, gs, if_true, if_false, Bool.false_eq_true, Bool.not_true, Bool.not_false, Nat.add_zero, Nat.zero_add, Nat.reduceAdd]
  refine wpPi_or32 _ _ _ _ _ _ rfl rfl rfl rfl ?_
  simp only [pl, pn, el, ec, sz, ss, gz, gs, if_true, if_false, Bool.false_eq_true, Bool.not_true, Bool.not_false, Nat.add_zero, Nat.zero_add, Nat.reduceAdd]
  refine wpPi_assign _ rfl rfl ?_
  simp only [pl, pn, el, ec, sz, ss, gz, gs, if_true, if_false, Bool.false_eq_true, Bool.not_true, Bool.not_false, Nat.add_zero, Nat.zero_add, Nat.reduceAdd]
  refine wpPi_nil ?_
  go_wp2
  go_ret
  exact ⟨rfl, rfl⟩
set_option maxRecDepth 10000 in
theorem turned_any (x : UInt32) (n : Nat) (h : 0 < n ∧ n < 32) (w : World) : Calls Tryz.prog 80 #[wordV x, .int .i64 (n : Int)] w (RetE (wordV (rotr x n)) w) := by
  go_enter Tryz.func80, Tryz.ntmps80
  have hneg : IntKind.i64.wrap (0 - (n : Int)) = -(n : Int) := by simp [IntKind.wrap, IntKind.bits, IntKind.signed]; omega
  have HN := Lib.hid hneg
  clear hneg
  go_upto_region 1 with (fail)
  refine wp_region_seq [3, 3, 3, 1, 3] (fun _ => True) (by rfl) (by rfl) trivial ?_
  simp only [List.zip_cons_cons, List.zip_nil_right]
  refine wpPi_move _ rfl rfl ?_
  simp only [pl, pn, el, ec, sz, ss, gz, gs, if_true, if_false, Bool.false_eq_true, Bool.not_true, Bool.not_false, Nat.add_zero, Nat.zero_add, Nat.reduceAdd]
  refine wpPi_move _ rfl rfl ?_
  simp only [pl, pn, el, ec, sz, ss, gz, gs, if_true, if_false, Bool.false_eq_true, Bool.not_true, Bool.not_false, Nat.add_zero, Nat.zero_add, Nat.reduceAdd]
  refine wpPi_any (v := .int .i64 (-(n : Int))) rfl (fun w' => exec_neg _ _ (n : Int) rfl rfl _ HN.out) ?_
  simp only [pl, pn, el, ec, sz, ss, gz, gs, if_true, if_false, Bool.false_eq_true, Bool.not_true, Bool.not_false, Nat.add_zero, Nat.zero_add, Nat.reduceAdd]
  refine wpPi_do rfl (fun K hK => ?_)
  go_wp2_with (go_at_call 100; refine (rotL_any x n h _).mono ?_; rintro _ wq ⟨rfl, hw⟩; obtain rfl := hw.symm)
  refine hK _ _ trivial ?_
  clear hK K
  try simp only [pl, pn, el, ec, sz, ss, gz, gs, if_true, if_false, Bool.false_eq_true, Bool.not_true, Bool.not_false, Nat.add_zero, Nat.zero_add, Nat.reduceAdd]
  refine wpPi_assign _ rfl rfl ?_
  simp only [pl, pn, el, ec, sz, ss, gz, gs, if_true, if_false, Bool.false_eq_true, Bool.not_true, Bool.not_false, Nat.add_zero, Nat.zero_add, Nat.reduceAdd]
  refine wpPi_nil ?_
  go_wp2
  go_ret
  exact ⟨rfl, rfl⟩
end Go.Proofs.YtchkikmmcmjcgaaGreat

/- SHA-256: a block's 64 words. -/
namespace Go.Proofs.YtchkikmmcmjcgaaGreat
set_option linter.unusedSimpArgs false
set_option linter.unusedVariables false
set_option linter.unnecessarySimpa false
set_option linter.unusedSectionVars false
open Go.RowKit


/-- The row of words, as far as it is filled. -/
def rowW (b : List UInt8) (n : Nat) : List UInt32 := spreadL b n ++ List.replicate (64 - n) 0
theorem rowW_len (b : List UInt8) {n : Nat} (h : n ≤ 64) : (rowW b n).length = 64 := by simp [rowW, spreadL_len]; omega
theorem rowW_at (b : List UInt8) {n i : Nat} (h : n ≤ 64) (hi : i < n) : (wordCells (rowW b n))[i]? = some (wordV ((spreadL b n).getD i 0)) := by
  have hl := spreadL_len b n
  rw [wordCells_at (by rw [rowW_len b h]; omega)]
  congr 2
  unfold rowW
  rw [List.getElem_append_left (by omega), List.getD_eq_getElem?_getD, List.getElem?_eq_getElem (by omega)]
  rfl
theorem rowW_set (b : List UInt8) {n : Nat} (h : n < 64) : (wordCells (rowW b n)).setIfInBounds n (wordV (if n < 16 then wordAt b n else wordNext (spreadL b n) n)) = wordCells (rowW b (n + 1)) := by
  have hl := spreadL_len b n
  apply Array.toList_inj.1
  unfold wordCells rowW
  rw [Array.toList_setIfInBounds]
  simp only [List.map_append, List.map_replicate, spreadL]
  rw [List.set_append_right _ _ (by simp [hl])]
  simp only [List.length_map, hl, Nat.sub_self]
  rw [show 64 - n = (64 - (n + 1)) + 1 by omega, List.replicate_succ, List.set_cons_zero]
  simp
def SpreadRel (b : List UInt8) (bw : Nat) (w0 : World) (i : Value) (w : World) : Prop := ∃ n : Nat, n ≤ 64 ∧ i = .int .i64 n ∧ w.heap[bw]? = some (.cells (wordCells (rowW b n)) 125 (0, 0)) ∧ Mod NoB w0 w
theorem w64Z : (Tryz.prog.info? 125).bind (·.zero) = some (.agg (wordCells (List.replicate 64 0))) := by kernel_rfl
set_option maxRecDepth 10000 in
set_option maxHeartbeats 4000000 in
theorem spread_any {own : Bool} {G : Nat → Prop} {v : Value} {b : List UInt8} {w : World} (hb : Sl own w G 1 ByteC v b) (hl : b.length = 64) : Calls Tryz.prog 79 #[v] w (RetM (.agg (wordCells (spreadL b 64))) w) := by
  obtain ⟨av, cap, rfl, hlen, hat⟩ := hb.at
  obtain ⟨bb, off, rfl, -, -, hcs⟩ := hat 0 (by omega)
  have hbyte : ∀ j, j < 64 → w.cell? ⟨bb, off + j * 1, none⟩ = some (byteV (b.getD j 0)) := fun j hj => by
    obtain ⟨cs, _, rfl, hc⟩ := hcs j (by omega)
    rw [List.getD_eq_getElem?_getD, List.getElem?_eq_getElem (by omega)]
    exact CellsAt.one.1 hc
  have hbb : bb < w.heap.size := block_lt_of_cell (hbyte 0 (by omega))
  have HB := Lib.hid hbyte
  clear hat hcs hb hbyte
  go_enter Tryz.func79, Tryz.ntmps79
  go_upto_region 0 with (fail)
  refine wp_region_seq [1] (fun _ => True) (by rfl) (by rfl) trivial ?_
  simp only [List.zip_cons_cons, List.zip_nil_right]
  refine wpPi_do rfl (fun K hK => ?_)
  refine wp_alloc 125 _ (by rfl) w64Z (fun w1 hB1 hm1 hs1 => ?_)
  replace hB1 : w1.heap[w.heap.size]? = some (.cells (wordCells (List.replicate 64 0)) 125 (0, 0)) := hB1
  refine hK _ _ trivial ?_
  clear hK K
  try simp only [pl, pn, el, ec, sz, ss, gz, gs, if_true, if_false, Bool.false_eq_true, Bool.not_true, Bool.not_false, Nat.add_zero, Nat.zero_add, Nat.reduceAdd]
  refine wpPi_nil ?_
  go_wp2
  go_loopw [6] (SpreadRel b w.heap.size w) (fun i _ => 64 - (intOf i).toNat)
  case atStart => exact ⟨0, by omega, rfl, by simpa [rowW, spreadL] using hB1, hm1⟩
  case round =>
    rename World => wr
    clear hB1 hm1 hs1
    obtain ⟨n, hn, rfl, hrow, hM⟩ := hrel
    have hbne : ¬ bb = w.heap.size := by omega
    by_cases hlt : n < 64
    · have hz : (n : Int) < 64 := by omega
      have hsz := wordCells_size (rowW b n)
      rw [rowW_len b hn] at hsz
      have hset := rowW_set b hlt
      by_cases h16 : n < 16
      · have hz2 : (n : Int) < 16 := by omega
        rw [if_pos h16] at hset
        have hbw : ∀ j, j < 64 → wr.cell? ⟨bb, off + j * 1, none⟩ = some (byteV (b.getD j 0)) := fun j hj => hM.cell id (HB.out j hj)
        have HBW := Lib.hid hbw
        have HSET := Lib.hid hset
        have h0 : 4 * n < b.length := by omega
        have h1 : 4 * n + 1 < b.length := by omega
        have h2 : 4 * n + 2 < b.length := by omega
        have h3 : 4 * n + 3 < b.length := by omega
        clear hbw hset HB
        go_upto_region 5 with (fail)
        have hS : Mod (fun k => k = w.heap.size) wr wr.drew := (Mod.refl _ _).drew
        refine wp_region_pi [(0, 3), (1, 3), (2, 3), (3, 3), (4, 3), (5, 0), (6, 3), (7, 3), (8, 3), (9, 3), (10, 3), (11, 3), (12, 3), (13, 0), (14, 3), (15, 3), (16, 3), (17, 3), (18, 3), (19, 3), (20, 3), (21, 3), (22, 0), (23, 3), (24, 3), (25, 3), (26, 3), (27, 3), (28, 3), (29, 3), (30, 3), (31, 0), (32, 3), (33, 3), (34, 3), (35, 1)] [] (fun w' => Mod (fun k => k = w.heap.size) wr w') (by kernel_rfl) (by kernel_rfl) (by kernel_rfl) (by kernel_rfl) (fun _ _ _ _ hd h => ⟨hd.trans h.1, h.2⟩) hS ?_
        simp only [List.map_cons, List.map_nil, List.getD_cons_zero, List.getD_cons_succ]
        refine wpPi_move _ rfl rfl ?_
        simp only [pl, pn, el, ec, sz, ss, gz, gs, if_true, if_false, Bool.false_eq_true, Bool.not_true, Bool.not_false, Nat.add_zero, Nat.zero_add, Nat.reduceAdd]
        refine wpPi_move _ rfl rfl ?_
        simp only [pl, pn, el, ec, sz, ss, gz, gs, if_true, if_false, Bool.false_eq_true, Bool.not_true, Bool.not_false, Nat.add_zero, Nat.zero_add, Nat.reduceAdd]
        refine wpPi_move _ rfl rfl ?_
        simp only [pl, pn, el, ec, sz, ss, gz, gs, if_true, if_false, Bool.false_eq_true, Bool.not_true, Bool.not_false, Nat.add_zero, Nat.zero_add, Nat.reduceAdd]
        refine wpPi_mulR _ _ _ _ 4 (n : Int) ((4 * n : Nat) : Int) rfl rfl rfl rfl (by omega) (by omega) (by omega) ?_
        simp only [pl, pn, el, ec, sz, ss, gz, gs, if_true, if_false, Bool.false_eq_true, Bool.not_true, Bool.not_false, Nat.add_zero, Nat.zero_add, Nat.reduceAdd]
        refine wpPi_index _ _ _ _ _ _ _ _ _ rfl rfl rfl rfl Tryz.underlying25 (n := 1) (by kernel_rfl) h0 ?_
        simp only [pl, pn, el, ec, sz, ss, gz, gs, if_true, if_false, Bool.false_eq_true, Bool.not_true, Bool.not_false, Nat.add_zero, Nat.zero_add, Nat.reduceAdd]
        refine wpPi_val rfl (fun w' hS => exec_load1 5 _ (by rfl) bb (off + 4 * n * 1) (by rfl) _ (hS.cell hbne (HBW.out (4 * n) (by omega))) _ Tryz.underlying5 rfl) ?_
        simp only [pl, pn, el, ec, sz, ss, gz, gs, if_true, if_false, Bool.false_eq_true, Bool.not_true, Bool.not_false, Nat.add_zero, Nat.zero_add, Nat.reduceAdd]
        refine wpPi_any rfl (fun w' => exec_word_of_byte _ _ _ _ rfl rfl (by kernel_rfl) Tryz.underlying91) ?_
        simp only [pl, pn, el, ec, sz, ss, gz, gs, if_true, if_false, Bool.false_eq_true, Bool.not_true, Bool.not_false, Nat.add_zero, Nat.zero_add, Nat.reduceAdd]
        refine wpPi_shl32 _ _ _ _ _ .u64 24 rfl rfl rfl rfl (by omega) ?_
        simp only [pl, pn, el, ec, sz, ss, gz, gs, if_true, if_false, Bool.false_eq_true, Bool.not_true, Bool.not_false, Nat.add_zero, Nat.zero_add, Nat.reduceAdd]
        refine wpPi_move _ rfl rfl ?_
        simp only [pl, pn, el, ec, sz, ss, gz, gs, if_true, if_false, Bool.false_eq_true, Bool.not_true, Bool.not_false, Nat.add_zero, Nat.zero_add, Nat.reduceAdd]
        refine wpPi_move _ rfl rfl ?_
        simp only [pl, pn, el, ec, sz, ss, gz, gs, if_true, if_false, Bool.false_eq_true, Bool.not_true, Bool.not_false, Nat.add_zero, Nat.zero_add, Nat.reduceAdd]
        refine wpPi_mulR _ _ _ _ 4 (n : Int) ((4 * n : Nat) : Int) rfl rfl rfl rfl (by omega) (by omega) (by omega) ?_
        simp only [pl, pn, el, ec, sz, ss, gz, gs, if_true, if_false, Bool.false_eq_true, Bool.not_true, Bool.not_false, Nat.add_zero, Nat.zero_add, Nat.reduceAdd]
        refine wpPi_addR _ _ _ _ ((4 * n : Nat) : Int) 1 ((4 * n + 1 : Nat) : Int) rfl rfl rfl rfl (by omega) (by omega) (by omega) ?_
        simp only [pl, pn, el, ec, sz, ss, gz, gs, if_true, if_false, Bool.false_eq_true, Bool.not_true, Bool.not_false, Nat.add_zero, Nat.zero_add, Nat.reduceAdd]
        refine wpPi_index _ _ _ _ _ _ _ _ _ rfl rfl rfl rfl Tryz.underlying25 (n := 1) (by kernel_rfl) h1 ?_
        simp only [pl, pn, el, ec, sz, ss, gz, gs, if_true, if_false, Bool.false_eq_true, Bool.not_true, Bool.not_false, Nat.add_zero, Nat.zero_add, Nat.reduceAdd]
        refine wpPi_val rfl (fun w' hS => exec_load1 5 _ (by rfl) bb (off + (4 * n + 1) * 1) (by rfl) _ (hS.cell hbne (HBW.out (4 * n + 1) (by omega))) _ Tryz.underlying5 rfl) ?_
        simp only [pl, pn, el, ec, sz, ss, gz, gs, if_true, if_false, Bool.false_eq_true, Bool.not_true, Bool.not_false, Nat.add_zero, Nat.zero_add, Nat.reduceAdd]
        refine wpPi_any rfl (fun w' => exec_word_of_byte _ _ _ _ rfl rfl (by kernel_rfl) Tryz.underlying91) ?_
        simp only [pl, pn, el, ec, sz, ss, gz, gs, if_true, if_false, Bool.false_eq_true, Bool.not_true, Bool.not_false, Nat.add_zero, Nat.zero_add, Nat.reduceAdd]
        refine wpPi_shl32 _ _ _ _ _ .u64 16 rfl rfl rfl rfl (by omega) ?_
        simp only [pl, pn, el, ec, sz, ss, gz, gs, if_true, if_false, Bool.false_eq_true, Bool.not_true, Bool.not_false, Nat.add_zero, Nat.zero_add, Nat.reduceAdd]
        refine wpPi_or32 _ _ _ _ _ _ rfl rfl rfl rfl ?_
        simp only [pl, pn, el, ec, sz, ss, gz, gs, if_true, if_false, Bool.false_eq_true, Bool.not_true, Bool.not_false, Nat.add_zero, Nat.zero_add, Nat.reduceAdd]
        refine wpPi_move _ rfl rfl ?_
        simp only [pl, pn, el, ec, sz, ss, gz, gs, if_true, if_false, Bool.false_eq_true, Bool.not_true, Bool.not_false, Nat.add_zero, Nat.zero_add, Nat.reduceAdd]
        refine wpPi_move _ rfl rfl ?_
        simp only [pl, pn, el, ec, sz, ss, gz, gs, if_true, if_false, Bool.false_eq_true, Bool.not_true, Bool.not_false, Nat.add_zero, Nat.zero_add, Nat.reduceAdd]
        refine wpPi_mulR _ _ _ _ 4 (n : Int) ((4 * n : Nat) : Int) rfl rfl rfl rfl (by omega) (by omega) (by omega) ?_
        simp only [pl, pn, el, ec, sz, ss, gz, gs, if_true, if_false, Bool.false_eq_true, Bool.not_true, Bool.not_false, Nat.add_zero, Nat.zero_add, Nat.reduceAdd]
        refine wpPi_addR _ _ _ _ ((4 * n : Nat) : Int) 2 ((4 * n + 2 : Nat) : Int) rfl rfl rfl rfl (by omega) (by omega) (by omega) ?_
        simp only [pl, pn, el, ec, sz, ss, gz, gs, if_true, if_false, Bool.false_eq_true, Bool.not_true, Bool.not_false, Nat.add_zero, Nat.zero_add, Nat.reduceAdd]
        refine wpPi_index _ _ _ _ _ _ _ _ _ rfl rfl rfl rfl Tryz.underlying25 (n := 1) (by kernel_rfl) h2 ?_
        simp only [pl, pn, el, ec, sz, ss, gz, gs, if_true, if_false, Bool.false_eq_true, Bool.not_true, Bool.not_false, Nat.add_zero, Nat.zero_add, Nat.reduceAdd]
        refine wpPi_val rfl (fun w' hS => exec_load1 5 _ (by rfl) bb (off + (4 * n + 2) * 1) (by rfl) _ (hS.cell hbne (HBW.out (4 * n + 2) (by omega))) _ Tryz.underlying5 rfl) ?_
        simp only [pl, pn, el, ec, sz, ss, gz, gs, if_true, if_false, Bool.false_eq_true, Bool.not_true, Bool.not_false, Nat.add_zero, Nat.zero_add, Nat.reduceAdd]
        refine wpPi_any rfl (fun w' => exec_word_of_byte _ _ _ _ rfl rfl (by kernel_rfl) Tryz.underlying91) ?_
        simp only [pl, pn, el, ec, sz, ss, gz, gs, if_true, if_false, Bool.false_eq_true, Bool.not_true, Bool.not_false, Nat.add_zero, Nat.zero_add, Nat.reduceAdd]
        refine wpPi_shl32 _ _ _ _ _ .u64 8 rfl rfl rfl rfl (by omega) ?_
        simp only [pl, pn, el, ec, sz, ss, gz, gs, if_true, if_false, Bool.false_eq_true, Bool.not_true, Bool.not_false, Nat.add_zero, Nat.zero_add, Nat.reduceAdd]
        refine wpPi_or32 _ _ _ _ _ _ rfl rfl rfl rfl ?_
        simp only [pl, pn, el, ec, sz, ss, gz, gs, if_true, if_false, Bool.false_eq_true, Bool.not_true, Bool.not_false, Nat.add_zero, Nat.zero_add, Nat.reduceAdd]
        refine wpPi_move _ rfl rfl ?_
        simp only [pl, pn, el, ec, sz, ss, gz, gs, if_true, if_false, Bool.false_eq_true, Bool.not_true, Bool.not_false, Nat.add_zero, Nat.zero_add, Nat.reduceAdd]
        refine wpPi_move _ rfl rfl ?_
        simp only [pl, pn, el, ec, sz, ss, gz, gs, if_true, if_false, Bool.false_eq_true, Bool.not_true, Bool.not_false, Nat.add_zero, Nat.zero_add, Nat.reduceAdd]
        refine wpPi_mulR _ _ _ _ 4 (n : Int) ((4 * n : Nat) : Int) rfl rfl rfl rfl (by omega) (by omega) (by omega) ?_
        simp only [pl, pn, el, ec, sz, ss, gz, gs, if_true, if_false, Bool.false_eq_true, Bool.not_true, Bool.not_false, Nat.add_zero, Nat.zero_add, Nat.reduceAdd]
        refine wpPi_addR _ _ _ _ ((4 * n : Nat) : Int) 3 ((4 * n + 3 : Nat) : Int) rfl rfl rfl rfl (by omega) (by omega) (by omega) ?_
        simp only [pl, pn, el, ec, sz, ss, gz, gs, if_true, if_false, Bool.false_eq_true, Bool.not_true, Bool.not_false, Nat.add_zero, Nat.zero_add, Nat.reduceAdd]
        refine wpPi_index _ _ _ _ _ _ _ _ _ rfl rfl rfl rfl Tryz.underlying25 (n := 1) (by kernel_rfl) h3 ?_
        simp only [pl, pn, el, ec, sz, ss, gz, gs, if_true, if_false, Bool.false_eq_true, Bool.not_true, Bool.not_false, Nat.add_zero, Nat.zero_add, Nat.reduceAdd]
        refine wpPi_val rfl (fun w' hS => exec_load1 5 _ (by rfl) bb (off + (4 * n + 3) * 1) (by rfl) _ (hS.cell hbne (HBW.out (4 * n + 3) (by omega))) _ Tryz.underlying5 rfl) ?_
        simp only [pl, pn, el, ec, sz, ss, gz, gs, if_true, if_false, Bool.false_eq_true, Bool.not_true, Bool.not_false, Nat.add_zero, Nat.zero_add, Nat.reduceAdd]
        refine wpPi_any rfl (fun w' => exec_word_of_byte _ _ _ _ rfl rfl (by kernel_rfl) Tryz.underlying91) ?_
        simp only [pl, pn, el, ec, sz, ss, gz, gs, if_true, if_false, Bool.false_eq_true, Bool.not_true, Bool.not_false, Nat.add_zero, Nat.zero_add, Nat.reduceAdd]
        refine wpPi_or32 _ _ _ _ _ _ rfl rfl rfl rfl ?_
        simp only [pl, pn, el, ec, sz, ss, gz, gs, if_true, if_false, Bool.false_eq_true, Bool.not_true, Bool.not_false, Nat.add_zero, Nat.zero_add, Nat.reduceAdd]
        refine wpPi_indexA _ _ _ _ _ _ _ _ rfl rfl rfl rfl Tryz.underlying125 (n := 1) (by kernel_rfl) hlt ?_
        simp only [pl, pn, el, ec, sz, ss, gz, gs, if_true, if_false, Bool.false_eq_true, Bool.not_true, Bool.not_false, Nat.add_zero, Nat.zero_add, Nat.reduceAdd]
        refine wpPi_do rfl (fun K hK => ?_)
        refine wp_store1 91 _ _ w.heap.size (n * 1) (wordV (wordAt b n)) (by rfl) (by rfl) (by rfl) rfl (by kernel_rfl) _ _ (show wr.drew.heap[w.heap.size]? = _ from hrow) (by rw [hsz]; omega) (fun w2 hB2 hm2 => ?_)
        rw [Nat.mul_one, HSET.out] at hB2
        replace hS := hS.trans hm2 (fun _ _ h => h)
        refine hK _ _ hS ?_
        clear hK K
        try simp only [pl, pn, el, ec, sz, ss, gz, gs, if_true, if_false, Bool.false_eq_true, Bool.not_true, Bool.not_false, Nat.add_zero, Nat.zero_add, Nat.reduceAdd]
        refine wpPi_nil ?_
        have hM2 : Mod NoB w w2 := hM.transB hS (Nat.le_refl _)
        clear hM hS hm2 hrow
        go_wp2
        go_roundw
        case rel => exact ⟨n + 1, by omega, by go_num, hB2, hM2⟩
        case measure => simp [intOf]; omega
      · have hz2 : ¬ (n : Int) < 16 := by omega
        rw [if_neg h16] at hset
        have hwd : ∀ i, i < n → (wordCells (rowW b n))[i]? = some (wordV ((spreadL b n).getD i 0)) := fun i hi => rowW_at b hn hi
        have HW := Lib.hid hwd
        have HSET := Lib.hid hset
        have hk15 : n - 15 < 64 := by omega
        have hk2 : n - 2 < 64 := by omega
        have hk16 : n - 16 < 64 := by omega
        have hk7 : n - 7 < 64 := by omega
        clear hwd hset HB
        go_upto_region 6 with (fail)
        have hS : Mod NoB wr wr.drew := (Mod.refl _ _).drew
        refine wp_region_pi [(0, 3), (1, 3), (2, 3), (3, 0), (4, 0), (5, 3), (6, 3), (7, 3), (8, 0), (9, 0), (10, 3), (11, 3), (12, 3), (13, 3), (14, 0), (15, 3), (16, 3), (17, 3)] [] (fun w' => Mod NoB wr w') (by kernel_rfl) (by kernel_rfl) (by kernel_rfl) (by kernel_rfl) (fun _ _ _ _ hd h => ⟨hd.trans h.1, h.2⟩) hS ?_
        simp only [List.map_cons, List.map_nil, List.getD_cons_zero, List.getD_cons_succ]
        refine wpPi_move _ rfl rfl ?_
        simp only [pl, pn, el, ec, sz, ss, gz, gs, if_true, if_false, Bool.false_eq_true, Bool.not_true, Bool.not_false, Nat.add_zero, Nat.zero_add, Nat.reduceAdd]
        refine wpPi_subR _ _ _ _ (n : Int) 15 ((n - 15 : Nat) : Int) rfl rfl rfl rfl (by omega) (by omega) (by omega) ?_
        simp only [pl, pn, el, ec, sz, ss, gz, gs, if_true, if_false, Bool.false_eq_true, Bool.not_true, Bool.not_false, Nat.add_zero, Nat.zero_add, Nat.reduceAdd]
        refine wpPi_indexA _ _ _ _ _ _ _ _ rfl rfl rfl rfl Tryz.underlying125 (n := 1) (by kernel_rfl) hk15 ?_
        simp only [pl, pn, el, ec, sz, ss, gz, gs, if_true, if_false, Bool.false_eq_true, Bool.not_true, Bool.not_false, Nat.add_zero, Nat.zero_add, Nat.reduceAdd]
        refine wpPi_val rfl (fun w' hS => exec_load1 91 _ (by rfl) w.heap.size ((n - 15) * 1) (by rfl) _ (by rw [cell_of_row _ _ _ _ _ _ (hS.obj id hrow), Nat.mul_one]; exact HW.out (n - 15) (by omega)) _ Tryz.underlying91 rfl) ?_
        simp only [pl, pn, el, ec, sz, ss, gz, gs, if_true, if_false, Bool.false_eq_true, Bool.not_true, Bool.not_false, Nat.add_zero, Nat.zero_add, Nat.reduceAdd]
        refine wpPi_call (f := 80) rfl ?_ (fun w' hS => turned_any ((spreadL b n).getD (n - 15) 0) 7 (by omega) w') ?_
        · exact run_call 80 _ _ rfl _ Tryz.func80 rfl (by kernel_rfl) _ rfl
        simp only [pl, pn, el, ec, sz, ss, gz, gs, if_true, if_false, Bool.false_eq_true, Bool.not_true, Bool.not_false, Nat.add_zero, Nat.zero_add, Nat.reduceAdd]
        refine wpPi_move _ rfl rfl ?_
        simp only [pl, pn, el, ec, sz, ss, gz, gs, if_true, if_false, Bool.false_eq_true, Bool.not_true, Bool.not_false, Nat.add_zero, Nat.zero_add, Nat.reduceAdd]
        refine wpPi_subR _ _ _ _ (n : Int) 15 ((n - 15 : Nat) : Int) rfl rfl rfl rfl (by omega) (by omega) (by omega) ?_
        simp only [pl, pn, el, ec, sz, ss, gz, gs, if_true, if_false, Bool.false_eq_true, Bool.not_true, Bool.not_false, Nat.add_zero, Nat.zero_add, Nat.reduceAdd]
        refine wpPi_indexA _ _ _ _ _ _ _ _ rfl rfl rfl rfl Tryz.underlying125 (n := 1) (by kernel_rfl) hk15 ?_
        simp only [pl, pn, el, ec, sz, ss, gz, gs, if_true, if_false, Bool.false_eq_true, Bool.not_true, Bool.not_false, Nat.add_zero, Nat.zero_add, Nat.reduceAdd]
        refine wpPi_val rfl (fun w' hS => exec_load1 91 _ (by rfl) w.heap.size ((n - 15) * 1) (by rfl) _ (by rw [cell_of_row _ _ _ _ _ _ (hS.obj id hrow), Nat.mul_one]; exact HW.out (n - 15) (by omega)) _ Tryz.underlying91 rfl) ?_
        simp only [pl, pn, el, ec, sz, ss, gz, gs, if_true, if_false, Bool.false_eq_true, Bool.not_true, Bool.not_false, Nat.add_zero, Nat.zero_add, Nat.reduceAdd]
        refine wpPi_call (f := 80) rfl ?_ (fun w' hS => turned_any ((spreadL b n).getD (n - 15) 0) 18 (by omega) w') ?_
        · exact run_call 80 _ _ rfl _ Tryz.func80 rfl (by kernel_rfl) _ rfl
        simp only [pl, pn, el, ec, sz, ss, gz, gs, if_true, if_false, Bool.false_eq_true, Bool.not_true, Bool.not_false, Nat.add_zero, Nat.zero_add, Nat.reduceAdd]
        refine wpPi_xor32 _ _ _ _ _ _ rfl rfl rfl rfl ?_
        simp only [pl, pn, el, ec, sz, ss, gz, gs, if_true, if_false, Bool.false_eq_true, Bool.not_true, Bool.not_false, Nat.add_zero, Nat.zero_add, Nat.reduceAdd]
        refine wpPi_move _ rfl rfl ?_
        simp only [pl, pn, el, ec, sz, ss, gz, gs, if_true, if_false, Bool.false_eq_true, Bool.not_true, Bool.not_false, Nat.add_zero, Nat.zero_add, Nat.reduceAdd]
        refine wpPi_subR _ _ _ _ (n : Int) 15 ((n - 15 : Nat) : Int) rfl rfl rfl rfl (by omega) (by omega) (by omega) ?_
        simp only [pl, pn, el, ec, sz, ss, gz, gs, if_true, if_false, Bool.false_eq_true, Bool.not_true, Bool.not_false, Nat.add_zero, Nat.zero_add, Nat.reduceAdd]
        refine wpPi_indexA _ _ _ _ _ _ _ _ rfl rfl rfl rfl Tryz.underlying125 (n := 1) (by kernel_rfl) hk15 ?_
        simp only [pl, pn, el, ec, sz, ss, gz, gs, if_true, if_false, Bool.false_eq_true, Bool.not_true, Bool.not_false, Nat.add_zero, Nat.zero_add, Nat.reduceAdd]
        refine wpPi_val rfl (fun w' hS => exec_load1 91 _ (by rfl) w.heap.size ((n - 15) * 1) (by rfl) _ (by rw [cell_of_row _ _ _ _ _ _ (hS.obj id hrow), Nat.mul_one]; exact HW.out (n - 15) (by omega)) _ Tryz.underlying91 rfl) ?_
        simp only [pl, pn, el, ec, sz, ss, gz, gs, if_true, if_false, Bool.false_eq_true, Bool.not_true, Bool.not_false, Nat.add_zero, Nat.zero_add, Nat.reduceAdd]
        refine wpPi_shr32 _ _ _ _ _ .u64 3 rfl rfl rfl rfl (by omega) ?_
        simp only [pl, pn, el, ec, sz, ss, gz, gs, if_true, if_false, Bool.false_eq_true, Bool.not_true, Bool.not_false, Nat.add_zero, Nat.zero_add, Nat.reduceAdd]
        refine wpPi_xor32 _ _ _ _ _ _ rfl rfl rfl rfl ?_
        simp only [pl, pn, el, ec, sz, ss, gz, gs, if_true, if_false, Bool.false_eq_true, Bool.not_true, Bool.not_false, Nat.add_zero, Nat.zero_add, Nat.reduceAdd]
        refine wpPi_assign _ rfl rfl ?_
        simp only [pl, pn, el, ec, sz, ss, gz, gs, if_true, if_false, Bool.false_eq_true, Bool.not_true, Bool.not_false, Nat.add_zero, Nat.zero_add, Nat.reduceAdd]
        refine wpPi_nil ?_
        replace hM := hM.trans0 hS
        replace hrow := hS.obj id hrow
        clear hS
        generalize wr.drew = wy at *
        go_upto_region 7 with (fail)
        have hS : Mod NoB wy wy.drew := (Mod.refl _ _).drew
        refine wp_region_pi [(0, 3), (1, 3), (2, 3), (3, 0), (4, 0), (5, 3), (6, 3), (7, 3), (8, 0), (9, 0), (10, 3), (11, 3), (12, 3), (13, 3), (14, 0), (15, 3), (16, 3), (17, 3)] [] (fun w' => Mod NoB wy w') (by kernel_rfl) (by kernel_rfl) (by kernel_rfl) (by kernel_rfl) (fun _ _ _ _ hd h => ⟨hd.trans h.1, h.2⟩) hS ?_
        simp only [List.map_cons, List.map_nil, List.getD_cons_zero, List.getD_cons_succ]
        refine wpPi_move _ rfl rfl ?_
        simp only [pl, pn, el, ec, sz, ss, gz, gs, if_true, if_false, Bool.false_eq_true, Bool.not_true, Bool.not_false, Nat.add_zero, Nat.zero_add, Nat.reduceAdd]
        refine wpPi_subR _ _ _ _ (n : Int) 2 ((n - 2 : Nat) : Int) rfl rfl rfl rfl (by omega) (by omega) (by omega) ?_
        simp only [pl, pn, el, ec, sz, ss, gz, gs, if_true, if_false, Bool.false_eq_true, Bool.not_true, Bool.not_false, Nat.add_zero, Nat.zero_add, Nat.reduceAdd]
        refine wpPi_indexA _ _ _ _ _ _ _ _ rfl rfl rfl rfl Tryz.underlying125 (n := 1) (by kernel_rfl) hk2 ?_
        simp only [pl, pn, el, ec, sz, ss, gz, gs, if_true, if_false, Bool.false_eq_true, Bool.not_true, Bool.not_false, Nat.add_zero, Nat.zero_add, Nat.reduceAdd]
        refine wpPi_val rfl (fun w' hS => exec_load1 91 _ (by rfl) w.heap.size ((n - 2) * 1) (by rfl) _ (by rw [cell_of_row _ _ _ _ _ _ (hS.obj id hrow), Nat.mul_one]; exact HW.out (n - 2) (by omega)) _ Tryz.underlying91 rfl) ?_
        simp only [pl, pn, el, ec, sz, ss, gz, gs, if_true, if_false, Bool.false_eq_true, Bool.not_true, Bool.not_false, Nat.add_zero, Nat.zero_add, Nat.reduceAdd]
        refine wpPi_call (f := 80) rfl ?_ (fun w' hS => turned_any ((spreadL b n).getD (n - 2) 0) 17 (by omega) w') ?_
        · exact run_call 80 _ _ rfl _ Tryz.func80 rfl (by kernel_rfl) _ rfl
        simp only [pl, pn, el, ec, sz, ss, gz, gs, if_true, if_false, Bool.false_eq_true, Bool.not_true, Bool.not_false, Nat.add_zero, Nat.zero_add, Nat.reduceAdd]
        refine wpPi_move _ rfl rfl ?_
        simp only [pl, pn, el, ec, sz, ss, gz, gs, if_true, if_false, Bool.false_eq_true, Bool.not_true, Bool.not_false, Nat.add_zero, Nat.zero_add, Nat.reduceAdd]
        refine wpPi_subR _ _ _ _ (n : Int) 2 ((n - 2 : Nat) : Int) rfl rfl rfl rfl (by omega) (by omega) (by omega) ?_
        simp only [pl, pn, el, ec, sz, ss, gz, gs, if_true, if_false, Bool.false_eq_true, Bool.not_true, Bool.not_false, Nat.add_zero, Nat.zero_add, Nat.reduceAdd]
        refine wpPi_indexA _ _ _ _ _ _ _ _ rfl rfl rfl rfl Tryz.underlying125 (n := 1) (by kernel_rfl) hk2 ?_
        simp only [pl, pn, el, ec, sz, ss, gz, gs, if_true, if_false, Bool.false_eq_true, Bool.not_true, Bool.not_false, Nat.add_zero, Nat.zero_add, Nat.reduceAdd]
        refine wpPi_val rfl (fun w' hS => exec_load1 91 _ (by rfl) w.heap.size ((n - 2) * 1) (by rfl) _ (by rw [cell_of_row _ _ _ _ _ _ (hS.obj id hrow), Nat.mul_one]; exact HW.out (n - 2) (by omega)) _ Tryz.underlying91 rfl) ?_
        simp only [pl, pn, el, ec, sz, ss, gz, gs, if_true, if_false, Bool.false_eq_true, Bool.not_true, Bool.not_false, Nat.add_zero, Nat.zero_add, Nat.reduceAdd]
        refine wpPi_call (f := 80) rfl ?_ (fun w' hS => turned_any ((spreadL b n).getD (n - 2) 0) 19 (by omega) w') ?_
        · exact run_call 80 _ _ rfl _ Tryz.func80 rfl (by kernel_rfl) _ rfl
        simp only [pl, pn, el, ec, sz, ss, gz, gs, if_true, if_false, Bool.false_eq_true, Bool.not_true, Bool.not_false, Nat.add_zero, Nat.zero_add, Nat.reduceAdd]
        refine wpPi_xor32 _ _ _ _ _ _ rfl rfl rfl rfl ?_
        simp only [pl, pn, el, ec, sz, ss, gz, gs, if_true, if_false, Bool.false_eq_true, Bool.not_true, Bool.not_false, Nat.add_zero, Nat.zero_add, Nat.reduceAdd]
        refine wpPi_move _ rfl rfl ?_
        simp only [pl, pn, el, ec, sz, ss, gz, gs, if_true, if_false, Bool.false_eq_true, Bool.not_true, Bool.not_false, Nat.add_zero, Nat.zero_add, Nat.reduceAdd]
        refine wpPi_subR _ _ _ _ (n : Int) 2 ((n - 2 : Nat) : Int) rfl rfl rfl rfl (by omega) (by omega) (by omega) ?_
        simp only [pl, pn, el, ec, sz, ss, gz, gs, if_true, if_false, Bool.false_eq_true, Bool.not_true, Bool.not_false, Nat.add_zero, Nat.zero_add, Nat.reduceAdd]
        refine wpPi_indexA _ _ _ _ _ _ _ _ rfl rfl rfl rfl Tryz.underlying125 (n := 1) (by kernel_rfl) hk2 ?_
        simp only [pl, pn, el, ec, sz, ss, gz, gs, if_true, if_false, Bool.false_eq_true, Bool.not_true, Bool.not_false, Nat.add_zero, Nat.zero_add, Nat.reduceAdd]
        refine wpPi_val rfl (fun w' hS => exec_load1 91 _ (by rfl) w.heap.size ((n - 2) * 1) (by rfl) _ (by rw [cell_of_row _ _ _ _ _ _ (hS.obj id hrow), Nat.mul_one]; exact HW.out (n - 2) (by omega)) _ Tryz.underlying91 rfl) ?_
        simp only [pl, pn, el, ec, sz, ss, gz, gs, if_true, if_false, Bool.false_eq_true, Bool.not_true, Bool.not_false, Nat.add_zero, Nat.zero_add, Nat.reduceAdd]
        refine wpPi_shr32 _ _ _ _ _ .u64 10 rfl rfl rfl rfl (by omega) ?_
        simp only [pl, pn, el, ec, sz, ss, gz, gs, if_true, if_false, Bool.false_eq_true, Bool.not_true, Bool.not_false, Nat.add_zero, Nat.zero_add, Nat.reduceAdd]
        refine wpPi_xor32 _ _ _ _ _ _ rfl rfl rfl rfl ?_
        simp only [pl, pn, el, ec, sz, ss, gz, gs, if_true, if_false, Bool.false_eq_true, Bool.not_true, Bool.not_false, Nat.add_zero, Nat.zero_add, Nat.reduceAdd]
        refine wpPi_assign _ rfl rfl ?_
        simp only [pl, pn, el, ec, sz, ss, gz, gs, if_true, if_false, Bool.false_eq_true, Bool.not_true, Bool.not_false, Nat.add_zero, Nat.zero_add, Nat.reduceAdd]
        refine wpPi_nil ?_
        replace hM := hM.trans0 hS
        replace hrow := hS.obj id hrow
        clear hS
        generalize wy.drew = wz at *
        go_upto_region 8 with (fail)
        have hS : Mod NoB wz wz.drew := (Mod.refl _ _).drew
        refine wp_region_pi [(0, 3), (1, 3), (2, 3), (3, 3), (4, 0), (5, 3), (6, 3), (7, 3), (8, 3), (9, 3), (10, 0), (11, 3), (12, 3), (13, 3), (14, 3), (15, 2)] [15] (fun w' => Mod NoB wz w') (by kernel_rfl) (by kernel_rfl) (by kernel_rfl) (by kernel_rfl) (fun _ _ _ _ hd h => ⟨hd.trans h.1, h.2⟩) hS ?_
        simp only [List.map_cons, List.map_nil, List.getD_cons_zero, List.getD_cons_succ]
        refine wpPi_move _ rfl rfl ?_
        simp only [pl, pn, el, ec, sz, ss, gz, gs, if_true, if_false, Bool.false_eq_true, Bool.not_true, Bool.not_false, Nat.add_zero, Nat.zero_add, Nat.reduceAdd]
        refine wpPi_move _ rfl rfl ?_
        simp only [pl, pn, el, ec, sz, ss, gz, gs, if_true, if_false, Bool.false_eq_true, Bool.not_true, Bool.not_false, Nat.add_zero, Nat.zero_add, Nat.reduceAdd]
        refine wpPi_subR _ _ _ _ (n : Int) 16 ((n - 16 : Nat) : Int) rfl rfl rfl rfl (by omega) (by omega) (by omega) ?_
        simp only [pl, pn, el, ec, sz, ss, gz, gs, if_true, if_false, Bool.false_eq_true, Bool.not_true, Bool.not_false, Nat.add_zero, Nat.zero_add, Nat.reduceAdd]
        refine wpPi_indexA _ _ _ _ _ _ _ _ rfl rfl rfl rfl Tryz.underlying125 (n := 1) (by kernel_rfl) hk16 ?_
        simp only [pl, pn, el, ec, sz, ss, gz, gs, if_true, if_false, Bool.false_eq_true, Bool.not_true, Bool.not_false, Nat.add_zero, Nat.zero_add, Nat.reduceAdd]
        refine wpPi_val rfl (fun w' hS => exec_load1 91 _ (by rfl) w.heap.size ((n - 16) * 1) (by rfl) _ (by rw [cell_of_row _ _ _ _ _ _ (hS.obj id hrow), Nat.mul_one]; exact HW.out (n - 16) (by omega)) _ Tryz.underlying91 rfl) ?_
        simp only [pl, pn, el, ec, sz, ss, gz, gs, if_true, if_false, Bool.false_eq_true, Bool.not_true, Bool.not_false, Nat.add_zero, Nat.zero_add, Nat.reduceAdd]
        refine wpPi_move _ rfl rfl ?_
        simp only [pl, pn, el, ec, sz, ss, gz, gs, if_true, if_false, Bool.false_eq_true, Bool.not_true, Bool.not_false, Nat.add_zero, Nat.zero_add, Nat.reduceAdd]
        refine wpPi_add32 _ _ _ _ _ _ rfl rfl rfl rfl ?_
        simp only [pl, pn, el, ec, sz, ss, gz, gs, if_true, if_false, Bool.false_eq_true, Bool.not_true, Bool.not_false, Nat.add_zero, Nat.zero_add, Nat.reduceAdd]
        refine wpPi_move _ rfl rfl ?_
        simp only [pl, pn, el, ec, sz, ss, gz, gs, if_true, if_false, Bool.false_eq_true, Bool.not_true, Bool.not_false, Nat.add_zero, Nat.zero_add, Nat.reduceAdd]
        refine wpPi_subR _ _ _ _ (n : Int) 7 ((n - 7 : Nat) : Int) rfl rfl rfl rfl (by omega) (by omega) (by omega) ?_
        simp only [pl, pn, el, ec, sz, ss, gz, gs, if_true, if_false, Bool.false_eq_true, Bool.not_true, Bool.not_false, Nat.add_zero, Nat.zero_add, Nat.reduceAdd]
        refine wpPi_indexA _ _ _ _ _ _ _ _ rfl rfl rfl rfl Tryz.underlying125 (n := 1) (by kernel_rfl) hk7 ?_
        simp only [pl, pn, el, ec, sz, ss, gz, gs, if_true, if_false, Bool.false_eq_true, Bool.not_true, Bool.not_false, Nat.add_zero, Nat.zero_add, Nat.reduceAdd]
        refine wpPi_val rfl (fun w' hS => exec_load1 91 _ (by rfl) w.heap.size ((n - 7) * 1) (by rfl) _ (by rw [cell_of_row _ _ _ _ _ _ (hS.obj id hrow), Nat.mul_one]; exact HW.out (n - 7) (by omega)) _ Tryz.underlying91 rfl) ?_
        simp only [pl, pn, el, ec, sz, ss, gz, gs, if_true, if_false, Bool.false_eq_true, Bool.not_true, Bool.not_false, Nat.add_zero, Nat.zero_add, Nat.reduceAdd]
        refine wpPi_add32 _ _ _ _ _ _ rfl rfl rfl rfl ?_
        simp only [pl, pn, el, ec, sz, ss, gz, gs, if_true, if_false, Bool.false_eq_true, Bool.not_true, Bool.not_false, Nat.add_zero, Nat.zero_add, Nat.reduceAdd]
        refine wpPi_move _ rfl rfl ?_
        simp only [pl, pn, el, ec, sz, ss, gz, gs, if_true, if_false, Bool.false_eq_true, Bool.not_true, Bool.not_false, Nat.add_zero, Nat.zero_add, Nat.reduceAdd]
        refine wpPi_add32 _ _ _ _ _ _ rfl rfl rfl rfl ?_
        simp only [pl, pn, el, ec, sz, ss, gz, gs, if_true, if_false, Bool.false_eq_true, Bool.not_true, Bool.not_false, Nat.add_zero, Nat.zero_add, Nat.reduceAdd]
        refine wpPi_indexA _ _ _ _ _ _ _ _ rfl rfl rfl rfl Tryz.underlying125 (n := 1) (by kernel_rfl) hlt ?_
        simp only [pl, pn, el, ec, sz, ss, gz, gs, if_true, if_false, Bool.false_eq_true, Bool.not_true, Bool.not_false, Nat.add_zero, Nat.zero_add, Nat.reduceAdd]
        refine wpPi_last rfl (fun K hK => ?_)
        refine wp_store1 91 _ _ w.heap.size (n * 1) (wordV (wordNext (spreadL b n) n)) (by rfl) (by rfl) (by rfl) rfl (by kernel_rfl) _ _ (show wz.drew.heap[w.heap.size]? = _ from hrow) (by rw [hsz]; omega) (fun w2 hB2 hm2 => ?_)
        rw [Nat.mul_one, HSET.out] at hB2
        refine hK _ _ ?_
        clear hK K
        try simp only [pl, pn, el, ec, sz, ss, gz, gs, if_true, if_false, Bool.false_eq_true, Bool.not_true, Bool.not_false, Nat.add_zero, Nat.zero_add, Nat.reduceAdd]
        refine wpPi_nil ?_
        have hM2 : Mod NoB w w2 := (hM.trans0 hS).transB hm2 (Nat.le_refl _)
        clear hM hS hm2 hrow
        go_wp2
        go_roundw
        case rel => exact ⟨n + 1, by omega, by go_num, hB2, hM2⟩
        case measure => simp [intOf]; omega
    · have hz : ¬ (n : Int) < 64 := by omega
      obtain rfl : n = 64 := by omega
      have e : rowW b 64 = spreadL b 64 := by simp [rowW]
      rw [e] at hrow
      have hsz : (wordCells (spreadL b 64)).size = 64 := by rw [wordCells_size, spreadL_len]
      obtain ⟨sp, hsp⟩ : ∃ sp, spreadL b 64 = sp := ⟨_, rfl⟩
      rw [hsp] at hrow hsz
      have HSP := Lib.hid hsp
      clear hsp e
      go_upto_region 10 with (fail)
      refine wp_region_seq [1, 1] (fun _ => True) (by rfl) (by rfl) trivial ?_
      simp only [List.zip_cons_cons, List.zip_nil_right]
      refine wpPi_do rfl (fun K hK => ?_)
      refine wp_exec (exec_loadA 125 _ (by rfl) w.heap.size 0 (by rfl) (wordCells (sp)) (CellsAt.whole hrow) _ Tryz.underlying125 rfl 64 (by kernel_rfl) hsz) ?_
      refine hK _ _ trivial ?_
      clear hK K
      try simp only [pl, pn, el, ec, sz, ss, gz, gs, if_true, if_false, Bool.false_eq_true, Bool.not_true, Bool.not_false, Nat.add_zero, Nat.zero_add, Nat.reduceAdd]
      refine wpPi_do rfl (fun K hK => ?_)
      refine wp_storeA 125 _ _ w.heap.size 0 (wordCells (sp)) (by rfl) (by rfl) (by rfl) (wordCells_one _) 64 (by kernel_rfl) hsz _ _ hrow (by omega) (fun w2 hB2 hm2 => ?_)
      rw [putRow_whole (by rfl)] at hB2
      refine hK _ _ trivial ?_
      clear hK K
      try simp only [pl, pn, el, ec, sz, ss, gz, gs, if_true, if_false, Bool.false_eq_true, Bool.not_true, Bool.not_false, Nat.add_zero, Nat.zero_add, Nat.reduceAdd]
      refine wpPi_nil ?_
      go_wp2
      refine bodyPost_ret (results_cell_row rfl _ _ w.heap.size _ _ _ _ (by rfl) hB2 Tryz.underlying125 rfl (by rw [hsz]; kernel_rfl)) rfl ?_
      exact ⟨by rw [HSP.out], hM.transB hm2 (Nat.le_refl _)⟩
end Go.Proofs.YtchkikmmcmjcgaaGreat

/- A region that draws its order, in which some effects may come in any order: the way parts on each. -/
namespace Go.Proofs.YtchkikmmcmjcgaaGreat
set_option linter.unusedSimpArgs false
set_option linter.unusedVariables false
set_option linter.unnecessarySimpa false
set_option linter.unusedSectionVars false
open Go.RowKit

section
variable {P : Program} {ops : Array Oper} {Q : Exit → Act → World → Prop} {S : World → Prop} {md : Region.Mode}
/-- May these operations, each of which yields its value, be taken first? Which ones have come up then? -/
def piPre (md : Region.Mode) (ops : Array Oper) (tl : List Nat) : List (Nat × Nat) → Array Bool → Option (Array Bool)
  | [], listed => some listed
  | (i, 0) :: r, listed => if i < ops.size && Region.free md ops listed i && (Region.ready md ops listed).contains i && waitsAll md ops tl i && noneOf tl listed then piPre md ops tl r (listed.setIfInBounds i true) else none
  | (_, 1) :: _, _ => none
  | (_, 2) :: _, _ => none
  | (i, _ + 3) :: r, listed => if i < ops.size && Region.free md ops listed i && (Region.ready md ops listed).contains i && !tl.contains i then piPre md ops tl r (listed.setIfInBounds i true) else none
theorem wpAnyG_of_pre {tl : List Nat} (hs : Region.noSelect ops = true) (hQ : PanicSame Q) {Q1 : Exit → Act → World → Prop} {L : Array Bool} {fuel : Nat} (k : ∀ a w, (noneOf tl L = true → S w) → Q1 .normal a w → wpAnyG P md ops Q S tl fuel L a w) :
    ∀ (l : List (Nat × Nat)) (listed : Array Bool) (a : Act) (w : World), piPre md ops tl l listed = some L → (noneOf tl listed = true → S w) → wpPi P ops Q1 S (l.map fun x => (ops.getD x.1 default, x.2)) a w →
      wpAnyG P md ops Q S tl (l.length + fuel) listed a w
  | [], listed, a, w, hp, hS, h => by
    simp only [piPre, Option.some.injEq] at hp
    subst hp
    simpa using k a w hS h
  | (i, 0) :: r, listed, a, w, hp, hS, h => by
    simp only [piPre] at hp
    split at hp
    · rename_i hc
      simp only [Bool.and_eq_true, decide_eq_true_eq] at hc
      obtain ⟨⟨⟨⟨hi, hf⟩, hr⟩, hwa⟩, hn⟩ := hc
      obtain ⟨v, hy, h⟩ := h
      have hi' : ops[i]? = some (ops.getD i default) := by simp [Array.getD, hi]
      rw [List.length_cons, Nat.succ_add]
      exact wpAnyG_first hi' (Region.noSelect_spec hs) hQ hwa (r.length + fuel) listed a w (Region.free_spec hi' hf) (by simpa using hr) hy (hS hn) hn
        (wpAnyG_of_pre hs hQ k r _ _ w hp (fun _ => hS hn) h)
    · cases hp
  | (_, 1) :: _, _, _, _, hp, _, _ => by simp [piPre] at hp
  | (_, 2) :: _, _, _, _, hp, _, _ => by simp [piPre] at hp
  | (i, n + 3) :: r, listed, a, w, hp, hS, h => by
    simp only [piPre] at hp
    split at hp
    · rename_i hc
      simp only [Bool.and_eq_true, decide_eq_true_eq, Bool.not_eq_true'] at hc
      obtain ⟨⟨⟨hi, hf⟩, hr⟩, hit⟩ := hc
      obtain ⟨v, hy, h⟩ := h
      have hit' : i ∉ tl := by simpa using hit
      have hi' : ops[i]? = some (ops.getD i default) := by simp [Array.getD, hi]
      rw [List.length_cons, Nat.succ_add]
      refine wpAnyG_free hi' (Region.noSelect_spec hs) hQ hit' (r.length + fuel) listed a w (Region.free_spec hi' hf) (by simpa using hr) hy hS
        (wpAnyG_of_pre hs hQ k r _ _ w hp (fun hn => hS ?_) h)
      simp only [noneOf, List.all_eq_true, Bool.not_eq_true'] at hn ⊢
      intro t ht
      have := hn t ht
      rwa [getD_set_ne false (by rintro rfl; exact hit' ht)] at this
    · cases hp
/-- The next n are effects, in whatever order they come up; then the rest, in its order. -/
def treeOk (md : Region.Mode) (ops : Array Oper) (tl : List Nat) (p2 : List (Nat × Nat)) : Nat → Array Bool → Bool
  | 0, listed => piOk md ops tl p2 listed
  | n + 1, listed => !(Region.ready md ops listed).isEmpty && (Region.ready md ops listed).all fun i => decide (i < ops.size) && !tl.contains i && (ops.getD i default).guard.isNone && treeOk md ops tl p2 n (listed.setIfInBounds i true)
def wpTree (P : Program) (md : Region.Mode) (ops : Array Oper) (Q : Exit → Act → World → Prop) (S : World → Prop) (K : Act → World → Prop) : Nat → Array Bool → Act → World → Prop
  | 0, _, a, w => K a w
  | n + 1, listed, a, w => ∀ i ∈ Region.ready md ops listed, (ops.getD i default).wp P a w (fun a' w' => S w' ∧ wpTree P md ops Q S K n (listed.setIfInBounds i true) a' w') Q
theorem wpAnyG_of_tree {tl : List Nat} (hs : Region.noSelect ops = true) (hQ : PanicSame Q) {p2 : List (Nat × Nat)} :
    ∀ (n : Nat) (listed : Array Bool) (a : Act) (w : World), treeOk md ops tl p2 n listed = true → (noneOf tl listed = true → S w) → wpTree P md ops Q S (wpPi P ops Q S (p2.map fun x => (ops.getD x.1 default, x.2))) n listed a w →
      wpAnyG P md ops Q S tl (n + p2.length) listed a w
  | 0, listed, a, w, hp, hS, h => by
    rw [Nat.zero_add]
    exact wpAnyG_of_pi hs hQ S p2 listed a w hp hS h
  | n + 1, listed, a, w, hp, hS, h => by
    simp only [treeOk, Bool.and_eq_true, Bool.not_eq_true', List.all_eq_true] at hp
    rw [Nat.succ_add]
    refine ⟨fun h0 => (by rw [h0] at hp; simp at hp), fun i hi => ?_⟩
    have h1 := hp.2 i hi
    simp only [decide_eq_true_eq] at h1
    obtain ⟨⟨⟨hsz, hit⟩, hg⟩, hp'⟩ := h1
    have hi' : ops[i]? = some (ops.getD i default) := by simp [Array.getD, hsz]
    have hw := h i hi
    unfold wpOp
    generalize ops.getD i default = oi at hi' hw hg
    simp only [hi']
    have hwant : Region.wanted oi (yielded ops a.tmps) = true := by
      unfold Region.wanted
      cases hq : oi.guard with
      | none => rfl
      | some x => rw [hq] at hg; cases hg
    rw [if_pos hwant]
    exact .inl (Oper.wp_mono (fun a' w' h' => ⟨fun _ => h'.1, wpAnyG_of_tree hs hQ n _ a' w' hp' (fun _ => h'.1) h'.2⟩) hw)
def treeQ (P : Program) (md : Region.Mode) (ops : Array Oper) (Q : Exit → Act → World → Prop) (S : World → Prop) (p2 : List (Oper × Nat)) (n : Nat) (L : Array Bool) : Exit → Act → World → Prop
  | .normal, a, w => wpTree P md ops Q S (wpPi P ops Q S p2) n L a w
  | _, _, _ => True
theorem wp_region_tree {id : Nat} {a : Act} {w : World} {l : List Oper} (p1 : List (Nat × Nat)) (n : Nat) (p2 : List (Nat × Nat)) (tl : List Nat) (S : World → Prop) (L : Array Bool) (hm : P.follows .mixedOrders = true) (hs : Region.noSelect l.toArray = true)
    (hl : p1.length + (n + p2.length) = l.toArray.size) (h1 : piPre .any l.toArray tl p1 (Array.replicate l.toArray.size false) = some L) (h2 : treeOk .any l.toArray tl p2 n L = true) (hQ : PanicSame Q) (hS : S w.drew)
    (h : wpPi P l.toArray (treeQ P .any l.toArray Q S (p2.map fun x => (l.getD x.1 default, x.2)) n L) S (p1.map fun x => (l.getD x.1 default, x.2)) a w.drew) : (Code.region id l.toArray true).wp P Q a w :=
  wp_region_any hm (by
    have e : ∀ p : List (Nat × Nat), (p.map fun x => ((l.toArray).getD x.1 default, x.2)) = (p.map fun x => (l.getD x.1 default, x.2)) := fun p => by
      apply List.map_congr_left; intro x _; simp [Array.getD_eq_getD_getElem?, List.getD]
    have H := wpAny_of_G _ _ _ _ (wpAnyG_of_pre (md := .any) hs hQ (L := L) (fuel := n + p2.length) (Q1 := treeQ P .any l.toArray Q S (p2.map fun x => (l.getD x.1 default, x.2)) n L)
      (fun a w hS h => wpAnyG_of_tree hs hQ n L a w h2 hS (by rw [e]; exact h)) p1 _ a w.drew h1 (fun _ => hS) (by rw [e]; exact h))
    rw [hl] at H
    exact H)
theorem wpTree_done {K : Act → World → Prop} {L : Array Bool} {a : Act} {w : World} (h : K a w) : wpTree P md ops Q S K 0 L a w := h
theorem wpTree_part {K : Act → World → Prop} {n : Nat} {L : Array Bool} {a : Act} {w : World} (rs : List Nat) (hr : Region.ready md ops L = rs)
    (h : ∀ i ∈ rs, ∀ K', (∀ a' w', S w' → wpTree P md ops Q S K n (L.setIfInBounds i true) a' w' → K' a' w') → (ops.getD i default).wp P a w K' Q) : wpTree P md ops Q S K (n + 1) L a w := by
  intro i hi
  rw [hr] at hi
  exact h i hi _ fun a' w' h1 h2 => ⟨h1, h2⟩
end
end Go.Proofs.YtchkikmmcmjcgaaGreat

/- A struct built of its fields: what it holds. -/
namespace Go.Proofs.YtchkikmmcmjcgaaGreat
set_option linter.unusedSimpArgs false
set_option linter.unusedVariables false
set_option linter.unnecessarySimpa false
set_option linter.unusedSectionVars false
open Go.RowKit

theorem fold_put : ∀ (l : List Value) (j off : Nat) (cells : Array Value), off + j + l.length ≤ cells.size →
    (l.zipIdx j).foldl (fun (cs : Array Value) (x : Value × Nat) => cs.setIfInBounds (off + x.2) x.1) cells = (cells.toList.take (off + j) ++ l ++ cells.toList.drop (off + j + l.length)).toArray
  | [], j, off, cells, _ => by simp
  | v :: l, j, off, cells, h => by
    simp only [List.length_cons] at h
    rw [List.zipIdx_cons, List.foldl_cons, fold_put l (j + 1) off _ (by simp; omega)]
    apply Array.toList_inj.1
    simp only [Array.toList_setIfInBounds, List.length_cons]
    have h1 : (cells.toList.set (off + j) v).take (off + (j + 1)) = cells.toList.take (off + j) ++ [v] := by
      rw [← Nat.add_assoc, List.take_succ_eq_append_getElem (by simp; omega)]
      simp [List.take_set_of_le]
    have h2 : (cells.toList.set (off + j) v).drop (off + (j + 1) + l.length) = cells.toList.drop (off + j + (l.length + 1)) := by
      rw [List.drop_set_of_lt (by omega)]
      congr 1; omega
    rw [h1, h2]
    simp

theorem fill_cons {place : Nat → Option (Nat × Nat)} {cells : Array Value} {i : Nat} {v : Value} {rest : List (Nat × Value)} {off size : Nat} (hp : place i = some (off, size)) (hs : v.cells.size = size) (hf : off + size ≤ cells.size) :
    Instr.fill place cells ((i, v) :: rest) = Instr.fill place (putRow cells off v.cells) rest := by
  subst hs
  have e : v.cells.zipIdx.foldl (fun (cs : Array Value) (x : Value × Nat) => cs.setIfInBounds (off + x.2) x.1) cells = putRow cells off v.cells := by
    have := fold_put v.cells.toList 0 off cells (by simpa using hf)
    rw [← Array.foldl_toList, Array.toList_zipIdx]
    simpa [putRow] using this
  simp only [Instr.fill, hp]
  rw [if_neg (by simp; omega)]
  rw [← e]
theorem fill_nil {place : Nat → Option (Nat × Nat)} {cells : Array Value} : Instr.fill place cells [] = some cells := rfl

def placesOf (P : Program) (t : TypeId) : Option (List (Nat × Nat)) :=
  match P.underlying t with
  | some (.struct fields) => fields.toList.mapM fun f => (P.info? f.type).map fun i => (f.offset, i.size)
  | _ => none
theorem built_struct {P : Program} {t : TypeId} {z : Array Value} {places : List (Nat × Nat)} (hz : (P.info? t).bind (·.zero) = some (.agg z)) (hp : placesOf P t = some places) (parts : List (Nat × Value)) :
    P.built t parts = Instr.fill (places.toArray[·]?) z parts := by
  unfold placesOf at hp
  split at hp
  · rename_i fields hu
    cases hi : P.info? t with
    | none => simp [hi] at hz
    | some i =>
      simp only [hi, Option.bind_some] at hz
      simp only [Program.built, hi, hu, hz, hp, Value.cells]
  · cases hp
theorem exec_build_of {P : Program} {w : World} {o : Oper} {a : Act} (t : TypeId) (parts : List (Nat × Operand)) (vals : List (Nat × Value)) (cells : Array Value) (ho : o.op = .build t parts.toArray)
    (hv : parts.map (fun x => (x.1, a.eval x.2)) = vals) (hb : P.built t vals = some cells) : (execOp a.eval o).run P w = .ok (.value (.agg cells)) w := by
  subst hv
  unfold execOp
  simp only [ho]
  have h := run_build (P := P) w t (Array.map (fun (x : Nat × Operand) => (x.1, a.eval x.2)) parts.toArray) cells (by simpa using hb)
  simp only [Sem.run_bind, h, Result.andThen_ok, Sem.run_pure]
end Go.Proofs.YtchkikmmcmjcgaaGreat

/- SHA-256: the keys, and a block taken in. -/
namespace Go.Proofs.YtchkikmmcmjcgaaGreat
set_option linter.unusedSimpArgs false
set_option linter.unusedVariables false
set_option linter.unnecessarySimpa false
set_option linter.unusedSectionVars false
open Go.RowKit


theorem wordsZ : (Tryz.prog.info? 93).bind (·.zero) = some (.agg (wordCells (List.replicate 8 0))) := by kernel_rfl
set_option maxRecDepth 10000 in
theorem keys_any (w : World) : Calls Tryz.prog 78 #[] w (RetM (.agg (wordCells shaKeys)) w) := by
  go_enter Tryz.func78, Tryz.ntmps78
  go_upto_region 0 with (fail)
  refine wp_region_seq [1] (fun _ => True) (by rfl) (by rfl) trivial ?_
  simp only [List.zip_cons_cons, List.zip_nil_right]
  refine wpPi_do rfl (fun K hK => ?_)
  refine wp_alloc 125 _ (by rfl) w64Z (fun w1 hB1 hm1 hs1 => ?_)
  replace hB1 : w1.heap[w.heap.size]? = some (.cells (wordCells (List.replicate 64 0)) 125 (0, 0)) := hB1
  refine hK _ _ trivial ?_
  clear hK K
  try simp only [pl, pn, el, ec, sz, ss, gz, gs, if_true, if_false, Bool.false_eq_true, Bool.not_true, Bool.not_false, Nat.add_zero, Nat.zero_add, Nat.reduceAdd]
  refine wpPi_nil ?_
  go_upto_region 1 with (fail)
  refine wp_region_seq [1, 1] (fun _ => True) (by rfl) (by rfl) trivial ?_
  simp only [List.zip_cons_cons, List.zip_nil_right]
  refine wpPi_do rfl (fun K hK => ?_)
  refine wp_exec (exec_build_of 125 _ _ (wordCells shaKeys) (by rfl) (by rfl) (by kernel_rfl)) ?_
  refine hK _ _ trivial ?_
  clear hK K
  try simp only [pl, pn, el, ec, sz, ss, gz, gs, if_true, if_false, Bool.false_eq_true, Bool.not_true, Bool.not_false, Nat.add_zero, Nat.zero_add, Nat.reduceAdd]
  refine wpPi_do rfl (fun K hK => ?_)
  refine wp_storeA 125 _ _ w.heap.size 0 (wordCells shaKeys) (by rfl) (by rfl) (by rfl) (wordCells_one _) 64 (by kernel_rfl) (by kernel_rfl) _ _ hB1 (by rw [wordCells_size, wordCells_size]; simp [shaKeys]) (fun w2 hB2 hm2 => ?_)
  refine hK _ _ trivial ?_
  clear hK K
  try simp only [pl, pn, el, ec, sz, ss, gz, gs, if_true, if_false, Bool.false_eq_true, Bool.not_true, Bool.not_false, Nat.add_zero, Nat.zero_add, Nat.reduceAdd]
  refine wpPi_nil ?_
  rw [putRow_whole (by kernel_rfl)] at hB2
  go_wp2
  refine bodyPost_ret (results_cell_row rfl _ _ w.heap.size _ _ _ _ (by rfl) hB2 Tryz.underlying125 rfl (by kernel_rfl)) rfl ?_
  exact ⟨rfl, hm1.transB hm2 (Nat.le_refl _)⟩
set_option maxRecDepth 10000 in
theorem begin_any (w : World) : Calls Tryz.prog 54 #[] w (RetM (.agg (wordCells shaBegin.list)) w) := by
  go_enter Tryz.func54, Tryz.ntmps54
  go_upto_region 0 with (fail)
  refine wp_region_seq [1] (fun _ => True) (by rfl) (by rfl) trivial ?_
  simp only [List.zip_cons_cons, List.zip_nil_right]
  refine wpPi_do rfl (fun K hK => ?_)
  refine wp_alloc 93 _ (by rfl) wordsZ (fun w1 hB1 hm1 hs1 => ?_)
  replace hB1 : w1.heap[w.heap.size]? = some (.cells (wordCells (List.replicate 8 0)) 93 (0, 0)) := hB1
  refine hK _ _ trivial ?_
  clear hK K
  try simp only [pl, pn, el, ec, sz, ss, gz, gs, if_true, if_false, Bool.false_eq_true, Bool.not_true, Bool.not_false, Nat.add_zero, Nat.zero_add, Nat.reduceAdd]
  refine wpPi_nil ?_
  go_upto_region 1 with (fail)
  refine wp_region_seq [1, 1] (fun _ => True) (by rfl) (by rfl) trivial ?_
  simp only [List.zip_cons_cons, List.zip_nil_right]
  refine wpPi_do rfl (fun K hK => ?_)
  refine wp_exec (exec_build_of 93 _ _ (wordCells shaBegin.list) (by rfl) (by rfl) (by kernel_rfl)) ?_
  refine hK _ _ trivial ?_
  clear hK K
  try simp only [pl, pn, el, ec, sz, ss, gz, gs, if_true, if_false, Bool.false_eq_true, Bool.not_true, Bool.not_false, Nat.add_zero, Nat.zero_add, Nat.reduceAdd]
  refine wpPi_do rfl (fun K hK => ?_)
  refine wp_storeA 93 _ _ w.heap.size 0 (wordCells shaBegin.list) (by rfl) (by rfl) (by rfl) (wordCells_one _) 8 (by kernel_rfl) (by kernel_rfl) _ _ hB1 (by rw [wordCells_size, wordCells_size]; simp [W8.list]) (fun w2 hB2 hm2 => ?_)
  refine hK _ _ trivial ?_
  clear hK K
  try simp only [pl, pn, el, ec, sz, ss, gz, gs, if_true, if_false, Bool.false_eq_true, Bool.not_true, Bool.not_false, Nat.add_zero, Nat.zero_add, Nat.reduceAdd]
  refine wpPi_nil ?_
  rw [putRow_whole (by kernel_rfl)] at hB2
  go_wp2
  refine bodyPost_ret (results_cell_row rfl _ _ w.heap.size _ _ _ _ (by rfl) hB2 Tryz.underlying93 rfl (by kernel_rfl)) rfl ?_
  exact ⟨rfl, hm1.transB hm2 (Nat.le_refl _)⟩

/-- New rows, each of its own. -/
structure Held (w0 w : World) (bs : List (Nat × Obj)) : Prop where
  mod : Mod NoB w0 w
  has : ∀ q ∈ bs, w.heap[q.1]? = some q.2 ∧ w0.heap.size ≤ q.1 ∧ q.1 < w.heap.size
  nd : (bs.map (·.1)).Nodup
theorem Held.start (w : World) : Held w w [] := ⟨Mod.refl _ _, fun q hq => (nomatch hq), List.Pairwise.nil⟩
theorem Held.keep {w0 w w' : World} {bs : List (Nat × Obj)} (h : Held w0 w bs) (hm : Mod NoB w w') : Held w0 w' bs :=
  ⟨h.mod.trans0 hm, fun q hq => ⟨hm.obj id (h.has q hq).1, (h.has q hq).2.1, Nat.lt_of_lt_of_le (h.has q hq).2.2 hm.size⟩, h.nd⟩
theorem Held.add {w0 w w' : World} {bs : List (Nat × Obj)} (h : Held w0 w bs) (hm : Mod NoB w w') {o : Obj} (hb : w'.heap[w.heap.size]? = some o) (hs : w.heap.size < w'.heap.size) : Held w0 w' ((w.heap.size, o) :: bs) := by
  have h1 := h.keep hm
  refine ⟨h1.mod, fun q hq => ?_, ?_⟩
  · rcases List.mem_cons.1 hq with rfl | hq
    · exact ⟨hb, h.mod.size, hs⟩
    · exact h1.has q hq
  · rw [List.map_cons, List.nodup_cons]
    refine ⟨fun hm => ?_, h.nd⟩
    obtain ⟨q, hq, e⟩ := List.mem_map.1 hm
    have := (h.has q hq).2.2
    omega
/-- One of the rows turns. -/
theorem Held.turn {w0 w w' : World} {bs : List (Nat × Obj)} {b : Nat} {o o' : Obj} (h : Held w0 w bs) (hb : (b, o) ∈ bs) (hm : Mod (fun k => k = b) w w') (ho : w'.heap[b]? = some o') : Held w0 w' (bs.map fun q => if q.1 = b then (b, o') else q) := by
  have hb' := h.has _ hb
  refine ⟨h.mod.transB hm hb'.2.1, fun q hq => ?_, ?_⟩
  · obtain ⟨p, hp, rfl⟩ := List.mem_map.1 hq
    have hs := hm.size
    split
    · exact ⟨ho, hb'.2.1, by have := hb'.2.2; simp only; omega⟩
    · rename_i hne
      have := h.has p hp
      exact ⟨hm.obj hne this.1, this.2.1, by omega⟩
  · rw [List.map_map]
    have e : ((fun x : Nat × Obj => x.1) ∘ fun q : Nat × Obj => if q.1 = b then (b, o') else q) = fun q => q.1 := by
      funext q; simp only [Function.comp]; split
      · rename_i h; exact h.symm
      · rfl
    rw [e]; exact h.nd
theorem word8 {w : World} {b : Nat} {c : W8} {T : TypeId} (h : w.heap[b]? = some (.cells (wordCells c.list) T (0, 0))) (i : Nat) (hi : i < 8) : w.cell? ⟨b, i, none⟩ = some (wordV (c.list.getD i 0)) := by
  rw [cell_of_row _ _ _ _ _ _ h, wordCells_at (by simpa [W8.list] using hi), List.getD_eq_getElem?_getD, List.getElem?_eq_getElem (by simpa [W8.list] using hi)]
  rfl
theorem word64 {w : World} {b : Nat} {l : List UInt32} {T : TypeId} (h : w.heap[b]? = some (.cells (wordCells l) T (0, 0))) (hl : l.length = 64) {i : Nat} (hi : i < 64) : w.cell? ⟨b, i, none⟩ = some (wordV (l.getD i 0)) := by
  rw [cell_of_row _ _ _ _ _ _ h, wordCells_at (by omega), List.getD_eq_getElem?_getD, List.getElem?_eq_getElem (by omega)]
  rfl
end Go.Proofs.YtchkikmmcmjcgaaGreat

/- Several effects in any order: what stands behind them, whatever the order was. -/
namespace Go.Proofs.YtchkikmmcmjcgaaGreat
set_option linter.unusedSimpArgs false
set_option linter.unusedVariables false
set_option linter.unnecessarySimpa false
set_option linter.unusedSectionVars false
open Go.RowKit

section
variable {P : Program} {ops : Array Oper} {Q : Exit → Act → World → Prop} {S : World → Prop} {md : Region.Mode} {K : Act → World → Prop}
theorem wp_enter {o : Oper} {a : Act} {w : World} {f : FuncId} {args : Array Value} {v : Value} (hr : (execOp a.eval o).run P w = .ok (.enter f args) w) (hc : Calls P f args w (RetM v w)) (k : ∀ w', Mod NoB w w' → K (a.put o.dst v) w') : o.wp P a w K Q := by
  unfold Oper.wp
  rw [hr, Oper.upon_enter]
  refine hc.mono fun e w' he => ?_
  obtain ⟨rfl, hm⟩ := he
  exact k w' hm
/-- A frame with more values in its slots, the last one first. -/
def puts : List (Nat × Value) → Act → Act
  | [], a => a
  | p :: ps, a => (puts ps a).put (some p.1) p.2
theorem puts_eval {ps : List (Nat × Value)} {t : Nat} (h : ∀ p ∈ ps, p.1 ≠ t) (a : Act) : (puts ps a).eval (.tmp t) = a.eval (.tmp t) := by
  induction ps with
  | nil => rfl
  | cons p ps ih =>
    rw [← ih fun q hq => h q (List.mem_cons_of_mem _ hq)]
    have := h p List.mem_cons_self
    simp only [puts, Act.put, Act.eval, Array.getD_eq_getD_getElem?, Array.getElem?_setIfInBounds_ne this]
theorem puts_swap (p q : Nat × Value) (h : p.1 ≠ q.1) (ps : List (Nat × Value)) (a : Act) : puts (p :: q :: ps) a = puts (q :: p :: ps) a := by
  simp only [puts, Act.put]
  rw [Array.setIfInBounds_comm _ _ (Ne.symm h)]
theorem puts_perm {ps qs : List (Nat × Value)} (h : ps.Perm qs) (a : Act) (hn : (ps.map (·.1)).Nodup) : puts ps a = puts qs a := by
  induction h with
  | nil => rfl
  | cons x _ ih =>
    simp only [puts]
    rw [ih (List.nodup_cons.1 hn).2]
  | swap x y l =>
    simp only [List.map_cons, List.nodup_cons, List.mem_cons, not_or] at hn
    exact puts_swap _ _ hn.1.1 _ _
  | trans h1 _ ih1 ih2 => rw [ih1 hn, ih2 ((h1.map _).nodup_iff.1 hn)]
theorem perm_vals {ps : List (Nat × Value)} : ∀ {g : List Nat}, (ps.map (·.1)).Perm g → ∃ vals : List Value, vals.length = g.length ∧ ps.Perm (g.zip vals) := by
  intro g
  induction g generalizing ps with
  | nil =>
    intro h
    have := h.length_eq
    simp only [List.length_map, List.length_nil, List.length_eq_zero_iff] at this
    subst this
    exact ⟨[], rfl, List.Perm.refl _⟩
  | cons d g ih =>
    intro h
    have hd : d ∈ ps.map (·.1) := h.symm.subset List.mem_cons_self
    obtain ⟨p, hp, rfl⟩ := List.mem_map.1 hd
    obtain ⟨l, r, rfl⟩ := List.append_of_mem hp
    have hpp : (l ++ p :: r).Perm (p :: (l ++ r)) := List.perm_middle
    have h2 := (hpp.map (·.1)).symm.trans h
    simp only [List.map_cons] at h2
    obtain ⟨vs, hl, hv⟩ := ih ((List.perm_cons _).1 h2)
    exact ⟨p.2 :: vs, by simp [hl], hpp.trans (by simpa using hv.cons p)⟩
/-- Whatever comes up is of the group that is left; all of it comes up. -/
def grpOk (md : Region.Mode) (ops : Array Oper) : Nat → List (Nat × Nat) → Array Bool → Bool
  | 0, g, _ => g.isEmpty
  | n + 1, g, L => (Region.ready md ops L).all fun i => g.any fun q => q.1 == i && grpOk md ops n (g.erase q) (L.setIfInBounds i true)
theorem wpTree_grp {a : Act} {g0 : List Nat} {J : List (Nat × Value) → World → Prop} (hJS : ∀ ps w, J ps w → S w)
    (hn0 : g0.Nodup) (hend : ∀ ps w, J ps w → (ps.map (·.1)).Perm g0 → K (puts ps a) w) :
    ∀ (n : Nat) (g : List (Nat × Nat)) (L : Array Bool) (ps : List (Nat × Value)) (w : World), grpOk md ops n g L = true → (ps.map (·.1) ++ g.map (·.2)).Perm g0 → J ps w →
      (∀ q ∈ g, ∀ ps w, J ps w → (∀ p ∈ ps, p.1 ≠ q.2 ∧ p.1 ∈ g0) → ∀ K', (∀ v w', J ((q.2, v) :: ps) w' → K' ((puts ps a).put (some q.2) v) w') → (ops.getD q.1 default).wp P (puts ps a) w K' Q) →
      wpTree P md ops Q S K n L (puts ps a) w
  | 0, g, L, ps, w, hg, hp, hJ, _ => by
    simp only [grpOk, List.isEmpty_iff] at hg
    subst hg
    exact hend ps w hJ (by simpa using hp)
  | n + 1, g, L, ps, w, hg, hp, hJ, hop => by
    intro i hi
    simp only [grpOk, List.all_eq_true] at hg
    have h1 := hg i hi
    simp only [List.any_eq_true, Bool.and_eq_true, beq_iff_eq] at h1
    obtain ⟨q, hq, rfl, hg'⟩ := h1
    have hnd : (ps.map (·.1) ++ g.map (·.2)).Nodup := hp.symm.nodup_iff.1 hn0
    refine hop q hq ps w hJ (fun p hpp => ⟨?_, ?_⟩) _ fun v w' hJ' => ⟨hJS _ _ hJ', ?_⟩
    · rw [List.nodup_append] at hnd
      exact hnd.2.2 _ (List.mem_map_of_mem hpp) _ (List.mem_map_of_mem hq)
    · exact hp.subset (List.mem_append_left _ (List.mem_map_of_mem hpp))
    · refine wpTree_grp hJS hn0 hend n (g.erase q) _ ((q.2, v) :: ps) w' hg' ?_ hJ' fun q' hq' => hop q' (List.mem_of_mem_erase hq')
      refine List.Perm.trans ?_ hp
      simp only [List.map_cons, List.cons_append]
      refine (List.perm_middle (l₁ := ps.map (·.1)) (a := q.2) (l₂ := (g.erase q).map (·.2))).symm.trans ?_
      exact List.Perm.append_left _ (by simpa using ((List.perm_cons_erase hq).map (·.2)).symm)
/-- What an effect's slot holds: a value (a call's), or the address of a new row. -/
def GrpF (G : Nat → Value ⊕ Obj) (w0 : World) (d : Nat) (v : Value) (w : World) : Prop :=
  match G d with
  | .inl x => v = x
  | .inr o => ∃ b, v = .pointer (some ⟨b, 0, none⟩) ∧ w.heap[b]? = some o ∧ w0.heap.size ≤ b ∧ b < w.heap.size
def GrpJ (G : Nat → Value ⊕ Obj) (w0 : World) (ps : List (Nat × Value)) (w : World) : Prop :=
  Mod NoB w0 w ∧ (∀ p ∈ ps, GrpF G w0 p.1 p.2 w) ∧ ps.Pairwise fun p q => ∀ o o' b b', G p.1 = .inr o → G q.1 = .inr o' → p.2 = .pointer (some ⟨b, 0, none⟩) → q.2 = .pointer (some ⟨b', 0, none⟩) → b ≠ b'
theorem GrpF.keep {G : Nat → Value ⊕ Obj} {w0 w w' : World} {d : Nat} {v : Value} (h : GrpF G w0 d v w) (hm : Mod NoB w w') : GrpF G w0 d v w' := by
  unfold GrpF at *
  split
  · rename_i x hx; rw [hx] at h; exact h
  · rename_i o hx
    rw [hx] at h
    obtain ⟨b, rfl, hb, h1, h2⟩ := h
    exact ⟨b, rfl, hm.obj id hb, h1, Nat.lt_of_lt_of_le h2 hm.size⟩
theorem wpTree_rows {a : Act} {w0 : World} {n : Nat} {L : Array Bool} (G : Nat → Value ⊕ Obj) (g : List (Nat × Nat)) (hS : ∀ w, Mod NoB w0 w → S w) (hg : grpOk md ops n g L = true) (hn : (g.map (·.2)).Nodup)
    (hend : ∀ (vals : List Value) (w : World), vals.length = g.length → GrpJ G w0 ((g.map (·.2)).zip vals) w → K (puts ((g.map (·.2)).zip vals) a) w)
    (hop : ∀ q ∈ g, ∀ ps w, Mod NoB w0 w → (∀ p ∈ ps, p.1 ≠ q.2 ∧ p.1 ∈ g.map (·.2)) → ∀ K', (match G q.2 with
      | .inl x => ∀ w', Mod NoB w w' → K' ((puts ps a).put (some q.2) x) w'
      | .inr o => ∀ w', w'.heap[w.heap.size]? = some o → Mod NoB w w' → w.heap.size < w'.heap.size → K' ((puts ps a).put (some q.2) (.pointer (some ⟨w.heap.size, 0, none⟩))) w') → (ops.getD q.1 default).wp P (puts ps a) w K' Q) :
    wpTree P md ops Q S K n L a w0 := by
  have hsym : ∀ {p q : Nat × Value}, (∀ o o' b b', G p.1 = .inr o → G q.1 = .inr o' → p.2 = .pointer (some ⟨b, 0, none⟩) → q.2 = .pointer (some ⟨b', 0, none⟩) → b ≠ b') →
      (∀ o o' b b', G q.1 = .inr o → G p.1 = .inr o' → q.2 = .pointer (some ⟨b, 0, none⟩) → p.2 = .pointer (some ⟨b', 0, none⟩) → b ≠ b') := fun h o o' b b' h1 h2 h3 h4 => (h o' o b' b h2 h1 h4 h3).symm
  refine wpTree_grp (J := GrpJ G w0) (g0 := g.map (·.2)) (fun ps w h => hS w h.1) hn (fun ps w hJ hp => ?_) n g L [] w0 hg (by simp) ⟨Mod.refl _ _, fun p hp => (nomatch hp), List.Pairwise.nil⟩ (fun q hq ps w hJ hps K' hK' => ?_)
  · obtain ⟨vals, hl, hv⟩ := perm_vals hp
    rw [puts_perm hv a (hp.symm.nodup_iff.1 hn)]
    refine hend vals w (by simpa using hl) ⟨hJ.1, fun p hp => hJ.2.1 p (hv.symm.subset hp), ?_⟩
    exact (hv.pairwise_iff hsym).1 hJ.2.2
  · refine hop q hq ps w hJ.1 hps K' ?_
    cases e : G q.2 with
    | inl x =>
      intro w' hm
      refine hK' _ _ ⟨hJ.1.trans0 hm, fun p hp => ?_, ?_⟩
      · rcases List.mem_cons.1 hp with rfl | hp
        · unfold GrpF; rw [e]
        · exact (hJ.2.1 p hp).keep hm
      · refine List.Pairwise.cons (fun p hp o o' b b' h1 => ?_) hJ.2.2
        rw [e] at h1; cases h1
    | inr o =>
      intro w' hb hm hs
      refine hK' _ _ ⟨hJ.1.trans0 hm, fun p hp => ?_, ?_⟩
      · rcases List.mem_cons.1 hp with rfl | hp
        · unfold GrpF; rw [e]; exact ⟨_, rfl, hb, hJ.1.size, hs⟩
        · exact (hJ.2.1 p hp).keep hm
      · refine List.Pairwise.cons (fun p hp o' o2 b b' h1 h2 h3 h4 => ?_) hJ.2.2
        have := hJ.2.1 p hp
        unfold GrpF at this
        rw [h2] at this
        obtain ⟨c, hc, -, -, hlt⟩ := this
        rw [hc] at h4
        simp only [Value.pointer.injEq, Option.some.injEq, Addr.mk.injEq] at h3 h4
        omega
def grpG : List (Nat × (Value ⊕ Obj)) → Nat → Value ⊕ Obj
  | [], _ => .inl undef
  | (d, x) :: r, e => if d = e then x else grpG r e
theorem vals_cons {α : Type} {l : List α} {n : Nat} (h : l.length = n + 1) : ∃ x r, l = x :: r ∧ r.length = n := by
  cases l with
  | nil => cases h
  | cons x r => exact ⟨x, r, rfl, by simpa using h⟩
theorem GrpJ.ne {G : Nat → Value ⊕ Obj} {w0 w : World} {ps : List (Nat × Value)} (h : GrpJ G w0 ps w) {d e b b' : Nat} {o o' : Obj} (hp : (d, Value.pointer (some ⟨b, 0, none⟩)) ∈ ps) (hq : (e, Value.pointer (some ⟨b', 0, none⟩)) ∈ ps) (hde : d ≠ e) (h1 : G d = .inr o) (h2 : G e = .inr o') : b ≠ b' := by
  obtain ⟨i, hi, hpi⟩ := List.getElem_of_mem hp
  obtain ⟨j, hj, hqj⟩ := List.getElem_of_mem hq
  have H := List.pairwise_iff_getElem.1 h.2.2
  rcases Nat.lt_trichotomy i j with hlt | rfl | hlt
  · have := H i j hi hj hlt
    rw [hpi, hqj] at this
    exact this o o' b b' h1 h2 rfl rfl
  · rw [hpi] at hqj; injection hqj with h1 _; exact absurd h1 hde
  · have := H j i hj hi hlt
    rw [hpi, hqj] at this
    exact (this o' o b' b h2 h1 rfl rfl).symm
end
end Go.Proofs.YtchkikmmcmjcgaaGreat
