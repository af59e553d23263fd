/- Memory, said once: what a call may have changed, and slices that read as lists. -/
import Derived.Test.YtcfcahflkhgapaaGreatRows
import Derived.WalkKit
import Derived.WalkSpells
import Derived.WalkLawsBesides
import Derived.Deep.QuietTactic
import Derived.BigQuiet
import Derived.Lib.Hide
import Derived.Deep.RegionHeld3
import Derived.Deep.DeepCutAuto
import Derived.OrdersHeld
import Derived.Stop.BytesEq
import Derived.Lib.SlBytesRow
namespace Go.Proofs.YtcfcahflkhgapaaGreat
set_option linter.unusedSimpArgs false
set_option linter.unusedVariables false
set_option linter.unnecessarySimpa false
set_option linter.unusedSectionVars false
open Go.RowKit

/-- The call returns v; the world is as it was, but for draws. -/
def RetD (v : Value) (w : World) : Ending → World → Prop := fun e w' => e = .returned v ∧ ∃ n, w' = w.drewN n

/-- The call returns v, and what the world has become is told by R. -/
def RetW (v : Value) (R : World → Prop) : Ending → World → Prop := fun e w' => e = .returned v ∧ R w'

/-- Are the first k of two lists the same? -/
def pre {α : Type} [DecidableEq α] (k : Nat) (a b : List α) : Bool := decide (a.take k = b.take k)
theorem pre_zero {α : Type} [DecidableEq α] (a b : List α) : pre 0 a b = true := by simp [pre]
theorem pre_succ {α : Type} [DecidableEq α] {k : Nat} {a b : List α} (ha : k < a.length) (hb : k < b.length) (h : pre k a b = true) :
    pre (k + 1) a b = decide (a[k] = b[k]) := by
  simp only [pre, decide_eq_true_eq] at h ⊢
  rw [List.take_succ_eq_append_getElem ha, List.take_succ_eq_append_getElem hb, h]
  rw [decide_eq_decide]
  constructor
  · intro h'; exact (List.append_cancel_left h' |> List.cons.inj).1
  · intro h'; rw [h']
theorem pre_full {α : Type} [DecidableEq α] {k : Nat} {a b : List α} (hl : a.length = b.length) (h : a.length ≤ k) : pre k a b = decide (a = b) := by
  simp [pre, List.take_of_length_le h, List.take_of_length_le (hl ▸ h)]
theorem pre_false {α : Type} [DecidableEq α] {k : Nat} {a b : List α} (h : pre k a b = false) : decide (a = b) = false := by
  simp only [pre, decide_eq_false_iff_not] at h ⊢
  rintro rfl; exact h rfl
theorem ret_bool {a b : Bool} (h : a = b) : Ending.returned (.bool a) = .returned (.bool b) := by rw [h]

/-- Of the blocks that were there, none outside S has turned. -/
structure Mod (S : Nat → Prop) (w w' : World) : Prop where
  os : w'.os = w.os
  tape : w'.tape = w.tape
  output : w'.output = w.output
  size : w.heap.size ≤ w'.heap.size
  block : ∀ k, k < w.heap.size → ¬ S k → w'.heap[k]? = w.heap[k]?

def NoB : Nat → Prop := fun _ => False
/-- The call returns v, and what was there is as it was. -/
def RetM (v : Value) (w : World) : Ending → World → Prop := fun e w' => e = .returned v ∧ Mod NoB w w'
/-- Likewise, and R holds of what it returns and of the world. -/
def RetN (w : World) (R : Value → World → Prop) : Ending → World → Prop := fun e w' => ∃ v, e = .returned v ∧ Mod NoB w w' ∧ R v w'
/-- The state of a loop that holds two lists side by side. -/
def SameRel {α : Type} [DecidableEq α] (la lb : List α) (w0 : World) (s i : Value) (w : World) : Prop :=
  ∃ (k : Nat), k ≤ la.length ∧ i = .int .i64 k ∧ s = .bool (pre k la lb) ∧ Mod NoB w0 w

theorem Mod.refl (S : Nat → Prop) (w : World) : Mod S w w := ⟨rfl, rfl, rfl, Nat.le_refl _, fun _ _ _ => rfl⟩
theorem Mod.mono {S S' : Nat → Prop} {w w' : World} (h : Mod S w w') (hs : ∀ k, k < w.heap.size → S k → S' k) : Mod S' w w' :=
  ⟨h.os, h.tape, h.output, h.size, fun k hk hn => h.block k hk (fun h' => hn (hs k hk h'))⟩
theorem Mod.trans {S S' : Nat → Prop} {a b c : World} (h : Mod S a b) (k : Mod S' b c) (hs : ∀ k, k < a.heap.size → S' k → S k) : Mod S a c :=
  ⟨k.os.trans h.os, k.tape.trans h.tape, k.output.trans h.output, Nat.le_trans h.size k.size,
   fun i hi hn => (k.block i (Nat.lt_of_lt_of_le hi h.size) (fun h' => hn (hs i hi h'))).trans (h.block i hi hn)⟩
theorem Mod.drewN {S : Nat → Prop} {a b : World} (h : Mod S a b) (n : Nat) : Mod S a (b.drewN n) := ⟨h.os, h.tape, h.output, h.size, h.block⟩
theorem Mod.drew {S : Nat → Prop} {a b : World} (h : Mod S a b) : Mod S a b.drew := ⟨h.os, h.tape, h.output, h.size, h.block⟩
theorem Mod.alloc {S : Nat → Prop} {a b : World} (h : Mod S a b) (o : Obj) : Mod S a (b.alloc o) :=
  ⟨h.os, h.tape, h.output, by have := h.size; simp; omega, fun k hk hn => (Below.heap_alloc _ _ _ (Nat.lt_of_lt_of_le hk h.size)).trans (h.block k hk hn)⟩
theorem Mod.setCell {S : Nat → Prop} {a b : World} (h : Mod S a b) {p : Addr} (hp : p.block < a.heap.size → S p.block) (u : Value) : Mod S a (b.setCell p u) :=
  ⟨h.os, h.tape, h.output, by simpa [World.setCell] using h.size, fun k hk hn =>
    (Below.heap_setCell _ _ _ _ (fun e => hn (by subst e; exact hp hk))).trans (h.block k hk hn)⟩
theorem Mod.below {S : Nat → Prop} {w w' : World} (h : Mod S w w') (hS : ∀ k, k < w.heap.size → ¬ S k) : Below w.heap.size w w' :=
  ⟨h.os, h.tape, h.output, h.size, fun k hk => h.block k hk (hS k hk)⟩
theorem Mod.of_below {B : Nat} {w w' : World} (h : Below B w w') : Mod (fun k => B ≤ k) w w' :=
  ⟨h.os, h.tape, h.output, h.size, fun k _ hn => h.block k (by omega)⟩
theorem Mod.grown {S : Nat → Prop} {a w w' : World} {row : Option Nat} (h : Mod S a w) (hg : w.grownBy w' row) (hr : ∀ k, row = some k → k < a.heap.size → S k) : Mod S a w' :=
  ⟨hg.os.trans h.os, hg.tape.trans h.tape, hg.output.trans h.output, Nat.le_trans h.size hg.size,
   fun k hk hn => (hg.block k (Nat.lt_of_lt_of_le hk h.size) (fun e => hn (hr k e.symm hk))).trans (h.block k hk hn)⟩

theorem Mod.cell {S : Nat → Prop} {w w' : World} (h : Mod S w w') {b o : Nat} {v : Value} (hn : ¬ S b) (hc : w.cell? ⟨b, o, none⟩ = some v) : w'.cell? ⟨b, o, none⟩ = some v := by
  have hb := block_lt_of_cell hc
  rw [World.cell?_of_block (w := w) (h.block b hb hn)]; exact hc
theorem Mod.obj {S : Nat → Prop} {w w' : World} (h : Mod S w w') {b : Nat} {o : Obj} (hn : ¬ S b) (hc : w.heap[b]? = some o) : w'.heap[b]? = some o := by
  have hb : b < w.heap.size := by
    rcases Nat.lt_or_ge b w.heap.size with h | h
    · exact h
    · rw [Array.getElem?_eq_none h] at hc; cases hc
  rw [h.block b hb hn]; exact hc

/-- The cells from an address on. -/
def CellsAt (w : World) (b off : Nat) (cs : Array Value) : Prop := ∀ j, j < cs.size → w.cell? ⟨b, off + j, none⟩ = cs[j]?

theorem Mod.objB {B : Nat} {w w' : World} (h : Mod (fun k => k = B) w w') {b : Nat} {o : Obj} (hn : b ≠ B) (hc : w.heap[b]? = some o) : w'.heap[b]? = some o := h.obj hn hc
theorem Mod.transB {a b c : World} {B : Nat} (h : Mod NoB a b) (k : Mod (fun k => k = B) b c) (hs : a.heap.size ≤ B) : Mod NoB a c := h.trans k (fun k hk e => by have h1 : k = B := e; omega)
theorem Mod.trans0 {a b c : World} (h : Mod NoB a b) (k : Mod NoB b c) : Mod NoB a c := h.trans k (fun _ _ h => h)

/-- Where own is true: the block is a row of cells that may be written. -/
def Owned (own : Bool) (w : World) (b : Nat) : Prop := own = true → ∃ cur T, w.heap[b]? = some (.cells cur T (0, 0))

/-- The value v is a slice that reads as the list l: each element takes sz cells, which R reads; all lie in blocks of G. -/
def Sl {α : Type} (own : Bool) (w : World) (G : Nat → Prop) (sz : Nat) (R : Array Value → α → Prop) (v : Value) (l : List α) : Prop :=
  ∃ a cap, v = .slice a l.length cap ∧ l.length ≤ cap ∧ cap ≤ maxLen ∧
    (l ≠ [] → ∃ b off, a = some ⟨b, off, none⟩ ∧ G b ∧ Owned own w b ∧ ∀ i (h : i < l.length), ∃ cs : Array Value, cs.size = sz ∧ R cs l[i] ∧ CellsAt w b (off + i * sz) cs)

def IntC (cs : Array Value) (x : Int) : Prop := cs = #[.int .i64 x]
def byteV (b : UInt8) : Value := .int .u8 (b.toNat : Int)
def ByteC (cs : Array Value) (x : UInt8) : Prop := cs = #[byteV x]
def idCells (x : List UInt8) : Array Value := (x.map byteV).toArray
def IdC (cs : Array Value) (x : List UInt8) : Prop := cs = idCells x ∧ x.length = 32
theorem idCells_size (x : List UInt8) : (idCells x).size = x.length := by simp [idCells]

theorem CellsAt.keep {S : Nat → Prop} {w w' : World} (hm : Mod S w w') {b off : Nat} {cs : Array Value} (h : CellsAt w b off cs) (hn : ¬ S b) : CellsAt w' b off cs := fun j hj => by
  have := h j hj
  rw [Array.getElem?_eq_getElem hj] at this ⊢
  exact hm.cell hn this
theorem CellsAt.of_obj {w : World} {b off : Nat} {cs whole : Array Value} {T : TypeId} {fr : Nat × Nat} (h : w.heap[b]? = some (.cells whole T fr)) (hs : ∀ j, j < cs.size → whole[off + j]? = cs[j]?) : CellsAt w b off cs := fun j hj => by
  rw [cell_of_row w b _ whole T fr h]; exact hs j hj
theorem CellsAt.whole {w : World} {b : Nat} {cs : Array Value} {T : TypeId} {fr : Nat × Nat} (h : w.heap[b]? = some (.cells cs T fr)) : CellsAt w b 0 cs := fun j _ => by
  rw [cell_of_row w b _ cs T fr h, Nat.zero_add]
theorem CellsAt.part {w : World} {b off : Nat} {cs : Array Value} (h : CellsAt w b off cs) {i j : Nat} (hj : j ≤ cs.size) : CellsAt w b (off + i) (cs.extract i j) := fun k hk => by
  simp only [Array.size_extract] at hk
  rw [Nat.add_assoc, h (i + k) (by omega), Array.getElem?_extract, if_pos (by omega)]
theorem CellsAt.one {w : World} {b off : Nat} {c : Value} : CellsAt w b off #[c] ↔ w.cell? ⟨b, off, none⟩ = some c := by
  constructor
  · intro h; simpa using h 0 (by simp)
  · intro h j hj
    have : j = 0 := by simp at hj; omega
    subst this; simpa using h
theorem CellsAt.cell {w : World} {b off : Nat} {cs : Array Value} (h : CellsAt w b off cs) {j : Nat} {v : Value} (hv : cs[j]? = some v) : w.cell? ⟨b, off + j, none⟩ = some v := by
  have hj : j < cs.size := by
    rcases Nat.lt_or_ge j cs.size with h | h
    · exact h
    · rw [Array.getElem?_eq_none h] at hv; cases hv
  rw [h j hj, hv]

theorem Owned.keep {own : Bool} {S : Nat → Prop} {w w' : World} (hm : Mod S w w') {b : Nat} (h : Owned own w b) (hn : ¬ S b) : Owned own w' b := fun ho => by
  obtain ⟨cur, T, h⟩ := h ho
  exact ⟨cur, T, hm.obj hn h⟩

/-- Opened at an index: for a loop that reads it. -/
theorem Sl.at {α : Type} {own : Bool} {w : World} {G : Nat → Prop} {sz : Nat} {R : Array Value → α → Prop} {v : Value} {l : List α} (h : Sl own w G sz R v l) :
    ∃ a cap, v = .slice a l.length cap ∧ l.length ≤ 9223372036854775807 ∧
      (∀ i, i < l.length → ∃ b off, a = some ⟨b, off, none⟩ ∧ G b ∧ Owned own w b ∧ ∀ i (h : i < l.length), ∃ cs : Array Value, cs.size = sz ∧ R cs l[i] ∧ CellsAt w b (off + i * sz) cs) := by
  obtain ⟨a, cap, hv, hl, hc, h⟩ := h
  exact ⟨a, cap, hv, by unfold maxLen at hc; omega, fun i hi => h (by rintro rfl; simp at hi)⟩

theorem Sl.keep {α : Type} {own : Bool} {w w' : World} {G S : Nat → Prop} {sz : Nat} {R R' : Array Value → α → Prop} {v : Value} {l : List α} (h : Sl own w G sz R v l) (hm : Mod S w w') (hd : ∀ k, G k → ¬ S k)
    (hR : ∀ cs x, R cs x → R' cs x) : Sl own w' G sz R' v l := by
  obtain ⟨a, cap, hv, hl, hc, h⟩ := h
  refine ⟨a, cap, hv, hl, hc, fun hne => ?_⟩
  obtain ⟨b, off, ha, hG, ho, h⟩ := h hne
  refine ⟨b, off, ha, hG, ho.keep hm (hd b hG), fun i hi => ?_⟩
  obtain ⟨cs, hs, hR', hcs⟩ := h i hi
  exact ⟨cs, hs, hR _ _ hR', hcs.keep hm (hd b hG)⟩

theorem Sl.keep0 {α : Type} {own : Bool} {w w' : World} {G : Nat → Prop} {sz : Nat} {R : Array Value → α → Prop} {v : Value} {l : List α} (h : Sl own w G sz R v l) (hm : Mod NoB w w') : Sl own w' G sz R v l := h.keep hm (fun _ _ => id) (fun _ _ h => h)
theorem Sl.keepB {α : Type} {own : Bool} {w w' : World} {G : Nat → Prop} {B : Nat} {sz : Nat} {R : Array Value → α → Prop} {v : Value} {l : List α} (h : Sl own w G sz R v l) (hm : Mod (fun k => k = B) w w') (hd : ∀ k, G k → k ≠ B) : Sl own w' G sz R v l := h.keep hm hd (fun _ _ h => h)
theorem Sl.mono {α : Type} {own : Bool} {w : World} {G G' : Nat → Prop} {sz : Nat} {R R' : Array Value → α → Prop} {v : Value} {l : List α} (h : Sl own w G sz R v l) (hg : ∀ k, G k → G' k)
    (hR : ∀ cs x, R cs x → R' cs x) : Sl own w G' sz R' v l := by
  obtain ⟨a, cap, hv, hl, hc, h⟩ := h
  refine ⟨a, cap, hv, hl, hc, fun hne => ?_⟩
  obtain ⟨b, off, ha, hG, ho, h⟩ := h hne
  refine ⟨b, off, ha, hg _ hG, ho, fun i hi => ?_⟩
  obtain ⟨cs, hs, hR', hcs⟩ := h i hi
  exact ⟨cs, hs, hR _ _ hR', hcs⟩
theorem Sl.weak {α : Type} {own : Bool} {w : World} {G : Nat → Prop} {sz : Nat} {R : Array Value → α → Prop} {v : Value} {l : List α} (h : Sl own w G sz R v l) : Sl false w G sz R v l := by
  obtain ⟨a, cap, hv, hl, hc, h⟩ := h
  refine ⟨a, cap, hv, hl, hc, fun hne => ?_⟩
  obtain ⟨b, off, ha, hG, _, h⟩ := h hne
  exact ⟨b, off, ha, hG, (fun h => by cases h), h⟩
theorem Sl.one {α : Type} {own : Bool} {w : World} {G : Nat → Prop} {sz : Nat} {R : Array Value → α → Prop} {v : Value} {l : List α} (h : Sl own w G sz R v l) : v.oneCell' = true := by
  obtain ⟨a, cap, rfl, _⟩ := h; rfl
theorem Sl.nil {α : Type} (own : Bool) (w : World) (G : Nat → Prop) (sz : Nat) (R : Array Value → α → Prop) : Sl own w G sz R (.slice none 0 0) ([] : List α) :=
  ⟨none, 0, rfl, Nat.le_refl _, Nat.zero_le _, fun h => absurd rfl h⟩

/-- Two lists, element by element. -/
def All2 {α β : Type} (R : α → β → Prop) (a : List α) (b : List β) : Prop := a.length = b.length ∧ ∀ i (h : i < a.length) (h' : i < b.length), R a[i] b[i]
theorem All2.nil {α β : Type} {R : α → β → Prop} : All2 R [] [] := ⟨rfl, fun i h => by simp at h⟩
theorem All2.snoc {α β : Type} {R : α → β → Prop} {a : List α} {b : List β} {x : α} {y : β} (h : All2 R a b) (hxy : R x y) : All2 R (a ++ [x]) (b ++ [y]) := by
  refine ⟨by simp [h.1], fun i hi hi' => ?_⟩
  rcases Nat.lt_or_ge i a.length with hlt | hge
  · rw [List.getElem_append_left hlt, List.getElem_append_left (h.1 ▸ hlt)]
    exact h.2 i hlt _
  · have e : i = a.length := by simp at hi; omega
    have e' : i = b.length := by rw [e, h.1]
    have h1 : (a ++ [x])[i] = x := by subst e; simp
    have h2 : (b ++ [y])[i] = y := by
      have : ∀ (n : Nat) (hn : n < (b ++ [y]).length), n = b.length → (b ++ [y])[n] = y := fun n hn e => by subst e; simp
      exact this i hi' e'
    rw [h1, h2]; exact hxy
theorem All2.imp {α β : Type} {R R' : α → β → Prop} {a : List α} {b : List β} (h : All2 R a b) (hi : ∀ x y, R x y → R' x y) : All2 R' a b := ⟨h.1, fun i h1 h2 => hi _ _ (h.2 i h1 h2)⟩

/-- What the call itself has gathered by append reads as a list. -/
theorem Sl.of_owns {α : Type} {w : World} {base T sz n : Nat} {v : Value} {css : List (Array Value)} {xs : List Value} {l : List α} {R : Array Value → α → Prop} (h : w.ownsRow base T sz v n xs)
    (hx : xs = css.flatMap Array.toList) (hs : ∀ c ∈ css, c.size = sz) (hR : All2 R css l) (hn : n = l.length) :
    Sl true w (fun k => base ≤ k ∧ k < w.heap.size ∧ v.ownBlock = some k) sz R v l := by
  subst hn
  have hlen : css.length = l.length := hR.1
  rcases h.2 with ⟨rfl, h0⟩ | ⟨g, cap, cur, rfl, hb, hg, hc, hm, hcs, ht⟩
  · have : l = [] := List.eq_nil_of_length_eq_zero h0
    subst this
    exact Sl.nil _ _ _ _ _
  · refine ⟨_, cap, rfl, hc, hm, fun hne => ⟨g, 0, rfl, ⟨hb, ?_, rfl⟩, fun _ => ⟨cur, T, hg⟩, fun i hi => ?_⟩⟩
    · rcases Nat.lt_or_ge g w.heap.size with h | h
      · exact h
      · rw [Array.getElem?_eq_none h] at hg; cases hg
    · have hic : i < css.length := by omega
      refine ⟨css[i], hs _ (List.getElem_mem _), ?_, fun j hj => ?_⟩
      · exact hR.2 i hic hi
      · rw [cell_of_row w g _ cur T (0, 0) hg, Nat.zero_add]
        have hsz : css[i].size = sz := hs _ (List.getElem_mem _)
        have hflat : ∀ (css : List (Array Value)) (i : Nat) (hic : i < css.length), (∀ c ∈ css, c.size = sz) → ∀ j, j < sz → (css.flatMap Array.toList)[i * sz + j]? = css[i][j]? := by
          intro css
          induction css with
          | nil => intro i hic; simp at hic
          | cons c css ih =>
            intro i hic hs j hj
            have hc : c.toList.length = sz := by simpa using hs c (by simp)
            cases i with
            | zero => simp only [List.flatMap_cons, Nat.zero_mul, Nat.zero_add, List.getElem_cons_zero]; rw [List.getElem?_append_left (by omega)]; simp
            | succ i =>
              simp only [List.flatMap_cons, List.getElem_cons_succ]
              rw [List.getElem?_append_right (by rw [hc, Nat.succ_mul]; omega), hc, show (i + 1) * sz + j - sz = i * sz + j by rw [Nat.succ_mul]; omega]
              exact ih i (by simpa using hic) (fun c hc => hs c (by simp [hc])) j hj
        rw [← hflat css i hic hs j (hsz ▸ hj), ← hx, ← ht]
        have hlt : i * sz + j < l.length * sz := by
          have h1 : (i + 1) * sz ≤ l.length * sz := Nat.mul_le_mul_right _ hi
          rw [Nat.succ_mul] at h1; have := hsz ▸ hj; omega
        rw [List.getElem?_take_of_lt hlt]
        simp

/-! ### A region that draws its order, walked in one order of our own -/

section
variable {P : Program} {ops : Array Oper} {Q : Exit → Act → World → Prop} {S : World → Prop} {md : Region.Mode}

/-- The run gives v and leaves the world as it is: by itself, or by a call that does so. -/
def GivesV (P : Program) (r : Result Next) (v : Value) (w : World) : Prop :=
  r = .ok (.value v) w ∨ ∃ f args, r = .ok (.enter f args) w ∧ Calls P f args w (fun e w' => e = .returned v ∧ w' = w)

/-- In state 'a', in every world that meets S, operation 'o' leaves 'v' in its temporary and does nothing else. -/
def YieldsC (P : Program) (ops : Array Oper) (S : World → Prop) (o : Oper) (v : Value) (a : Act) : Prop :=
  (Region.wanted o (yielded ops a.tmps) = true ∧ ∀ w, S w → GivesV P ((execOp a.eval o).run P w) v w) ∨
  (Region.wanted o (yielded ops a.tmps) = false ∧ v = undef)

theorem GivesV.wp {o : Oper} {a : Act} {v : Value} {w : World} (h : GivesV P ((execOp a.eval o).run P w) v w) {K : Act → World → Prop} {Q : Exit → Act → World → Prop} (k : K (a.put o.dst v) w) : o.wp P a w K Q := by
  unfold Oper.wp
  rcases h with h | ⟨f, args, h, hc⟩
  · rw [h]; exact k
  · rw [h]
    refine hc.mono fun e w' ⟨he, hw⟩ => ?_
    subst he; subst hw
    exact k

theorem YieldsC.wpOp {i : Nat} {o : Oper} {v : Value} {a : Act} (hi : ops[i]? = some o) (hy : YieldsC P ops S o v a)
    {K : Act → World → Prop} {w : World} (hS : S w) (h : K (a.put o.dst v) w) : wpOp P ops Q i K a w := by
  unfold Go.wpOp
  simp only [hi]
  rcases hy with ⟨hw, hv⟩ | ⟨hw, rfl⟩
  · simp only [hw, if_true]; exact .inl ((hv w hS).wp h)
  · simp only [hw, Bool.false_eq_true, if_false]; exact h

theorem YieldsC.of_same {o : Oper} {v : Value} {a a' : Act} (hy : YieldsC P ops S o v a) (he : execOp a'.eval o = execOp a.eval o)
    (hw : Region.wanted o (yielded ops a'.tmps) = Region.wanted o (yielded ops a.tmps)) : YieldsC P ops S o v a' := by
  unfold YieldsC at *
  rw [he, hw]
  exact hy

/-- One operation 'oj', apart from 'oi': whether 'oi''s value is already in its temporary makes no difference to it, and it makes none to 'oi'. (After the base's wpOp_putIf.) -/
theorem wpOp_putC {j : Nat} {oi oj : Oper} {v : Value} (hj : ops[j]? = some oj) (hap : oi.apart ops oj = true)
    (hsi : ∀ cs b, oi.op ≠ .select cs b) (hsj : ∀ cs b, oj.op ≠ .select cs b)
    (hQ : ∀ c a w, Q (.panic c) (a.put oi.dst v) w → Q (.panic c) a w) {K : Act → World → Prop} {a : Act} {w : World}
    (hy : YieldsC P ops S oi v a) (h : wpOp P ops Q j K (a.put oi.dst v) w) :
    wpOp P ops Q j (fun a' w' => YieldsC P ops S oi v a' ∧ K (a'.put oi.dst v) w') a w := by
  obtain ⟨h1, h2, h3⟩ := Oper.apart_spec hap
  have keep : ∀ (a : Act), YieldsC P ops S oi v a → ∀ u, YieldsC P ops S oi v (a.put oj.dst u) := fun a hy u =>
    hy.of_same (execOp_put oi hsi a oj.dst u h3) (wanted_put oi a oj.dst u h3)
  have keepD : ∀ d, YieldsC P ops S oi v { a with defers := d :: a.defers } := fun d => hy.of_same rfl rfl
  unfold wpOp at *
  simp only [hj] at *
  rw [wanted_put oj a oi.dst v h1] at h
  split
  · rename_i hw
    simp only [hw, if_true] at h
    rcases h with h | ⟨hasks, hlets⟩
    case inr => exact .inr ⟨by unfold Oper.asks at *; rw [execOp_put oj hsj a oi.dst v h1] at hasks; exact hasks, hlets⟩
    refine .inl ?_
    unfold Oper.wp at *
    rw [execOp_put oj hsj a oi.dst v h1] at h
    generalize (execOp a.eval oj).run P w = r at *
    cases r with
    | ok n w' =>
      cases n <;> simp only [Oper.upon] at h ⊢
      case value u => exact ⟨keep a hy u, by rw [← Act.put_comm a v u h2]; exact h⟩
      case skip => exact ⟨keep a hy _, by rw [← Act.put_comm a v undef h2]; exact h⟩
      case defer d =>
        refine ⟨keep _ (keepD d) _, ?_⟩
        rw [← Act.put_comm _ v undef h2, ← Act.put_defers]
        exact h
      case enter f args =>
        refine Calls.mono h fun e w'' he => ?_
        cases e with
        | returned u => exact ⟨keep a hy u, by rw [← Act.put_comm a v u h2]; exact he⟩
        | panicked c => exact hQ _ _ _ he
        | outgrown => exact he
      case row row args => exact Rows.mono h fun u w'' he => ⟨keep a hy u, by rw [← Act.put_comm a v u h2]; exact he⟩
    | halt x w' =>
      cases x <;> simp only [Oper.upon] at h ⊢
      case panic u => exact hQ _ _ _ h
  · rename_i hw
    simp only [hw] at h
    exact ⟨keep a hy _, by rw [← Act.put_comm a v undef h2]; exact h⟩

/-- Has none of the operations tl come up yet? -/
def noneOf (tl : List Nat) (listed : Array Bool) : Bool := tl.all fun t => !listed.getD t false

/-- Whatever order is picked from here on; as long as none of tl has come up, S holds behind every operation. -/
def wpAnyG (P : Program) (md : Region.Mode) (ops : Array Oper) (Q : Exit → Act → World → Prop) (S : World → Prop) (tl : List Nat) : Nat → Array Bool → Act → World → Prop
  | 0, listed, a, w => Region.ready md ops listed = [] ∧ Q .normal a w
  | fuel + 1, listed, a, w =>
    (Region.ready md ops listed = [] → Q .normal a w) ∧
    ∀ i ∈ Region.ready md ops listed, wpOp P ops Q i (fun a' w' => (noneOf tl (listed.setIfInBounds i true) = true → S w') ∧ wpAnyG P md ops Q S tl fuel (listed.setIfInBounds i true) a' w') a w

theorem wpAny_of_G {tl : List Nat} : ∀ (fuel : Nat) (listed : Array Bool) (a : Act) (w : World), wpAnyG P md ops Q S tl fuel listed a w → wpAny P md ops Q fuel listed a w
  | 0, _, _, _, h => h
  | fuel + 1, _, _, _, h => ⟨h.1, fun i hi => wpOp_mono (fun a' w' h' => wpAny_of_G fuel _ a' w' h'.2) (h.2 i hi)⟩

def PanicSame (Q : Exit → Act → World → Prop) : Prop := ∀ c a a' w, a'.defers = a.defers → Q (.panic c) a w → Q (.panic c) a' w

theorem put_defers (a : Act) (d : Option Tmp) (v : Value) : (a.put d v).defers = a.defers := by cases d <;> rfl

/-- Do all of tl wait for i? -/
def waitsAll (md : Region.Mode) (ops : Array Oper) (tl : List Nat) (i : Nat) : Bool :=
  tl.all fun t => t != i && (match ops[t]? with | some o => o.after.any fun e => Region.binds md e && e.on == i | none => false)

theorem noneOf_set {tl : List Nat} {listed : Array Bool} {j : Nat} (h : noneOf tl listed = true) (hj : j ∉ tl) : noneOf tl (listed.setIfInBounds j true) = true := by
  simp only [noneOf, List.all_eq_true, Bool.not_eq_true'] at h ⊢
  intro t ht
  rw [getD_set_ne false (by rintro rfl; exact hj ht)]
  exact h t ht

theorem wpAnyG_first {tl : List Nat} {i : Nat} {oi : Oper} {v : Value} (hi : ops[i]? = some oi) (hsel : ∀ (j : Nat) (o : Oper) cs b, ops[j]? = some o → o.op ≠ .select cs b)
    (hQ : PanicSame Q) (htl : waitsAll md ops tl i = true) :
    ∀ (fuel : Nat) (listed : Array Bool) (a : Act) (w : World),
      (∀ j oj, ops[j]? = some oj → j ≠ i → listed.getD j true = false → (∀ e ∈ oj.after, Region.binds md e = true → e.on ≠ i) → oi.apart ops oj = true) →
      i ∈ Region.ready md ops listed → YieldsC P ops S oi v a → S w → noneOf tl listed = true →
      wpAnyG P md ops Q S tl fuel (listed.setIfInBounds i true) (a.put oi.dst v) w → wpAnyG P md ops Q S tl (fuel + 1) listed a w := by
  intro fuel
  have hw : ∀ t ∈ tl, t ≠ i ∧ ∃ o, ops[t]? = some o ∧ ∃ e ∈ o.after, Region.binds md e = true ∧ e.on = i := by
    intro t ht
    have := List.all_eq_true.1 htl t ht
    simp only [Bool.and_eq_true, bne_iff_ne] at this
    obtain ⟨h1, h2⟩ := this
    refine ⟨h1, ?_⟩
    cases ho : ops[t]? with
    | none => simp [ho] at h2
    | some o =>
      simp only [ho] at h2
      obtain ⟨e, he, hb⟩ := Array.any_eq_true'.1 h2
      exact ⟨o, rfl, e, he, by simpa using hb⟩
  induction fuel with
  | zero =>
    intro listed a w _ hr hy hS _ H
    refine ⟨fun h => (by rw [h] at hr; cases hr), fun j hj => ?_⟩
    by_cases hji : j = i
    · subst hji; exact hy.wpOp hi hS ⟨fun _ => hS, H⟩
    · have := ready_mono hj hji
      rw [H.1] at this
      cases this
  | succ fuel ih =>
    intro listed a w hfree hr hy hS hn H
    refine ⟨fun h => (by rw [h] at hr; cases hr), fun j hj => ?_⟩
    by_cases hji : j = i
    · subst hji; exact hy.wpOp hi hS ⟨fun _ => hS, H⟩
    · have h1 := H.2 j (ready_mono hj hji)
      obtain ⟨hjun, oj, hoj, hall⟩ := mem_ready.1 hj
      have hnot : ∀ e ∈ oj.after, Region.binds md e = true → e.on ≠ i := fun e he hb heq => by
        have h1 := hall e he hb
        have h0 := (mem_ready.1 hr).1
        rw [heq] at h1
        rcases Nat.lt_or_ge i listed.size with h' | h'
        · simp [h'] at h0 h1; rw [h0] at h1; cases h1
        · simp [Array.getElem?_eq_none h'] at h1
      have hjt : j ∉ tl := fun ht => by
        obtain ⟨_, o, ho, e, he, hb, hon⟩ := hw j ht
        rw [hoj] at ho; cases ho
        exact hnot e he hb hon
      have h2 := wpOp_putC hoj (hfree j oj hoj hji hjun hnot) (fun cs b => hsel i oi cs b hi) (fun cs b => hsel j oj cs b hoj) (fun c a w hq => hQ _ _ _ _ (by simp [put_defers]) hq) hy h1
      have hfree' : ∀ k ok, ops[k]? = some ok → k ≠ i → (listed.setIfInBounds j true).getD k true = false →
          (∀ e ∈ ok.after, Region.binds md e = true → e.on ≠ i) → oi.apart ops ok = true := fun k ok hk hki hun hno => by
        refine hfree k ok hk hki ?_ hno
        by_cases hjk : j = k
        · subst hjk; exact hjun
        · rw [getD_set_ne true hjk] at hun; exact hun
      have hn' := noneOf_set hn hjt
      have hni : noneOf tl ((listed.setIfInBounds i true).setIfInBounds j true) = true := noneOf_set (noneOf_set hn fun ht => (hw i ht).1 rfl) hjt
      refine wpOp_mono (fun a' w' h3 => ⟨fun _ => h3.2.1 hni, ih (listed.setIfInBounds j true) a' w' hfree' (ready_mono hr (Ne.symm hji)) h3.1 (h3.2.1 hni) hn' ?_⟩) h2
      rw [Array.setIfInBounds_comm _ _ hji]
      exact h3.2.2

theorem wpAnyG_free {tl : List Nat} {i : Nat} {oi : Oper} {v : Value} (hi : ops[i]? = some oi) (hsel : ∀ (j : Nat) (o : Oper) cs b, ops[j]? = some o → o.op ≠ .select cs b)
    (hQ : PanicSame Q) (hit : i ∉ tl) :
    ∀ (fuel : Nat) (listed : Array Bool) (a : Act) (w : World),
      (∀ j oj, ops[j]? = some oj → j ≠ i → listed.getD j true = false → (∀ e ∈ oj.after, Region.binds md e = true → e.on ≠ i) → oi.apart ops oj = true) →
      i ∈ Region.ready md ops listed → YieldsC P ops (fun _ => True) oi v a → (noneOf tl listed = true → S w) →
      wpAnyG P md ops Q S tl fuel (listed.setIfInBounds i true) (a.put oi.dst v) w → wpAnyG P md ops Q S tl (fuel + 1) listed a w := by
  intro fuel
  have hback : ∀ listed : Array Bool, noneOf tl (listed.setIfInBounds i true) = true → noneOf tl listed = true := by
    intro listed h
    simp only [noneOf, List.all_eq_true, Bool.not_eq_true'] at h ⊢
    intro t ht
    have := h t ht
    rwa [getD_set_ne false (by rintro rfl; exact hit ht)] at this
  induction fuel with
  | zero =>
    intro listed a w _ hr hy hS H
    refine ⟨fun h => (by rw [h] at hr; cases hr), fun j hj => ?_⟩
    by_cases hji : j = i
    · subst hji; exact hy.wpOp hi trivial ⟨fun hn => hS (hback _ hn), H⟩
    · have := ready_mono hj hji
      rw [H.1] at this
      cases this
  | succ fuel ih =>
    intro listed a w hfree hr hy hS H
    refine ⟨fun h => (by rw [h] at hr; cases hr), fun j hj => ?_⟩
    by_cases hji : j = i
    · subst hji; exact hy.wpOp hi trivial ⟨fun hn => hS (hback _ hn), H⟩
    · have h1 := H.2 j (ready_mono hj hji)
      obtain ⟨hjun, oj, hoj, hall⟩ := mem_ready.1 hj
      have hnot : ∀ e ∈ oj.after, Region.binds md e = true → e.on ≠ i := fun e he hb heq => by
        have h1 := hall e he hb
        have h0 := (mem_ready.1 hr).1
        rw [heq] at h1
        rcases Nat.lt_or_ge i listed.size with h' | h'
        · simp [h'] at h0 h1; rw [h0] at h1; cases h1
        · simp [Array.getElem?_eq_none h'] at h1
      have h2 := wpOp_putC hoj (hfree j oj hoj hji hjun hnot) (fun cs b => hsel i oi cs b hi) (fun cs b => hsel j oj cs b hoj) (fun c a w hq => hQ _ _ _ _ (by simp [put_defers]) hq) hy h1
      have hfree' : ∀ k ok, ops[k]? = some ok → k ≠ i → (listed.setIfInBounds j true).getD k true = false →
          (∀ e ∈ ok.after, Region.binds md e = true → e.on ≠ i) → oi.apart ops ok = true := fun k ok hk hki hun hno => by
        refine hfree k ok hk hki ?_ hno
        by_cases hjk : j = k
        · subst hjk; exact hjun
        · rw [getD_set_ne true hjk] at hun; exact hun
      have hfwd : noneOf tl (listed.setIfInBounds j true) = true → noneOf tl ((listed.setIfInBounds i true).setIfInBounds j true) = true := fun h => by
        rw [Array.setIfInBounds_comm _ _ (Ne.symm hji)]
        exact noneOf_set h hit
      refine wpOp_mono (fun a' w' h3 => ⟨fun hn => h3.2.1 (hfwd hn), ih (listed.setIfInBounds j true) a' w' hfree' (ready_mono hr (Ne.symm hji)) h3.1 (fun hn => h3.2.1 (hfwd hn)) ?_⟩) h2
      rw [Array.setIfInBounds_comm _ _ hji]
      exact h3.2.2

/-- May the operations be taken in this order? 0: one that yields its value in every world of the class; 3: one that yields it in whatever world; 1: any other, which must then be the only one that may come up; 2: likewise, and it is one of the stores at the end (tl): S need not hold behind it. -/
def piOk (md : Region.Mode) (ops : Array Oper) (tl : List Nat) : List (Nat × Nat) → Array Bool → Bool
  | [], listed => (Region.ready md ops listed).isEmpty
  | (i, 0) :: r, listed => i < ops.size && Region.free md ops listed i && (Region.ready md ops listed).contains i && waitsAll md ops tl i && noneOf tl listed && piOk md ops tl r (listed.setIfInBounds i true)
  | (i, 1) :: r, listed => i < ops.size && (Region.ready md ops listed) == [i] && !tl.contains i && piOk md ops tl r (listed.setIfInBounds i true)
  | (i, 2) :: r, listed => i < ops.size && (Region.ready md ops listed) == [i] && tl.contains i && !noneOf tl (listed.setIfInBounds i true) && piOk md ops tl r (listed.setIfInBounds i true)
  | (i, _ + 3) :: r, listed => i < ops.size && Region.free md ops listed i && (Region.ready md ops listed).contains i && !tl.contains i && piOk md ops tl r (listed.setIfInBounds i true)

/-- What is to be shown, by the flags of piOk. -/
def wpPi (P : Program) (ops : Array Oper) (Q : Exit → Act → World → Prop) : (World → Prop) → List (Oper × Nat) → Act → World → Prop
  | _, [], a, w => Q .normal a w
  | S, (o, 0) :: r, a, w => ∃ v, YieldsC P ops S o v a ∧ wpPi P ops Q S r (a.put o.dst v) w
  | S, (o, 1) :: r, a, w =>
    if Region.wanted o (yielded ops a.tmps) then o.wp P a w (fun a' w' => ∃ S' : World → Prop, (∀ w, S' w → S w) ∧ S' w' ∧ wpPi P ops Q S' r a' w') Q ∨ (o.asks P a w ∧ LetsOut Q)
    else S w ∧ wpPi P ops Q S r (a.put o.dst undef) w
  | S, (o, 2) :: r, a, w =>
    if Region.wanted o (yielded ops a.tmps) then o.wp P a w (wpPi P ops Q S r) Q ∨ (o.asks P a w ∧ LetsOut Q)
    else wpPi P ops Q S r (a.put o.dst undef) w
  | S, (o, _ + 3) :: r, a, w => ∃ v, YieldsC P ops (fun _ => True) o v a ∧ wpPi P ops Q S r (a.put o.dst v) w

theorem wpAnyG_weaken {S' : World → Prop} {tl : List Nat} (hSS : ∀ w, S' w → S w) : ∀ (fuel : Nat) (listed : Array Bool) (a : Act) (w : World), wpAnyG P md ops Q S' tl fuel listed a w → wpAnyG P md ops Q S tl fuel listed a w
  | 0, _, _, _, h => h
  | fuel + 1, _, _, _, h => ⟨h.1, fun i hi => wpOp_mono (fun a' w' h' => ⟨fun hn => hSS _ (h'.1 hn), wpAnyG_weaken hSS fuel _ a' w' h'.2⟩) (h.2 i hi)⟩

theorem wpAnyG_of_pi {tl : List Nat} (hs : Region.noSelect ops = true) (hQ : PanicSame Q) :
    ∀ (S : World → Prop) (l : List (Nat × Nat)) (listed : Array Bool) (a : Act) (w : World), piOk md ops tl l listed = true → (noneOf tl listed = true → S w) → wpPi P ops Q S (l.map fun x => (ops.getD x.1 default, x.2)) a w →
      wpAnyG P md ops Q S tl l.length listed a w
  | S, [], listed, a, w, hp, _, h => by
    simp only [piOk, List.isEmpty_iff] at hp
    exact ⟨hp, h⟩
  | S, (i, 0) :: r, listed, a, w, hp, hS, h => by
    simp only [piOk, Bool.and_eq_true, decide_eq_true_eq] at hp
    obtain ⟨⟨⟨⟨⟨hi, hf⟩, hr⟩, hwa⟩, hn⟩, hp⟩ := hp
    obtain ⟨v, hy, h⟩ := h
    have hi' : ops[i]? = some (ops.getD i default) := by simp [Array.getD, hi]
    exact wpAnyG_first hi' (Region.noSelect_spec hs) hQ hwa r.length listed a w (Region.free_spec hi' hf) (by simpa using hr) hy (hS hn) hn
      (wpAnyG_of_pi hs hQ S r _ _ w hp (fun _ => hS hn) h)
  | S, (i, n + 3) :: r, listed, a, w, hp, hS, h => by
    simp only [piOk, Bool.and_eq_true, decide_eq_true_eq, Bool.not_eq_true'] at hp
    obtain ⟨⟨⟨⟨hi, hf⟩, hr⟩, hit⟩, hp⟩ := hp
    obtain ⟨v, hy, h⟩ := h
    have hit' : i ∉ tl := by simpa using hit
    have hi' : ops[i]? = some (ops.getD i default) := by simp [Array.getD, hi]
    refine wpAnyG_free hi' (Region.noSelect_spec hs) hQ hit' r.length listed a w (Region.free_spec hi' hf) (by simpa using hr) hy hS
      (wpAnyG_of_pi hs hQ S r _ _ w hp (fun hn => hS ?_) h)
    simp only [noneOf, List.all_eq_true, Bool.not_eq_true'] at hn ⊢
    intro t ht
    have := hn t ht
    rwa [getD_set_ne false (by rintro rfl; exact hit' ht)] at this
  | S, (i, 1) :: r, listed, a, w, hp, hS, h => by
    simp only [piOk, Bool.and_eq_true, decide_eq_true_eq, beq_iff_eq] at hp
    obtain ⟨⟨⟨hi, hr⟩, ht⟩, hp⟩ := hp
    refine ⟨fun h0 => (by rw [hr] at h0; cases h0), fun j hj => ?_⟩
    have : j = i := by rw [hr] at hj; simpa using hj
    subst this
    have hi' : ops[j]? = some (ops.getD j default) := by simp [Array.getD, hi]
    simp only [List.map_cons] at h
    refine wpOp_mono (K := fun a' w' => ∃ S' : World → Prop, (∀ w, S' w → S w) ∧ S' w' ∧ wpPi P ops Q S' (r.map fun x => (ops.getD x.1 default, x.2)) a' w')
      (fun a' w' h' => (by
        obtain ⟨S', hSS, h1, h2⟩ := h'
        exact ⟨fun _ => hSS _ h1, wpAnyG_weaken hSS _ _ _ _ (wpAnyG_of_pi hs hQ S' r _ _ w' hp (fun _ => h1) h2)⟩)) ?_
    unfold wpPi at h
    unfold wpOp
    generalize ops.getD j default = oj at hi' h
    simp only [hi']
    by_cases hg : Region.wanted oj (yielded ops a.tmps) = true
    · rw [if_pos hg] at h ⊢
      exact h
    · rw [if_neg hg] at h ⊢
      exact ⟨S, fun _ h => h, h.1, h.2⟩
  | S, (i, 2) :: r, listed, a, w, hp, hS, h => by
    simp only [piOk, Bool.and_eq_true, decide_eq_true_eq, beq_iff_eq, Bool.not_eq_true'] at hp
    obtain ⟨⟨⟨⟨hi, hr⟩, ht⟩, hno⟩, hp⟩ := hp
    refine ⟨fun h0 => (by rw [hr] at h0; cases h0), fun j hj => ?_⟩
    have : j = i := by rw [hr] at hj; simpa using hj
    subst this
    have hi' : ops[j]? = some (ops.getD j default) := by simp [Array.getD, hi]
    simp only [List.map_cons] at h
    refine wpOp_mono (K := fun a' w' => wpPi P ops Q S (r.map fun x => (ops.getD x.1 default, x.2)) a' w')
      (fun a' w' h' => ⟨fun hn => (by rw [hno] at hn; cases hn), wpAnyG_of_pi hs hQ S r _ _ w' hp (fun hn => (by rw [hno] at hn; cases hn)) h'⟩) ?_
    unfold wpOp
    generalize ops.getD j default = oj at hi' h
    simp only [hi']
    exact h

theorem wp_region_pi {id : Nat} {a : Act} {w : World} {l : List Oper} (p : List (Nat × Nat)) (tl : List Nat) (S : World → Prop) (hm : P.follows .mixedOrders = true) (hs : Region.noSelect l.toArray = true)
    (hl : p.length = l.toArray.size) (hp : piOk .any l.toArray tl p (Array.replicate l.toArray.size false) = true) (hQ : PanicSame Q) (hS : S w.drew)
    (h : wpPi P l.toArray Q S (p.map fun x => (l.getD x.1 default, x.2)) a w.drew) : (Code.region id l.toArray true).wp P Q a w :=
  wp_region_any hm (by
    have e : (p.map fun x => ((l.toArray).getD x.1 default, x.2)) = (p.map fun x => (l.getD x.1 default, x.2)) := by
      apply List.map_congr_left; intro x _; simp [Array.getD_eq_getD_getElem?, List.getD]
    have H := wpAny_of_G _ _ _ _ (wpAnyG_of_pi hs hQ S p _ a w.drew hp (fun _ => hS) (by rw [e]; exact h))
    rw [hl] at H
    exact H)

/-- A region that does not draw: one behind the other. -/
theorem wpList_of_pi : ∀ (S : World → Prop) (l : List (Oper × Nat)) (a : Act) (w : World), (∀ x ∈ l, x.2 ≠ 2) → S w → wpPi P ops Q S l a w → wpList P ops Q (l.map (·.1)) a w
  | _, [], _, _, _, _, h => h
  | S, (o, 0) :: r, a, w, hl, hS, h => by
    obtain ⟨v, hy, h⟩ := h
    have ih := wpList_of_pi S r _ w (fun x hx => hl x (by simp [hx])) hS h
    simp only [List.map_cons]
    unfold wpList
    rcases hy with ⟨hw, hv⟩ | ⟨hw, rfl⟩
    · rw [if_pos hw]
      refine .inl ?_
      exact (hv w hS).wp ih
    · rw [hw]; exact ih
  | S, (o, n + 3) :: r, a, w, hl, hS, h => by
    obtain ⟨v, hy, h⟩ := h
    have ih := wpList_of_pi S r _ w (fun x hx => hl x (by simp [hx])) hS h
    simp only [List.map_cons]
    unfold wpList
    rcases hy with ⟨hw, hv⟩ | ⟨hw, rfl⟩
    · rw [if_pos hw]
      refine .inl ?_
      exact (hv w trivial).wp ih
    · rw [hw]; exact ih
  | S, (o, 2) :: r, a, w, hl, hS, h => absurd rfl (hl (o, 2) (by simp))
  | S, (o, 1) :: r, a, w, hl, hS, h => by
    simp only [List.map_cons]
    unfold wpList
    unfold wpPi at h
    split
    · rename_i hw
      rw [if_pos hw] at h
      exact h.imp (fun h => Oper.wp_mono (fun a' w' ⟨S', _, h1, h2⟩ => wpList_of_pi S' r a' w' (fun x hx => hl x (by simp [hx])) h1 h2) h) id
    · rename_i hw
      rw [if_neg hw] at h
      exact wpList_of_pi S r _ w (fun x hx => hl x (by simp [hx])) h.1 h.2

theorem wp_region_seq {id : Nat} {a : Act} {w : World} {l : List Oper} (p : List Nat) (S : World → Prop) (hl : p.length = l.length) (hp : (p.all (· != 2)) = true) (hS : S w)
    (h : wpPi P l.toArray Q S (l.zip p) a w) : (Code.region id l.toArray false).wp P Q a w :=
  wp_region_lit (by
    have := wpList_of_pi S (l.zip p) a w (fun x hx => by
      have := List.of_mem_zip hx
      simpa using List.all_eq_true.1 hp x.2 this.2) hS h
    rwa [List.map_fst_zip (by omega)] at this)

theorem wpPi_nil {a : Act} {w : World} (h : Q .normal a w) : wpPi P ops Q S [] a w := h
/-- The operation yields its value in every world of the class. -/
theorem wpPi_val {o : Oper} {r : List (Oper × Nat)} {a : Act} {w : World} {v : Value} (hw : Region.wanted o (yielded ops a.tmps) = true)
    (hv : ∀ w, S w → (execOp a.eval o).run P w = .ok (.value v) w) (h : wpPi P ops Q S r (a.put o.dst v) w) : wpPi P ops Q S ((o, 0) :: r) a w :=
  ⟨v, .inl ⟨hw, fun w hS => .inl (hv w hS)⟩, h⟩
/-- The operation yields its value in whatever world. -/
theorem wpPi_any {o : Oper} {r : List (Oper × Nat)} {a : Act} {w : World} {v : Value} (hw : Region.wanted o (yielded ops a.tmps) = true)
    (hv : ∀ w, (execOp a.eval o).run P w = .ok (.value v) w) (h : wpPi P ops Q S r (a.put o.dst v) w) : wpPi P ops Q S ((o, 3) :: r) a w :=
  ⟨v, .inl ⟨hw, fun w _ => .inl (hv w)⟩, h⟩
/-- The operation's guard says no. -/
theorem wpPi_skip {o : Oper} {r : List (Oper × Nat)} {a : Act} {w : World} (hw : Region.wanted o (yielded ops a.tmps) = false)
    (h : wpPi P ops Q S r (a.put o.dst undef) w) : wpPi P ops Q S ((o, 3) :: r) a w :=
  ⟨undef, .inr ⟨hw, rfl⟩, h⟩
theorem wpPi_skip0 {o : Oper} {r : List (Oper × Nat)} {a : Act} {w : World} (hw : Region.wanted o (yielded ops a.tmps) = false)
    (h : wpPi P ops Q S r (a.put o.dst undef) w) : wpPi P ops Q S ((o, 0) :: r) a w :=
  ⟨undef, .inr ⟨hw, rfl⟩, h⟩
/-- A call that leaves the world as it is, taken like a value. -/
theorem wpPi_call {o : Oper} {r : List (Oper × Nat)} {a : Act} {w : World} {v : Value} {f : FuncId} {args : Array Value} (hw : Region.wanted o (yielded ops a.tmps) = true)
    (hr : ∀ w, (execOp a.eval o).run P w = .ok (.enter f args) w) (hc : ∀ w, S w → Calls P f args w (fun e w' => e = .returned v ∧ w' = w)) (h : wpPi P ops Q S r (a.put o.dst v) w) : wpPi P ops Q S ((o, 0) :: r) a w :=
  ⟨v, .inl ⟨hw, fun w hS => .inr ⟨f, args, hr w, hc w hS⟩⟩, h⟩
/-- An operation that is carried out in the world at hand. -/
theorem wpPi_do {o : Oper} {r : List (Oper × Nat)} {a : Act} {w : World} (hg : Region.wanted o (yielded ops a.tmps) = true)
    (h : ∀ K : Act → World → Prop, (∀ a' w', S w' → wpPi P ops Q S r a' w' → K a' w') → o.wp P a w K Q) : wpPi P ops Q S ((o, 1) :: r) a w := by
  unfold wpPi
  rw [if_pos hg]
  exact .inl (h _ fun a' w' h1 h2 => ⟨S, fun _ h => h, h1, h2⟩)
/-- Likewise, and a narrower class from there on. -/
theorem wpPi_do_to {o : Oper} {r : List (Oper × Nat)} {a : Act} {w : World} (hg : Region.wanted o (yielded ops a.tmps) = true)
    (h : ∀ K : Act → World → Prop, (∀ (S' : World → Prop) a' w', (∀ w, S' w → S w) → S' w' → wpPi P ops Q S' r a' w' → K a' w') → o.wp P a w K Q) : wpPi P ops Q S ((o, 1) :: r) a w := by
  unfold wpPi
  rw [if_pos hg]
  exact .inl (h _ fun S' a' w' hSS h1 h2 => ⟨S', hSS, h1, h2⟩)
/-- One of the last: S need not hold behind it. -/
theorem wpPi_last {o : Oper} {r : List (Oper × Nat)} {a : Act} {w : World} (hg : Region.wanted o (yielded ops a.tmps) = true)
    (h : ∀ K : Act → World → Prop, (∀ a' w', wpPi P ops Q S r a' w' → K a' w') → o.wp P a w K Q) : wpPi P ops Q S ((o, 2) :: r) a w := by
  unfold wpPi
  rw [if_pos hg]
  exact .inl (h _ fun a' w' h2 => h2)
theorem wpPi_do_skip {o : Oper} {r : List (Oper × Nat)} {a : Act} {w : World} (hg : Region.wanted o (yielded ops a.tmps) = false) (hS : S w)
    (h : wpPi P ops Q S r (a.put o.dst undef) w) : wpPi P ops Q S ((o, 1) :: r) a w := by
  unfold wpPi
  rw [hg]
  exact ⟨hS, h⟩
end

/-- A call of a named function with a body. -/
theorem run_call {P : Program} {o : Oper} {a : Act} (f : FuncId) (xs : List Operand) (ts : Array TypeId) (ho : o.op = .call { callee := .value (.func f), args := xs.toArray, argTypes := ts }) (fn : Func) (hf : P.funcs[f]? = some fn)
    (hb : fn.body.isSome = true) (hn : (fn.name == "runtime.NumGoroutine") = false) (args : List Value) (ha : xs.map a.eval = args) (w : World) : (execOp a.eval o).run P w = .ok (.enter f args.toArray) w := by
  subst ha
  have hb' : ¬ fn.body = none := by intro h; simp [h] at hb
  have hn' : ¬ fn.name = "runtime.NumGoroutine" := by simpa using hn
  unfold execOp
  simp [ho, resolve, Act.eval, Deferred.ofValue, invoke, callFunc, hf, hb', hn']

/-! ### Loads and stores of structs and arrays -/
theorem run_loadVar_cells {P : Program} {w : World} {b off : Nat} {ty : TypeId} {cs : Array Value} {d : TypeDesc} (hc : CellsAt w b off cs)
    (hu : P.underlying ty = some d) (hd : (match d with | .struct _ | .array _ _ => true | _ => false) = true) (hi : (P.info? ty).map (·.size) = some cs.size) :
    (loadVar ty ⟨b, off, none⟩).run P w = .ok (.agg cs) w := by
  have hl : (loadCells ⟨b, off, none⟩ cs.toList.length).run P w = .ok cs.toList.toArray w :=
    run_loadCells_list (P := P) w ⟨b, off, none⟩ cs.toList (fun j v hv => by
      have hj : j < cs.size := by
        rcases Nat.lt_or_ge j cs.toList.length with h | h
        · simpa using h
        · rw [List.getElem?_eq_none h] at hv; cases hv
      have hadd : (⟨b, off, none⟩ : Addr).add j = ⟨b, off + j, none⟩ := by unfold Addr.add; split <;> simp_all
      rw [hadd, hc j hj]
      simpa using hv)
  cases hq : P.info? ty with
  | none => simp [hq] at hi
  | some i =>
    have hs : i.size = cs.size := by simpa [hq] using hi
    have hagg : (isAgg ty).run P w = .ok true w := by
      unfold isAgg
      rw [Sem.run_bind, run_underlying hu w]
      cases d <;> simp_all
    simp only [Array.length_toList, Array.toArray_toList] at hl
    simp [loadVar, Sem.run_bind, hagg, sizeOf, typeInfo, hq, hs, hl]

theorem exec_loadA {P : Program} {w : World} {o : Oper} {a : Act} (ty : TypeId) (x : Operand) (ho : o.op = .load ty x) (b off : Nat) (hx : a.eval x = .pointer (some ⟨b, off, none⟩))
    (cs : Array Value) (hc : CellsAt w b off cs) (d : TypeDesc) (hu : P.underlying ty = some d) (hd : (match d with | .struct _ | .array _ _ => true | _ => false) = true) (n : Nat) (hi : (P.info? ty).map (·.size) = some n) (hn : cs.size = n) :
    (execOp a.eval o).run P w = .ok (.value (.agg cs)) w := by
  unfold execOp
  simp only [ho, hx, Instr.loadAt, Instr.sureAddr, Sem.run_bind, Sem.run_pure, Result.andThen_ok, run_loadVar_cells hc hu hd (hn ▸ hi)]

/-- A load of one cell. -/
theorem exec_load1 {P : Program} {w : World} {o : Oper} {a : Act} (ty : TypeId) (x : Operand) (ho : o.op = .load ty x) (b off : Nat) (hx : a.eval x = .pointer (some ⟨b, off, none⟩))
    (v : Value) (hc : w.cell? ⟨b, off, none⟩ = some v) (d : TypeDesc) (hu : P.underlying ty = some d) (hd : (match d with | .struct _ | .array _ _ => true | _ => false) = false) :
    (execOp a.eval o).run P w = .ok (.value v) w := by
  have hagg : (isAgg ty).run P w = .ok false w := by
    unfold isAgg
    rw [Sem.run_bind, run_underlying hu w]
    cases d <;> simp_all
  unfold execOp
  simp only [ho, hx, Instr.loadAt, Instr.sureAddr, Sem.run_bind, Sem.run_pure, Result.andThen_ok, loadVar, hagg, Bool.false_eq_true, if_false]
  simp [load, Sem.run, hc]

theorem wpList_loadA {P : Program} {ops : Array Oper} {rest : List Oper} {o : Oper} {a : Act} {w : World} {Q : Exit → Act → World → Prop} (hgd : o.guard = none) (ty : TypeId) (x : Operand) (ho : o.op = .load ty x)
    (b off : Nat) (hx : a.eval x = .pointer (some ⟨b, off, none⟩)) (cs : Array Value) (hc : CellsAt w b off cs) (d : TypeDesc)
    (hu : P.underlying ty = some d) (hd : (match d with | .struct _ | .array _ _ => true | _ => false) = true) (n : Nat) (hi : (P.info? ty).map (·.size) = some n) (hn : cs.size = n)
    (h : wpList P ops Q rest (a.put o.dst (.agg cs)) w) : wpList P ops Q (o :: rest) a w :=
  wpList_plain hgd fun _ hK => by
    unfold Oper.wp
    rw [exec_loadA ty x ho b off hx cs hc d hu hd n hi hn]
    exact hK _ _ h

/-- '==' on two arrays of bytes. -/
theorem exec_eql_id {P : Program} {w : World} {o : Oper} {a : Act} (t : TypeId) (x y : Operand) (yt : TypeId) (ho : o.op = .binOp .eql t x y yt) (xs ys : List UInt8)
    (hx : a.eval x = .agg (idCells xs)) (hy : a.eval y = .agg (idCells ys)) (n : Nat) (e : TypeId) (ht : P.underlying t = some (.array n e)) (he : P.underlying e = some (.int .u8))
    (hsz : (P.info? e).map (·.size) = some 1) (hg : P.eqGuardType P.depth t = false) (hxs : xs.length = n) (hys : ys.length = n) (b : Bool) (hb : decide (xs = ys) = b) :
    (execOp a.eval o).run P w = .ok (.value (.bool b)) w := by
  subst hb
  have hs : ∀ w, (sizeOf e).run P w = .ok 1 w := fun w => by
    cases hq : P.info? e with
    | none => simp [hq] at hsz
    | some i => simp [hq] at hsz; simp [sizeOf, typeInfo, hq, hsz]
  have h1 := run_eqGuard_agg (P := P) w .eql t x y (idCells xs) (idCells ys) hg
  have h2 := run_eql_bytes (P := P) w t e n ht he hs xs ys hxs hys
  unfold execOp
  simp only [ho, hx, hy, Sem.run_bind, h1, Result.andThen_ok]
  rw [show idCells xs = (xs.map Extern.Stop.cell).toArray from rfl, show idCells ys = (ys.map Extern.Stop.cell).toArray from rfl, h2]
  simp only [Result.andThen_ok, Sem.run_pure]
  have : (xs == ys) = decide (xs = ys) := by rw [Bool.eq_iff_iff]; simp
  rw [this]

theorem exec_eql_int {P : Program} {w : World} {o : Oper} {a : Act} (t : TypeId) (x y : Operand) (yt : TypeId) (ho : o.op = .binOp .eql t x y yt) (k : IntKind) (m n : Int)
    (hx : a.eval x = .int k m) (hy : a.eval y = .int k n) (b : Bool) (hb : decide (m = n) = b) : (execOp a.eval o).run P w = .ok (.value (.bool b)) w := by
  subst hb
  unfold execOp
  simp [ho, hx, hy, eqGuard, binOp, Op.intCmp]
  rw [Bool.eq_iff_iff]; simp

theorem exec_eql_str {P : Program} {w : World} {o : Oper} {a : Act} (t : TypeId) (x y : Operand) (yt : TypeId) (ho : o.op = .binOp .eql t x y yt) (m n : ByteArray)
    (hx : a.eval x = .string m) (hy : a.eval y = .string n) (b : Bool) (hb : decide (m = n) = b) : (execOp a.eval o).run P w = .ok (.value (.bool b)) w := by
  subst hb
  unfold execOp
  have h : (m.toList == n.toList) = decide (m = n) := by
    rw [← beq_toListBytes, Bool.eq_iff_iff, decide_eq_true_iff]
    obtain ⟨⟨x⟩⟩ := m
    obtain ⟨⟨y⟩⟩ := n
    show ((⟨x⟩ : Array UInt8) == ⟨y⟩) = true ↔ _
    simp
  simp [ho, hx, hy, eqGuard, binOp, Op.stringOp, h]

/-- 'string(b)' of bytes. -/
theorem run_string_of_bytes {P : Program} {w : World} {own : Bool} {G : Nat → Prop} {v : Value} {l : List UInt8} (h : Sl own w G 1 ByteC v l) (src e dst : TypeId)
    (hs : P.underlying src = some (.slice e)) (he : P.underlying e = some (.int .u8)) (hd : P.underlying dst = some .string) :
    (convert src dst v).run P w = .ok (.string ⟨l.toArray⟩) w := by
  obtain ⟨a, cap, rfl, hl, hc, h⟩ := h
  by_cases hne : l = []
  · subst hne
    cases a with
    | none => rw [run_convert_bytes_nil (P := P) w src e hs he _ _ dst hd]; rfl
    | some a =>
      rw [run_convert_bytes_string (P := P) w src dst e _ _ _ hs he hd]
      simp [Conv.bytesToString, loadCells, loadCellsFrom]
      rfl
  · obtain ⟨b, off, rfl, -, -, h⟩ := h hne
    have := Lib.run_convert_whole (P := P) w src e dst hs he hd b off ⟨l.toArray⟩ (fun i hi => by
      have hi' : i < l.length := by simpa [ByteArray.size] using hi
      obtain ⟨cs, -, rfl, hc⟩ := h i hi'
      have := CellsAt.one.1 hc
      rw [Nat.mul_one] at this
      rw [this]; rfl) cap
    simpa [ByteArray.size] using this
theorem exec_string_of_bytes {P : Program} {w : World} {o : Oper} {a : Act} {own : Bool} {G : Nat → Prop} (src e dst : TypeId) (x : Operand) (ho : o.op = .convert src dst x) (v : Value) (hx : a.eval x = v) {l : List UInt8} (h : Sl own w G 1 ByteC v l)
    (hs : P.underlying src = some (.slice e)) (he : P.underlying e = some (.int .u8)) (hd : P.underlying dst = some .string) : (execOp a.eval o).run P w = .ok (.value (.string ⟨l.toArray⟩)) w := by
  unfold execOp
  simp only [ho, hx, Sem.run_bind, run_string_of_bytes h src e dst hs he hd, Result.andThen_ok, Sem.run_pure]
theorem bytes_inj {a b : List UInt8} : ((⟨a.toArray⟩ : ByteArray) = ⟨b.toArray⟩) ↔ a = b := by
  constructor
  · intro h
    have := congrArg (fun x : ByteArray => x.data.toList) h
    simpa using this
  · intro h; rw [h]

/-! ### Cheap steps of a region -/
def fieldOff (P : Program) (s : TypeId) (f : Nat) : Option Nat :=
  match P.underlying s with
  | some (.struct fs) =>
    match fs[f]? with
    | some fd => match (P.info? fd.type).map (·.size) with | some 0 => none | some _ => some fd.offset | none => none
    | none => none
  | _ => none

section
variable {P : Program} {ops : Array Oper} {Q : Exit → Act → World → Prop} {S : World → Prop} {o : Oper} {r : List (Oper × Nat)} {a : Act} {w : World}
theorem wpPi_move (x : Operand) (hw : Region.wanted o (yielded ops a.tmps) = true) (ho : o.op = .move x) (h : wpPi P ops Q S r (a.put o.dst (a.eval x)) w) : wpPi P ops Q S ((o, 3) :: r) a w :=
  wpPi_any hw (fun w => by unfold execOp; simp only [ho]; rfl) h
theorem wpPi_assign (x : Operand) (hw : Region.wanted o (yielded ops a.tmps) = true) (ho : o.op = .assign x) (h : wpPi P ops Q S r (a.put o.dst (a.eval x)) w) : wpPi P ops Q S ((o, 3) :: r) a w :=
  wpPi_any hw (fun w => by unfold execOp; simp only [ho]; rfl) h
theorem wpPi_pick (c x y : Operand) (t : Bool) (hw : Region.wanted o (yielded ops a.tmps) = true) (ho : o.op = .pick c x y) (hc : a.eval c = .bool t)
    (h : wpPi P ops Q S r (a.put o.dst (if t then a.eval x else a.eval y)) w) : wpPi P ops Q S ((o, 3) :: r) a w :=
  wpPi_any hw (fun w => by unfold execOp; simp only [ho, hc]; cases t <;> simp [asBool]) h
theorem wpPi_nilCheck (x : Operand) (p : Addr) (hw : Region.wanted o (yielded ops a.tmps) = true) (ho : o.op = .nilCheck x) (hx : a.eval x = .pointer (some p))
    (h : wpPi P ops Q S r (a.put o.dst (.pointer (some p))) w) : wpPi P ops Q S ((o, 3) :: r) a w :=
  wpPi_any hw (fun w => by unfold execOp; simp only [ho, hx]; rfl) h
theorem wpPi_not (x : Operand) (t : TypeId) (b : Bool) (hw : Region.wanted o (yielded ops a.tmps) = true) (ho : o.op = .unOp .not t x) (hx : a.eval x = .bool b)
    (h : wpPi P ops Q S r (a.put o.dst (.bool (!b))) w) : wpPi P ops Q S ((o, 3) :: r) a w :=
  wpPi_any hw (fun w => by unfold execOp; simp [ho, hx, Op.unary]) h
def isSliceT (P : Program) (t : TypeId) : Bool := match P.underlying t with | some (.slice _) => true | _ => false
theorem wpPi_len (x : Operand) (t : TypeId) (ad : Option Addr) (n c : Nat) (hw : Region.wanted o (yielded ops a.tmps) = true) (ho : o.op = .call { callee := .builtin .len, args := #[x], argTypes := #[t] }) (hx : a.eval x = .slice ad n c) (ht : isSliceT P t = true)
    (h : wpPi P ops Q S r (a.put o.dst (.int .i64 n)) w) : wpPi P ops Q S ((o, 3) :: r) a w :=
  wpPi_any hw (fun w => by
    unfold isSliceT at ht
    split at ht
    · rename_i e hu
      unfold execOp; simp [ho, hx, resolve, invoke, builtin, Builtin.len_, run_underlying hu, goInt]
    · cases ht) h
theorem run_fieldAt {s : TypeId} {b off f k : Nat} (hk : fieldOff P s f = some k) (w : World) : (Instr.fieldAt s (.pointer (some ⟨b, off, none⟩)) f).run P w = .ok (.pointer (some ⟨b, off + k, none⟩)) w := by
  unfold fieldOff at hk
  split at hk
  · rename_i fs hu
    split at hk
    · rename_i fd hf
      have hadd : (⟨b, off, none⟩ : Addr).add fd.offset = ⟨b, off + fd.offset, none⟩ := by unfold Addr.add; split <;> simp_all
      cases hi : P.info? fd.type with
      | none => simp [hi] at hk
      | some i =>
        simp only [hi, Option.map_some] at hk
        split at hk
        · cases hk
        · rename_i n hn heq
          have hz : i.size ≠ 0 := by rintro h0; rw [h0] at heq; cases heq; exact hn rfl
          have hk' : fd.offset = k := by simpa using hk
          subst hk'
          simp [Instr.fieldAt, run_underlying hu, hf, Instr.sureAddr, fieldPlace, sizeOf, typeInfo, hi, hz, hadd]
        · cases hk
    · cases hk
  · cases hk
theorem wpPi_field (s : TypeId) (x : Operand) (f b off k : Nat) (hw : Region.wanted o (yielded ops a.tmps) = true) (ho : o.op = .fieldAddr s x f) (hx : a.eval x = .pointer (some ⟨b, off, none⟩)) (hk : fieldOff P s f = some k)
    (h : wpPi P ops Q S r (a.put o.dst (.pointer (some ⟨b, off + k, none⟩))) w) : wpPi P ops Q S ((o, 3) :: r) a w :=
  wpPi_any hw (fun w => by unfold execOp; simp only [ho, hx, Sem.run_bind, run_fieldAt hk, Result.andThen_ok, Sem.run_pure]) h
theorem wrap_in {m : Int} (h1 : -9223372036854775808 ≤ m) (h2 : m ≤ 9223372036854775807) : IntKind.i64.wrap m = m := IntWalk.i64_in _ ⟨h1, h2⟩
theorem wpPi_add (t : TypeId) (x y : Operand) (yt : TypeId) (m n : Int) (hw : Region.wanted o (yielded ops a.tmps) = true) (ho : o.op = .binOp .add t x y yt) (hx : a.eval x = .int .i64 m) (hy : a.eval y = .int .i64 n)
    (h1 : -9223372036854775808 ≤ m + n) (h2 : m + n ≤ 9223372036854775807) (h : wpPi P ops Q S r (a.put o.dst (.int .i64 (m + n))) w) : wpPi P ops Q S ((o, 3) :: r) a w :=
  wpPi_any hw (fun w => by
    unfold execOp
    have e := wrap_in h1 h2
    simp [ho, hx, hy, eqGuard, binOp, Op.intArith, e]) h
theorem wpPi_sub (t : TypeId) (x y : Operand) (yt : TypeId) (m n : Int) (hw : Region.wanted o (yielded ops a.tmps) = true) (ho : o.op = .binOp .sub t x y yt) (hx : a.eval x = .int .i64 m) (hy : a.eval y = .int .i64 n)
    (h1 : -9223372036854775808 ≤ m - n) (h2 : m - n ≤ 9223372036854775807) (h : wpPi P ops Q S r (a.put o.dst (.int .i64 (m - n))) w) : wpPi P ops Q S ((o, 3) :: r) a w :=
  wpPi_any hw (fun w => by
    unfold execOp
    have e := wrap_in h1 h2
    simp [ho, hx, hy, eqGuard, binOp, Op.intArith, e]) h
theorem wpPi_mul (t : TypeId) (x y : Operand) (yt : TypeId) (m n : Int) (hw : Region.wanted o (yielded ops a.tmps) = true) (ho : o.op = .binOp .mul t x y yt) (hx : a.eval x = .int .i64 m) (hy : a.eval y = .int .i64 n)
    (h1 : -9223372036854775808 ≤ m * n) (h2 : m * n ≤ 9223372036854775807) (h : wpPi P ops Q S r (a.put o.dst (.int .i64 (m * n))) w) : wpPi P ops Q S ((o, 3) :: r) a w :=
  wpPi_any hw (fun w => by
    unfold execOp
    have e := wrap_in h1 h2
    simp [ho, hx, hy, eqGuard, binOp, Op.intArith, e]) h
/-- A test on two ints, its outcome known or left as it is. -/
def cmpB : BinOp → Int → Int → Bool
  | .lss, m, n => decide (m < n)
  | .leq, m, n => decide (m ≤ n)
  | .gtr, m, n => decide (n < m)
  | .geq, m, n => decide (n ≤ m)
  | .eql, m, n => decide (m = n)
  | _, m, n => decide (m ≠ n)
def isCmp : BinOp → Bool
  | .lss | .leq | .gtr | .geq | .eql | .neq => true
  | _ => false
theorem exec_cmp {P : Program} {w : World} {o : Oper} {a : Act} (op : BinOp) (t : TypeId) (x y : Operand) (yt : TypeId) (k : IntKind) (m n : Int) (ho : o.op = .binOp op t x y yt) (hc : isCmp op = true) (hx : a.eval x = .int k m) (hy : a.eval y = .int k n)
    (b : Bool) (hb : cmpB op m n = b) : (execOp a.eval o).run P w = .ok (.value (.bool b)) w := by
  subst hb
  have hb : ∀ (p q : Int), (p == q) = decide (p = q) := fun p q => by rw [Bool.eq_iff_iff]; simp
  have hb' : ∀ (p q : Int), (p != q) = decide (p ≠ q) := fun p q => by rw [Bool.eq_iff_iff]; simp
  unfold execOp
  cases op <;> simp [isCmp] at hc <;> simp [ho, hx, hy, eqGuard, binOp, Op.intCmp, cmpB, hb, hb']
theorem wpPi_cmp (op : BinOp) (t : TypeId) (x y : Operand) (yt : TypeId) (k : IntKind) (m n : Int) (hw : Region.wanted o (yielded ops a.tmps) = true) (ho : o.op = .binOp op t x y yt) (hc : isCmp op = true) (hx : a.eval x = .int k m) (hy : a.eval y = .int k n)
    (b : Bool) (hb : cmpB op m n = b) (h : wpPi P ops Q S r (a.put o.dst (.bool b)) w) : wpPi P ops Q S ((o, 3) :: r) a w :=
  wpPi_any hw (fun _ => exec_cmp op t x y yt k m n ho hc hx hy b hb) h
/-- 'xs[i]' of a slice: the element's address. -/
theorem run_indexAt_slice {t e : TypeId} {b off len cap n i : Nat} (hu : P.underlying t = some (.slice e)) (hi : (P.info? e).map (·.size) = some n) (h : i < len) (w : World) :
    (Instr.indexAt t (.slice (some ⟨b, off, none⟩) len cap) (.int .i64 i)).run P w = .ok (.pointer (some ⟨b, off + i * n, none⟩)) w := by
  have hadd : (⟨b, off, none⟩ : Addr).add (i * n) = ⟨b, off + i * n, none⟩ := by unfold Addr.add; split <;> simp_all
  cases hq : P.info? e with
  | none => simp [hq] at hi
  | some j =>
    have hs : j.size = n := by simpa [hq] using hi
    simp [Instr.indexAt, asIntOf, run_underlying hu, h, sizeOf, typeInfo, hq, hs, hadd]
theorem wpPi_index (t : TypeId) (x y : Operand) (e : TypeId) (b off len cap n i : Nat) (hw : Region.wanted o (yielded ops a.tmps) = true) (ho : o.op = .indexAddr t x y)
    (hx : a.eval x = .slice (some ⟨b, off, none⟩) len cap) (hy : a.eval y = .int .i64 i) (hu : P.underlying t = some (.slice e)) (hi : (P.info? e).map (·.size) = some n) (hlt : i < len)
    (h : wpPi P ops Q S r (a.put o.dst (.pointer (some ⟨b, off + i * n, none⟩))) w) : wpPi P ops Q S ((o, 3) :: r) a w :=
  wpPi_any hw (fun w => by unfold execOp; simp only [ho, hx, hy, Sem.run_bind, run_indexAt_slice hu hi hlt, Result.andThen_ok, Sem.run_pure]) h
end

/-! ### A frame written out, laid anew behind a put -/
theorem pl (t : List Value) (df : List Deferred) (d : Nat) (v : Value) : Act.put ⟨t.toArray, df⟩ (some d) v = ⟨(t.set d v).toArray, df⟩ := by simp [Act.put]
theorem pn (a : Act) (v : Value) : Act.put a none v = a := rfl
theorem el (t : List Value) (df : List Deferred) (i : Nat) : Act.eval ⟨t.toArray, df⟩ (.tmp i) = t.getD i undef := by simp [Act.eval, List.getD]
theorem ec (t : Array Value) (df : List Deferred) (v : Value) : Act.eval ⟨t, df⟩ (.const v) = v := rfl
theorem sz {α : Type} (x y : α) (l : List α) : (x :: l).set 0 y = y :: l := rfl
theorem ss {α : Type} (x y : α) (l : List α) (n : Nat) : (x :: l).set (n + 1) y = x :: l.set n y := rfl
theorem gz {α : Type} (x y : α) (l : List α) : (x :: l).getD 0 y = x := rfl
theorem gs {α : Type} (x y : α) (l : List α) (n : Nat) : (x :: l).getD (n + 1) y = l.getD n y := rfl

end Go.Proofs.YtcfcahflkhgapaaGreat
