/- Events and letters, as plain values and as they lie in memory. -/
import Derived.Test.YtdllpakdhnanbaaMem
namespace Go.Proofs.Ytdllpakdhnanbaa
set_option linter.unusedSimpArgs false
set_option linter.unusedVariables false
set_option linter.unnecessarySimpa false
open Go.RowKit

/-! The fields' places. -/
theorem fo_38_0 : fieldOff Try.prog 38 0 = some 0 := by kernel_rfl
theorem fo_38_1 : fieldOff Try.prog 38 1 = some 1 := by kernel_rfl
theorem fo_38_2 : fieldOff Try.prog 38 2 = some 2 := by kernel_rfl
theorem fo_38_3 : fieldOff Try.prog 38 3 = some 3 := by kernel_rfl
theorem fo_38_4 : fieldOff Try.prog 38 4 = some 4 := by kernel_rfl
theorem fo_38_5 : fieldOff Try.prog 38 5 = some 5 := by kernel_rfl
theorem fo_38_6 : fieldOff Try.prog 38 6 = some 7 := by kernel_rfl
theorem fo_38_7 : fieldOff Try.prog 38 7 = some 39 := by kernel_rfl
theorem fo_104_0 : fieldOff Try.prog 104 0 = some 0 := by kernel_rfl
theorem fo_104_1 : fieldOff Try.prog 104 1 = some 2 := by kernel_rfl
theorem fo_104_2 : fieldOff Try.prog 104 2 = some 3 := by kernel_rfl
theorem fo_104_3 : fieldOff Try.prog 104 3 = some 4 := by kernel_rfl
theorem fo_104_4 : fieldOff Try.prog 104 4 = some 5 := by kernel_rfl
theorem fo_104_5 : fieldOff Try.prog 104 5 = some 6 := by kernel_rfl
theorem fo_104_6 : fieldOff Try.prog 104 6 = some 38 := by kernel_rfl
theorem fo_72_0 : fieldOff Try.prog 72 0 = some 0 := by kernel_rfl
theorem fo_72_1 : fieldOff Try.prog 72 1 = some 1 := by kernel_rfl
theorem fo_72_2 : fieldOff Try.prog 72 2 = some 2 := by kernel_rfl
theorem fo_72_3 : fieldOff Try.prog 72 3 = some 4 := by kernel_rfl
theorem fo_69_0 : fieldOff Try.prog 69 0 = some 0 := by kernel_rfl
theorem fo_69_1 : fieldOff Try.prog 69 1 = some 1 := by kernel_rfl
theorem fo_97_0 : fieldOff Try.prog 97 0 = some 0 := by kernel_rfl
theorem fo_97_1 : fieldOff Try.prog 97 1 = some 40 := by kernel_rfl
theorem fo_46_0 : fieldOff Try.prog 46 0 = some 0 := by kernel_rfl
theorem fo_46_1 : fieldOff Try.prog 46 1 = some 1 := by kernel_rfl
theorem fo_46_2 : fieldOff Try.prog 46 2 = some 2 := by kernel_rfl
theorem fo_46_3 : fieldOff Try.prog 46 3 = some 3 := by kernel_rfl
theorem fo_60_0 : fieldOff Try.prog 60 0 = some 0 := by kernel_rfl
theorem fo_60_1 : fieldOff Try.prog 60 1 = some 1 := by kernel_rfl
theorem fo_60_2 : fieldOff Try.prog 60 2 = some 2 := by kernel_rfl
theorem fo_60_3 : fieldOff Try.prog 60 3 = some 3 := by kernel_rfl

structure Evt where
  r : Int
  n : Int
  deps : List Int
  kind : Int
  repo : ByteArray
  tag : ByteArray
  id : List UInt8
  refs : List (List UInt8)
  deriving DecidableEq

structure Ltr where
  kind : Int
  src : Int
  dst : Int
  seen : List Int
  events : List Evt
  r : Int
  n : Int
  id : List UInt8
  b : List UInt8
  deriving DecidableEq

def evCells (e : Evt) (dv rv : Value) : Array Value :=
  #[.int .i64 e.r, .int .i64 e.n, dv, .int .i64 e.kind, .string e.repo, .string e.tag] ++ idCells e.id ++ #[rv]

def EvR (own : Bool) (w : World) (G : Nat → Prop) (cs : Array Value) (e : Evt) : Prop :=
  ∃ dv rv, cs = evCells e dv rv ∧ e.id.length = 32 ∧ Sl own w G 1 IntC dv e.deps ∧ Sl own w G 32 IdC rv e.refs ∧ e.repo.size ≤ maxLen ∧ e.tag.size ≤ maxLen

def ltrCells (l : Ltr) (sv ev bv : Value) : Array Value :=
  #[.int .i64 l.kind, .int .i64 l.src, .int .i64 l.dst, sv, ev, .int .i64 l.r, .int .i64 l.n] ++ idCells l.id ++ #[bv]

def LetR (own : Bool) (w : World) (E G : Nat → Prop) (cs : Array Value) (l : Ltr) : Prop :=
  ∃ sv ev bv, cs = ltrCells l sv ev bv ∧ l.id.length = 32 ∧ Sl own w G 1 IntC sv l.seen ∧ Sl own w E 39 (EvR own w G) ev l.events ∧ Sl own w G 1 ByteC bv l.b

/-- What the cells of an event are, one by one. -/
structure EvCells (cs : Array Value) (e : Evt) (dv rv : Value) : Prop where
  size : cs.size = 39
  c0 : cs[0]? = some (.int .i64 e.r)
  c1 : cs[1]? = some (.int .i64 e.n)
  c2 : cs[2]? = some dv
  c3 : cs[3]? = some (.int .i64 e.kind)
  c4 : cs[4]? = some (.string e.repo)
  c5 : cs[5]? = some (.string e.tag)
  c38 : cs[38]? = some rv
  dot : cs.extract 0 2 = #[.int .i64 e.r, .int .i64 e.n]
  id : cs.extract 6 38 = idCells e.id

theorem evCells_spec (e : Evt) (dv rv : Value) (h : e.id.length = 32) : EvCells (evCells e dv rv) e dv rv := by
  have hi : (idCells e.id).size = 32 := by rw [idCells_size, h]
  have hl : (e.id.map byteV).length = 32 := by simpa using h
  refine ⟨by simp [evCells, hi], ?_, ?_, ?_, ?_, ?_, ?_, ?_, ?_, ?_⟩
  all_goals try (simp [evCells, idCells, h]; done)
  · apply Array.toList_inj.1
    simp only [evCells, idCells, Array.toList_extract, Array.toList_append, List.extract_eq_take_drop]
    simp [hl]

structure LtrCells (cs : Array Value) (l : Ltr) (sv ev bv : Value) : Prop where
  size : cs.size = 40
  c0 : cs[0]? = some (.int .i64 l.kind)
  c1 : cs[1]? = some (.int .i64 l.src)
  c2 : cs[2]? = some (.int .i64 l.dst)
  c3 : cs[3]? = some sv
  c4 : cs[4]? = some ev
  c5 : cs[5]? = some (.int .i64 l.r)
  c6 : cs[6]? = some (.int .i64 l.n)
  c39 : cs[39]? = some bv
  dot : cs.extract 5 7 = #[.int .i64 l.r, .int .i64 l.n]
  id : cs.extract 7 39 = idCells l.id

theorem ltrCells_spec (l : Ltr) (sv ev bv : Value) (h : l.id.length = 32) : LtrCells (ltrCells l sv ev bv) l sv ev bv := by
  have hi : (idCells l.id).size = 32 := by rw [idCells_size, h]
  have hl : (l.id.map byteV).length = 32 := by simpa using h
  refine ⟨by simp [ltrCells, hi], ?_, ?_, ?_, ?_, ?_, ?_, ?_, ?_, ?_, ?_⟩
  all_goals try (simp [ltrCells, idCells, h]; done)
  · apply Array.toList_inj.1
    simp only [ltrCells, idCells, Array.toList_extract, Array.toList_append, List.extract_eq_take_drop]
    simp [hl]

theorem EvR.keep {own : Bool} {w w' : World} {G S : Nat → Prop} {cs : Array Value} {e : Evt} (h : EvR own w G cs e) (hm : Mod S w w') (hd : ∀ k, G k → ¬ S k) : EvR own w' G cs e := by
  obtain ⟨dv, rv, hc, hi, h1, h2, h3⟩ := h
  exact ⟨dv, rv, hc, hi, h1.keep hm hd fun _ _ h => h, h2.keep hm hd fun _ _ h => h, h3⟩
theorem EvR.mono {own : Bool} {w : World} {G G' : Nat → Prop} {cs : Array Value} {e : Evt} (h : EvR own w G cs e) (hg : ∀ k, G k → G' k) : EvR own w G' cs e := by
  obtain ⟨dv, rv, hc, hi, h1, h2, h3⟩ := h
  exact ⟨dv, rv, hc, hi, h1.mono hg fun _ _ h => h, h2.mono hg fun _ _ h => h, h3⟩
theorem EvR.keep0 {own : Bool} {w w' : World} {G : Nat → Prop} {cs : Array Value} {e : Evt} (h : EvR own w G cs e) (hm : Mod NoB w w') : EvR own w' G cs e := h.keep hm (fun _ _ => id)
theorem EvR.keepB {own : Bool} {w w' : World} {G : Nat → Prop} {B : Nat} {cs : Array Value} {e : Evt} (h : EvR own w G cs e) (hm : Mod (fun k => k = B) w w') (hd : ∀ k, G k → k ≠ B) : EvR own w' G cs e := h.keep hm hd
theorem EvR.weak {own : Bool} {w : World} {G : Nat → Prop} {cs : Array Value} {e : Evt} (h : EvR own w G cs e) : EvR false w G cs e := by
  obtain ⟨dv, rv, hc, hi, h1, h2, h3⟩ := h
  exact ⟨dv, rv, hc, hi, h1.weak, h2.weak, h3⟩
theorem LetR.keep {own : Bool} {w w' : World} {E G S : Nat → Prop} {cs : Array Value} {l : Ltr} (h : LetR own w E G cs l) (hm : Mod S w w') (he : ∀ k, E k → ¬ S k) (hd : ∀ k, G k → ¬ S k) : LetR own w' E G cs l := by
  obtain ⟨sv, ev, bv, hc, hi, h1, h2, h3⟩ := h
  exact ⟨sv, ev, bv, hc, hi, h1.keep hm hd fun _ _ h => h, h2.keep hm he fun _ _ h => h.keep hm hd, h3.keep hm hd fun _ _ h => h⟩
theorem LetR.mono {own : Bool} {w : World} {E G E' G' : Nat → Prop} {cs : Array Value} {l : Ltr} (h : LetR own w E G cs l) (he : ∀ k, E k → E' k) (hg : ∀ k, G k → G' k) : LetR own w E' G' cs l := by
  obtain ⟨sv, ev, bv, hc, hi, h1, h2, h3⟩ := h
  exact ⟨sv, ev, bv, hc, hi, h1.mono hg fun _ _ h => h, h2.mono he fun _ _ h => h.mono hg, h3.mono hg fun _ _ h => h⟩
theorem LetR.keep0 {own : Bool} {w w' : World} {E G : Nat → Prop} {cs : Array Value} {l : Ltr} (h : LetR own w E G cs l) (hm : Mod NoB w w') : LetR own w' E G cs l := h.keep hm (fun _ _ => id) (fun _ _ => id)
theorem SlEv.keep0 {own own' : Bool} {w w' : World} {E G : Nat → Prop} {v : Value} {l : List Evt} (h : Sl own w E 39 (EvR own' w G) v l) (hm : Mod NoB w w') : Sl own w' E 39 (EvR own' w' G) v l := h.keep hm (fun _ _ => id) (fun _ _ h => h.keep0 hm)
theorem SlEv.keepB {own own' : Bool} {w w' : World} {E G : Nat → Prop} {B : Nat} {v : Value} {l : List Evt} (h : Sl own w E 39 (EvR own' w G) v l) (hm : Mod (fun k => k = B) w w') (hd : ∀ k, E k → k ≠ B) (hd' : ∀ k, G k → k ≠ B) : Sl own w' E 39 (EvR own' w' G) v l := h.keep hm hd (fun _ _ h => h.keepB hm hd')
theorem LetR.weak {own : Bool} {w : World} {E G : Nat → Prop} {cs : Array Value} {l : Ltr} (h : LetR own w E G cs l) : LetR false w E G cs l := by
  obtain ⟨sv, ev, bv, hc, hi, h1, h2, h3⟩ := h
  exact ⟨sv, ev, bv, hc, hi, h1.weak, h2.weak.mono (fun _ h => h) fun _ _ h => h.weak, h3.weak⟩
/-- '==' on two dots. -/
theorem exec_eql_dot {w : World} {o : Oper} {a : Act} (x y : Operand) (yt : TypeId) (ho : o.op = .binOp .eql 33 x y yt) (m n p q : Int)
    (hx : a.eval x = .agg #[.int .i64 m, .int .i64 n]) (hy : a.eval y = .agg #[.int .i64 p, .int .i64 q]) (b : Bool) (hb : decide (m = p ∧ n = q) = b) : (execOp a.eval o).run Try.prog w = .ok (.value (.bool b)) w := by
  subst hb
  have h : (binOp .eql 33 (.agg #[.int .i64 m, .int .i64 n]) (.agg #[.int .i64 p, .int .i64 q])).run Try.prog w = .ok (.bool (decide (m = p ∧ n = q))) w := by
    go_simp
    by_cases h1 : m = p <;> by_cases h2 : n = q <;> simp [h1, h2]
  have h1 := run_eqGuard_agg (P := Try.prog) w .eql 33 x y #[.int .i64 m, .int .i64 n] #[.int .i64 p, .int .i64 q] (by kernel_rfl)
  unfold execOp
  simp only [ho, hx, hy, Sem.run_bind, h1, Result.andThen_ok, h, Sem.run_pure]

theorem evCells_set2 (e : Evt) (dv rv v : Value) : (evCells e dv rv).setIfInBounds 2 v = evCells e v rv := by
  apply Array.toList_inj.1; simp [evCells]
theorem evCells_set38 (e : Evt) (dv rv v : Value) (h : e.id.length = 32) : (evCells e dv rv).setIfInBounds 38 v = evCells e dv v := by
  apply Array.toList_inj.1; simp [evCells, idCells, h, List.set_append]
theorem ltrCells_set3 (l : Ltr) (sv ev bv v : Value) : (ltrCells l sv ev bv).setIfInBounds 3 v = ltrCells l v ev bv := by
  apply Array.toList_inj.1; simp [ltrCells]
theorem ltrCells_set4 (l : Ltr) (sv ev bv v : Value) : (ltrCells l sv ev bv).setIfInBounds 4 v = ltrCells l sv v bv := by
  apply Array.toList_inj.1; simp [ltrCells]
theorem ltrCells_set39 (l : Ltr) (sv ev bv v : Value) (h : l.id.length = 32) : (ltrCells l sv ev bv).setIfInBounds 39 v = ltrCells l sv ev v := by
  apply Array.toList_inj.1; simp [ltrCells, idCells, h, List.set_append]
theorem evCells_one (e : Evt) (dv rv : Value) (h1 : dv.oneCell' = true) (h2 : rv.oneCell' = true) : ∀ c ∈ evCells e dv rv, c.oneCell' = true := by
  intro c hc
  simp only [evCells, Array.mem_append] at hc
  rcases hc with (hc | hc) | hc
  · simp at hc; rcases hc with rfl | rfl | rfl | rfl | rfl | rfl <;> first | rfl | exact h1
  · simp only [idCells, List.mem_toArray, List.mem_map] at hc
    obtain ⟨b, _, rfl⟩ := hc; rfl
  · simp at hc; subst hc; exact h2
theorem ltrCells_one (l : Ltr) (sv ev bv : Value) (h1 : sv.oneCell' = true) (h2 : ev.oneCell' = true) (h3 : bv.oneCell' = true) : ∀ c ∈ ltrCells l sv ev bv, c.oneCell' = true := by
  intro c hc
  simp only [ltrCells, Array.mem_append] at hc
  rcases hc with (hc | hc) | hc
  · simp at hc; rcases hc with rfl | rfl | rfl | rfl | rfl | rfl | rfl <;> first | rfl | exact h1 | exact h2
  · simp only [idCells, List.mem_toArray, List.mem_map] at hc
    obtain ⟨b, _, rfl⟩ := hc; rfl
  · simp at hc; subst hc; exact h3
theorem EvR.one {own : Bool} {w : World} {G : Nat → Prop} {cs : Array Value} {e : Evt} (h : EvR own w G cs e) : ∀ c ∈ cs, c.oneCell' = true := by
  obtain ⟨dv, rv, rfl, hi, h1, h2, _⟩ := h
  exact evCells_one e dv rv h1.one h2.one
theorem LetR.one {own : Bool} {w : World} {E G : Nat → Prop} {cs : Array Value} {l : Ltr} (h : LetR own w E G cs l) : ∀ c ∈ cs, c.oneCell' = true := by
  obtain ⟨sv, ev, bv, rfl, hi, h1, h2, h3⟩ := h
  exact ltrCells_one l sv ev bv h1.one h2.one h3.one
theorem EvR.size {own : Bool} {w : World} {G : Nat → Prop} {cs : Array Value} {e : Evt} (h : EvR own w G cs e) : cs.size = 39 := by
  obtain ⟨dv, rv, rfl, hi, _⟩ := h; exact (evCells_spec e dv rv hi).size
theorem LetR.size {own : Bool} {w : World} {E G : Nat → Prop} {cs : Array Value} {l : Ltr} (h : LetR own w E G cs l) : cs.size = 40 := by
  obtain ⟨sv, ev, bv, rfl, hi, _⟩ := h; exact (ltrCells_spec l sv ev bv hi).size

def evt0 : Evt := ⟨0, 0, [], 0, ByteArray.empty, ByteArray.empty, List.replicate 32 0, []⟩
def ltr0 : Ltr := ⟨0, 0, 0, [], [], 0, 0, List.replicate 32 0, []⟩
def evZero : Value := .agg (evCells evt0 (.slice none 0 0) (.slice none 0 0))
def ltrZero : Value := .agg (ltrCells ltr0 (.slice none 0 0) (.slice none 0 0) (.slice none 0 0))
theorem info104 : (Try.prog.info? 104).map (fun i => (i.zero, i.size, i.bytes)) = some (some evZero, 39, 136) := by kernel_rfl
theorem info38 : (Try.prog.info? 38).map (fun i => (i.zero, i.size, i.bytes)) = some (some ltrZero, 40, 144) := by kernel_rfl
theorem zero104 : (Try.prog.info? 104).bind (·.zero) = some evZero := by kernel_rfl
theorem zero38 : (Try.prog.info? 38).bind (·.zero) = some ltrZero := by kernel_rfl

end Go.Proofs.Ytdllpakdhnanbaa
