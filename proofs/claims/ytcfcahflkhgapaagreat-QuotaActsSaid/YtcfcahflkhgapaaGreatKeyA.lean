/- A link's key: a name and a digest. -/
import Derived.Test.YtcfcahflkhgapaaGreatMapA
import Derived.Test.YtcfcahflkhgapaaGreatNameB
import Derived.Stop.BytesEq
namespace Go.Proofs.YtcfcahflkhgapaaGreat
set_option linter.unusedSimpArgs false
set_option linter.unusedVariables false
set_option linter.unnecessarySimpa false
set_option linter.unusedSectionVars false
open Go.RowKit

abbrev Key := ByteArray × List UInt8
def keyCells (p : Key) : Array Value := #[.string p.1] ++ idCells p.2
def keyV (p : Key) : Value := .agg (keyCells p)
def KeyOk (p : Key) : Prop := p.2.length = 32
theorem keyCells_size {p : Key} (h : KeyOk p) : (keyCells p).size = 33 := by
  have h' : p.2.length = 32 := h
  simp [keyCells, idCells_size, h']

theorem isAggID (w : World) : (isAgg 32).run Tryz.prog w = .ok true w := by
  unfold isAgg
  rw [Sem.run_bind, run_underlying Tryz.underlying32 w]; rfl
theorem isAggU8 (w : World) : (isAgg 5).run Tryz.prog w = .ok false w := by
  unfold isAgg
  rw [Sem.run_bind, run_underlying Tryz.underlying5 w]; rfl
theorem isAggString (w : World) : (isAgg 9).run Tryz.prog w = .ok false w := by
  unfold isAgg
  rw [Sem.run_bind, run_underlying Tryz.underlying9 w]; rfl
theorem sizeOf_of {t n : Nat} (h : (Tryz.prog.info? t).map (·.size) = some n) (w : World) : (sizeOf t).run Tryz.prog w = .ok n w := by
  cases hq : Tryz.prog.info? t with
  | none => simp [hq] at h
  | some i => simp [hq] at h; simp [sizeOf, typeInfo, hq, h]
theorem sizeID (w : World) : (sizeOf 32).run Tryz.prog w = .ok 32 w := sizeOf_of (by kernel_rfl) w
theorem sizeU8 (w : World) : (sizeOf 5).run Tryz.prog w = .ok 1 w := sizeOf_of (by kernel_rfl) w

theorem part_repo (p : Key) (w : World) : (part 9 (keyCells p) 0).run Tryz.prog w = .ok (.string p.1) w := by
  unfold part
  rw [Sem.run_bind, isAggString w]
  have e : (keyCells p)[0]? = some (.string p.1) := by
    rw [← Array.getElem?_toList]; simp [keyCells]
  simp [e]
theorem part_id {p : Key} (h : KeyOk p) (w : World) : (part 32 (keyCells p) 1).run Tryz.prog w = .ok (.agg (idCells p.2)) w := by
  have hx : (keyCells p).extract 1 (1 + 32) = idCells p.2 := by
    have h' : p.2.length = 32 := h
    apply Array.toList_inj.1
    simp [keyCells, idCells, h', List.take_of_length_le]
  unfold part
  rw [Sem.run_bind, isAggID w]
  simp [sizeID, hx]
theorem part_byte (x : List UInt8) (i : Nat) (h : i < x.length) (w : World) : (part 5 (idCells x) i).run Tryz.prog w = .ok (byteV x[i]) w := by
  unfold part
  rw [Sem.run_bind, isAggU8 w]
  simp [idCells, h]

theorem run_checkKey_id (e : Bool) (n : Nat) (x : List UInt8) (hx : x.length = 32) (w : World) : (Instr.checkKey e (n + 2) 32 (.agg (idCells x))).run Tryz.prog w = .ok () w := by
  have hk : ∀ (y : UInt8), (Instr.checkKey e (n + 1) 5 (byteV y)).run Tryz.prog w = .ok () w := fun y => by
    rw [Instr.checkKey]
    simp [byteV, run_underlying Tryz.underlying5]
  have key : ∀ (is : List Nat), (∀ i ∈ is, i < 32) → (forIn (m := Sem) is PUnit.unit (fun i _ => do
      Instr.checkKey e (n + 1) 5 (← part 5 (idCells x) (i * (← sizeOf 5)))
      pure (ForInStep.yield PUnit.unit))).run Tryz.prog w = .ok PUnit.unit w := by
    intro is
    induction is with
    | nil => intro _; simp
    | cons i is ih =>
      intro hi
      have h1 : i < x.length := by rw [hx]; exact hi i (by simp)
      simp only [List.forIn_cons, Sem.run_bind, sizeU8, Result.andThen_ok, Nat.mul_one, part_byte x i h1, hk, Sem.run_pure]
      exact ih (fun j hj => hi j (by simp [hj]))
  rw [Instr.checkKey]
  simp only [Sem.run_bind, run_underlying Tryz.underlying32, Result.andThen_ok, Std.Legacy.Range.forIn_eq_forIn_range', Std.Legacy.Range.size]
  generalize hl : List.range' 0 ((32 - 0 + 1 - 1) / 1) = is
  have hi : ∀ i ∈ is, i < 32 := by intro i hi; subst hl; simp at hi; omega
  have := key is hi
  clear hl
  rw [this]; rfl

theorem keyT_key : KeyT Tryz.prog 67 keyV KeyOk := by
  have hu := Tryz.underlying67
  refine ⟨fun e x w hx => ?_, fun x y w hx hy => ?_, ⟨_, hu, .inl fun x y => rfl⟩, fun x _ => ?_⟩
  · rw [show (10000 : Nat) = 9997 + 2 + 1 from rfl, Instr.checkKey]
    have hs : ∀ s : ByteArray, (Instr.checkKey e (9997 + 2) 9 (.string s)).run Tryz.prog w = .ok () w := fun s => by
      rw [show (9997 + 2 : Nat) = 9998 + 1 from rfl, Instr.checkKey]
      simp [run_underlying Tryz.underlying9]
    simp only [keyV, Sem.run_bind, run_underlying hu, Result.andThen_ok]
    simp [part_repo, part_id hx, hs, run_checkKey_id e 9997 x.2 hx w]
  · have hp : Tryz.prog.stoodInHeld 67 = false := by kernel_rfl
    have hS : Tryz.prog.underlying 67 = some (.struct (Tryz.prog.fieldsOf 67)) := by kernel_rfl
    unfold Op.equal Op.maxDepth keyV
    rw [show (10000 : Nat) = 9999 + 1 from rfl, run_equalIn_struct w 9999 67 _ _ hS hp]
    simp only [Program.fieldsOf, hu]
    have he := run_equalIn_bytes w 9997 32 5 32 Tryz.underlying32 Tryz.underlying5 (fun w => sizeU8 w) x.2 y.2 hx hy
    have he' : (Op.equalIn 9999 32 (.agg (idCells x.2)) (.agg (idCells y.2))).run Tryz.prog w = .ok (x.2 == y.2) w := he
    simp [Op.eqFields, part_repo, part_id hx, part_id hy, run_equalIn_string w 9998 9 _ _ Tryz.underlying9, he']
    have hb : x.1.toList = y.1.toList ↔ x.1 = y.1 := by
      rw [← beq_iff_eq, ← beq_toListBytes, beq_bytes, decide_eq_true_iff]
    have hd : decide (x = y) = (decide (x.1 = y.1) && decide (x.2 = y.2)) := by
      rw [Bool.eq_iff_iff]; simp [Prod.ext_iff]
    rw [hd]
    by_cases h1 : x.1 = y.1 <;> by_cases h2 : x.2 = y.2 <;> simp [hb, h1, h2]
  · simp only [Instr.sameBits, keyV, Bool.and_eq_true, beq_self_eq_true, true_and, List.all_eq_true]
    intro q hq
    obtain ⟨a, b⟩ := q
    have hab : ∀ (l : List Value) (p : Value × Value), p ∈ l.zip l → p.1 = p.2 ∧ p.1 ∈ l := by
      intro l
      induction l with
      | nil => intro p hp; simp at hp
      | cons v l ih =>
        intro p hp
        rw [List.zip_cons_cons, List.mem_cons] at hp
        rcases hp with rfl | hp
        · simp
        · exact ⟨(ih p hp).1, List.mem_cons_of_mem _ (ih p hp).2⟩
    obtain ⟨h1, h2⟩ := hab _ _ hq
    have h1' : a = b := h1
    subst h1'
    simp only [keyCells, Array.toList_append, List.mem_append, idCells] at h2
    rcases h2 with h2 | h2
    · simp at h2; subst h2; simp [Instr.sameBits, beq_bytes]
    · simp at h2; obtain ⟨c, _, rfl⟩ := h2; simp [Instr.sameBits, byteV]
end Go.Proofs.YtcfcahflkhgapaaGreat
