/- A struct built of its fields: what it holds. -/
import Derived.Test.YtcfcahflkhgapaaGreatEff
import Derived.Laws.Tables
namespace Go.Proofs.YtcfcahflkhgapaaGreat
set_option linter.unusedSimpArgs false
set_option linter.unusedVariables false
set_option linter.unnecessarySimpa false
set_option linter.unusedSectionVars false
open Go.RowKit

theorem fold_put : ∀ (l : List Value) (j off : Nat) (cells : Array Value), off + j + l.length ≤ cells.size →
    (l.zipIdx j).foldl (fun (cs : Array Value) (x : Value × Nat) => cs.setIfInBounds (off + x.2) x.1) cells = (cells.toList.take (off + j) ++ l ++ cells.toList.drop (off + j + l.length)).toArray
  | [], j, off, cells, _ => by simp
  | v :: l, j, off, cells, h => by
    simp only [List.length_cons] at h
    rw [List.zipIdx_cons, List.foldl_cons, fold_put l (j + 1) off _ (by simp; omega)]
    apply Array.toList_inj.1
    simp only [Array.toList_setIfInBounds, List.length_cons]
    have h1 : (cells.toList.set (off + j) v).take (off + (j + 1)) = cells.toList.take (off + j) ++ [v] := by
      rw [← Nat.add_assoc, List.take_succ_eq_append_getElem (by simp; omega)]
      simp [List.take_set_of_le]
    have h2 : (cells.toList.set (off + j) v).drop (off + (j + 1) + l.length) = cells.toList.drop (off + j + (l.length + 1)) := by
      rw [List.drop_set_of_lt (by omega)]
      congr 1; omega
    rw [h1, h2]
    simp

theorem fill_cons {place : Nat → Option (Nat × Nat)} {cells : Array Value} {i : Nat} {v : Value} {rest : List (Nat × Value)} {off size : Nat} (hp : place i = some (off, size)) (hs : v.cells.size = size) (hf : off + size ≤ cells.size) :
    Instr.fill place cells ((i, v) :: rest) = Instr.fill place (putRow cells off v.cells) rest := by
  subst hs
  have e : v.cells.zipIdx.foldl (fun (cs : Array Value) (x : Value × Nat) => cs.setIfInBounds (off + x.2) x.1) cells = putRow cells off v.cells := by
    have := fold_put v.cells.toList 0 off cells (by simpa using hf)
    rw [← Array.foldl_toList, Array.toList_zipIdx]
    simpa [putRow] using this
  simp only [Instr.fill, hp]
  rw [if_neg (by simp; omega)]
  rw [← e]
theorem fill_nil {place : Nat → Option (Nat × Nat)} {cells : Array Value} : Instr.fill place cells [] = some cells := rfl

def placesOf (P : Program) (t : TypeId) : Option (List (Nat × Nat)) :=
  match P.underlying t with
  | some (.struct fields) => fields.toList.mapM fun f => (P.info? f.type).map fun i => (f.offset, i.size)
  | _ => none
theorem built_struct {P : Program} {t : TypeId} {z : Array Value} {places : List (Nat × Nat)} (hz : (P.info? t).bind (·.zero) = some (.agg z)) (hp : placesOf P t = some places) (parts : List (Nat × Value)) :
    P.built t parts = Instr.fill (places.toArray[·]?) z parts := by
  unfold placesOf at hp
  split at hp
  · rename_i fields hu
    cases hi : P.info? t with
    | none => simp [hi] at hz
    | some i =>
      simp only [hi, Option.bind_some] at hz
      simp only [Program.built, hi, hu, hz, hp, Value.cells]
  · cases hp
theorem exec_build_of {P : Program} {w : World} {o : Oper} {a : Act} (t : TypeId) (parts : List (Nat × Operand)) (vals : List (Nat × Value)) (cells : Array Value) (ho : o.op = .build t parts.toArray)
    (hv : parts.map (fun x => (x.1, a.eval x.2)) = vals) (hb : P.built t vals = some cells) : (execOp a.eval o).run P w = .ok (.value (.agg cells)) w := by
  subst hv
  unfold execOp
  simp only [ho]
  have h := run_build (P := P) w t (Array.map (fun (x : Nat × Operand) => (x.1, a.eval x.2)) parts.toArray) cells (by simpa using hb)
  simp only [Sem.run_bind, h, Result.andThen_ok, Sem.run_pure]
end Go.Proofs.YtcfcahflkhgapaaGreat
