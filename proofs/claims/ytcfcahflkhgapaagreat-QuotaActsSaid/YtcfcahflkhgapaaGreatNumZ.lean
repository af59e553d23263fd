/- Two rules for numbers. -/
import Derived.Test.YtcfcahflkhgapaaGreatEff
namespace Go.Proofs.YtcfcahflkhgapaaGreat
set_option linter.unusedSimpArgs false
set_option linter.unusedVariables false
set_option linter.unnecessarySimpa false
set_option linter.unusedSectionVars false
open Go.RowKit

theorem wpPi_subR {P : Program} {ops : Array Oper} {Q : Exit → Act → World → Prop} {S : World → Prop} {o : Oper} {r : List (Oper × Nat)} {a : Act} {w : World} (t : TypeId) (x y : Operand) (yt : TypeId) (m n d : Int) (hw : Region.wanted o (yielded ops a.tmps) = true) (ho : o.op = .binOp .sub t x y yt) (hx : a.eval x = .int .i64 m) (hy : a.eval y = .int .i64 n)
    (hd : m - n = d) (h1 : -9223372036854775808 ≤ d) (h2 : d ≤ 9223372036854775807) (h : wpPi P ops Q S r (a.put o.dst (.int .i64 d)) w) : wpPi P ops Q S ((o, 3) :: r) a w := by
  subst hd
  exact wpPi_sub t x y yt m n hw ho hx hy h1 h2 h
theorem wpPi_addR {P : Program} {ops : Array Oper} {Q : Exit → Act → World → Prop} {S : World → Prop} {o : Oper} {r : List (Oper × Nat)} {a : Act} {w : World} (t : TypeId) (x y : Operand) (yt : TypeId) (m n d : Int) (hw : Region.wanted o (yielded ops a.tmps) = true) (ho : o.op = .binOp .add t x y yt) (hx : a.eval x = .int .i64 m) (hy : a.eval y = .int .i64 n)
    (hd : m + n = d) (h1 : -9223372036854775808 ≤ d) (h2 : d ≤ 9223372036854775807) (h : wpPi P ops Q S r (a.put o.dst (.int .i64 d)) w) : wpPi P ops Q S ((o, 3) :: r) a w := by
  subst hd
  exact wpPi_add t x y yt m n hw ho hx hy h1 h2 h
theorem run_indexAt_arr {P : Program} {t e : TypeId} {b off len n i : Nat} (hu : P.underlying t = some (.array len e)) (hi : (P.info? e).map (·.size) = some n) (h : i < len) (w : World) :
    (Instr.indexAt t (.pointer (some ⟨b, off, none⟩)) (.int .i64 i)).run P w = .ok (.pointer (some ⟨b, off + i * n, none⟩)) w := by
  have hadd : (⟨b, off, none⟩ : Addr).add (i * n) = ⟨b, off + i * n, none⟩ := by unfold Addr.add; split <;> simp_all
  cases hq : P.info? e with
  | none => simp [hq] at hi
  | some j =>
    have hs : j.size = n := by simpa [hq] using hi
    simp [Instr.indexAt, Instr.sureAddr, asIntOf, run_underlying hu, h, sizeOf, typeInfo, hq, hs, hadd]
theorem wpPi_indexA {P : Program} {ops : Array Oper} {Q : Exit → Act → World → Prop} {S : World → Prop} {o : Oper} {r : List (Oper × Nat)} {a : Act} {w : World} (t : TypeId) (x y : Operand) (e : TypeId) (b off len n i : Nat) (hw : Region.wanted o (yielded ops a.tmps) = true) (ho : o.op = .indexAddr t x y)
    (hx : a.eval x = .pointer (some ⟨b, off, none⟩)) (hy : a.eval y = .int .i64 i) (hu : P.underlying t = some (.array len e)) (hi : (P.info? e).map (·.size) = some n) (hlt : i < len)
    (h : wpPi P ops Q S r (a.put o.dst (.pointer (some ⟨b, off + i * n, none⟩))) w) : wpPi P ops Q S ((o, 3) :: r) a w :=
  wpPi_any hw (fun w => by unfold execOp; simp only [ho, hx, hy, Sem.run_bind, run_indexAt_arr hu hi hlt, Result.andThen_ok, Sem.run_pure]) h
theorem exec_lss_str {P : Program} {w : World} {o : Oper} {a : Act} (t : TypeId) (x y : Operand) (yt : TypeId) (ho : o.op = .binOp .lss t x y yt) (m n : ByteArray)
    (hx : a.eval x = .string m) (hy : a.eval y = .string n) (b : Bool) (hb : Op.bytesLess m.toList n.toList = b) : (execOp a.eval o).run P w = .ok (.value (.bool b)) w := by
  subst hb
  unfold execOp
  simp [ho, hx, hy, eqGuard, binOp, Op.stringOp]
theorem exec_neq_str {P : Program} {w : World} {o : Oper} {a : Act} (t : TypeId) (x y : Operand) (yt : TypeId) (ho : o.op = .binOp .neq t x y yt) (m n : ByteArray)
    (hx : a.eval x = .string m) (hy : a.eval y = .string n) (b : Bool) (hb : decide (m ≠ n) = b) : (execOp a.eval o).run P w = .ok (.value (.bool b)) w := by
  subst hb
  unfold execOp
  have h : (!(m.toList == n.toList)) = decide (m ≠ n) := by
    rw [← beq_toListBytes, Bool.eq_iff_iff, decide_eq_true_iff]
    obtain ⟨⟨x⟩⟩ := m
    obtain ⟨⟨y⟩⟩ := n
    show (!((⟨x⟩ : Array UInt8) == ⟨y⟩)) = true ↔ _
    simp
  simp [ho, hx, hy, eqGuard, binOp, Op.stringOp, h]
end Go.Proofs.YtcfcahflkhgapaaGreat
