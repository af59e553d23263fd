/- Links beside rows of memory that stay as they are. -/
import Derived.Test.YtcfcahflkhgapaaGreatQL
import Derived.Test.YtcfcahflkhgapaaGreatQK
import Derived.Test.YtcfcahflkhgapaaGreatQI
namespace Go.Proofs.YtcfcahflkhgapaaGreat
set_option linter.unusedSimpArgs false
set_option linter.unusedVariables false
set_option linter.unnecessarySimpa false
set_option linter.unusedSectionVars false
open Go.RowKit

/-- The links are l; the rows of bs are as they were, and none of the links' own. -/
def LkF (w0 w : World) (p : Value) (limit : Int) (l : LinkL) (bs : List (Nat × Obj)) : Prop := ∃ F, LkAt w0 w p limit l F ∧ ∀ q ∈ bs, w.heap[q.1]? = some q.2 ∧ ¬ F q.1
section
variable {w0 w w' : World} {p : Value} {limit : Int} {l l' : LinkL} {bs : List (Nat × Obj)} {F : Nat → Prop}
theorem LkF.keep0 (h : LkF w0 w p limit l bs) (hm : Mod NoB w w') : LkF w0 w' p limit l bs := by
  obtain ⟨F, h1, h2⟩ := h
  exact ⟨F, h1.keep0 hm, fun q hq => ⟨hm.obj id (h2 q hq).1, (h2 q hq).2⟩⟩
theorem obj_lt {w : World} {b : Nat} {o : Obj} (h : w.heap[b]? = some o) : b < w.heap.size := (Array.getElem?_eq_some_iff.1 h).1
theorem LkF.step (h : LkAt w0 w p limit l F) (hb : ∀ q ∈ bs, w.heap[q.1]? = some q.2 ∧ ¬ F q.1) (hs : LStep w0 w p limit F w' l') : LkF w0 w' p limit l' bs := by
  obtain ⟨F', h1, h2, h3⟩ := hs
  refine ⟨F', h1, fun q hq => ⟨h2.obj (hb q hq).2 (hb q hq).1, fun hF => ?_⟩⟩
  rcases h3 _ hF with h4 | h4
  · exact (hb q hq).2 h4
  · have := obj_lt (hb q hq).1; have := h4.1; omega
theorem LkF.add (h : LkF w0 w p limit l bs) (hm : Mod NoB w w') {b : Nat} {o : Obj} (hb : w'.heap[b]? = some o) (hge : w.heap.size ≤ b) : LkF w0 w' p limit l ((b, o) :: bs) := by
  obtain ⟨F, h1, h2⟩ := h
  refine ⟨F, h1.keep0 hm, fun q hq => ?_⟩
  rcases List.mem_cons.1 hq with rfl | hq
  · exact ⟨hb, fun hF => by have h3 : b < w.heap.size := h1.lt _ hF; omega⟩
  · exact ⟨hm.obj id (h2 q hq).1, (h2 q hq).2⟩
theorem LkF.get (h : LkF w0 w p limit l bs) {b : Nat} {o : Obj} (hb : (b, o) ∈ bs) : w.heap[b]? = some o := by
  obtain ⟨F, h1, h2⟩ := h
  exact (h2 _ hb).1
theorem LkF.mod (h : LkF w0 w p limit l bs) : Mod NoB w0 w := by
  obtain ⟨F, h1, h2⟩ := h
  exact h1.mod
theorem LkF.first (h : LkAt w0 w p limit l F) : LkF w0 w p limit l [] := ⟨F, h, fun q hq => by cases hq⟩
/-- One of the rows turns. -/
theorem LkF.turn (h : LkF w0 w p limit l bs) {b : Nat} {o o' : Obj} (hb : (b, o) ∈ bs) (hm : Mod (fun k => k = b) w w') (ho : w'.heap[b]? = some o') (hge : w0.heap.size ≤ b) {rest : List (Nat × Obj)} (hr : ∀ q ∈ rest, q ∈ bs ∧ q.1 ≠ b) : LkF w0 w' p limit l ((b, o') :: rest) := by
  obtain ⟨F, h1, h2⟩ := h
  have hF := (h2 _ hb).2
  refine ⟨F, h1.keep hm (fun k hk e => hF (by rw [← show k = b from e]; exact hk)) (fun k hk e => by have e : k = b := e; omega), fun q hq => ?_⟩
  rcases List.mem_cons.1 hq with rfl | hq
  · exact ⟨ho, hF⟩
  · exact ⟨hm.obj (hr q hq).2 (h2 q (hr q hq).1).1, (h2 q (hr q hq).1).2⟩
theorem LkF.facts (h : LkF w0 w p limit l bs) : (∃ b, p = .pointer (some ⟨b, 0, none⟩)) ∧ (l.map (·.1)).Nodup ∧ (∀ q ∈ l, KeyOk q.1) ∧ (∀ q ∈ l, 0 ≤ q.2 ∧ q.2 ≤ 4096) ∧ (∀ q ∈ l, nameB q.1.1 = true) ∧ l.length ≤ 65536 := by
  obtain ⟨F, h, _⟩ := h
  exact h.facts

theorem link_f (h : LkF w0 w p limit l bs) (k : Key) (hk : KeyOk k) (hsz : k.1.size ≤ maxLen) (size : Int) :
    Calls Tryz.prog 7 #[p, .string k.1, .agg (idCells k.2), .int .i64 size] w (fun e w' => e = .returned (.tuple #[.bool (addE true limit l k size).1, .int .i64 (addE true limit l k size).2]) ∧ LkF w0 w' p limit (addL true limit l k size) bs) := by
  obtain ⟨F, h1, h2⟩ := h
  exact (link_at h1 k hk hsz size).mono fun e w' h => ⟨h.1, LkF.step h1 h2 h.2⟩
theorem lay_f (h : LkF w0 w p limit l bs) (k : Key) (hk : KeyOk k) (hsz : k.1.size ≤ maxLen) (size : Int) :
    Calls Tryz.prog 9 #[p, .string k.1, .agg (idCells k.2), .int .i64 size] w (fun e w' => e = .returned (.tuple #[.bool (addE false limit l k size).1, .int .i64 (addE false limit l k size).2]) ∧ LkF w0 w' p limit (addL false limit l k size) bs) := by
  obtain ⟨F, h1, h2⟩ := h
  exact (lay_at h1 k hk hsz size).mono fun e w' h => ⟨h.1, LkF.step h1 h2 h.2⟩
theorem mount_f (h : LkF w0 w p limit l bs) (a b : ByteArray) (x : List UInt8) (hx : x.length = 32) (ha : a.size ≤ maxLen) (hb : b.size ≤ maxLen) :
    Calls Tryz.prog 10 #[p, .string a, .string b, .agg (idCells x)] w (fun e w' => e = .returned (.tuple #[.bool (mountE limit l a b x).1, .int .i64 (mountE limit l a b x).2]) ∧ LkF w0 w' p limit (mountL limit l a b x) bs) := by
  obtain ⟨F, h1, h2⟩ := h
  exact (mount_at h1 a b x hx ha hb).mono fun e w' h => ⟨h.1, LkF.step h1 h2 h.2⟩
theorem unlink_f (h : LkF w0 w p limit l bs) (k : Key) (hk : KeyOk k) :
    Calls Tryz.prog 12 #[p, .string k.1, .agg (idCells k.2)] w (fun e w' => e = .returned (.bool (getL k l).isSome) ∧ LkF w0 w' p limit (unL l k) bs) := by
  obtain ⟨F, h1, h2⟩ := h
  exact (unlink_at h1 k hk).mono fun e w' h => ⟨h.1, LkF.step h1 h2 h.2⟩
theorem forget_f (h : LkF w0 w p limit l bs) (x : List UInt8) (hx : x.length = 32) :
    Calls Tryz.prog 14 #[p, .agg (idCells x)] w (fun e w' => e = .returned (.int .i64 (forgetN l x)) ∧ LkF w0 w' p limit (forgetL l x) bs) := by
  obtain ⟨F, h1, h2⟩ := h
  exact (forget_at h1 x hx).mono fun e w' h => ⟨h.1, LkF.step h1 h2 h.2⟩
theorem use_f (h : LkF w0 w p limit l bs) (r : ByteArray) : Calls Tryz.prog 38 #[p, .string r] w (RetE (.int .i64 (useOf l r)) w) := by
  obtain ⟨F, h1, h2⟩ := h
  exact use_at h1 r
theorem has_f (h : LkF w0 w p limit l bs) (k : Key) (hk : KeyOk k) : Calls Tryz.prog 17 #[p, .string k.1, .agg (idCells k.2)] w (RetM (.bool (getL k l).isSome) w) := by
  obtain ⟨F, h1, h2⟩ := h
  exact has_at h1 k hk
theorem limit_f (h : LkF w0 w p limit l bs) : Calls Tryz.prog 22 #[p] w (RetE (.int .i64 limit) w) := by
  obtain ⟨F, h1, h2⟩ := h
  exact limit_at h1
theorem repos_f (h : LkF w0 w p limit l bs) : Calls Tryz.prog 16 #[p] w (RetN w fun v w' => ∃ names, ReposOf l names ∧ Sl true w' (New w w') 1 StrC v names) := by
  obtain ⟨F, h1, h2⟩ := h
  exact repos_at h1
theorem ids_f (h : LkF w0 w p limit l bs) (r : ByteArray) : Calls Tryz.prog 35 #[p, .string r] w (RetN w fun v w' => ∃ ids, IDsOf l r ids ∧ (∀ x ∈ ids, x.length = 32) ∧ Sl true w' (New w w') 32 IdC v ids) := by
  obtain ⟨F, h1, h2⟩ := h
  obtain ⟨_, ⟨bl, ml, mu, hold, us, rfl, hi, hF⟩, _, _⟩ := id h1
  exact ids_any hi r
end
theorem exec_neq_id {P : Program} {w : World} {o : Oper} {a : Act} (t : TypeId) (x y : Operand) (yt : TypeId) (ho : o.op = .binOp .neq t x y yt) (xs ys : List UInt8)
    (hx : a.eval x = .agg (idCells xs)) (hy : a.eval y = .agg (idCells ys)) (n : Nat) (e : TypeId) (ht : P.underlying t = some (.array n e)) (he : P.underlying e = some (.int .u8))
    (hsz : (P.info? e).map (·.size) = some 1) (hg : P.eqGuardType P.depth t = false) (hxs : xs.length = n) (hys : ys.length = n) (b : Bool) (hb : decide (xs ≠ ys) = b) :
    (execOp a.eval o).run P w = .ok (.value (.bool b)) w := by
  subst hb
  have hs : ∀ w, (sizeOf e).run P w = .ok 1 w := fun w => by
    cases hq : P.info? e with
    | none => simp [hq] at hsz
    | some i => simp [hq] at hsz; simp [sizeOf, typeInfo, hq, hsz]
  have h1 := run_eqGuard_agg (P := P) w .neq t x y (idCells xs) (idCells ys) hg
  have h2 : (binOp .neq t (.agg (xs.map Extern.Stop.cell).toArray) (.agg (ys.map Extern.Stop.cell).toArray)).run P w = .ok (.bool (!(xs == ys))) w := by
    rw [run_neq_struct, run_equalIn_bytes w 9998 t e n ht he hs xs ys hxs hys]; rfl
  unfold execOp
  simp only [ho, hx, hy, Sem.run_bind, h1, Result.andThen_ok]
  rw [show idCells xs = (xs.map Extern.Stop.cell).toArray from rfl, show idCells ys = (ys.map Extern.Stop.cell).toArray from rfl, h2]
  simp only [Result.andThen_ok, Sem.run_pure]
  have : (!(xs == ys)) = decide (xs ≠ ys) := by rw [Bool.eq_iff_iff]; simp
  rw [this]
end Go.Proofs.YtcfcahflkhgapaaGreat
