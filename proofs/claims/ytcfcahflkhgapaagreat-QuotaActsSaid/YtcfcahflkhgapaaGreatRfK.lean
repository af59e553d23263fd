/- Lists written over; both links side by side; told. -/
import Derived.Test.YtcfcahflkhgapaaGreatRfJ
import Derived.Test.YtcfcahflkhgapaaGreatSameA
namespace Go.Proofs.YtcfcahflkhgapaaGreat
set_option linter.unusedSimpArgs false
set_option linter.unusedVariables false
set_option linter.unnecessarySimpa false
set_option linter.unusedSectionVars false
open Go.RowKit


theorem Sl.room {α : Type} {w : World} {G : Nat → Prop} {sz : Nat} {R : Array Value → α → Prop} {v : Value} {l : List α} (h : Sl true w G sz R v l) (hne : l ≠ []) (hz : 0 < sz) :
    ∃ g off cap cur T, v = .slice (some ⟨g, off, none⟩) l.length cap ∧ G g ∧ w.heap[g]? = some (.cells cur T (0, 0)) ∧ off + l.length * sz ≤ cur.size := by
  obtain ⟨a, cap, rfl, hl, hc, h⟩ := h
  obtain ⟨g, off, rfl, hG, ho, h⟩ := h hne
  obtain ⟨cur, T, hrow⟩ := ho rfl
  have hn : 0 < l.length := List.length_pos_iff.2 hne
  obtain ⟨cs, hs, _, hcells⟩ := h (l.length - 1) (by omega)
  have h1 := hcells (sz - 1) (by omega)
  rw [cell_of_row _ _ _ _ _ _ hrow, Array.getElem?_eq_getElem (by omega : sz - 1 < cs.size)] at h1
  refine ⟨g, off, cap, cur, T, rfl, hG, hrow, ?_⟩
  have h2 : (l.length - 1) * sz + sz = l.length * sz := by
    have e : l.length = (l.length - 1) + 1 := by omega
    conv => rhs; rw [e, Nat.succ_mul]
  rcases Nat.lt_or_ge (off + (l.length - 1) * sz + (sz - 1)) cur.size with h3 | h3
  · omega
  · rw [Array.getElem?_eq_none h3] at h1; cases h1
def OverR (S : Nat → Prop) (w : World) (e : Ending) (w' : World) : Prop := e = .returned (.tuple #[]) ∧ Mod S w w'
def OverRel (g : Nat) (T : TypeId) (m : Nat) (w : World) (n : Nat) (i : Value) (w' : World) : Prop := ∃ (k : Nat) (cur : Array Value), k ≤ n ∧ i = .int .i64 k ∧ w'.heap[g]? = some (.cells cur T (0, 0)) ∧ cur.size = m ∧ Mod (fun j => j = g) w w'
def overS : ByteArray := ⟨#[111, 118, 101, 114]⟩
def over3 : List UInt8 := 1 :: 2 :: 3 :: List.replicate 29 0
theorem built_over : Tryz.prog.built 32 [(0, .int .u8 1), (1, .int .u8 2), (2, .int .u8 3)] = some (idCells over3) := by kernel_rfl
set_option maxRecDepth 10000 in
theorem overTexts_any {G : Nat → Prop} {v : Value} {l : List ByteArray} {w : World} (h : Sl true w G 1 StrC v l) : Calls Tryz.prog 23 #[v] w (OverR G w) := by
  by_cases hne : l = []
  · subst hne
    obtain ⟨a, cap, rfl, _⟩ := h
    go_enter Tryz.func23, Tryz.ntmps23
    go_wp2
    go_loopw [2] (fun i wx => i = .int .i64 0 ∧ wx = w) (fun _ _ => 0)
    case atStart => exact ⟨rfl, rfl⟩
    case round =>
      obtain ⟨rfl, hw⟩ := hrel
      obtain rfl := hw.symm
      go_wp2
      go_end0
      exact ⟨rfl, Mod.refl _ _⟩
  · obtain ⟨g, off, cap, cur0, T, rfl, hG, hrow, hroom⟩ := h.room hne (by omega)
    obtain ⟨_, _, hv, hlen, _⟩ := h.at
    cases hv
    clear h
    go_enter Tryz.func23, Tryz.ntmps23
    go_wp2
    go_loopw [2] (OverRel g T cur0.size w l.length) (fun i _ => l.length - (intOf i).toNat)
    case atStart => exact ⟨0, _, by omega, rfl, hrow, rfl, Mod.refl _ _⟩
    case round =>
      obtain ⟨k, cur, hk, rfl, hrow', hsz, hM⟩ := hrel
      by_cases hlt : k < l.length
      · have hz : (k : Int) < (l.length : Int) := by omega
        go_upto_region 3 with (fail)
        refine wp_region_seq [3, 3, 3, 1] (fun _ => True) (by rfl) (by rfl) trivial ?_
        simp only [List.zip_cons_cons, List.zip_nil_right]
        refine wpPi_move _ rfl rfl ?_
        simp only [pl, pn, el, ec, sz, ss, gz, gs, if_true, if_false, Bool.false_eq_true, Bool.not_true, Bool.not_false, Nat.add_zero, Nat.zero_add, Nat.reduceAdd]
        refine wpPi_move _ rfl rfl ?_
        simp only [pl, pn, el, ec, sz, ss, gz, gs, if_true, if_false, Bool.false_eq_true, Bool.not_true, Bool.not_false, Nat.add_zero, Nat.zero_add, Nat.reduceAdd]
        refine wpPi_index _ _ _ _ _ _ _ _ _ rfl rfl rfl rfl Tryz.underlying41 (n := 1) (by kernel_rfl) hlt ?_
        simp only [pl, pn, el, ec, sz, ss, gz, gs, if_true, if_false, Bool.false_eq_true, Bool.not_true, Bool.not_false, Nat.add_zero, Nat.zero_add, Nat.reduceAdd]
        refine wpPi_do rfl (fun K hK => ?_)
        refine wp_store1 9 _ _ g (off + k * 1) (.string overS) (by rfl) (by rfl) (by rfl) rfl (by kernel_rfl) _ _ hrow' (by omega) (fun w2 hb2 hm2 => ?_)
        have hM2 := hM.trans hm2 (fun _ _ h => h)
        refine hK _ _ trivial ?_
        clear hK K
        try simp only [pl, pn, el, ec, sz, ss, gz, gs, if_true, if_false, Bool.false_eq_true, Bool.not_true, Bool.not_false, Nat.add_zero, Nat.zero_add, Nat.reduceAdd]
        refine wpPi_nil ?_
        clear hM hm2 hrow'
        go_wp2
        go_roundw
        case rel => exact ⟨k + 1, _, by omega, by go_num, hb2, by simpa using hsz, hM2⟩
        case measure => simp [intOf]; omega
      · have hz : ¬ (k : Int) < (l.length : Int) := by omega
        go_wp2
        go_end0
        exact ⟨rfl, hM.mono (fun j _ e => by rw [show j = g from e]; exact hG)⟩
set_option maxRecDepth 10000 in
theorem overIDs_any {G : Nat → Prop} {v : Value} {l : List (List UInt8)} {w : World} (h : Sl true w G 32 IdC v l) : Calls Tryz.prog 39 #[v] w (OverR G w) := by
  by_cases hne : l = []
  · subst hne
    obtain ⟨a, cap, rfl, _⟩ := h
    go_enter Tryz.func39, Tryz.ntmps39
    go_wp2
    go_loopw [2] (fun i wx => i = .int .i64 0 ∧ wx = w) (fun _ _ => 0)
    case atStart => exact ⟨rfl, rfl⟩
    case round =>
      obtain ⟨rfl, hw⟩ := hrel
      obtain rfl := hw.symm
      go_wp2
      go_end0
      exact ⟨rfl, Mod.refl _ _⟩
  · obtain ⟨g, off, cap, cur0, T, rfl, hG, hrow, hroom⟩ := h.room hne (by omega)
    obtain ⟨_, _, hv, hlen, _⟩ := h.at
    cases hv
    clear h
    have ho32 : (idCells over3).size = 32 := by kernel_rfl
    go_enter Tryz.func39, Tryz.ntmps39
    go_wp2
    go_loopw [2] (OverRel g T cur0.size w l.length) (fun i _ => l.length - (intOf i).toNat)
    case atStart => exact ⟨0, _, by omega, rfl, hrow, rfl, Mod.refl _ _⟩
    case round =>
      obtain ⟨k, cur, hk, rfl, hrow', hsz, hM⟩ := hrel
      by_cases hlt : k < l.length
      · have hz : (k : Int) < (l.length : Int) := by omega
        go_upto_region 3 with (fail)
        refine wp_region_seq [3, 3, 0, 3, 1] (fun _ => True) (by rfl) (by rfl) trivial ?_
        simp only [List.zip_cons_cons, List.zip_nil_right]
        refine wpPi_move _ rfl rfl ?_
        simp only [pl, pn, el, ec, sz, ss, gz, gs, if_true, if_false, Bool.false_eq_true, Bool.not_true, Bool.not_false, Nat.add_zero, Nat.zero_add, Nat.reduceAdd]
        refine wpPi_move _ rfl rfl ?_
        simp only [pl, pn, el, ec, sz, ss, gz, gs, if_true, if_false, Bool.false_eq_true, Bool.not_true, Bool.not_false, Nat.add_zero, Nat.zero_add, Nat.reduceAdd]
        refine wpPi_val rfl (fun w' hS => exec_build_of 32 [(0, _), (1, _), (2, _)] [(0, .int .u8 1), (1, .int .u8 2), (2, .int .u8 3)] (idCells over3) (by rfl) (by rfl) built_over) ?_
        simp only [pl, pn, el, ec, sz, ss, gz, gs, if_true, if_false, Bool.false_eq_true, Bool.not_true, Bool.not_false, Nat.add_zero, Nat.zero_add, Nat.reduceAdd]
        refine wpPi_index _ _ _ _ _ _ _ _ _ rfl rfl rfl rfl Tryz.underlying75 (n := 32) (by kernel_rfl) hlt ?_
        simp only [pl, pn, el, ec, sz, ss, gz, gs, if_true, if_false, Bool.false_eq_true, Bool.not_true, Bool.not_false, Nat.add_zero, Nat.zero_add, Nat.reduceAdd]
        refine wpPi_do rfl (fun K hK => ?_)
        refine wp_storeA 32 _ _ g (off + k * 32) (idCells over3) (by rfl) (by rfl) (by rfl) (idCells_one over3) 32 (by kernel_rfl) ho32 _ _ hrow' (by rw [ho32]; omega) (fun w2 hb2 hm2 => ?_)
        have hM2 := hM.trans hm2 (fun _ _ h => h)
        have hsz2 : (putRow cur (off + k * 32) (idCells over3)).size = cur0.size := by rw [putRow_size (by rw [ho32]; omega)]; exact hsz
        refine hK _ _ trivial ?_
        clear hK K
        try simp only [pl, pn, el, ec, sz, ss, gz, gs, if_true, if_false, Bool.false_eq_true, Bool.not_true, Bool.not_false, Nat.add_zero, Nat.zero_add, Nat.reduceAdd]
        refine wpPi_nil ?_
        clear hM hm2 hrow'
        go_wp2
        go_roundw
        case rel => exact ⟨k + 1, _, by omega, by go_num, hb2, hsz2, hM2⟩
        case measure => simp [intOf]; omega
      · have hz : ¬ (k : Int) < (l.length : Int) := by omega
        go_wp2
        go_end0
        exact ⟨rfl, hM.mono (fun j _ e => by rw [show j = g from e]; exact hG)⟩

/-! ### Both links -/
def Both (w0 w : World) (p q : Value) (limit : Int) (l r : LinkL) (bs : List (Nat × Obj)) : Prop :=
  ∃ F R, LkAt w0 w p limit l F ∧ RAt w0 w q limit r R ∧ (∀ k, F k → ¬ R k) ∧ ∀ x ∈ bs, w.heap[x.1]? = some x.2 ∧ ¬ F x.1 ∧ ¬ R x.1
section
variable {w0 w w' : World} {p q : Value} {limit : Int} {l r l' r' : LinkL} {bs : List (Nat × Obj)}
theorem Both.keep0 (h : Both w0 w p q limit l r bs) (hm : Mod NoB w w') : Both w0 w' p q limit l r bs := by
  obtain ⟨F, R, h1, h2, h3, h4⟩ := h
  exact ⟨F, R, h1.keep0 hm, h2.keep0 hm, h3, fun x hx => ⟨hm.obj id (h4 x hx).1, (h4 x hx).2⟩⟩
theorem Both.mod (h : Both w0 w p q limit l r bs) : Mod NoB w0 w := by
  obtain ⟨F, R, h1, _⟩ := h
  exact h1.mod
theorem Both.get (h : Both w0 w p q limit l r bs) {b : Nat} {o : Obj} (hb : (b, o) ∈ bs) : w.heap[b]? = some o := by
  obtain ⟨F, R, h1, h2, h3, h4⟩ := h
  exact (h4 _ hb).1
theorem Both.add (h : Both w0 w p q limit l r bs) (hm : Mod NoB w w') {b : Nat} {o : Obj} (hb : w'.heap[b]? = some o) (hge : w.heap.size ≤ b) : Both w0 w' p q limit l r ((b, o) :: bs) := by
  obtain ⟨F, R, h1, h2, h3, h4⟩ := h
  refine ⟨F, R, h1.keep0 hm, h2.keep0 hm, h3, fun x hx => ?_⟩
  rcases List.mem_cons.1 hx with rfl | hx
  · exact ⟨hb, fun hF => by have h5 : b < w.heap.size := h1.lt _ hF; omega, fun hR => by have h5 : b < w.heap.size := h2.lt _ hR; omega⟩
  · exact ⟨hm.obj id (h4 x hx).1, (h4 x hx).2⟩
theorem Both.drop (h : Both w0 w p q limit l r bs) : Both w0 w p q limit l r [] := by
  obtain ⟨F, R, h1, h2, h3, h4⟩ := h
  exact ⟨F, R, h1, h2, h3, fun x hx => by cases hx⟩
/-- The program's links step. -/
theorem Both.stepL {F R : Nat → Prop} (h1 : LkAt w0 w p limit l F) (h2 : RAt w0 w q limit r R) (h3 : ∀ k, F k → ¬ R k) (h4 : ∀ x ∈ bs, w.heap[x.1]? = some x.2 ∧ ¬ F x.1 ∧ ¬ R x.1) (hs : LStep w0 w p limit F w' l') : Both w0 w' p q limit l' r bs := by
  obtain ⟨F', k1, k2, k3⟩ := hs
  refine ⟨F', R, k1, h2.keep k2 (fun k hk hF => h3 k hF hk) (fun k hk hF => by have := h1.old k hF; omega), fun k hF hR => ?_, fun x hx => ⟨k2.obj (h4 x hx).2.1 (h4 x hx).1, fun hF => ?_, (h4 x hx).2.2⟩⟩
  · rcases k3 k hF with h | h
    · exact h3 k h hR
    · have := h2.lt k hR; have := h.1; omega
  · rcases k3 _ hF with h | h
    · exact (h4 x hx).2.1 h
    · have := obj_lt (h4 x hx).1; have := h.1; omega
theorem Both.stepR {F R : Nat → Prop} (h1 : LkAt w0 w p limit l F) (h2 : RAt w0 w q limit r R) (h3 : ∀ k, F k → ¬ R k) (h4 : ∀ x ∈ bs, w.heap[x.1]? = some x.2 ∧ ¬ F x.1 ∧ ¬ R x.1) (hs : RfStep w0 w q limit R w' r') : Both w0 w' p q limit l r' bs := by
  obtain ⟨R', k1, k2, k3⟩ := hs
  refine ⟨F, R', h1.keep k2 (fun k hF hR => h3 k hF hR) (fun k hk hR => by have := h2.old k hR; omega), k1, fun k hF hR => ?_, fun x hx => ⟨k2.obj (h4 x hx).2.2 (h4 x hx).1, (h4 x hx).2.1, fun hR => ?_⟩⟩
  · rcases k3 k hR with h | h
    · exact h3 k hF h
    · have := h1.lt k hF; have := h.1; omega
  · rcases k3 _ hR with h | h
    · exact (h4 x hx).2.2 h
    · have := obj_lt (h4 x hx).1; have := h.1; omega
theorem link_b (h : Both w0 w p q limit l r bs) (k : Key) (hk : KeyOk k) (hsz : k.1.size ≤ maxLen) (size : Int) :
    Calls Tryz.prog 7 #[p, .string k.1, .agg (idCells k.2), .int .i64 size] w (fun e w' => e = .returned (.tuple #[.bool (addE true limit l k size).1, .int .i64 (addE true limit l k size).2]) ∧ Both w0 w' p q limit (addL true limit l k size) r bs) := by
  obtain ⟨F, R, h1, h2, h3, h4⟩ := h
  exact (link_at h1 k hk hsz size).mono fun e w' h => ⟨h.1, Both.stepL h1 h2 h3 h4 h.2⟩
theorem lay_b (h : Both w0 w p q limit l r bs) (k : Key) (hk : KeyOk k) (hsz : k.1.size ≤ maxLen) (size : Int) :
    Calls Tryz.prog 9 #[p, .string k.1, .agg (idCells k.2), .int .i64 size] w (fun e w' => e = .returned (.tuple #[.bool (addE false limit l k size).1, .int .i64 (addE false limit l k size).2]) ∧ Both w0 w' p q limit (addL false limit l k size) r bs) := by
  obtain ⟨F, R, h1, h2, h3, h4⟩ := h
  exact (lay_at h1 k hk hsz size).mono fun e w' h => ⟨h.1, Both.stepL h1 h2 h3 h4 h.2⟩
theorem mount_b (h : Both w0 w p q limit l r bs) (a b : ByteArray) (x : List UInt8) (hx : x.length = 32) (ha : a.size ≤ maxLen) (hb : b.size ≤ maxLen) :
    Calls Tryz.prog 10 #[p, .string a, .string b, .agg (idCells x)] w (fun e w' => e = .returned (.tuple #[.bool (mountE limit l a b x).1, .int .i64 (mountE limit l a b x).2]) ∧ Both w0 w' p q limit (mountL limit l a b x) r bs) := by
  obtain ⟨F, R, h1, h2, h3, h4⟩ := h
  exact (mount_at h1 a b x hx ha hb).mono fun e w' h => ⟨h.1, Both.stepL h1 h2 h3 h4 h.2⟩
theorem unlink_b (h : Both w0 w p q limit l r bs) (k : Key) (hk : KeyOk k) :
    Calls Tryz.prog 12 #[p, .string k.1, .agg (idCells k.2)] w (fun e w' => e = .returned (.bool (getL k l).isSome) ∧ Both w0 w' p q limit (unL l k) r bs) := by
  obtain ⟨F, R, h1, h2, h3, h4⟩ := h
  exact (unlink_at h1 k hk).mono fun e w' h => ⟨h.1, Both.stepL h1 h2 h3 h4 h.2⟩
theorem forget_b (h : Both w0 w p q limit l r bs) (x : List UInt8) (hx : x.length = 32) :
    Calls Tryz.prog 14 #[p, .agg (idCells x)] w (fun e w' => e = .returned (.int .i64 (forgetN l x)) ∧ Both w0 w' p q limit (forgetL l x) r bs) := by
  obtain ⟨F, R, h1, h2, h3, h4⟩ := h
  exact (forget_at h1 x hx).mono fun e w' h => ⟨h.1, Both.stepL h1 h2 h3 h4 h.2⟩
theorem radd_b (h : Both w0 w p q limit l r bs) (hs : SortedL r) (k : Key) (hk : KeyOk k) (hsz : k.1.size ≤ maxLen) (size : Int) (asked : Bool) :
    Calls Tryz.prog 8 #[q, .string k.1, .agg (idCells k.2), .int .i64 size, .bool asked] w (fun e w' => e = .returned (.tuple #[.bool (addE asked limit r k size).1, .int .i64 (addE asked limit r k size).2]) ∧ Both w0 w' p q limit l (addR asked limit r k size) bs) := by
  obtain ⟨F, R, h1, h2, h3, h4⟩ := h
  exact (refAdd_at h2 hs k hk hsz size asked).mono fun e w' h => ⟨h.1, Both.stepR h1 h2 h3 h4 h.2⟩
theorem rmount_b (h : Both w0 w p q limit l r bs) (hs : SortedL r) (a b : ByteArray) (x : List UInt8) (hx : x.length = 32) (ha : a.size ≤ maxLen) (hb : b.size ≤ maxLen) :
    Calls Tryz.prog 11 #[q, .string a, .string b, .agg (idCells x)] w (fun e w' => e = .returned (.tuple #[.bool (mountE limit r a b x).1, .int .i64 (mountE limit r a b x).2]) ∧ Both w0 w' p q limit l (mountR limit r a b x) bs) := by
  obtain ⟨F, R, h1, h2, h3, h4⟩ := h
  exact (refMount_at h2 hs a b x hx ha hb).mono fun e w' h => ⟨h.1, Both.stepR h1 h2 h3 h4 h.2⟩
theorem runlink_b (h : Both w0 w p q limit l r bs) (hs : SortedL r) (k : Key) (hk : KeyOk k) :
    Calls Tryz.prog 13 #[q, .string k.1, .agg (idCells k.2)] w (fun e w' => e = .returned (.bool (getL k r).isSome) ∧ Both w0 w' p q limit l (r.filter fun p => decide (p.1 ≠ k)) bs) := by
  obtain ⟨F, R, h1, h2, h3, h4⟩ := h
  exact (refUnlink_at h2 hs k hk).mono fun e w' h => ⟨h.1, Both.stepR h1 h2 h3 h4 h.2⟩
theorem rforget_b (h : Both w0 w p q limit l r bs) (x : List UInt8) (hx : x.length = 32) :
    Calls Tryz.prog 15 #[q, .agg (idCells x)] w (fun e w' => e = .returned (.int .i64 (forgetN r x)) ∧ Both w0 w' p q limit l (forgetL r x) bs) := by
  obtain ⟨F, R, h1, h2, h3, h4⟩ := h
  exact (refForget_at h2 x hx).mono fun e w' h => ⟨h.1, Both.stepR h1 h2 h3 h4 h.2⟩
theorem Both.links (h : Both w0 w p q limit l r bs) : ∃ F, LkAt w0 w p limit l F := by
  obtain ⟨F, R, h1, _⟩ := h
  exact ⟨F, h1⟩
theorem Both.ref (h : Both w0 w p q limit l r bs) : ∃ R, RAt w0 w q limit r R := by
  obtain ⟨F, R, _, h2, _⟩ := h
  exact ⟨R, h2⟩
set_option maxRecDepth 10000 in
set_option maxHeartbeats 1000000 in
theorem told_any (h : Both w0 w p q limit l r bs) (hr : RefOf r l) (n : ByteArray) : Calls Tryz.prog 19 #[p, q, .string n] w (RetM (.bool true) w) := by
  obtain ⟨F, hL⟩ := h.links
  obtain ⟨R, hR⟩ := h.ref
  have huse := useOf_perm hr.perm n
  have hids := fun ids (hi : IDsOf l n ids) => ids_uniq hi (hr.ids n)
  have HI := Lib.hid hids
  have HL := Lib.hid hL; have HR := Lib.hid hR
  obtain ⟨u, hu⟩ : ∃ u, useOf l n = u := ⟨_, rfl⟩
  rw [hu] at huse
  have HU1 := Lib.hid hu; have HU2 := Lib.hid huse
  clear hids hL hR h hr hu huse
  go_enter Tryz.func19, Tryz.ntmps19
  go_upto_region 1 with (fail)
  refine wp_region_seq [3, 3, 1, 3] (fun _ => True) (by rfl) (by rfl) trivial ?_
  simp only [List.zip_cons_cons, List.zip_nil_right]
  refine wpPi_move _ rfl rfl ?_
  simp only [pl, pn, el, ec, sz, ss, gz, gs, if_true, if_false, Bool.false_eq_true, Bool.not_true, Bool.not_false, Nat.add_zero, Nat.zero_add, Nat.reduceAdd]
  refine wpPi_move _ rfl rfl ?_
  simp only [pl, pn, el, ec, sz, ss, gz, gs, if_true, if_false, Bool.false_eq_true, Bool.not_true, Bool.not_false, Nat.add_zero, Nat.zero_add, Nat.reduceAdd]
  refine wpPi_do rfl (fun K hK => ?_)
  go_wp2_with (go_at_call 35; refine (ids_f (bs := []) (LkF.first HL.out) n).mono ?_; rintro _ w1 ⟨v, rfl, hm1, ids, hids, h32, hsl⟩)
  refine hK _ _ trivial ?_
  clear hK K
  try simp only [pl, pn, el, ec, sz, ss, gz, gs, if_true, if_false, Bool.false_eq_true, Bool.not_true, Bool.not_false, Nat.add_zero, Nat.zero_add, Nat.reduceAdd]
  refine wpPi_assign _ rfl rfl ?_
  simp only [pl, pn, el, ec, sz, ss, gz, gs, if_true, if_false, Bool.false_eq_true, Bool.not_true, Bool.not_false, Nat.add_zero, Nat.zero_add, Nat.reduceAdd]
  refine wpPi_nil ?_
  have hie := HI.out ids hids
  have HSL := Lib.hid hsl
  have HIE := Lib.hid hie
  clear hids h32 hsl hie
  go_upto_region 2 with (fail)
  refine wp_region_seq [3, 3, 3, 1, 1, 3, 3, 3, 1, 3, 3, 1, 3, 3, 3] (fun _ => True) (by rfl) (by rfl) trivial ?_
  simp only [List.zip_cons_cons, List.zip_nil_right]
  refine wpPi_move _ rfl rfl ?_
  simp only [pl, pn, el, ec, sz, ss, gz, gs, if_true, if_false, Bool.false_eq_true, Bool.not_true, Bool.not_false, Nat.add_zero, Nat.zero_add, Nat.reduceAdd]
  refine wpPi_move _ rfl rfl ?_
  simp only [pl, pn, el, ec, sz, ss, gz, gs, if_true, if_false, Bool.false_eq_true, Bool.not_true, Bool.not_false, Nat.add_zero, Nat.zero_add, Nat.reduceAdd]
  refine wpPi_move _ rfl rfl ?_
  simp only [pl, pn, el, ec, sz, ss, gz, gs, if_true, if_false, Bool.false_eq_true, Bool.not_true, Bool.not_false, Nat.add_zero, Nat.zero_add, Nat.reduceAdd]
  refine wpPi_do rfl (fun K hK => ?_)
  go_wp2_with (go_at_call 37; refine (refIDs_any (HR.out.keep0 hm1) n).mono ?_; rintro _ w2 ⟨v2, rfl, hm2, h32b, hslb⟩)
  refine hK _ _ trivial ?_
  clear hK K
  try simp only [pl, pn, el, ec, sz, ss, gz, gs, if_true, if_false, Bool.false_eq_true, Bool.not_true, Bool.not_false, Nat.add_zero, Nat.zero_add, Nat.reduceAdd]
  refine wpPi_do rfl (fun K hK => ?_)
  go_wp2_with (go_at_call 36; refine (sameIDs_any _ _ _ _ _ _ _ _ _ (HSL.out.keep0 hm2) hslb).mono ?_; rintro _ w3 ⟨rfl, hm3⟩; rw [decide_eq_true HIE.out])
  refine hK _ _ trivial ?_
  clear hK K
  try simp only [pl, pn, el, ec, sz, ss, gz, gs, if_true, if_false, Bool.false_eq_true, Bool.not_true, Bool.not_false, Nat.add_zero, Nat.zero_add, Nat.reduceAdd]
  refine wpPi_move _ rfl rfl ?_
  simp only [pl, pn, el, ec, sz, ss, gz, gs, if_true, if_false, Bool.false_eq_true, Bool.not_true, Bool.not_false, Nat.add_zero, Nat.zero_add, Nat.reduceAdd]
  refine wpPi_move _ rfl rfl ?_
  simp only [pl, pn, el, ec, sz, ss, gz, gs, if_true, if_false, Bool.false_eq_true, Bool.not_true, Bool.not_false, Nat.add_zero, Nat.zero_add, Nat.reduceAdd]
  refine wpPi_move _ rfl rfl ?_
  simp only [pl, pn, el, ec, sz, ss, gz, gs, if_true, if_false, Bool.false_eq_true, Bool.not_true, Bool.not_false, Nat.add_zero, Nat.zero_add, Nat.reduceAdd]
  refine wpPi_do rfl (fun K hK => ?_)
  have hM3 := (hm1.trans0 hm2).trans0 hm3
  go_wp2_with (go_at_call 38; refine (use_at (HL.out.keep0 hM3) n).mono ?_; rintro _ wq ⟨rfl, hw⟩; obtain rfl := hw.symm; rw [HU1.out])
  refine hK _ _ trivial ?_
  clear hK K
  try simp only [pl, pn, el, ec, sz, ss, gz, gs, if_true, if_false, Bool.false_eq_true, Bool.not_true, Bool.not_false, Nat.add_zero, Nat.zero_add, Nat.reduceAdd]
  refine wpPi_move _ rfl rfl ?_
  simp only [pl, pn, el, ec, sz, ss, gz, gs, if_true, if_false, Bool.false_eq_true, Bool.not_true, Bool.not_false, Nat.add_zero, Nat.zero_add, Nat.reduceAdd]
  refine wpPi_move _ rfl rfl ?_
  simp only [pl, pn, el, ec, sz, ss, gz, gs, if_true, if_false, Bool.false_eq_true, Bool.not_true, Bool.not_false, Nat.add_zero, Nat.zero_add, Nat.reduceAdd]
  refine wpPi_do rfl (fun K hK => ?_)
  go_wp2_with (go_at_call 30; refine (refUse_any (HR.out.keep0 hM3) n).mono ?_; rintro _ w4 ⟨rfl, hm4⟩; rw [HU2.out])
  refine hK _ _ trivial ?_
  clear hK K
  try simp only [pl, pn, el, ec, sz, ss, gz, gs, if_true, if_false, Bool.false_eq_true, Bool.not_true, Bool.not_false, Nat.add_zero, Nat.zero_add, Nat.reduceAdd]
  refine wpPi_cmp _ _ _ _ _ _ _ _ rfl rfl rfl rfl rfl true (by simp [cmpB]) ?_
  simp only [pl, pn, el, ec, sz, ss, gz, gs, if_true, if_false, Bool.false_eq_true, Bool.not_true, Bool.not_false, Nat.add_zero, Nat.zero_add, Nat.reduceAdd]
  refine wpPi_pick _ _ _ _ rfl rfl rfl ?_
  simp only [pl, pn, el, ec, sz, ss, gz, gs, if_true, if_false, Bool.false_eq_true, Bool.not_true, Bool.not_false, Nat.add_zero, Nat.zero_add, Nat.reduceAdd]
  refine wpPi_assign _ rfl rfl ?_
  simp only [pl, pn, el, ec, sz, ss, gz, gs, if_true, if_false, Bool.false_eq_true, Bool.not_true, Bool.not_false, Nat.add_zero, Nat.zero_add, Nat.reduceAdd]
  refine wpPi_nil ?_
  have hsl4 := ((HSL.out.keep0 hm2).keep0 hm3).keep0 hm4
  have hM4 := hM3.trans0 hm4
  clear hm2 hm3 hslb h32b HSL
  go_upto_region 3 with (fail)
  refine wp_region_seq [3, 1] (fun _ => True) (by rfl) (by rfl) trivial ?_
  simp only [List.zip_cons_cons, List.zip_nil_right]
  refine wpPi_move _ rfl rfl ?_
  simp only [pl, pn, el, ec, sz, ss, gz, gs, if_true, if_false, Bool.false_eq_true, Bool.not_true, Bool.not_false, Nat.add_zero, Nat.zero_add, Nat.reduceAdd]
  refine wpPi_do rfl (fun K hK => ?_)
  go_wp2_with (go_at_call 39; refine (overIDs_any hsl4).mono ?_; rintro _ w5 ⟨rfl, hm5⟩)
  refine hK _ _ trivial ?_
  clear hK K
  try simp only [pl, pn, el, ec, sz, ss, gz, gs, if_true, if_false, Bool.false_eq_true, Bool.not_true, Bool.not_false, Nat.add_zero, Nat.zero_add, Nat.reduceAdd]
  refine wpPi_nil ?_
  have hM5 : Mod NoB w w5 := hM4.trans hm5 (fun k hk hn => by have := hn.1; omega)
  clear hm5 hM4 hM3 hsl4 hm1 hm4
  go_wp2
  go_ret
  exact ⟨rfl, hM5⟩
end
end Go.Proofs.YtcfcahflkhgapaaGreat
